/- Contracts of functions and plain laws. -/
import Derived.Test.YtaoonfcjbmcmpaaGreatDoorFZJ
import Derived.Lib.TrailingZeros
import Derived.Test.YtaoonfcjbmcmpaaGreatDoorFZI
set_option linter.unusedVariables false
set_option linter.unusedSimpArgs false
namespace Go.Proofs.YtaoonfcjbmcmpaaGreatDoor.Fw
attribute [local irreducible] Ev
attribute [local go_sem] Wc AP List.toList_toArray Bu evG evK SV EH JC F5 FO Hf Oq Lp Cy DA K6 CU DB frz YX EV C9 A1 FG BP AV.frz AV.frzs AV.drp AV.drps AV.names AV.namess aq F4 Jn I4 Pe H6 Bd Bj IR DW HY DX Ha HZ Hb QG MV GN I6 FI Dy QH Nq jR IT Hc J6 Eq DY H9 I7 D3 Pf DI D4 EZ Nr Hd Ln E1 Lm MW Ns J7 IA I8 D5 DZ GV Db G1 Cp Ea Cq D6 FK CU Ci K5 Np L3 Fx H8 H7 I5 MZ Om Lo KB J9 JA Oo KA JB Ub Mb Ma AV.trn AV.trns Bw Ba Obj.trn Ih Ww Da D8 Dz D7 B7 Eb Ae lk Ga F2 Gy qA YW SX YZ Ol Pd qJ AV.cellss aG qI qK AV.cells B9 EO H5 FJ MY CF Ll Ty.cell1 HX EW DV Fb IQ EU I3 J5 Lk E0 GM Le Pb QF J4 I2 UY WE Oj Gx Cv F3 RV.flat Ty.flat Ty.size St.add upd SU BS Value.oneCell' UX Ty.dflt HW Mu HB M4 List.take_succ_cons List.take_zero List.length_cons Wk Wl M3 Id KQ Gq Ie kY FP LD LE LF LG N2 N3 Fz Gg Qf Option.map_some Option.map_none Option.bind_some Option.getD_some Option.getD_none Option.isNone_none Option.isNone_some Bool.and_true Bool.true_and Bool.and_false Bool.false_and Bool.not_true Bool.not_false if_true if_false List.length_cons List.length_nil and_true true_and and_self List.all_cons List.all_nil List.append_nil List.nil_append List.cons_append List.getElem?_cons_zero List.getElem?_cons_succ List.getElem?_nil List.map_cons List.map_nil List.set_cons_zero List.set_cons_succ List.isEmpty_nil List.isEmpty_cons decide_true decide_false beq_self_eq_true bne_self_eq_false Nat.zero_add Nat.add_zero Nat.sub_zero Int.toNat_natCast Int.toNat_zero Int.toNat_one List.take_length List.length_append List.length_singleton true_or or_true or_self false_or or_false Ty.agg.injEq Ty.slice.injEq Ty.prod.injEq Ty.int.injEq Option.some.injEq beq_iff_eq J3 evMG evMQ k5 HD KN B1 Ic GQ Mx Ia HC Ho JG Jt MA Lu MB Pj KO My Mz Ib Ac Am Op.operands Call.operands List.filterMap_cons List.filterMap_nil List.append_eq Bool.cond_false_right Bool.cond_true_left cond_true cond_false implies_true decide_eq_true_eq beq_true beq_false Bool.or_true Bool.or_false Bool.true_or Bool.false_or Option.isSome_some Array.empty_append List.append_toArray FH K7 Ec Gz Ua MX UZ DJ Dn E2 Fd He G0 I9 J8 SY YY L2 p9 G2 FL Fy IU AX Wm List.drop_zero De HE U0 Dv JK CT AV.fgt AV.fgts Obj.fgt BC Az Ac Ca IG Bb F6 List.any_cons List.any_nil Y6 Wq U1 Wr KU N6 qs List.flatMap_cons List.flatMap_nil List.cons_append tn U4 Ii List.take_succ_cons List.drop_succ_cons r9 Q2 Py bI LK CZ Ct Ao Ee JF CK matchAVs C0 IE Hn Fg HA
attribute [local go_sem] ty1 ty2 ty3 ty4 ty5 ty9 sF sG sH sI sJ sK sL sM sN sO sP sQ sR sS sT sU sV sW sX sY sZ s0 s7 s8 s9 tA tB tC bQ bR bS bT bU bV bW bX bZ b4 b5 b6 b7 b8 b9 cA cB cC cE cF cG cH
set_option maxRecDepth 100000
set_option maxHeartbeats 4000000
section
def BO (a b c:Int):Bool:=decide (a<=c)&&decide (c<=b)
def ZI:Spec:={ ins:=[.int .u8],pre:=λ_=>True,out:=λ(c,_)=>[.p .bool (BO 48 57 c)] }
attribute [local go_sem] ZI
def ZJ:Spec:={ ins:=[.int .u8],pre:=λ_=>True,out:=λ(c,_)=>[.p .bool (BO 65 90 c)] }
attribute [local go_sem] ZJ
def ZK:Spec:={ ins:=[.int .u8],pre:=λ_=>True,out:=λ(c,_)=>[.p .bool (BO 97 122 c)] }
attribute [local go_sem] ZK
theorem W7:Ap Tryz.prog 183 ZI:=by
 refine fK [0,2] Tryz.func183 Tryz.ntmps183 AH ?_;rintro w0 O0 ⟨c,u⟩ a - -;simp only[ZI,AP];repeat'(first|exact trivial|apply eS rfl|refine rX a ?_ ?_)
 exact fI a [.tmp 2] (by unfold BO;exact eR)
theorem l9:Ap Tryz.prog 185 ZJ:=by
 refine fK [0,2] Tryz.func185 Tryz.ntmps185 AH ?_;rintro w0 O0 ⟨c,u⟩ a - -;simp only[ZJ,AP];repeat'(first|exact trivial|apply eS rfl|refine rX a ?_ ?_)
 exact fI a [.tmp 2] (by unfold BO;exact eR)
theorem mA:Ap Tryz.prog 186 ZK:=by
 refine fK [0,2] Tryz.func186 Tryz.ntmps186 AH ?_;rintro w0 O0 ⟨c,u⟩ a - -;simp only[ZK,AP];repeat'(first|exact trivial|apply eS rfl|refine rX a ?_ ?_)
 exact fI a [.tmp 2] (by unfold BO;exact eR)
def JM (c:Int) (big:Bool):Bool:=BO 48 57 c||c==45||big&&BO 65 90 c||!big&&BO 97 122 c
def mB:Spec:={ ins:=[.int .u8,.bool],pre:=λ_=>True,out:=λ(c,b,_)=>[.p .bool (JM c b)] }
attribute [local go_sem] mB
theorem tE:Ap Tryz.prog 184 mB:=by
 refine fK [0,1,4] Tryz.func184 Tryz.ntmps184 (AF W7 (AF l9 (AF mA AH))) ?_;rintro w0 O0 ⟨c,b,u⟩ a - -;simp only[mB,AP];repeat'(first|exact trivial|apply eS rfl|refine rX a ?_ ?_)
 exact fI a [.tmp 4] (by unfold JM;exact eR)
abbrev ZL (s:ByteArray) (i:Nat):Int:=((s.data.getD i 0).toNat:Int)
def Kb (s:ByteArray):Bool:=decide ((s.size:Int)<1)||decide (32<(s.size:Int))||BO 48 57 (ZL s 0)||ZL s 0==45
def Bc (s:ByteArray) (big:Bool):Bool:=!Kb s&&(List.range s.size).all λi=>JM (ZL s i) big
def ZM:Spec:={ ins:=[T9,.bool],pre:=λ_=>True,out:=λ(s,b,_)=>[.p .bool (Bc s b)] }
attribute [local go_sem] ZM
theorem W8:Ap Tryz.prog 179 ZM:=by
 refine fK [0,1,4,5,23,27,35] Tryz.func179 Tryz.ntmps179 (AF W7 (AF tE AH)) ?_;rintro w0 O0 ⟨s,b,u⟩ d - -;simp only[ZM,AP];repeat'(first|exact trivial|apply eS rfl|refine rX d ?_ ?_|refine rC ?_ ?_<;>intro a<;>try(cases a;done))
 .constructor
  .intro h;simp only[OF,wT,IF]at h;have:1<=(s.size:Int):=by omega
   exact this
  intro h;simp only[OF,wT,IF]at h;have:1<=(s.size:Int):=by omega
  exact this
 .have f:Kb s=true:=by
   unfold Kb ZL;simp only[bY,Do,AA9];exact a
  have c:Bc s b=false:=by unfold Bc;rw[f];rfl
  exact fI d [.tmp 4] (by rw[c];exact eR)
 have f:Kb s=false:=by
  unfold Kb ZL;simp only[wT,IF,AAI];exact⟨⟨⟨by omega,by omega⟩,a.1.2⟩,a.2⟩
 have l:s.size<=32:=by omega
 refine AJ (ι:={k:Nat//k<=s.size/\((List.range k).all λi=>JM (ZL s i) b)=true}) (λk=>⟨[(0,.p T9 s),(1,.p .bool b),(5,.p (.int .i64) (k.1:Int))],[]⟩) (λk=>s.size-k.1) ⟨0,by simp⟩ (eW []) (λk=>?_)
 obtain⟨k,j,g⟩:=k;repeat'(first|exact trivial|apply eS rfl|apply AB|refine rX d ?_ ?_|refine rC ?_ ?_<;>intro a<;>try(cases a;done))
 .exact a
 .have e:k<s.size:=by omega
  have c:Bc s b=false:=by
   unfold Bc;rw[AA1];refine .inr (ABj.2 λh=>?_);have:=IS.1 h k (gO.2 e);rw[show JM (ZL s k) b=false from a]at this;cases this
  exact fI d [.tmp 4] (by rw[c];exact eR)
 .omega
 .have e:k<s.size:=by omega
  refine⟨⟨k+1,by omega,?_⟩,by simp only;omega,AC [] rfl rfl ?_ ?_⟩
  .rw[AA0,ABA,g];rw[ABg,AAZ,List.all_nil,Bool.and_true];exact a
  .exact eN
  exact eN
 have e:k=s.size:=by omega
 subst e;have c:Bc s b=true:=by unfold Bc;rw[f,g];rfl
 exact fI d [.tmp 4] (by rw[c];exact eR)
def cK:Spec:={ ins:=[T9],pre:=λ_=>True,out:=λ(s,_)=>[.p .bool (Bc s false)] }
def M8:Spec:={ ins:=[T9],pre:=λ_=>True,out:=λ(s,_)=>[.p .bool (Bc s true)] }
theorem tF:Ap Tryz.prog 152 cK:=by
 refine fK [0,2] Tryz.func152 Tryz.ntmps152 (AF W8 AH) ?_;rintro w0 O0 ⟨s,u⟩ a - -;simp only[cK,AP];repeat'(first|exact trivial|apply eS rfl|refine rX a ?_ ?_)
 exact fI a [.tmp 2]
theorem ZN:Ap Tryz.prog 150 M8:=by
 refine fK [0,2] Tryz.func150 Tryz.ntmps150 (AF W8 AH) ?_;rintro w0 O0 ⟨s,u⟩ a - -;simp only[M8,AP];repeat'(first|exact trivial|apply eS rfl|refine rX a ?_ ?_)
 exact fI a [.tmp 2]
end
section
theorem LM {α:Type} (l:List α) (d:α) (p:α->Bool) {k:Nat} (h:k<l.length):(l.take (k+1)).any p=((l.take k).any p||p (l.getD k d)):=by
 rw[Ai l d h,ABT];simp
theorem Hr {α:Type} (l:List α) (d:α) (p:α->Bool) {k:Nat} (h:k<l.length) (hp:p (l.getD k d)=true):l.any p=true :=
 aS.2 ⟨_,AW l d h,hp⟩
def AR (l:List ByteArray) (s:ByteArray):Bool:=l.any λx=>AM x s
def IJ:Spec:={ ins:=[Ad,T9],pre:=λ_=>True,out:=λ(l,n,_)=>[.p .bool (AR l n)],lend:=true }
attribute [local go_sem] IJ
theorem GA:Ap Tryz.prog 103 IJ:=by
 refine fK [0,1,4,5,9,17] Tryz.func103 Tryz.ntmps103 AH ?_;rintro w0 O0 ⟨l,n,u⟩ a ⟨⟨g,-⟩,-⟩ -;simp only[AN]at g;simp only[IJ,AP];repeat'(first|exact trivial|apply eS rfl|refine rX a ?_ ?_)
 refine AJ (ι:={k:Nat//k<=l.length/\(l.take k).any (λx=>AM x n)=false}) (λk=>⟨[(0,.p Ad l),(1,.p T9 n),(5,.p (.int .i64) (k.1:Int))],[]⟩) (λk=>l.length-k.1) ⟨0,by simp⟩ (eW []) (λk=>?_)
 obtain⟨k,f,d⟩:=k;repeat'(first|exact trivial|apply eS rfl|apply AB|refine rX a ?_ ?_|refine rC ?_ ?_<;>intro b<;>try(cases b;done))
 .exact eV
 .have e:k<l.length:=by exact eV
  have c:AR l n=true:=Hr l ByteArray.empty _ e b;exact fI a [.tmp 4] (by rw[c];exact eR)
 .exact eV
 .have e:k<l.length:=by exact eV
  refine⟨⟨k+1,by exact eV,?_⟩,by simp only;exact eV,AC [] rfl rfl ?_ ?_⟩
  .rw[LM l ByteArray.empty _ e,d];exact b
  .exact eN
  exact eN
 have f:l.take k=l:=By (by exact eV);rw[f]at d;have c:AR l n=false:=d;exact fI a [.tmp 4] (by rw[c];exact eR)
def SW (l:List ByteArray) (s:ByteArray):Nat:=(l.takeWhile λx=>Bh x s).length
theorem ZO {α:Type} (p:α->Bool) (d:α):∀(l:List α) (k:Nat),k<=(l.takeWhile p).length->((k<l.length/\p (l.getD k d)=true)↔k+1<=(l.takeWhile p).length)
 | [],k,h=>by simp
 | x :: l,k,h=>by
  by_cases a:p x=true
  .rw[ACk,At a]at h ⊢;cases k with
   | zero=>simp[a]
   | succ k =>
    have:=ZO p d l k (by simpa using h);simpa using this
  rw[ACk,As a]at h ⊢;have b:k=0:=by simpa using h
  subst b;simp[a]
theorem w8 {α:Type} (p:α->Bool) (l:List α):(l.takeWhile p).length<=l.length:=(List.takeWhile_sublist p).length_le
def C3 (l:List ByteArray) (s:ByteArray):List ByteArray :=
 if (decide (SW l s<l.length)&&AM (l.getD (SW l s) ByteArray.empty) s)=true then l else l.take (SW l s)++[s]++l.drop (SW l s)
def VC:Spec:={ ins:=[Ad,T9],pre:=λ(l,_,_)=>List.length l<=100000,out:=λ(l,n,_)=>[.p Ad (C3 l n)] }
attribute [local go_sem] VC
theorem OB:Ap Tryz.prog 94 VC:=by
 refine fK [0,1,4,5,6,18,32] Tryz.func94 Tryz.ntmps94 AH ?_;rintro w0 O0 ⟨l,n,u⟩ d-q;have q:l.length<=100000:=q;simp only[VC,AP];repeat'(first|exact trivial|apply eS rfl|refine rX d ?_ ?_)
 refine AJ (ι:={k:Nat//k<=SW l n}) (λk=>⟨[(0,.p Ad l),(1,.p T9 n),(5,.raw (.slice none 0 0)),(6,.p (.int .i64) (k.1:Int))],[]⟩) (λk=>l.length-k.1) ⟨0,by simp⟩ (eW []) (λk=>?_)
 obtain⟨k,a⟩:=k;have e:=w8 (λx=>Bh x n) l;have j:=ZO (λx=>Bh x n) ByteArray.empty l k a;simp only;repeat'(first|exact trivial|apply eS rfl|apply AB|refine rX d ?_ ?_|refine rC ?_ ?_<;>intro b<;>try(cases b;done))
 .exact λh=>h
 .have m:k<l.length/\Bh (l.getD k ByteArray.empty) n=true:=⟨by exact eV,b.2⟩;exact eV
 .have m:k<l.length/\Bh (l.getD k ByteArray.empty) n=true:=⟨by exact eV,b.2⟩;exact⟨⟨k+1,j.1 m⟩,by simp only;omega,eW []⟩
 .exact λh=>h
 .rename_i g;have i:k=SW l n:=by
   refine jM a (Nat.le_of_not_lt λh=>?_);have:=j.2 h;rw[g (An.2 this.1)]at this;cases this.2
  have f:C3 l n=l:=by
   unfold C3;rw[<-i,At];rw[AT,Do];exact⟨An.1 b.1,b.2⟩
  exact fI d [.tmp 4] (by rw[f];exact eR)
 .have o:=AA6 k l;have c:k<=l.length:=f3 a e;simp only[AN];exact⟨NO.2 c,by dsimp only[Ty.den]at *;omega⟩
 .have o:=AA6 k l;have c:k<=l.length:=f3 a e;simp only[AN];dsimp only[Ty.den]at *;omega
 .have o:=AA6 k l;have c:k<=l.length:=f3 a e;have s:(l.drop k).length<=l.length:=by rw[AAM];omega
  simp only[AN];exact⟨NO.2 c,by dsimp only[Ty.den]at *;omega⟩
 rename_i g;have i:k=SW l n:=by
  refine jM a (Nat.le_of_not_lt λh=>?_);have:=j.2 h;rw[g (An.2 this.1)]at this;cases this.2
 have f:C3 l n=l.take k++[n]++l.drop k:=by
  unfold C3;rw[<-i,As];rw[AT,Do];intro h;rw[b (An.2 h.1)]at h;cases h.2
 have c:k<=l.length:=f3 a e;have r:(l.take k).length+1+(l.drop k).length=(l.take k++[n]++l.drop k).length:=by simp only[YT,AAe]
 rw[r,<-f];refine DH [38] ?_;exact fI d [.tmp 4]
end
section
def E9 (b:List Int) (i:Int):Int:=if i<b.length then b.getD i.toNat 0 else 0
def W9:Spec:={ ins:=[BZ,T3],pre:=λ(_,i,_)=>(0:Int)<=i,out:=λ(b,i,_)=>[.p Se (E9 b i)],lend:=true }
attribute [local go_sem] W9
theorem cL:Ap Tryz.prog 151 W9:=by
 refine fK [0,1,4,8] Tryz.func151 Tryz.ntmps151 AH ?_;rintro w0 O0 ⟨b,i,u⟩ d-hi;simp only[W9,AP];repeat'(first|exact trivial|apply eS rfl|refine rX d ?_ ?_|refine rC ?_ ?_<;>intro a<;>try(cases a;done))
 .exact⟨hi,a⟩
 .have c:E9 b i=b.getD i.toNat 0:=by unfold E9;rw[At a]
  exact fI d [.tmp 4] (by rw[c];exact eR)
 have c:E9 b i=0:=by unfold E9;rw[As (AAs.2 a)]
 exact fI d [.tmp 4] (by rw[c];exact eR)
def Cm (b:List Int):Nat->Nat
 | 0=>0
 | n+1=>if b.getD n 0=0 then Cm b n else n+1
def A9 (b:List Int):List Int:=b.take (Cm b b.length)
theorem Q8 (b:List Int):∀n,Cm b n<=n
 | 0=>If _
 | n+1=>by
  unfold Cm;split
  .exact Nat.le_succ_of_le (Q8 b n)
  exact If _
def JN:Spec:={ ins:=[BZ],pre:=λ(b,_)=>List.length b<=100000,out:=λ(b,_)=>[.p BZ (A9 b)] }
attribute [local go_sem] JN
theorem LN:Ap Tryz.prog 97 JN:=by
 refine fK [0,2,3,15] Tryz.func97 Tryz.ntmps97 AH ?_;rintro w0 O0 ⟨b,u⟩ d-g;have g:b.length<=100000:=g;simp only[JN,AP];repeat'(first|exact trivial|apply eS rfl|refine rX d ?_ ?_)
 refine AJ (ι:={n:Nat//n<=b.length/\Cm b n=Cm b b.length}) (λn=>⟨[(0,.p BZ b),(3,.p (.int .i64) (n.1:Int))],[]⟩) (λn=>n.1) ⟨b.length,If _,rfl⟩ (eW []) (λn=>?_)
 obtain⟨n,l,i⟩:=n;simp only;repeat'(first|apply eS rfl|apply AB|refine rX d ?_ ?_|refine rC ?_ ?_<;>intro c<;>try(cases c;done))
 .constructor
  .exact eV
  intro h;refine⟨?_,?_⟩<;>exact eV
 .exact eV
 .obtain⟨f,a⟩:=c;obtain⟨m,rfl⟩:∃m,n=m+1:=⟨n-1,by omega⟩;have e:(((m+1:Nat):Int)-1)=(m:Int):=by omega
  rw[e]at a;have a:b.getD m 0=0:=a;have k:Cm b m=Cm b b.length:=by
   rw[<-i];show _=if b.getD m 0=0 then Cm b m else m+1
   rw[At a]
  refine⟨⟨m,by omega,k⟩,by simp,AC [] rfl rfl ?_ ?_⟩
  .exact eN
  simp only[e];exact eN
 .have o:=AA6 n b;simp only[AN];exact⟨NO.2 l,by dsimp only[Ty.den]at *;omega⟩
 have j:Cm b n=n:=by
  cases n with
  | zero=>rfl
  | succ m =>
   have e:(((m+1:Nat):Int)-1)=(m:Int):=by omega
   rw[e]at c;have a:=c oa;have a:¬b.getD m 0=0:=a;show (if b.getD m 0=0 then Cm b m else m+1)=m+1;rw[As a]
 have f:A9 b=b.take n:=by unfold A9;rw[<-i,j]
 rw[<-f];refine DH [18] ?_;exact fI d [.tmp 2]
end
section
attribute [local go_sem] W9 JN
def XA (w:Int) (r:Int):Bool:=A4 .and .u64 (Cj .u64 w r) 1==1
def Gh (b:List Int) (i:Int):Bool:=if (decide (i<0)||decide ((b.length:Int)<=i.tdiv 64))=true then false else XA (b.getD (i.tdiv 64).toNat 0) (i.tmod 64)
def mC:Spec:={ ins:=[BZ,T3],pre:=λ_=>True,out:=λ(b,i,_)=>[.p .bool (Gh b i)],lend:=true }
theorem yL {w:Int} (a:0<=w) (r:Int):0<=Cj .u64 w r/\Cj .u64 w r<=w:=by
 unfold Cj;have hp:(0:Int)<2 ^ (min r.toNat IntKind.u64.bits):=Int.pow_pos di;rw[ABl _ (Int.le_of_lt hp)];exact⟨Int.ediv_nonneg a (Int.le_of_lt hp),Int.ediv_le_self _ a⟩
theorem mD:Ap Tryz.prog 107 mC:=by
 refine fK [0,1,4,13] Tryz.func107 Tryz.ntmps107 AH ?_;rintro w0 O0 ⟨b,i,u⟩ f ⟨⟨o,m⟩,g,-⟩ -;have g:Gm .i64 i:=g;rw[Fz]at g;have l:0<=i->Int.tdiv i 64=i / 64/\Int.tmod i 64=i % 64:=λh=>⟨oF h,AAB h⟩;simp only[mC,AP];repeat'(first|exact trivial|apply eS rfl|refine rX f ?_ ?_|refine rC ?_ ?_<;>intro c<;>try(cases c;done))
 .intro h;have d:0<=i:=by simpa using h
  obtain⟨a,k⟩:=l d;rw[a];refine⟨by decide,?_,?_⟩<;>exact eV
 .have e:Gh b i=false:=by
   unfold Gh;rw[At];rw[bY,Do,Do];exact c
  exact fI f [.tmp 4] (by rw[e];exact eR)
 .obtain⟨d,n⟩:=c;obtain⟨a,k⟩:=l d;rw[a]at n;have j:Gm .u64 (b.getD (i / 64).toNat 0):=m _ (AW b 0 (by exact eV));rw[Gg]at j;have hs:=yL j.1 (i % 64);rw[a,k];refine⟨⟨by decide,by exact eV,by exact eV⟩,⟨by exact eV,by exact eV⟩,⟨by decide,by exact eV,by exact eV⟩,⟨by exact eV,by exact eV⟩,by exact eV,hs.1,AAE hs.2 j.2⟩
 have e:Gh b i=XA (b.getD (i.tdiv 64).toNat 0) (i.tmod 64):=by
  unfold Gh;rw[As];rw[bY,Do,Do];rintro (h|h)<;>omega
 exact fI f [.tmp 4] (by rw[e];unfold XA;exact eR)
end
section
attribute [local go_sem] W9 JN
def Fi (op:BinOp) (a b:List Int) (n:Nat):List Int:=(List.range n).map λi=>A4 op .u64 (a.getD i 0) (E9 b (i:Int))
theorem EB (op:BinOp) (a b:List Int) (n:Nat):(Fi op a b n).length=n:=by simp[Fi]
theorem TS (op:BinOp) (a b:List Int) (n:Nat):Fi op a b (n+1)=Fi op a b n++[A4 op .u64 (a.getD n 0) (E9 b (n:Int))]:=by simp[Fi,AA0]
def DP (a b:List Int):List Int:=A9 (Fi .and a b a.length)
def tG:Spec:={ ins:=[BZ,BZ],pre:=λ(a,_,_)=>List.length a<=100000,out:=λ(a,b,_)=>[.p BZ (DP a b)] }
theorem mE:Ap Tryz.prog 96 tG:=by
 refine fK [0,1,4,5,6,10] Tryz.func96 Tryz.ntmps96 (AF cL (AF LN AH)) ?_;rintro w0 O0 ⟨a,b,u⟩ c-d;have d:a.length<=100000:=d;simp only[tG,AP];repeat'(first|exact trivial|apply eS rfl|refine rX c ?_ ?_)
 refine AJ (ι:={n:Nat//n<=a.length}) (λn=>⟨[(0,.p BZ a),(1,.p BZ b),(5,.sr 23 Se 0 n.1),(6,.p (.int .i64) (n.1:Int))],[(23,.arr 65 Se (Fi .and a b n.1))]⟩) (λn=>a.length-n.1) ⟨0,BY _⟩ (AC [(23,.nil)] rfl rfl ?_ ?_) (λn=>?_)
 .refine eM ?_;rfl
 .exact eN
 obtain⟨n,i⟩:=n;have h:=EB .and a b n;have hs:=TS .and a b n;simp only;repeat'(first|exact trivial|apply eS rfl|apply AB|refine rX c ?_ ?_|refine rC ?_ ?_<;>intro e<;>try(cases e;done))
 .refine⟨e,?_⟩;simp only[AN];dsimp only[Ty.den]at *;omega
 .exact eV
 .have f:n<a.length:=by exact eV
  refine⟨⟨n+1,by omega⟩,by simp only;omega,AC [(23,.nm 23)] rfl rfl ?_ ?_⟩
  .simp only[hs];refine eM ?_;rw[By (by rw[h];exact If _)]
  exact eN
 have f:n=a.length:=by exact eV
 subst f;refine DH [23] ?_;have g:(Fi .and a b a.length).take a.length=Fi .and a b a.length:=By (by rw[EB];exact If _);repeat'(first|apply eS rfl|refine rX c ?_ ?_)
 .rw[g,EB];exact d
 rw[g];exact fI c [.tmp 4] (by unfold DP;exact eR)
def OC (a b:List Int):List Int:=A9 (Fi .andNot a b a.length)
def ZP:Spec:={ ins:=[BZ,BZ],pre:=λ(a,_,_)=>List.length a<=100000,out:=λ(a,b,_)=>[.p BZ (OC a b)] }
attribute [local go_sem] ZP
theorem mF:Ap Tryz.prog 158 ZP:=by
 refine fK [0,1,4,5,6,10] Tryz.func158 Tryz.ntmps158 (AF cL (AF LN AH)) ?_;rintro w0 O0 ⟨a,b,u⟩ c-d;have d:a.length<=100000:=d;simp only[ZP,AP];repeat'(first|exact trivial|apply eS rfl|refine rX c ?_ ?_)
 refine AJ (ι:={n:Nat//n<=a.length}) (λn=>⟨[(0,.p BZ a),(1,.p BZ b),(5,.sr 23 Se 0 n.1),(6,.p (.int .i64) (n.1:Int))],[(23,.arr 65 Se (Fi .andNot a b n.1))]⟩) (λn=>a.length-n.1) ⟨0,BY _⟩ (AC [(23,.nil)] rfl rfl ?_ ?_) (λn=>?_)
 .refine eM ?_;rfl
 .exact eN
 obtain⟨n,i⟩:=n;have h:=EB .andNot a b n;have hs:=TS .andNot a b n;simp only;repeat'(first|exact trivial|apply eS rfl|apply AB|refine rX c ?_ ?_|refine rC ?_ ?_<;>intro e<;>try(cases e;done))
 .refine⟨e,?_⟩;simp only[AN];dsimp only[Ty.den]at *;omega
 .exact eV
 .have f:n<a.length:=by exact eV
  refine⟨⟨n+1,by omega⟩,by simp only;omega,AC [(23,.nm 23)] rfl rfl ?_ ?_⟩
  .simp only[hs];refine eM ?_;rw[By (by rw[h];exact If _)]
  exact eN
 have f:n=a.length:=by exact eV
 subst f;refine DH [23] ?_;have g:(Fi .andNot a b a.length).take a.length=Fi .andNot a b a.length:=By (by rw[EB];exact If _);repeat'(first|apply eS rfl|refine rX c ?_ ?_)
 .rw[g,EB];exact d
 rw[g];exact fI c [.tmp 4] (by unfold OC;exact eR)
def Ep (a b:List Int):Bool:=((OC a b).length:Int)==0
def P0:Spec:={ ins:=[BZ,BZ],pre:=λ(a,_,_)=>List.length a<=100000,out:=λ(a,b,_)=>[.p .bool (Ep a b)],lend:=true }
attribute [local go_sem] P0
theorem TT:Ap Tryz.prog 110 P0:=by
 refine fK [0,1,4] Tryz.func110 Tryz.ntmps110 (AF mF AH) ?_;rintro w0 O0 ⟨a,b,u⟩ d-c;have c:a.length<=100000:=c;simp only[P0,AP];repeat'(first|exact trivial|apply eS rfl|refine rX d ?_ ?_)
 .exact c
 exact fI d [.tmp 4] (by unfold Ep;exact eR)
def Cc (a b:List Int):Bool:=Ep a b&&Ep b a
def VD:Spec:={ ins:=[BZ,BZ],pre:=λ(a,b,_)=>List.length a<=100000/\List.length b<=100000,out:=λ(a,b,_)=>[.p .bool (Cc a b)],lend:=true }
theorem f2:Ap Tryz.prog 106 VD:=by
 refine fK [0,1,4] Tryz.func106 Tryz.ntmps106 (AF TT AH) ?_;rintro w0 O0 ⟨a,b,u⟩ c-⟨d,e⟩;simp only[VD,AP];repeat'(first|exact trivial|apply eS rfl|refine rX c ?_ ?_)
 .exact⟨d,λ_=>e⟩
 exact fI c [.tmp 4] (by unfold Cc;exact eR)
end
section
attribute [local go_sem] mC
def GX (a b:List Int):Bool:=decide (a=b)
def Q9:Spec:={ ins:=[BZ,BZ],pre:=λ_=>True,out:=λ(a,b,_)=>[.p .bool (GX a b)],lend:=true }
theorem VE:Ap Tryz.prog 11 Q9:=by
 refine fK [0,1,4,5,10,14,25] Tryz.func11 Tryz.ntmps11 AH ?_;rintro w0 O0 ⟨a,b,u⟩ e ⟨⟨i,-⟩,-⟩ -;simp only[AN]at i;simp only[Q9,AP];repeat'(first|exact trivial|apply eS rfl|refine rX e ?_ ?_|refine rC ?_ ?_<;>intro c<;>try(cases c;done))
 .have d:GX a b=false:=by
   unfold GX;rw[IF];rintro rfl;exact c rfl
  exact fI e [.tmp 4] (by rw[d];exact eR)
 have h:a.length=b.length:=by
  have:(a.length:Int)=(b.length:Int):=by simpa using c
  exact Int.ofNat_inj.1 this
 refine AJ (ι:={k:Nat//k<=a.length/\a.take k=b.take k}) (λk=>⟨[(0,.p BZ a),(1,.p BZ b),(5,.p (.int .i64) (k.1:Int))],[]⟩) (λk=>a.length-k.1) ⟨0,BY _,rfl⟩ (eW []) (λk=>?_)
 obtain⟨k,l,g⟩:=k;simp only;repeat'(first|exact trivial|apply eS rfl|apply AB|refine rX e ?_ ?_|refine rC ?_ ?_<;>intro c<;>try(cases c;done))
 .exact⟨c,by rw[<-h];exact c⟩
 .have f:k<a.length:=by exact eV
  have d:GX a b=false:=by
   unfold GX;rw[IF];rintro rfl;exact c rfl
  exact fI e [.tmp 4] (by rw[d];exact eR)
 .exact eV
 .have f:k<a.length:=by exact eV
  have j:a.getD k 0=b.getD k 0:=by simpa using c
  refine⟨⟨k+1,by omega,?_⟩,by simp only;omega,AC [] rfl rfl ?_ ?_⟩
  .rw[Ai a 0 f,Ai b 0 oa,g];rw[show a.getD k 0=b.getD k 0 from j]
  .exact eN
  exact eN
 have f:k=a.length:=by exact eV
 subst f;rw[TO,h,TO]at g;have d:GX a b=true:=by unfold GX;rw[g];simp
 exact fI e [.tmp 4] (by rw[d];exact eR)
end
section
attribute [local go_sem] mC
def Dk (b:List Int) (n:Nat):List Int:=((List.range n).filter λ(i:Nat)=>Gh b (i:Int)).map λ(i:Nat)=>(i:Int)
def B8 (b:List Int):List Int:=Dk b (64*b.length)
theorem MH (b:List Int) (n:Nat):Dk b (n+1)=Dk b n++if Gh b (n:Int)=true then [(n:Int)] else []:=by
 unfold Dk;rw[AA0,AAm,AA7]
 congr 1
 rw[AAa,AAC];split<;>rfl
theorem TU (b:List Int) (n:Nat):(Dk b n).length<=n:=by
 unfold Dk;rw[Of];exact f3 (AA2 _ _) sa
def mG:Spec:={ ins:=[BZ],pre:=λ(b,_)=>List.length b<=100000,out:=λ(b,_)=>[.p Dj (B8 b)] }
attribute [local go_sem] mG
theorem tH:Ap Tryz.prog 157 mG:=by
 refine fK [0,2,3,4,9,14] Tryz.func157 Tryz.ntmps157 (AF mD AH) ?_;rintro w0 O0 ⟨b,u⟩ c-e;have e:b.length<=100000:=e;simp only[mG,AP];repeat'(first|exact trivial|apply eS rfl|refine rX c ?_ ?_)
 refine AJ (ι:={n:Nat//n<=64*b.length}) (λn=>⟨[(0,.p BZ b),(3,.sr 18 T3 0 (Dk b n.1).length),(4,.p (.int .i64) (n.1:Int))],[(18,.arr 3 T3 (Dk b n.1))]⟩) (λn=>64*b.length-n.1) ⟨0,BY _⟩ (AC [(18,.nil)] rfl rfl ?_ ?_) (λn=>?_)
 .refine eM ?_;rfl
 .refine eM ?_;rfl
 obtain⟨n,f⟩:=n;have g:=TU b n;have hs:=MH b n;simp only;repeat'(first|exact trivial|apply eS rfl|apply AB|refine rX c ?_ ?_|refine rC ?_ ?_<;>intro a<;>try(cases a;done))
 .exact eV
 .rw[a,At rfl]at hs;simp only[AN];dsimp only[Ty.den]at *;omega
 .exact eV
 .have d:n<64*b.length:=by exact eV
  rw[a,At rfl]at hs;refine⟨⟨n+1,by omega⟩,by simp only;omega,AC [(18,.nm 18)] rfl rfl ?_ ?_⟩
  .simp only[hs];exact eN
  simp only[hs];exact eN
 .exact eV
 .have d:n<64*b.length:=by exact eV
  rw[a,As sa,AAb]at hs;refine⟨⟨n+1,by omega⟩,by simp only;omega,AC [(18,.nm 18)] rfl rfl ?_ ?_⟩
  .simp only[hs];exact eN
  simp only[hs];exact eN
 have d:n=64*b.length:=by exact eV
 subst d;refine DH [18] ?_;exact fI c [.tmp 2] (by unfold B8;exact eR)
def ZQ:Spec:={ ins:=[BZ],pre:=λ(b,_)=>List.length b<=100000,out:=λ(b,_)=>[.p T3 ((B8 b).length:Int)],lend:=true }
theorem mH:Ap Tryz.prog 109 ZQ:=by
 refine fK [0,2] Tryz.func109 Tryz.ntmps109 (AF tH AH) ?_;rintro w0 O0 ⟨b,u⟩ a-c;simp only[ZQ,AP];repeat'(first|exact trivial|apply eS rfl|refine rX a ?_ ?_)
 .exact c
 exact fI a [.tmp 2]
end
section
attribute [local go_sem] IJ cK
abbrev AD:=ByteArray×List ByteArray×List (ByteArray×ByteArray)
abbrev d0:AD:=(ByteArray.empty,[],[])
def Cn (s:ByteArray):Nat->List AD->Int
 | _,[]=>-1
 | k,x :: l=>if AM x.1 s=true then (k:Int) else Cn s (k+1) l
def AY (l:List AD) (s:ByteArray):Int:=Cn s 0 l
theorem PG (s:ByteArray) (l:List AD) {k:Nat} (h:k<l.length):Cn s k (l.drop k)=if AM (l.getD k d0).1 s=true then (k:Int) else Cn s (k+1) (l.drop (k+1)):=by
 rw[iS h];have e:l.getD k d0=l[k]:=by simp[AS,h]
 rw[e];rfl
def MI:Spec:={ ins:=[Aw,T9],pre:=λ_=>True,out:=λ(l,s,_)=>[.p T3 (AY l s)] }
attribute [local go_sem] MI
theorem Kd:Ap Tryz.prog 153 MI:=by
 refine fK [0,1,4,5,9,18] Tryz.func153 Tryz.ntmps153 AH ?_;rintro w0 O0 ⟨l,s,u⟩ d ⟨⟨e,-⟩,-⟩ -;simp only[AN]at e;simp only[MI,AP];repeat'(first|exact trivial|apply eS rfl|refine rX d ?_ ?_)
 refine AJ (ι:={k:Nat//k<=l.length/\Cn s k (l.drop k)=AY l s}) (λk=>⟨[(0,.p Aw l),(1,.p T9 s),(5,.p (.int .i64) (k.1:Int))],[]⟩) (λk=>l.length-k.1) ⟨0,BY _,rfl⟩ (eW []) (λk=>?_)
 obtain⟨k,f,a⟩:=k;simp only;repeat'(first|exact trivial|apply eS rfl|apply AB|refine rX d ?_ ?_|refine rC ?_ ?_<;>intro c<;>try(cases c;done))
 .exact c
 .have b:k<l.length:=by exact eV
  rw[PG s l b,At c]at a;exact fI d [.tmp 4] (by rw[<-a];exact eR)
 .exact eV
 .have b:k<l.length:=by exact eV
  rw[PG s l b,As (by rw[c];simp)]at a;exact⟨⟨k+1,by omega,a⟩,by simp only;omega,eW []⟩
 have b:l.drop k=[]:=OR (by exact eV);rw[b]at a;exact fI d [.tmp 4] (by rw[<-a];first|exact eR|refine qD ?_;rfl)
def Fj:List AD->Int
 | []=>0
 | x :: l=>if 256<x.2.1.length\/256<x.2.2.length then 7 else Fj l
def B2 (l:List AD):Int:=if 256<l.length then 7 else Fj l
theorem PH (l:List AD) {k:Nat} (h:k<l.length):Fj (l.drop k)=if 256<(l.getD k d0).2.1.length\/256<(l.getD k d0).2.2.length then 7 else Fj (l.drop (k+1)):=by
 rw[iS h];have e:l.getD k d0=l[k]:=by simp[AS,h]
 rw[e];rfl
def VF:Spec:={ ins:=[Aw],pre:=λ_=>True,out:=λ(l,_)=>[.p Es (B2 l)] }
attribute [local go_sem] VF
theorem mI:Ap Tryz.prog 98 VF:=by
 refine fK [0,2,3,6,10,28] Tryz.func98 Tryz.ntmps98 AH ?_;rintro w0 O0 ⟨l,u⟩ c ⟨⟨f,-⟩,-⟩ -;simp only[AN]at f;simp only[VF,AP];repeat'(first|exact trivial|apply eS rfl|refine rX c ?_ ?_|refine rC ?_ ?_<;>intro a<;>try(cases a;done))
 .have e:B2 l=7:=by unfold B2;rw[At (by exact eV)]
  exact fI c [.tmp 2] (by rw[e];exact eR)
 have e:B2 l=Fj l:=by unfold B2;rw[As (by exact eV)]
 refine AJ (ι:={k:Nat//k<=l.length/\Fj (l.drop k)=B2 l}) (λk=>⟨[(0,.p Aw l),(3,.p (.int .i64) (k.1:Int))],[]⟩) (λk=>l.length-k.1) ⟨0,BY _,e.symm⟩ (eW []) (λk=>?_)
 obtain⟨k,g,b⟩:=k;simp only;repeat'(first|exact trivial|apply eS rfl|apply AB|refine rX c ?_ ?_|refine rC ?_ ?_<;>intro a<;>try(cases a;done))
 .exact⟨a,λ_=>a⟩
 .have d:k<l.length:=by exact eV
  rw[PH l d,At (by
   rcases a with h|h
   .exact .inl (An.1 h)
   exact .inr (An.1 h))]at b
  exact fI c [.tmp 2] (by rw[<-b];exact eR)
 .exact eV
 .have d:k<l.length:=by exact eV
  rw[PH l d,As (by
   rintro (h|h)
   .have:=NO.1 a.1;exact absurd h (Nat.not_lt.2 this)
   have:=NO.1 a.2;exact absurd h (Nat.not_lt.2 this))]at b
  exact⟨⟨k+1,by omega,b⟩,by simp only;omega,eW []⟩
 have d:l.drop k=[]:=OR (by exact eV);rw[d]at b;exact fI c [.tmp 2] (by rw[<-b];first|exact eR|refine qD ?_;rfl)
theorem OD {α:Type} (l:List α) (d:α) (p:α->Bool) {k:Nat} (h:k<l.length):(l.take (k+1)).all p=((l.take k).all p&&p (l.getD k d)):=by
 rw[Ai l d h,ABA];simp
def GS (x:AD) (done:List ByteArray):Bool:=x.2.1.all λs=>AR done s
def VG:Spec:={ ins:=[zX,Ad],pre:=λ_=>True,out:=λ(x,l,_)=>[.p .bool (GS x l)],lend:=true }
attribute [local go_sem] VG
theorem mJ:Ap Tryz.prog 154 VG:=by
 refine fK [0,1,2,4,5,10,20] Tryz.func154 Tryz.ntmps154 (AF GA AH) ?_;rintro w0 O0 ⟨⟨nm,sup,fe⟩,l,u⟩ c ⟨⟨-,⟨f,-⟩,-⟩,-⟩ -;simp only[AN]at f;simp only[VG,AP];repeat'(first|exact trivial|apply eS rfl|refine rX c ?_ ?_)
 refine AJ (ι:={k:Nat//k<=sup.length/\(sup.take k).all (λs=>AR l s)=true}) (λk=>⟨[(1,.p Ad l),(2,.bp 2 [] 0),(5,.p (.int .i64) (k.1:Int))],[(2,.box 35 true [.p T9 nm,.p Ad sup,.p Lx fe])]⟩) (λk=>sup.length-k.1) ⟨0,by simp⟩ (eW [(2,.nm 2)]) (λk=>?_)
 obtain⟨k,g,e⟩:=k;simp only;repeat'(first|exact trivial|apply eS rfl|apply AB|refine rX c ?_ ?_|refine rC ?_ ?_<;>intro b<;>try(cases b;done))
 .exact b
 .have a:k<sup.length:=by exact eV
  have d:GS (nm,sup,fe) l=false:=by
   unfold GS;refine ABj.2 λh=>?_;have:=IS.1 h _ (AW sup ByteArray.empty a);rw[b]at this;cases this
  exact fI c [.tmp 4] (by rw[d];exact eR)
 .have:=f;exact eV
 .have a:k<sup.length:=by exact eV
  refine⟨⟨k+1,by omega,?_⟩,by simp only;omega,AC [(2,.nm 2)] rfl rfl ?_ ?_⟩
  .rw[OD sup ByteArray.empty _ a,e];exact b
  .exact eN
  exact eN
 have a:sup.take k=sup:=By (by exact eV);rw[a]at e;have d:GS (nm,sup,fe) l=true:=e;exact fI c [.tmp 4] (by rw[d];exact eR)
def Ke (d:List AD):Nat->List AD->Int
 | _,[]=>0
 | k,x :: l=>if Bc x.1 false=false then 1 else if AY d x.1<(k:Int) then 4 else Ke d (k+1) l
def A5 (d:List AD):Int:=Ke d 0 d
theorem Hs (d l:List AD) {k:Nat} (h:k<l.length):Ke d k (l.drop k)=if Bc (l.getD k d0).1 false=false then 1 else if AY d (l.getD k d0).1<(k:Int) then 4 else Ke d (k+1) (l.drop (k+1)):=by
 rw[iS h];have e:l.getD k d0=l[k]:=by simp[AS,h]
 rw[e];rfl
def VH:Spec:={ ins:=[Aw],pre:=λ_=>True,out:=λ(l,_)=>[.p Es (A5 l)] }
attribute [local go_sem] VH
theorem mK:Ap Tryz.prog 99 VH:=by
 refine fK [0,2,3,7,16,25] Tryz.func99 Tryz.ntmps99 (AF tF (AF Kd AH)) ?_;rintro w0 O0 ⟨l,u⟩ d ⟨⟨f,-⟩,-⟩ -;simp only[AN]at f;simp only[VH,AP];repeat'(first|exact trivial|apply eS rfl|refine rX d ?_ ?_)
 refine AJ (ι:={k:Nat//k<=l.length/\Ke l k (l.drop k)=A5 l}) (λk=>⟨[(0,.p Aw l),(3,.p (.int .i64) (k.1:Int))],[]⟩) (λk=>l.length-k.1) ⟨0,BY _,rfl⟩ (eW []) (λk=>?_)
 obtain⟨k,g,a⟩:=k;simp only;repeat'(first|exact trivial|apply eS rfl|apply AB|refine rX d ?_ ?_|refine rC ?_ ?_<;>intro c<;>try(cases c;done))
 .exact c
 .have b:k<l.length:=by exact eV
  rw[Hs l l b,At c]at a;exact fI d [.tmp 2] (by rw[<-a];exact eR)
 .assumption
 .rename_i e;have b:k<l.length:=by exact eV
  rw[Hs l l b,As (by rw[e];simp),At c]at a;exact fI d [.tmp 2] (by rw[<-a];exact eR)
 .exact eV
 .rename_i e;have b:k<l.length:=by exact eV
  rw[Hs l l b,As (by rw[e];simp),As (AAs.2 c)]at a;exact⟨⟨k+1,by omega,a⟩,by simp only;omega,eW []⟩
 have b:l.drop k=[]:=OR (by exact eV);rw[b]at a;exact fI d [.tmp 2] (by rw[<-a];first|exact eR|refine qD ?_;rfl)
def Lh (d:List AD) (l:List ByteArray):Nat->List ByteArray->Int
 | _,[]=>0
 | k,x :: r=>if AY d x<0 then 5 else if AR (l.take k) x=true then 4 else Lh d l (k+1) r
def Gi (d:List AD):List AD->Int
 | []=>0
 | x :: l=>if Lh d x.2.1 0 x.2.1≠0 then Lh d x.2.1 0 x.2.1 else Gi d l
def C4 (d:List AD):Int:=Gi d d
theorem Ij (d:List AD) (l:List ByteArray) {k:Nat} (h:k<l.length):Lh d l k (l.drop k)=if AY d (l.getD k ByteArray.empty)<0 then 5 else if AR (l.take k) (l.getD k ByteArray.empty)=true then 4 else Lh d l (k+1) (l.drop (k+1)):=by
 rw[iS h];have e:l.getD k ByteArray.empty=l[k]:=by simp[AS,h]
 rw[e];rfl
theorem JO (d l:List AD) {k:Nat} (h:k<l.length):Gi d (l.drop k)=if Lh d (l.getD k d0).2.1 0 (l.getD k d0).2.1≠0 then Lh d (l.getD k d0).2.1 0 (l.getD k d0).2.1 else Gi d (l.drop (k+1)):=by
 rw[iS h];have e:l.getD k d0=l[k]:=by simp[AS,h]
 rw[e];rfl
def P1:Spec:={ ins:=[Aw],pre:=λ_=>True,out:=λ(l,_)=>[.p Es (C4 l)] }
attribute [local go_sem] P1
theorem f4:Ap Tryz.prog 100 P1:=by
 refine fK [0,2,3,4,5,9,20,29,37] Tryz.func100 Tryz.ntmps100 (AF GA (AF Kd AH)) ?_;rintro w0 O0 ⟨l,u⟩ e ⟨⟨j,h⟩,-⟩ -;simp only[AN]at j;simp only[P1,AP];repeat'(first|exact trivial|apply eS rfl|refine rX e ?_ ?_)
 refine AJ (ι:={i:Nat//i<=l.length/\Gi l (l.drop i)=C4 l}) (λi=>⟨[(0,.p Aw l),(3,.p (.int .i64) (i.1:Int))],[]⟩) (λi=>l.length-i.1) ⟨0,BY _,rfl⟩ (eW []) (λi=>?_)
 obtain⟨i,hi,a⟩:=i;simp only;repeat'(first|exact trivial|apply eS rfl|refine rX e ?_ ?_|refine rC ?_ ?_<;>intro c<;>try(cases c;done))
 .exact c
 .have g:i<l.length:=by exact eV
  have m:=h _ (AW l d0 g);have n:(l.getD i d0).2.1.length<=AN:=m.2.1.1;simp only[AN]at n;rw[JO l l g]at a;generalize (l.getD i d0).2.1=sup at *;refine AJ (ι:={k:Nat//k<=sup.length/\Lh l sup k (sup.drop k)=Lh l sup 0 sup}) (λk=>⟨[(0,.p Aw l),(3,.p (.int .i64) (i:Int)),(4,.p Ad sup),(5,.p (.int .i64) (k.1:Int))],[]⟩) (λk=>sup.length-k.1) ⟨0,BY _,rfl⟩ (eW []) (λk=>?_)
  obtain⟨k,o,d⟩:=k;simp only;repeat'(first|exact trivial|apply eS rfl|apply AB|refine rX e ?_ ?_|refine rC ?_ ?_<;>intro c<;>try(cases c;done))
  .exact c
  .have b:k<sup.length:=by exact eV
   rw[Ij l sup b,At c]at d;rw[<-d,At di]at a;exact fI e [.tmp 2] (by rw[<-a];exact eR)
  .exact eV
  .rename_i f;have b:k<sup.length:=by exact eV
   rw[Ij l sup b,As (AAs.2 f),At c]at d;rw[<-d,At di]at a;exact fI e [.tmp 2] (by rw[<-a];exact eR)
  .exact eV
  .rename_i f;have b:k<sup.length:=by exact eV
   rw[Ij l sup b,As (AAs.2 f),As (by rw[c];simp)]at d;exact⟨⟨k+1,by omega,d⟩,by simp only;omega,eW []⟩
  .exact eV
  have b:sup.drop k=[]:=OR (by exact eV);rw[b]at d;rw[<-d,As (by simp[Lh])]at a;exact⟨⟨i+1,by omega,a⟩,by simp only;omega,eW []⟩
 have b:l.drop i=[]:=OR (by exact eV);rw[b]at a;exact fI e [.tmp 2] (by rw[<-a];first|exact eR|refine qD ?_;rfl)
end
section
attribute [local go_sem] MI VG IJ VC
theorem Ce {α β:Type} (g:β->α->β) (l:List α) (d:α) (t:β) {i:Nat} (hi:i<l.length):(l.take (i+1)).foldl g t=g ((l.take i).foldl g t) (l.getD i d):=by
 rw[Ai l d hi,AAk];rfl
theorem Kg (l:List ByteArray) (s:ByteArray):(C3 l s).length<=l.length+1:=by
 unfold C3;split
 .omega
 have:=w8 (λx=>Bh x s) l;have a:SW l s<=l.length:=this;simp only[YT,OS,AAM,AAe];omega
def AG (l:List AD):List ByteArray:=l.foldl (λo x=>C3 o x.1) []
theorem DC (l:List AD) (k:Nat):(AG (l.take k)).length<=k:=by
 have key:∀(l:List AD) (o:List ByteArray),(l.foldl (λo x=>C3 o x.1) o).length<=o.length+l.length:=by
  intro l;induction l with
  | nil=>intro o;simp
  | cons x l c =>
   intro o;have a:=c (C3 o x.1);have b:=Kg o x.1;simp only[No,iF];omega
 have a:=key (l.take k) [];have b:=AA6 k l;unfold AG;simp only[AB9]at a;omega
def M9:Spec:={ ins:=[Aw],pre:=λ(l,_)=>List.length l<=100000,out:=λ(l,_)=>[.p Ad (AG l)] }
attribute [local go_sem] M9
theorem TV:Ap Tryz.prog 57 M9:=by
 refine fK [0,2,3,4,8] Tryz.func57 Tryz.ntmps57 (AF OB AH) ?_;rintro w0 O0 ⟨l,u⟩ a-d;have d:l.length<=100000:=d;simp only[M9,AP];repeat'(first|exact trivial|apply eS rfl|refine rX a ?_ ?_)
 refine AJ (ι:={k:Nat//k<=l.length}) (λk=>⟨[(0,.p Aw l),(3,.p Ad (AG (l.take k.1))),(4,.p (.int .i64) (k.1:Int))],[]⟩) (λk=>l.length-k.1) ⟨0,BY _⟩ (AC [] rfl rfl ?_ ?_) (λk=>?_)
 .exact eN
 .refine eM ?_;rfl
 obtain⟨k,f⟩:=k;have g:=DC l k;have hs:=λh:k<l.length=>Ce (λ(o:List ByteArray) (x:AD)=>C3 o x.1) l d0 [] h;simp only;repeat'(first|exact trivial|apply eS rfl|apply AB|refine rX a ?_ ?_|refine rC ?_ ?_<;>intro c<;>try(cases c;done))
 .exact⟨c,by omega⟩
 .exact eV
 .have b:k<l.length:=by exact eV
  have e:=hs b;refine⟨⟨k+1,by omega⟩,by simp only;omega,AC [] rfl rfl ?_ ?_⟩
  .exact eN
  simp only;have e:AG (l.take (k+1))=C3 (AG (l.take k)) (l.getD k d0).1:=e;rw[e];exact eN
 have b:l.take k=l:=By (by exact eV);rw[b];exact fI a [.tmp 2]
def GY (out:List ByteArray) (s:Bool×ByteArray) (x:AD):Bool×ByteArray :=
 if (AR out x.1||!GS x out)=true then s else (true,if (!s.1||Bh x.1 s.2)=true then x.1 else s.2)
def GB (d:List AD) (out:List ByteArray):Bool×ByteArray:=d.foldl (GY out) (false,ByteArray.empty)
def FQ (d:List AD):Nat->List ByteArray->List ByteArray
 | 0,out=>out
 | n+1,out=>if (GB d out).1=true then FQ d n (out++[(GB d out).2]) else out
def BM (d:List AD):List ByteArray:=FQ d d.length []
def HH (d:List AD) (out:List ByteArray):Nat:=d.countP λx=>!AR out x.1
theorem B3 (s:ByteArray):AM s s=true:=by unfold AM;simp
theorem JP (out:List ByteArray) (s x:ByteArray):AR (out++[s]) x=(AR out x||AM s x):=by
 unfold AR;simp[ABT]
theorem f5 (d:List AD) (out:List ByteArray) (h:(GB d out).1=true):∃x∈d,x.1=(GB d out).2/\AR out x.1=false:=by
 have key:∀(l:List AD) (s:Bool×ByteArray),(∀x∈l,x∈d)->(s.1=true->∃x∈d,x.1=s.2/\AR out x.1=false)->(l.foldl (GY out) s).1=true ->
   ∃x∈d,x.1=(l.foldl (GY out) s).2/\AR out x.1=false:=by
  intro l;induction l with
  | nil=>intro s _ hs h;exact hs h
  | cons y l i =>
   intro s e hs h;rw[No]at h ⊢;refine i _ (λx f=>e x (by simp[f])) (λhp=>?_) h;unfold GY at hp ⊢;split
   .rename_i a;rw[At a]at hp;exact hs hp
   rename_i a;simp only;have g:AR out y.1=false:=by
    cases b:AR out y.1 with
    | false=>rfl
    | true=>rw[b]at a;simp at a
   split
   .exact⟨y,e y sa,rfl,g⟩
   rename_i c;have:s.1=true:=by
    cases b:s.1 with
    | true=>rfl
    | false=>rw[b]at c;simp at c
   exact hs this
 exact key d _ (λ_ h=>h) (λh=>by cases h) h
theorem XB {d:List AD} {out:List ByteArray} (h:(GB d out).1=true):HH d (out++[(GB d out).2])<HH d out:=by
 obtain⟨x,g,c,e⟩:=f5 d out h;generalize (GB d out).2=s at *;unfold HH;have key:∀l:List AD,(l.countP λy=>!AR (out++[s]) y.1)<=l.countP λy=>!AR out y.1:=by
  intro l;refine List.countP_mono_left λy _ a=>?_;rw[JP]at a;cases f:AR out y.1 with
  | false=>rfl
  | true=>rw[f]at a;simp at a
 obtain⟨i,j,rfl⟩:=List.append_of_mem g;rw[ACs,ACs,ABv,ABv];have k:=key i;have m:=key j;have b:AR (out++[s]) x.1=true:=by rw[JP,c,B3,Bool.or_true]
 rw[b,e];simp only[ABU,AC1,AAH];simp only[AAG,AAX];omega
def VI:Spec:={ ins:=[Aw],pre:=λ(l,_)=>List.length l<=100000,out:=λ(l,_)=>[.p Ad (BM l)] }
theorem f7:Ap Tryz.prog 101 VI:=by
 refine fK [0,2,3,4,5,6,7,11,29,40,46] Tryz.func101 Tryz.ntmps101 (AF GA (AF mJ AH)) ?_;rintro w0 O0 ⟨d,u⟩ j-r;have r:d.length<=100000:=r;simp only[VI,AP];repeat'(first|exact trivial|apply eS rfl|refine rX j ?_ ?_)
 refine AJ (ι:={x:Nat×List ByteArray×Bool//x.1+x.2.1.length<=d.length/\(x.2.2=true->HH d x.2.1<=x.1/\FQ d x.1 x.2.1=BM d)/\(x.2.2=false->x.2.1=BM d)}) (λx=>⟨[(0,.p Aw d),(3,.sr 50 T9 0 x.1.2.1.length),(4,.p .bool x.1.2.2)],[(50,.arr 9 T9 x.1.2.1)]⟩) (λx=>(if x.1.2.2=true then x.1.1+1 else 0)) ⟨(d.length,[],true),by simp,λ_=>⟨AC6,rfl⟩,λh=>by cases h⟩ (eW [(50,.nil)]) (λx=>?_)
 obtain⟨⟨n,out,E⟩,s,t,v⟩:=x;simp only at s t v;simp only;repeat'(first|exact trivial|apply eS rfl|refine rX j ?_ ?_|refine rC ?_ ?_<;>intro a<;>try(cases a;done))
 .subst a;obtain⟨D,hp⟩:=t rfl;have C:({ data:=#[] }:ByteArray).size<=AN:=by decide
  rw[At C];refine AJ (ι:={y:Nat×Bool×ByteArray//y.1<=d.length/\(d.take y.1).foldl (GY out) (false,ByteArray.empty)=y.2}) (λy=>⟨[(0,.p Aw d),(3,.sr 50 T9 0 out.length),(4,.p .bool y.1.2.1),(5,.p T9 y.1.2.2),(6,.p (.int .i64) (y.1.1:Int))],[(50,.arr 9 T9 out)]⟩) (λy=>d.length-y.1.1) ⟨(0,false,ByteArray.empty),by simp,rfl⟩ (AC [(50,.nm 50)] rfl rfl ?_ ?_) (λy=>?_)
  .exact eN
  .refine eM ?_;rfl
  obtain⟨⟨k,w,b⟩,z,c⟩:=y;simp only at z c;have q:∀h:k<d.length,(d.take (k+1)).foldl (GY out) (false,ByteArray.empty)=GY out (w,b) (d.getD k d0):=λh=>by
   rw[Ce (GY out) d d0 _ h,c]
  simp only;repeat'(first|exact trivial|apply eS rfl|apply AB|refine rX j ?_ ?_|refine rC ?_ ?_<;>intro a<;>try(cases a;done))
  .exact⟨a,λ_=>a⟩
  .exact eV
  .have g:k<d.length:=by exact eV
   refine⟨⟨(k+1,w,b),by simp only;omega,?_⟩,by simp only;omega,AC [(50,.nm 50)] rfl rfl ?_ ?_⟩
   .simp only;rw[q g];unfold GY;rw[At];rw[bY,OF];exact a
   .exact eN
   exact eN
  .exact λ_=>by assumption
  .assumption
  .exact eV
  .rename_i f;have g:k<d.length:=by exact eV
   refine⟨⟨(k+1,true,(d.getD k d0).1),by simp only;omega,?_⟩,by simp only;omega,AC [(50,.nm 50)] rfl rfl ?_ ?_⟩
   .simp only;rw[q g];unfold GY;rw[As (by rw[f.1,f.2];simp),At (by rw[bY,OF];exact a)]
   .exact eN
   exact eN
  .exact eV
  .rename_i f;have g:k<d.length:=by exact eV
   refine⟨⟨(k+1,true,b),by simp only;omega,?_⟩,by simp only;omega,AC [(50,.nm 50)] rfl rfl ?_ ?_⟩
   .simp only;rw[q g];unfold GY;rw[As (by rw[f.1,f.2];simp),As (by rw[bY,OF];rintro (h|h)<;>simp_all)]
   .exact eN
   exact eN
  .simp only[AN];dsimp only[Ty.den]at *;omega
  .subst a;have l:d.take k=d:=By (by exact eV);rw[l]at c;have i:GB d out=(true,b):=c;have m:=XB (d:=d) (out:=out) (by rw[i]);rw[i]at m;obtain⟨e,rfl⟩:∃e,n=e+1:=⟨n-1,by omega⟩;have o:FQ d e (out++[b])=BM d:=by
    rw[<-hp];show _=if (GB d out).1=true then FQ d e (out++[(GB d out).2]) else out
    rw[i,At rfl]
   have m:HH d (out++[b])<HH d out:=m;have B:HH d (out++[b])<=e:=by omega
   exact⟨⟨(e,out++[b],true),by simp only[YT,AAe];omega,λ_=>⟨B,o⟩,λh=>by cases h⟩,by simp,eW [(50,.nm 50)]⟩
  subst a;have l:d.take k=d:=By (by exact eV);rw[l]at c;have i:GB d out=(false,b):=c;have o:out=BM d:=by
   rw[<-hp];cases n with
   | zero=>rfl
   | succ n =>
    show _=if (GB d out).1=true then FQ d n (out++[(GB d out).2]) else out
    rw[i,As sa]
  exact⟨⟨(n,out,false),s,(λh=>by cases h),λ_=>o⟩,by simp,eW [(50,.nm 50)]⟩
 subst a;have A:=v rfl;rw[A];refine DH [50] ?_;exact fI j [.tmp 2]
end
section
attribute [local go_sem] VF VH P1 VI
def Et (d:List AD):Nat:=d.countP λx=>x.2.1.length==0
theorem PI (d:List AD) {k:Nat} (h:k<d.length):Et (d.take (k+1))=Et (d.take k)+if ((d.getD k d0).2.1.length==0)=true then 1 else 0:=by
 unfold Et;rw[Ai d d0 h,ACs,ABv,List.countP_nil];omega
theorem TW (d:List AD):Et d<=d.length:=AC6
def AU (d:List AD):Int :=
 if B2 d≠0 then B2 d else if A5 d≠0 then A5 d else if C4 d≠0 then C4 d else if Et d≠1 then 1 else if (BM d).length<d.length then 6 else 0
theorem Kh {d:List AD} (h:B2 d=0):d.length<=256:=by
 unfold B2 at h;split at h
 .cases h
 omega
def Ht:Spec:={ ins:=[Aw],pre:=λ_=>True,out:=λ(l,_)=>[.p Es (AU l)] }
attribute [local go_sem] Ht
theorem f8:Ap Tryz.prog 56 Ht:=by
 refine fK [0,2,3,4,5,6,7,11,16,21,26,35,39,45] Tryz.func56 Tryz.ntmps56 (AF mI (AF mK (AF f4 (AF f7 AH)))) ?_;rintro w0 O0 ⟨d,u⟩ f - -;simp only[Ht,AP];repeat'(first|exact trivial|apply eS rfl|refine rX f ?_ ?_|refine rC ?_ ?_<;>intro a<;>try(cases a;done))
 .have b:AU d=B2 d:=by unfold AU;rw[At a]
  exact fI f [.tmp 2] (by rw[b];exact eR)
 .rename_i hs;have hs:B2 d=0:=by simpa using hs
  have b:AU d=A5 d:=by unfold AU;rw[As (by rw[hs];simp),At a]
  exact fI f [.tmp 2] (by rw[b];exact eR)
 .rename_i hs g;have hs:B2 d=0:=by simpa using hs
  have g:A5 d=0:=by simpa using g
  have b:AU d=C4 d:=by unfold AU;rw[As (by rw[hs];simp),As (by rw[g];simp),At a]
  exact fI f [.tmp 2] (by rw[b];exact eR)
 rename_i hs g;have hs:B2 d=0:=by simpa using hs
 have g:A5 d=0:=by simpa using g
 have l:C4 d=0:=by simpa using a
 have m:=Kh hs;have b:AU d=if Et d≠1 then 1 else if (BM d).length<d.length then 6 else 0:=by
  unfold AU;rw[As (by rw[hs];simp),As (by rw[g];simp),As (by rw[l];simp)]
 refine AJ (ι:={k:Nat//k<=d.length}) (λk=>⟨[(0,.p Aw d),(6,.p (.int .i64) (Et (d.take k.1):Int)),(7,.p (.int .i64) (k.1:Int))],[]⟩) (λk=>d.length-k.1) ⟨0,BY _⟩ (AC [] rfl rfl ?_ ?_) (λk=>?_)
 .exact eN
 .refine eM ?_;rfl
 obtain⟨k,n⟩:=k;have o:=TW (d.take k);have q:=AA6 k d;have j:=λh:k<d.length=>PI d h;simp only;repeat'(first|exact trivial|apply eS rfl|apply AB|refine rX f ?_ ?_|refine rC ?_ ?_<;>intro a<;>try(cases a;done))
 .exact a
 .exact eV
 .exact eV
 .have c:k<d.length:=by exact eV
  have e:=j c;rw[At (by rw[AA9];exact Int.ofNat_eq_zero.1 a)]at e;refine⟨⟨k+1,by omega⟩,by simp only;omega,AC [] rfl rfl ?_ ?_⟩
  .exact eN
  simp only[e];exact eN
 .exact eV
 .have c:k<d.length:=by exact eV
  have e:=j c;rw[As (by rw[AA9];exact λh=>a (Int.ofNat_eq_zero.2 h))]at e;refine⟨⟨k+1,by omega⟩,by simp only;omega,AC [] rfl rfl ?_ ?_⟩
  .exact eN
  simp only[e];exact eN
 .have c:d.take k=d:=By (by exact eV);rw[c]at a;rw[At (λh=>a (by rw[h];rfl))]at b;exact fI f [.tmp 2] (by rw[b];exact eR)
 .show d.length<=100000;omega
 .rename_i i;have c:d.take k=d:=By (by exact eV);rw[c]at i;have i:(Et d:Int)=1:=by simpa using i
  rw[As oa,At (An.1 a)]at b;exact fI f [.tmp 2] (by rw[b];exact eR)
 rename_i i;have c:d.take k=d:=By (by exact eV);rw[c]at i;have i:(Et d:Int)=1:=by simpa using i
 rw[As oa,As (λh=>absurd (NO.1 a) (Nat.not_le.2 h))]at b;exact fI f [.tmp 2] (by rw[b];exact eR)
end
section
attribute [local go_sem] MI IJ VC
def C5 (o:List ByteArray) (s:ByteArray):List ByteArray:=if AR o s=true then o else o++[s]
def Eu (d:List AD) (s:ByteArray):List ByteArray:=(d.getD (AY d s).toNat d0).2.1
def DM (d:List AD):Nat->Nat->List ByteArray->List ByteArray
 | 0,_,o=>o
 | n+1,i,o=>if i<o.length then DM d n (i+1) ((Eu d (o.getD i ByteArray.empty)).foldl C5 o) else o
def Y1 (l:List ByteArray):List ByteArray:=l.foldl C3 []
theorem OE (l:List ByteArray):(Y1 l).length<=l.length:=by
 have key:∀(l o:List ByteArray),(l.foldl C3 o).length<=o.length+l.length:=by
  intro l;induction l with
  | nil=>intro o;simp
  | cons x l a =>
   intro o;have b:=a (C3 o x);have c:=Kg o x;simp only[No,iF];omega
 have:=key l [];simpa[Y1] using this
def Bt (d:List AD) (s:ByteArray):List ByteArray:=if AY d s<0 then [] else Y1 (DM d d.length 0 [s])
def Hu (d:List AD):Prop:=∀x∈d,∀s∈x.2.1,0<=AY d s
theorem TX (s:ByteArray):∀(l:List AD) (k:Nat),Cn s k l=-1\/((k:Int)<=Cn s k l/\Cn s k l<(k:Int)+l.length/\AM (l.getD ((Cn s k l).toNat-k) d0).1 s=true)
 | [],_=>.inl rfl
 | x :: l,k=>by
  simp only[Cn];split
  .rename_i h;right;refine⟨by omega,by simp only[iF];omega,?_⟩;have:((k:Int).toNat-k)=0:=by omega
   rw[this];exact h
  rcases TX s l (k+1) with h|⟨b,c,a⟩
  .exact .inl h
  right;refine⟨by omega,by simp only[iF];omega,?_⟩;have:((Cn s (k+1) l).toNat-k)=((Cn s (k+1) l).toNat-(k+1))+1:=by omega
  rw[this];exact a
theorem Be (d:List AD) (s:ByteArray):AY d s<0\/(0<=AY d s/\AY d s<(d.length:Int)/\AM (d.getD (AY d s).toNat d0).1 s=true):=by
 rcases TX s d 0 with h|⟨b,a,c⟩
 .left;show Cn s 0 d<0;omega
 have a:AY d s<((0:Nat):Int)+d.length:=a;exact .inr ⟨b,by omega,c⟩
theorem Fk {a b:ByteArray}:AM a b=true↔a.toList=b.toList:=by unfold AM;simp
theorem CX {a b:ByteArray} (h:AM a b=true):AM b a=true:=Fk.2 (Fk.1 h).symm
theorem BX {a b c:ByteArray} (h:AM a b=true) (g:AM b c=true):AM a c=true:=Fk.2 ((Fk.1 h).trans (Fk.1 g))
structure Sf (d:List AD) (o:List ByteArray):Prop where
 decl:∀s∈o,0<=AY d s
 nd:o.Pairwise λa b=>AM a b=false
theorem JQ (d:List AD):∀ {o:List ByteArray},Sf d o->(o.map λs=>(AY d s).toNat).Nodup
 | [],_=>by simp
 | s :: o,h=>by
  rw[oR,AAn];have c:=AAl.1 h.nd;refine⟨λf=>?_,JQ d ⟨λx a=>h.decl x (by simp[a]),c.2⟩⟩;obtain⟨x,a,e⟩:=To.1 f;have i:=h.decl s sa;have j:=h.decl x (by simp[a]);rcases Be d s with g|⟨_,_,g1⟩
  .omega
  rcases Be d x with g|⟨_,_,b⟩
  .omega
  rw[e]at b;have:=c.1 x a;rw[BX (CX g1) b]at this;cases this
theorem Sf.len {d:List AD} {o:List ByteArray} (h:Sf d o):o.length<=d.length:=by
 have:=E8 d.length (o.map λs=>(AY d s).toNat) (JQ d h) (λj a=>by
  obtain⟨s,hs,rfl⟩:=To.1 a;have b:=h.decl s hs;rcases Be d s with g|⟨_,g,_⟩<;>omega)
 simpa using this
theorem NA {o:List ByteArray} {s:ByteArray} (h:AR o s=false):∀x∈o,AM x s=false:=λx b=>by
 cases a:AM x s with
 | false=>rfl
 | true=>exact absurd h (by rw[show AR o s=true from aS.2 ⟨x,b,a⟩];simp)
theorem cM {d:List AD} {o:List ByteArray} (h:Sf d o) {s:ByteArray} (hs:0<=AY d s):Sf d (C5 o s):=by
 unfold C5;split
 .exact h
 rename_i e;have e:AR o s=false:=by simpa using e
 refine⟨λx c=>?_,?_⟩
 .rcases aT.1 c with c|c
  .exact h.decl x c
  have:x=s:=by simpa using c
  rw[this];exact hs
 rw[ACg];refine⟨h.nd,by simp,λa f b g=>?_⟩;have:b=s:=by simpa using g
 rw[this];exact NA e a f
theorem RA {d:List AD}:∀ {l o:List ByteArray},(∀s∈l,0<=AY d s)->Sf d o->Sf d (l.foldl C5 o)/\o.length<=(l.foldl C5 o).length
 | [],o,_,h=>⟨h,If _⟩
 | s :: l,o,a,h=>by
  obtain⟨g1,b⟩:=RA (l:=l) (λx c=>a x (by simp[c])) (cM h (a s sa));refine⟨g1,f3 ?_ b⟩;unfold C5;split<;>simp
theorem Hv {d:List AD} (b:Hu d) (s:ByteArray):∀x∈Eu d s,0<=AY d x:=by
 intro x a;unfold Eu at a;by_cases h:(AY d s).toNat<d.length
 .exact b _ (AW d d0 h) x a
 rw[AS,AAA oa]at a;cases a
def ZR:Spec:={ ins:=[Aw,T9],pre:=λ(d,_,_)=>Hu d/\List.length d<=256,out:=λ(d,s,_)=>[.p Ad (Bt d s)] }
theorem mL:Ap Tryz.prog 156 ZR:=by
 refine fK [0,1,4,5,6,7,8,9,10,14,20,36,45,56] Tryz.func156 Tryz.ntmps156 (AF Kd (AF GA (AF OB AH))) ?_;rintro w0 O0 ⟨d,s,u⟩ b ⟨⟨R,H⟩,-⟩ ⟨P,A⟩;have A:d.length<=256:=A;simp only[ZR,AP];repeat'(first|exact trivial|apply eS rfl|refine rX b ?_ ?_|refine rC ?_ ?_<;>intro a<;>try(cases a;done))
 .have q:Bt d s=[]:=by unfold Bt;rw[At a]
  exact fI b [.tmp 4] (by rw[q];exact eR)
 have q:Bt d s=Y1 (DM d d.length 0 [s]):=by unfold Bt;rw[As (AAs.2 a)]
 have G:Sf d [s]:=⟨λx z=>by
  have:x=s:=by simpa using z
  rw[this];exact a,by simp⟩
 refine AJ (ι:={x:Nat×List ByteArray//x.1<=x.2.length/\Sf d x.2/\DM d (d.length-x.1) x.1 x.2=DM d d.length 0 [s]}) (λx=>⟨[(0,.p Aw d),(1,.p T9 s),(5,.sr 16 T9 0 x.1.2.length),(6,.p (.int .i64) (x.1.1:Int))],[(16,.arr 9 T9 x.1.2)]⟩) (λx=>d.length-x.1.1) ⟨(0,[s]),by simp,G,rfl⟩ (eW [(16,.nm 16)]) (λx=>?_)
 obtain⟨⟨i,o⟩,hi,c,v⟩:=x;simp only at hi c v;have W:=c.len;simp only;repeat'(first|exact trivial|apply eS rfl|refine rX b ?_ ?_|refine rC ?_ ?_<;>intro a<;>try(cases a;done))
 .have r:i<o.length:=by exact eV
  have B:=c.decl _ (AW o ByteArray.empty r);refine⟨a,B,?_⟩;rcases Be d (o.getD i ByteArray.empty) with g|⟨_,g,_⟩
  .omega
  exact g
 .have r:i<o.length:=by exact eV
  have B:=c.decl _ (AW o ByteArray.empty r);have L:=Hv P (o.getD i ByteArray.empty);have D:DM d (d.length-(i+1)) (i+1) ((Eu d (o.getD i ByteArray.empty)).foldl C5 o)=DM d d.length 0 [s]:=by
   rw[<-v];obtain⟨m,C⟩:∃m,d.length-i=m+1:=⟨d.length-i-1,by omega⟩;have I:d.length-(i+1)=m:=by omega
   rw[C,I];show _=if i<o.length then DM d m (i+1) ((Eu d (o.getD i ByteArray.empty)).foldl C5 o) else o
   rw[At r]
  have N:(Eu d (o.getD i ByteArray.empty)).length<=AN:=by
   rcases Be d (o.getD i ByteArray.empty) with g|⟨_,g,_⟩
   .omega
   exact(H _ (AW d d0 (k:=(AY d (o.getD i ByteArray.empty)).toNat) oa)).2.1.1
  have O:(List.getD d (AY d (o.getD i ByteArray.empty)).toNat (ByteArray.empty,[],[])).2.1=Eu d (o.getD i ByteArray.empty):=rfl;rw[O];generalize Eu d (o.getD i ByteArray.empty)=sup at *;simp only[AN]at N;refine AJ (ι:={k:Nat//k<=sup.length}) (λk=>⟨[(0,.p Aw d),(1,.p T9 s),(5,.sr 16 T9 0 ((sup.take k.1).foldl C5 o).length),(6,.p (.int .i64) (i:Int)),(7,.p Ad sup),(8,.p (.int .i64) (k.1:Int))],[(16,.arr 9 T9 ((sup.take k.1).foldl C5 o))]⟩) (λk=>sup.length-k.1) ⟨0,BY _⟩ (AC [(16,.nm 16)] rfl rfl ?_ ?_) (λk=>?_)
  .refine eM ?_;rfl
  .refine eM ?_;rfl
  obtain⟨k,T⟩:=k;have y:=RA (l:=sup.take k) (o:=o) (λx z=>L x (AAv z)) c;have U:=y.1.len;have F:=λh:k<sup.length=>Ce C5 sup ByteArray.empty o h;simp only;generalize E:(sup.take k).foldl C5 o=n at *;repeat'(first|exact trivial|apply eS rfl|apply AB|refine rX b ?_ ?_|refine rC ?_ ?_<;>intro a<;>try(cases a;done))
  .exact a
  .refine⟨by exact eV,?_⟩;simp only[AN];dsimp only[Ty.den]at *;omega
  .exact eV
  .have f:k<sup.length:=by exact eV
   have e:=F f;have t:C5 n (sup.getD k ByteArray.empty)=n++[sup.getD k ByteArray.empty]:=by unfold C5;rw[As (by rw[a];simp)]
   rw[t]at e;refine⟨⟨k+1,by omega⟩,by simp only;omega,AC [(16,.nm 16)] rfl rfl ?_ ?_⟩
   .simp only[e];exact eN
   simp only[e];exact eN
  .exact eV
  .have f:k<sup.length:=by exact eV
   have e:=F f;have t:C5 n (sup.getD k ByteArray.empty)=n:=by unfold C5;rw[At a]
   rw[t]at e;refine⟨⟨k+1,by omega⟩,by simp only;omega,AC [(16,.nm 16)] rfl rfl ?_ ?_⟩
   .simp only[e];exact eN
   simp only[e];exact eN
  .exact eV
  have f:sup.take k=sup:=By (by exact eV);rw[f]at E;rw[E]at D;have K:=y.1;have V:=y.2;exact⟨⟨(i+1,n),by simp only;omega,K,D⟩,by simp only;omega,eW [(16,.nm 16)]⟩
 have J:o=DM d d.length 0 [s]:=by
  rw[<-v];cases C:d.length-i with
  | zero=>rfl
  | succ m =>
   show _=if i<o.length then _ else o
   rw[As (by exact eV)]
 rw[<-J]at q;refine AJ (ι:={j:Nat//j<=o.length}) (λj=>⟨[(0,.p Aw d),(5,.sr 16 T9 0 o.length),(9,.p Ad ((o.take j.1).foldl C3 [])),(10,.p (.int .i64) (j.1:Int))],[(16,.arr 9 T9 o)]⟩) (λj=>o.length-j.1) ⟨0,BY _⟩ (AC [(16,.nm 16)] rfl rfl ?_ ?_) (λj=>?_)
 .exact eN
 .refine eM ?_;rfl
 obtain⟨j,S⟩:=j;have M:=λh:j<o.length=>Ce C3 o ByteArray.empty [] h;simp only;repeat'(first|exact trivial|apply eS rfl|apply AB|refine rX b ?_ ?_|refine rC ?_ ?_<;>intro a<;>try(cases a;done))
 .refine⟨a,?_⟩;have:=OE (o.take j);have Q:=AA6 j o;unfold Y1 at this;dsimp only[Ty.den]at *;omega
 .exact eV
 .have w:j<o.length:=by exact eV
  have e:=M w;refine⟨⟨j+1,by omega⟩,by simp only;omega,AC [(16,.nm 16)] rfl rfl ?_ ?_⟩
  .exact eN
  simp only[e];exact eN
 have w:o.take j=o:=By (by exact eV);rw[w];exact fI b [.tmp 4] (by rw[q];unfold Y1;exact eR)
end
section
attribute [local go_sem] MI IJ VC
def EM (s:ByteArray) (o:List ByteArray) (x:AD):List ByteArray:=if (AR x.2.1 s&&!AR o x.1)=true then o++[x.1] else o
def CO (d:List AD):Nat->Nat->List ByteArray->List ByteArray
 | 0,_,o=>o
 | n+1,i,o=>if i<o.length then CO d n (i+1) (d.foldl (EM (o.getD i ByteArray.empty)) o) else o
def Ax (d:List AD) (s:ByteArray):List ByteArray:=if AY d s<0 then [] else Y1 (CO d d.length 0 [s])
theorem MJ (s:ByteArray):∀(l:List AD) (k:Nat) (x:AD),x∈l->AM x.1 s=true->0<=Cn s k l
 | y :: l,k,x,a,h=>by
  simp only[Cn];split
  .omega
  rename_i b;rcases Is.1 a with rfl|a
  .exact absurd h b
  exact MJ s l (k+1) x a h
theorem CD {d:List AD} {x:AD} (a:x∈d):0<=AY d x.1:=MJ x.1 d 0 x a (B3 _)
theorem tI {d:List AD} {o:List ByteArray} (h:Sf d o) (s:ByteArray) {x:AD} (b:x∈d):Sf d (EM s o x):=by
 unfold EM;split
 .rename_i a;rw[AT,OF]at a;have:=cM h (CD b);unfold C5 at this
  rwa [As (by rw[a.2];simp)]at this
 exact h
theorem RB {d:List AD} (s:ByteArray):∀ {l:List AD} {o:List ByteArray},(∀x∈l,x∈d)->Sf d o->Sf d (l.foldl (EM s) o)/\o.length<=(l.foldl (EM s) o).length
 | [],o,_,h=>⟨h,If _⟩
 | x :: l,o,a,h=>by
  obtain⟨g1,b⟩:=RB s (l:=l) (λy c=>a y (by simp[c])) (tI h s (a x sa));refine⟨g1,f3 ?_ b⟩;unfold EM;split<;>simp
theorem OG (s:ByteArray) {i:Nat}:∀ {l:List AD} {o:List ByteArray},i<o.length->(l.foldl (EM s) o).getD i ByteArray.empty=o.getD i ByteArray.empty
 | [],_,_=>rfl
 | x :: l,o,h=>by
  have a:i<(EM s o x).length/\(EM s o x).getD i ByteArray.empty=o.getD i ByteArray.empty:=by
   unfold EM;split
   .refine⟨by rw[YT];omega,?_⟩;simp only[AS];rw[AA5 h]
   exact⟨h,rfl⟩
  rw[No,OG s a.1,a.2]
def VJ:Spec:={ ins:=[Aw,T9],pre:=λ(d,_,_)=>List.length d<=256,out:=λ(d,s,_)=>[.p Ad (Ax d s)] }
attribute [local go_sem] VJ
theorem mM:Ap Tryz.prog 102 VJ:=by
 refine fK [0,1,4,5,6,7,8,9,13,19,25,47,59] Tryz.func102 Tryz.ntmps102 (AF Kd (AF GA (AF OB AH))) ?_;rintro w0 O0 ⟨d,s,u⟩ c-z;have z:d.length<=256:=z;simp only[VJ,AP];repeat'(first|exact trivial|apply eS rfl|refine rX c ?_ ?_|refine rC ?_ ?_<;>intro a<;>try(cases a;done))
 .have b:Ax d s=[]:=by unfold Ax;rw[At a]
  exact fI c [.tmp 4] (by rw[b];exact eR)
 have b:Ax d s=Y1 (CO d d.length 0 [s]):=by unfold Ax;rw[As (AAs.2 a)]
 have G:Sf d [s]:=⟨λx w=>by
  have:x=s:=by simpa using w
  rw[this];exact a,by simp⟩
 refine AJ (ι:={x:Nat×List ByteArray//x.1<=x.2.length/\Sf d x.2/\CO d (d.length-x.1) x.1 x.2=CO d d.length 0 [s]}) (λx=>⟨[(0,.p Aw d),(5,.sr 15 T9 0 x.1.2.length),(6,.p (.int .i64) (x.1.1:Int))],[(15,.arr 9 T9 x.1.2)]⟩) (λx=>d.length-x.1.1) ⟨(0,[s]),by simp,G,rfl⟩ (eW [(15,.nm 15)]) (λx=>?_)
 obtain⟨⟨i,o⟩,hi,r,t⟩:=x;simp only at hi r t;have R:=r.len;simp only;repeat'(first|exact trivial|apply eS rfl|refine rX c ?_ ?_|refine rC ?_ ?_<;>intro a<;>try(cases a;done))
 .have A:i<o.length:=by exact eV
  have C:CO d (d.length-(i+1)) (i+1) (d.foldl (EM (o.getD i ByteArray.empty)) o)=CO d d.length 0 [s]:=by
   rw[<-t];obtain⟨m,B⟩:∃m,d.length-i=m+1:=⟨d.length-i-1,by omega⟩;have H:d.length-(i+1)=m:=by omega
   rw[B,H];show _=if i<o.length then CO d m (i+1) (d.foldl (EM (o.getD i ByteArray.empty)) o) else o
   rw[At A]
  refine AJ (ι:={k:Nat//k<=d.length}) (λk=>⟨[(0,.p Aw d),(5,.sr 15 T9 0 ((d.take k.1).foldl (EM (o.getD i ByteArray.empty)) o).length),(6,.p (.int .i64) (i:Int)),(7,.p (.int .i64) (k.1:Int))],[(15,.arr 9 T9 ((d.take k.1).foldl (EM (o.getD i ByteArray.empty)) o))]⟩) (λk=>d.length-k.1) ⟨0,BY _⟩ (AC [(15,.nm 15)] rfl rfl ?_ ?_) (λk=>?_)
  .refine eM ?_;rfl
  .refine eM ?_;rfl
  obtain⟨k,N⟩:=k;have n:=RB (o.getD i ByteArray.empty) (l:=d.take k) (o:=o) (λx w=>AAv w) r;have P:=n.1.len;have F:=λh:k<d.length=>Ce (EM (o.getD i ByteArray.empty)) d d0 o h;have E:((d.take k).foldl (EM (o.getD i ByteArray.empty)) o).getD i ByteArray.empty=o.getD i ByteArray.empty:=OG _ A;simp only;generalize D:(d.take k).foldl (EM (o.getD i ByteArray.empty)) o=g at *;repeat'(first|exact trivial|apply eS rfl|apply AB|refine rX c ?_ ?_|refine rC ?_ ?_<;>intro a<;>try(cases a;done))
  .have O:=n.2;refine⟨a,?_,λ_=>a⟩;dsimp only[Ty.den]at *;omega
  .refine⟨by assumption,?_⟩;simp only[AN];dsimp only[Ty.den]at *;omega
  .exact eV
  .have f:k<d.length:=by exact eV
   have e:=F f;rw[E]at a;have q:EM (o.getD i ByteArray.empty) g (d.getD k d0)=g++[(d.getD k d0).1]:=by
    unfold EM;rw[At (by rw[AT,OF];exact a)]
   rw[q]at e;refine⟨⟨k+1,by omega⟩,by simp only;omega,AC [(15,.nm 15)] rfl rfl ?_ ?_⟩
   .simp only[e];exact eN
   simp only[e];exact eN
  .exact eV
  .have f:k<d.length:=by exact eV
   have e:=F f;rw[E]at a;have q:EM (o.getD i ByteArray.empty) g (d.getD k d0)=g:=by
    unfold EM;rw[As];rw[AT,OF];rintro⟨b,y⟩;rw[a b]at y;cases y
   rw[q]at e;refine⟨⟨k+1,by omega⟩,by simp only;omega,AC [(15,.nm 15)] rfl rfl ?_ ?_⟩
   .simp only[e];exact eN
   simp only[e];exact eN
  .exact eV
  have f:d.take k=d:=By (by exact eV);rw[f]at D;rw[D]at C;have J:=n.1;have Q:=n.2;exact⟨⟨(i+1,g),by simp only;omega,J,C⟩,by simp only;omega,eW [(15,.nm 15)]⟩
 have I:o=CO d d.length 0 [s]:=by
  rw[<-t];cases B:d.length-i with
  | zero=>rfl
  | succ m =>
   show _=if i<o.length then _ else o
   rw[As (by exact eV)]
 rw[<-I]at b;refine AJ (ι:={j:Nat//j<=o.length}) (λj=>⟨[(0,.p Aw d),(5,.sr 15 T9 0 o.length),(8,.p Ad ((o.take j.1).foldl C3 [])),(9,.p (.int .i64) (j.1:Int))],[(15,.arr 9 T9 o)]⟩) (λj=>o.length-j.1) ⟨0,BY _⟩ (AC [(15,.nm 15)] rfl rfl ?_ ?_) (λj=>?_)
 .exact eN
 .refine eM ?_;rfl
 obtain⟨j,M⟩:=j;have K:=λh:j<o.length=>Ce C3 o ByteArray.empty [] h;simp only;repeat'(first|exact trivial|apply eS rfl|apply AB|refine rX c ?_ ?_|refine rC ?_ ?_<;>intro a<;>try(cases a;done))
 .refine⟨a,?_⟩;have:=OE (o.take j);have L:=AA6 j o;unfold Y1 at this;dsimp only[Ty.den]at *;omega
 .exact eV
 .have v:j<o.length:=by exact eV
  have e:=K v;refine⟨⟨j+1,by omega⟩,by simp only;omega,AC [(15,.nm 15)] rfl rfl ?_ ?_⟩
  .exact eN
  simp only[e];exact eN
 have v:o.take j=o:=By (by exact eV);rw[v];exact fI c [.tmp 4] (by rw[b];unfold Y1;exact eR)
end
section
attribute [local go_sem] MI VC ZR IJ
def Dl (d:List AD) (o:List ByteArray) (x:ByteArray):List ByteArray:=if 0<=AY d x then C3 o x else o
def Ak (d:List AD) (l:List ByteArray):List ByteArray:=l.foldl (Dl d) []
theorem F0 (d:List AD) (l:List ByteArray):(Ak d l).length<=l.length:=by
 have key:∀(l o:List ByteArray),(l.foldl (Dl d) o).length<=o.length+l.length:=by
  intro l;induction l with
  | nil=>intro o;simp
  | cons x l a =>
   intro o;have b:=a (Dl d o x);have c:(Dl d o x).length<=o.length+1:=by
    unfold Dl;split
    .exact Kg o x
    omega
   simp only[No,iF];omega
 have:=key l [];simpa[Ak] using this
def OH:Spec:={ ins:=[Aw,Ad],pre:=λ(_,l,_)=>List.length l<=100000,out:=λ(d,l,_)=>[.p Ad (Ak d l)] }
attribute [local go_sem] OH
theorem XC:Ap Tryz.prog 155 OH:=by
 refine fK [0,1,4,5,6,10,19] Tryz.func155 Tryz.ntmps155 (AF Kd (AF OB AH)) ?_;rintro w0 O0 ⟨d,l,u⟩ c-f;have f:l.length<=100000:=f;simp only[OH,AP];repeat'(first|exact trivial|apply eS rfl|refine rX c ?_ ?_)
 refine AJ (ι:={k:Nat//k<=l.length}) (λk=>⟨[(0,.p Aw d),(1,.p Ad l),(5,.p Ad (Ak d (l.take k.1))),(6,.p (.int .i64) (k.1:Int))],[]⟩) (λk=>l.length-k.1) ⟨0,BY _⟩ (AC [] rfl rfl ?_ ?_) (λk=>?_)
 .exact eN
 .refine eM ?_;rfl
 obtain⟨k,g⟩:=k;have i:=F0 d (l.take k);have j:=AA6 k l;have hs:=λh:k<l.length=>Ce (Dl d) l ByteArray.empty [] h;simp only;repeat'(first|exact trivial|apply eS rfl|apply AB|refine rX c ?_ ?_|refine rC ?_ ?_<;>intro b<;>try(cases b;done))
 .exact b
 .exact⟨by assumption,by omega⟩
 .exact eV
 .have a:k<l.length:=by exact eV
  have e:Ak d (l.take (k+1))=Dl d (Ak d (l.take k)) (l.getD k ByteArray.empty):=hs a;unfold Dl at e;rw[At b]at e;refine⟨⟨k+1,by omega⟩,by simp only;omega,AC [] rfl rfl ?_ ?_⟩
  .exact eN
  simp only[e];exact eN
 .exact eV
 .have a:k<l.length:=by exact eV
  have e:Ak d (l.take (k+1))=Dl d (Ak d (l.take k)) (l.getD k ByteArray.empty):=hs a;unfold Dl at e;rw[As (ABP.2 b)]at e;refine⟨⟨k+1,by omega⟩,by simp only;omega,AC [] rfl rfl ?_ ?_⟩
  .exact eN
  simp only[e];exact eN
 have a:l.take k=l:=By (by exact eV);rw[a];exact fI c [.tmp 4]
def PJ (d:List AD) (all:List ByteArray) (i:Nat) (k:Nat):Bool:=(k:Int)==(i:Int)||!AR (Bt d (all.getD i ByteArray.empty)) (all.getD k ByteArray.empty)
def Ju (d:List AD) (all:List ByteArray) (i n:Nat):Bool:=(List.range n).all (PJ d all i)
def Ik (d:List AD) (all:List ByteArray) (n:Nat):List ByteArray:=((List.range n).filter λi=>Ju d all i all.length).map λi=>all.getD i ByteArray.empty
def Ag (d:List AD) (l:List ByteArray):List ByteArray:=Ik d (Ak d l) (Ak d l).length
theorem TY (d:List AD) (all:List ByteArray) (n:Nat):Ik d all (n+1)=Ik d all n++if Ju d all n all.length=true then [all.getD n ByteArray.empty] else []:=by
 unfold Ik;rw[AA0,AAm,AA7]
 congr 1
 rw[AAa,AAC];split<;>rfl
theorem RC (d:List AD) (all:List ByteArray) (n:Nat):(Ik d all n).length<=n:=by
 unfold Ik;rw[Of];exact f3 (AA2 _ _) sa
theorem ZS (d:List AD) (all:List ByteArray) (i n:Nat):Ju d all i (n+1)=(Ju d all i n&&PJ d all i n):=by
 unfold Ju;rw[AA0,ABA];simp
def Ki:Spec:={ ins:=[Aw,Ad],pre:=λ(d,l,_)=>Hu d/\List.length d<=256/\List.length l<=100000,out:=λ(d,l,_)=>[.p Ad (Ag d l)] }
attribute [local go_sem] Ki
theorem RD:Ap Tryz.prog 108 Ki:=by
 refine fK [0,1,4,5,6,7,8,9,10,17,29,47] Tryz.func108 Tryz.ntmps108 (AF XC (AF mL (AF GA AH))) ?_;rintro w0 O0 ⟨d,l,u⟩ c-⟨n,f,g⟩;have f:d.length<=256:=f;have g:l.length<=100000:=g;have m:Ag d l=Ik d (Ak d l) (Ak d l).length:=rfl;have o:=F0 d l;simp only[Ki,AP];repeat'(first|exact trivial|apply eS rfl|refine rX c ?_ ?_)
 .exact g
 rw[m];generalize Ak d l=all at *;refine AJ (ι:={i:Nat//i<=all.length}) (λi=>⟨[(0,.p Aw d),(5,.sr 54 T9 0 (Ik d all i.1).length),(6,.p Ad all),(7,.p (.int .i64) (i.1:Int))],[(54,.arr 9 T9 (Ik d all i.1))]⟩) (λi=>all.length-i.1) ⟨0,BY _⟩ (AC [(54,.nil)] rfl rfl ?_ ?_) (λi=>?_)
 .refine eM ?_;rfl
 .refine eM ?_;rfl
 obtain⟨i,hi⟩:=i;have q:=RC d all i;have b:=TY d all i;simp only;repeat'(first|exact trivial|apply eS rfl|refine rX c ?_ ?_|refine rC ?_ ?_<;>intro a<;>try(cases a;done))
 .exact⟨a,n,f⟩
 .have h:i<all.length:=by exact eV
  refine AJ (ι:={k:Nat//k<=all.length}) (λk=>⟨[(0,.p Aw d),(5,.sr 54 T9 0 (Ik d all i).length),(6,.p Ad all),(7,.p (.int .i64) (i:Int)),(8,.p Ad (Bt d (all.getD i ByteArray.empty))),(9,.p .bool (Ju d all i k.1)),(10,.p (.int .i64) (k.1:Int))],[(54,.arr 9 T9 (Ik d all i))]⟩) (λk=>all.length-k.1) ⟨0,BY _⟩ (AC [(54,.nm 54)] rfl rfl ?_ ?_) (λk=>?_)
  .exact eN
  .refine eM ?_;rfl
  obtain⟨k,r⟩:=k;have j:=ZS d all i k;simp only;repeat'(first|exact trivial|apply eS rfl|apply AB|refine rX c ?_ ?_|refine rC ?_ ?_<;>intro a<;>try(cases a;done))
  .exact λ_=>a
  .exact eV
  .have e:k<all.length:=by exact eV
   refine⟨⟨k+1,by omega⟩,by simp only;omega,AC [(54,.nm 54)] rfl rfl ?_ ?_⟩
   .exact eN
   simp only[j];unfold PJ;exact eN
  .refine⟨by assumption,?_⟩;simp only[AN];omega
  .exact eV
  .have e:k=all.length:=by exact eV
   subst e;rw[a,At rfl]at b;refine⟨⟨i+1,by omega⟩,by simp only;omega,AC [(54,.nm 54)] rfl rfl ?_ ?_⟩
   .simp only[b];exact eN
   simp only[b];exact eN
  .exact eV
  have e:k=all.length:=by exact eV
  subst e;rw[a,As sa,AAb]at b;refine⟨⟨i+1,by omega⟩,by simp only;omega,AC [(54,.nm 54)] rfl rfl ?_ ?_⟩
  .simp only[b];exact eN
  simp only[b];exact eN
 have h:i=all.length:=by exact eV
 subst h;refine DH [54] ?_;exact fI c [.tmp 4]
end
section
attribute [local go_sem] JN
def P2 (b:List Int) (x:Int):List Int:=b.set (x.tdiv 64).toNat (A4 .or .u64 (b.getD (x.tdiv 64).toNat 0) (Pc .u64 1 (x.tmod 64)))
def XD (l:List Int):List Int:=l.foldl P2 (List.replicate 64 0)
def YV (x:Int):Bool:=!(decide (x<0)||decide (4095<x))
def ZT (l:List Int):List Int×Int:=if l.all YV=true then (A9 (XD l),0) else ([],2)
theorem NB (l:List Int):(XD l).length=64:=by
 have key:∀(l b:List Int),(l.foldl P2 b).length=b.length:=by
  intro l;induction l with
  | nil=>intro b;rfl
  | cons x l a =>
   intro b;rw[No,a];simp[P2]
 unfold XD;rw[key];simp
def ofS:Spec:={ ins:=[Dj],pre:=λ_=>True,out:=λ(l,_)=>[.p BZ (ZT l).1,.p Es (ZT l).2] }
theorem A0I:Ap Tryz.prog 104 ofS:=by
 refine fK [0,2,3,4,5,10,24] Tryz.func104 Tryz.ntmps104 (AF LN AH) ?_;rintro w0 O0 ⟨l,u⟩ c ⟨⟨m,-⟩,-⟩ -;simp only[AN]at m;simp only[ofS,AP];repeat'(first|exact trivial|apply eS rfl|refine rX c ?_ ?_)
 .simp only[AN];omega
 refine AJ (ι:={k:Nat//k<=l.length/\(l.take k).all YV=true}) (λk=>⟨[(0,.p Dj l),(4,.sr 6 Se 0 (XD (l.take k.1)).length),(5,.p (.int .i64) (k.1:Int))],[(6,.arr 65 Se (XD (l.take k.1)))]⟩) (λk=>l.length-k.1) ⟨0,BY _,rfl⟩ (AC [(6,.nm 6)] rfl rfl ?_ ?_) (λk=>?_)
 .refine eM ?_;rfl
 .refine eM ?_;rfl
 obtain⟨k,q,f⟩:=k;have n:=NB (l.take k);have hs:∀h:k<l.length,XD (l.take (k+1))=P2 (XD (l.take k)) (l.getD k 0):=λh=>Ce P2 l 0 _ h;simp only;repeat'(first|exact trivial|apply eS rfl|apply AB|refine rX c ?_ ?_|refine rC ?_ ?_<;>intro a<;>try(cases a;done))
 .exact⟨a,λ_=>a⟩
 .have b:k<l.length:=by exact eV
  have d:ZT l=([],2):=by
   unfold ZT;rw[As];intro h;have:=IS.1 h _ (AW l 0 b);unfold YV at this;rw[OF,wT,IF,IF]at this;rcases a with h|h
   .exact this.1 h
   exact this.2 h
  exact fI c [.tmp 2,.tmp 3] (by rw[d];exact eR)
 .obtain⟨g,d⟩:=a;have i:Int.tdiv (l.getD k 0) 64=l.getD k 0 / 64:=oF g;have j:Int.tmod (l.getD k 0) 64=l.getD k 0 % 64:=AAB g;rw[i,j,n];refine⟨?_,⟨by decide,?_,?_⟩,?_,⟨by decide,?_,?_⟩,⟨?_,?_⟩,?_,⟨by decide,?_,?_⟩,⟨?_,?_⟩,?_,?_,?_⟩<;>exact eV
 .exact eV
 .have b:k<l.length:=by exact eV
  have e:=hs b;refine⟨⟨k+1,by omega,?_⟩,by simp only;omega,AC [(6,.nm 6)] rfl rfl ?_ ?_⟩
  .rw[OD l 0 _ b,f,ABg];unfold YV;rw[OF,wT,IF,IF];exact⟨AAs.2 a.1,AAs.2 a.2⟩
  .simp only[e];refine eM ?_;rfl
  simp only[e];refine eM ?_;rw[<-e,NB,NB]
 have b:l.take k=l:=By (by exact eV);rw[b]at f ⊢;have d:ZT l=(A9 (XD l),0):=by unfold ZT;rw[At f]
 have o:=NB l;refine DH [6] ?_;repeat'(first|apply eS rfl|refine rX c ?_ ?_)
 .rw[o];decide
 exact fI c [.tmp 2,.tmp 3] (by rw[d];exact eR)
end
section
attribute [local go_sem] Q9 P0
def OI (l:List (List Int)) (b:List Int):Bool:=l.any λx=>GX x b
def yM:Spec:={ ins:=[Pz,BZ],pre:=λ_=>True,out:=λ(l,b,_)=>[.p .bool (OI l b)],lend:=true }
theorem yN:Ap Tryz.prog 105 yM:=by
 refine fK [0,1,4,5,9,17] Tryz.func105 Tryz.ntmps105 (AF VE AH) ?_;rintro w0 O0 ⟨l,n,u⟩ a ⟨⟨g,-⟩,-⟩ -;simp only[AN]at g;simp only[yM,AP];repeat'(first|exact trivial|apply eS rfl|refine rX a ?_ ?_)
 refine AJ (ι:={k:Nat//k<=l.length/\(l.take k).any (λx=>GX x n)=false}) (λk=>⟨[(0,.p Pz l),(1,.p BZ n),(5,.p (.int .i64) (k.1:Int))],[]⟩) (λk=>l.length-k.1) ⟨0,by simp⟩ (eW []) (λk=>?_)
 obtain⟨k,f,d⟩:=k;repeat'(first|exact trivial|apply eS rfl|apply AB|refine rX a ?_ ?_|refine rC ?_ ?_<;>intro b<;>try(cases b;done))
 .exact eV
 .have e:k<l.length:=by exact eV
  have c:OI l n=true:=Hr l [] _ e b;exact fI a [.tmp 4] (by rw[c];exact eR)
 .exact eV
 .have e:k<l.length:=by exact eV
  refine⟨⟨k+1,by exact eV,?_⟩,by simp only;exact eV,AC [] rfl rfl ?_ ?_⟩
  .rw[LM l [] _ e,d];exact b
  .exact eN
  exact eN
 have f:l.take k=l:=By (by exact eV);rw[f]at d;have c:OI l n=false:=d;exact fI a [.tmp 4] (by rw[c];exact eR)
abbrev AI:=ByteArray×List Int
abbrev c0:AI:=(ByteArray.empty,[])
def Jv (l:List AI) (i j:Int):Bool:=Ep (l.getD j.toNat c0).2 (l.getD i.toNat c0).2
def cN:Spec:={ ins:=[Bi,T3,T3],pre:=λ(l,i,j,_)=>((0:Int)<=i/\i<(List.length l:Int))/\((0:Int)<=j/\j<(List.length l:Int))/\(∀x∈(l:List AI),x.2.length<=100000),out:=λ(l,i,j,_)=>[.p .bool (Jv l i j)],lend:=true }
theorem cO:Ap Tryz.prog 62 cN:=by
 refine fK [0,1,2,6] Tryz.func62 Tryz.ntmps62 (AF TT AH) ?_;rintro w0 O0 ⟨l,i,j,u⟩ a-⟨hi,b,c⟩;simp only[cN,AP];repeat'(first|exact trivial|apply eS rfl|refine rX a ?_ ?_)
 .exact⟨b,hi,c _ (AW (l:List AI) c0 (by exact eV))⟩
 exact fI a [.tmp 6] (by unfold Jv;exact eR)
end
section
attribute [local go_sem] Q9
def IK (s:ByteArray):Nat->List AI->Int
 | _,[]=>-1
 | k,x :: l=>if AM x.1 s=true then (k:Int) else IK s (k+1) l
def A7 (l:List AI) (s:ByteArray):Int:=IK s 0 l
theorem TZ (s:ByteArray) (l:List AI) {k:Nat} (h:k<l.length):IK s k (l.drop k)=if AM (l.getD k c0).1 s=true then (k:Int) else IK s (k+1) (l.drop (k+1)):=by
 rw[iS h];have e:l.getD k c0=l[k]:=by simp[AS,h]
 rw[e];rfl
def P3:Spec:={ ins:=[Bi,T9],pre:=λ_=>True,out:=λ(l,s,_)=>[.p T3 (A7 l s)],lend:=true }
theorem Ta:Ap Tryz.prog 64 P3:=by
 refine fK [0,1,4,5,9,18] Tryz.func64 Tryz.ntmps64 AH ?_;rintro w0 O0 ⟨l,s,u⟩ d ⟨⟨e,-⟩,-⟩ -;simp only[AN]at e;simp only[P3,AP];repeat'(first|exact trivial|apply eS rfl|refine rX d ?_ ?_)
 refine AJ (ι:={k:Nat//k<=l.length/\IK s k (l.drop k)=A7 l s}) (λk=>⟨[(0,.p Bi l),(1,.p T9 s),(5,.p (.int .i64) (k.1:Int))],[]⟩) (λk=>l.length-k.1) ⟨0,BY _,rfl⟩ (eW []) (λk=>?_)
 obtain⟨k,f,a⟩:=k;simp only;repeat'(first|exact trivial|apply eS rfl|apply AB|refine rX d ?_ ?_|refine rC ?_ ?_<;>intro c<;>try(cases c;done))
 .exact c
 .have b:k<l.length:=by exact eV
  rw[TZ s l b,At c]at a;exact fI d [.tmp 4] (by rw[<-a];exact eR)
 .exact eV
 .have b:k<l.length:=by exact eV
  rw[TZ s l b,As (by rw[c];simp)]at a;exact⟨⟨k+1,by omega,a⟩,by simp only;omega,eW []⟩
 have b:l.drop k=[]:=OR (by exact eV);rw[b]at a;exact fI d [.tmp 4] (by rw[<-a];first|exact eR|refine qD ?_;rfl)
end
section
attribute [local go_sem] Q9 JN
def RE (s:List Int):Nat->List AI->Int
 | _,[]=>-1
 | k,x :: l=>if GX x.2 s=true then (k:Int) else RE s (k+1) l
def VK (l:List AI) (b:List Int):Int:=RE (A9 b) 0 l
theorem RF (s:List Int) (l:List AI) {k:Nat} (h:k<l.length):RE s k (l.drop k)=if GX (l.getD k c0).2 s=true then (k:Int) else RE s (k+1) (l.drop (k+1)):=by
 rw[iS h];have e:l.getD k c0=l[k]:=by simp[AS,h]
 rw[e];rfl
def ZU:Spec:={ ins:=[Bi,BZ],pre:=λ(_,b,_)=>List.length b<=100000,out:=λ(l,b,_)=>[.p T3 (VK l b)],lend:=true }
theorem mN:Ap Tryz.prog 55 ZU:=by
 refine fK [0,1,4,5,6,12,21] Tryz.func55 Tryz.ntmps55 (AF LN (AF VE AH)) ?_;rintro w0 O0 ⟨l,b,u⟩ e ⟨⟨h,-⟩,-⟩ f;simp only[AN]at h;simp only[ZU,AP];repeat'(first|exact trivial|apply eS rfl|refine rX e ?_ ?_)
 .exact f
 have g:VK l b=RE (A9 b) 0 l:=rfl;rw[g];generalize A9 b=s at *;refine AJ (ι:={k:Nat//k<=l.length/\RE s k (l.drop k)=RE s 0 l}) (λk=>⟨[(0,.p Bi l),(5,.p BZ s),(6,.p (.int .i64) (k.1:Int))],[]⟩) (λk=>l.length-k.1) ⟨0,BY _,rfl⟩ (eW []) (λk=>?_)
 obtain⟨k,i,a⟩:=k;simp only;repeat'(first|exact trivial|apply eS rfl|apply AB|refine rX e ?_ ?_|refine rC ?_ ?_<;>intro d<;>try(cases d;done))
 .exact d
 .have c:k<l.length:=by exact eV
  rw[RF s l c,At d]at a;exact fI e [.tmp 4] (by rw[<-a];exact eR)
 .exact eV
 .have c:k<l.length:=by exact eV
  rw[RF s l c,As (by rw[d];simp)]at a;exact⟨⟨k+1,by omega,a⟩,by simp only;omega,eW []⟩
 have c:l.drop k=[]:=OR (by exact eV);rw[c]at a;exact fI e [.tmp 4] (by rw[<-a];first|exact eR|refine qD ?_;rfl)
end
section
attribute [local go_sem] Q9
def HI (s:ByteArray):List (ByteArray×ByteArray)->ByteArray×Bool
 | []=>(ByteArray.empty,false)
 | x :: l=>if AM x.1 s=true then (x.2,true) else HI s l
def Bk (x:AD) (s:ByteArray):ByteArray×Bool:=HI s x.2.2
theorem Tc (s:ByteArray) (l:List (ByteArray×ByteArray)) {k:Nat} (h:k<l.length):HI s (l.drop k)=if AM (l.getD k (ByteArray.empty,ByteArray.empty)).1 s=true then ((l.getD k (ByteArray.empty,ByteArray.empty)).2,true) else HI s (l.drop (k+1)):=by
 rw[iS h];have e:l.getD k (ByteArray.empty,ByteArray.empty)=l[k]:=by simp[AS,h]
 rw[e];rfl
def VL:Spec:={ ins:=[zX,T9],pre:=λ_=>True,out:=λ(x,s,_)=>[.p T9 (Bk x s).1,.p .bool (Bk x s).2],lend:=true }
theorem XE:Ap Tryz.prog 95 VL:=by
 refine fK [0,1,2,4,5,6,11,21] Tryz.func95 Tryz.ntmps95 AH ?_;rintro w0 O0 ⟨⟨nm,sup,fe⟩,s,u⟩ d ⟨⟨-,-,f,-⟩,-⟩ -;simp only[AN]at f;simp only[VL,AP];repeat'(first|exact trivial|apply eS rfl|refine rX d ?_ ?_)
 have e:({ data:=#[] }:ByteArray).size<=AN:=by decide
 rw[At e];refine AJ (ι:={k:Nat//k<=fe.length/\HI s (fe.drop k)=Bk (nm,sup,fe) s}) (λk=>⟨[(1,.p T9 s),(2,.bp 2 [] 0),(6,.p (.int .i64) (k.1:Int))],[(2,.box 35 true [.p T9 nm,.p Ad sup,.p Lx fe])]⟩) (λk=>fe.length-k.1) ⟨0,BY _,rfl⟩ (eW [(2,.nm 2)]) (λk=>?_)
 obtain⟨k,g,a⟩:=k;simp only;repeat'(first|exact trivial|apply eS rfl|apply AB|refine rX d ?_ ?_|refine rC ?_ ?_<;>intro c<;>try(cases c;done))
 .exact c
 .assumption
 .have b:k<fe.length:=by exact eV
  rw[Tc s fe b,At c]at a;exact fI d [.tmp 4,.tmp 5] (by rw[<-a];exact eR)
 .exact eV
 .have b:k<fe.length:=by exact eV
  rw[Tc s fe b,As (by rw[c];simp)]at a;exact⟨⟨k+1,by omega,a⟩,by simp only;omega,eW [(2,.nm 2)]⟩
 have b:fe.drop k=[]:=OR (by exact eV);rw[b]at a;rw[At e];exact fI d [.tmp 4,.tmp 5] (by rw[<-a];first|exact eR|refine qD ?_;exact⟨rfl,rfl⟩)
end
section
attribute [local go_sem] ZQ
def D0 (a b:AI):Bool:=decide (((B8 b.2).length:Int)<((B8 a.2).length:Int))||((B8 a.2).length:Int)==((B8 b.2).length:Int)&&Bh a.1 b.1
def VM:Spec:={ ins:=[Bv,Bv],pre:=λ(a,b,_)=>List.length (a:AI).2<=100000/\List.length (b:AI).2<=100000,out:=λ(a,b,_)=>[.p .bool (D0 a b)],lend:=true }
theorem f9:Ap Tryz.prog 61 VM:=by
 refine fK [0,1,2,3,4,5,6] Tryz.func61 Tryz.ntmps61 (AF mH AH) ?_;rintro w0 O0 ⟨⟨d,ac⟩,⟨f,e⟩,u⟩ a-⟨b,c⟩;simp only[VM,AP];repeat'(first|exact trivial|apply eS rfl|refine rX a ?_ ?_)
 .exact b
 .exact c
 exact fI a [.tmp 4] (by unfold D0;exact eR)
end
section
attribute [local go_sem] VJ IJ ofS
def Kj (low all:List ByteArray) (n:Nat):List Int:=((List.range n).filter λ(i:Nat)=>AR low (all.getD i ByteArray.empty)).map λ(i:Nat)=>(i:Int)
theorem gA (low all:List ByteArray) (n:Nat):Kj low all (n+1)=Kj low all n++if AR low (all.getD n ByteArray.empty)=true then [(n:Int)] else []:=by
 unfold Kj;rw[AA0,AAm,AA7]
 congr 1
 rw[AAa,AAC];split<;>rfl
theorem mO (low all:List ByteArray) (n:Nat):(Kj low all n).length<=n:=by
 unfold Kj;rw[Of];exact f3 (AA2 _ _) sa
def DN (d:List AD) (all:List ByteArray) (s:ByteArray):List Int:=(ZT (Kj (Ax d s) all all.length)).1
def mP:Spec:={ ins:=[Aw,Ad,T9],pre:=λ(d,l,_,_)=>List.length d<=256/\List.length l<=100000,out:=λ(d,l,s,_)=>[.p BZ (DN d l s)] }
theorem tJ:Ap Tryz.prog 58 mP:=by
 refine fK [0,1,2,6,7,8,9,10,18,26] Tryz.func58 Tryz.ntmps58 (AF mM (AF GA (AF A0I AH))) ?_;rintro w0 O0 ⟨d,l,s,u⟩ b-⟨g,e⟩;have e:l.length<=100000:=e;have f:DN d l s=(ZT (Kj (Ax d s) l l.length)).1:=rfl;simp only[mP,AP];repeat'(first|exact trivial|apply eS rfl|refine rX b ?_ ?_)
 .exact g
 rw[f];generalize Ax d s=low at *;refine AJ (ι:={n:Nat//n<=l.length}) (λn=>⟨[(0,.p Aw d),(1,.p Ad l),(2,.p T9 s),(7,.p Ad low),(8,.sr 30 T3 0 (Kj low l n.1).length),(9,.p (.int .i64) (n.1:Int))],[(30,.arr 3 T3 (Kj low l n.1))]⟩) (λn=>l.length-n.1) ⟨0,BY _⟩ (AC [(30,.nil)] rfl rfl ?_ ?_) (λn=>?_)
 .refine eM ?_;rfl
 .refine eM ?_;rfl
 obtain⟨n,h⟩:=n;have i:=mO low l n;have hs:=gA low l n;simp only;repeat'(first|exact trivial|apply eS rfl|apply AB|refine rX b ?_ ?_|refine rC ?_ ?_<;>intro a<;>try(cases a;done))
 .exact a
 .rw[a,At rfl]at hs;simp only[AN];dsimp only[Ty.den]at *;omega
 .exact eV
 .have c:n<l.length:=by exact eV
  rw[a,At rfl]at hs;refine⟨⟨n+1,by omega⟩,by simp only;omega,AC [(30,.nm 30)] rfl rfl ?_ ?_⟩
  .simp only[hs];exact eN
  simp only[hs];exact eN
 .exact eV
 .have c:n<l.length:=by exact eV
  rw[a,As sa,AAb]at hs;refine⟨⟨n+1,by omega⟩,by simp only;omega,AC [(30,.nm 30)] rfl rfl ?_ ?_⟩
  .simp only[hs];exact eN
  simp only[hs];exact eN
 have c:n=l.length:=by exact eV
 subst c;refine DH [30] ?_;repeat'(first|exact trivial|apply eS rfl|refine rX b ?_ ?_)
 exact fI b [.tmp 6]
end
section
attribute [local go_sem] VC
def Hw (o:List ByteArray) (f:ByteArray×ByteArray):List ByteArray:=C3 o f.1
def Kk (o:List ByteArray) (x:AD):List ByteArray:=x.2.2.foldl Hw o
def Af (d:List AD):List ByteArray:=d.foldl Kk []
theorem Td (l:List (ByteArray×ByteArray)):∀o:List ByteArray,(l.foldl Hw o).length<=o.length+l.length:=by
 induction l with
 | nil=>intro o;simp
 | cons x l a =>
  intro o;have b:=a (Hw o x);have c:(Hw o x).length<=o.length+1:=Kg o x.1;simp only[No,iF];omega
theorem ZV {d:List AD} (h:∀x∈d,x.2.2.length<=256):∀(l:List AD),(∀x∈l,x∈d)->∀o:List ByteArray,(l.foldl Kk o).length<=o.length+256*l.length:=by
 intro l;induction l with
 | nil=>intro _ o;simp
 | cons x l c =>
  intro a o;have e:=c (λy b=>a y (by simp[b])) (Kk o x);have f:=Td x.2.2 o;have g:=h x (a x sa);have i:(Kk o x).length=(x.2.2.foldl Hw o).length:=rfl;simp only[No,iF];omega
def RG:Spec:={ ins:=[Aw],pre:=λ(d,_)=>List.length d<=256/\(∀x∈(d:List AD),x.2.2.length<=256),out:=λ(d,_)=>[.p Ad (Af d)] }
theorem RH:Ap Tryz.prog 53 RG:=by
 refine fK [0,2,3,4,5,9,19] Tryz.func53 Tryz.ntmps53 (AF OB AH) ?_;rintro w0 O0 ⟨d,u⟩ c-⟨f,m⟩;have f:d.length<=256:=f;simp only[RG,AP];repeat'(first|exact trivial|apply eS rfl|refine rX c ?_ ?_)
 refine AJ (ι:={i:Nat//i<=d.length}) (λi=>⟨[(0,.p Aw d),(3,.p Ad (Af (d.take i.1))),(4,.p (.int .i64) (i.1:Int))],[]⟩) (λi=>d.length-i.1) ⟨0,BY _⟩ (AC [] rfl rfl ?_ ?_) (λi=>?_)
 .exact eN
 .refine eM ?_;rfl
 obtain⟨i,hi⟩:=i;have l:=ZV m (d.take i) (λx h=>AAv h) [];have w:=AA6 i d;have hs:=λh:i<d.length=>Ce Kk d d0 [] h;have g:∀e,Af e=e.foldl Kk []:=λ_=>rfl;simp only;repeat'(first|exact trivial|apply eS rfl|refine rX c ?_ ?_|refine rC ?_ ?_<;>intro a<;>try(cases a;done))
 .have j:i<d.length:=by exact eV
  have y:=m _ (AW d d0 j);have hs:=hs j;rw[<-g,<-g]at hs;rw[<-g]at l;generalize Af (d.take i)=o at *;refine AJ (ι:={k:Nat//k<=(d.getD i d0).2.2.length}) (λk=>⟨[(0,.p Aw d),(3,.p Ad (((d.getD i d0).2.2.take k.1).foldl Hw o)),(4,.p (.int .i64) (i:Int)),(5,.p (.int .i64) (k.1:Int))],[]⟩) (λk=>(d.getD i d0).2.2.length-k.1) ⟨0,BY _⟩ (AC [] rfl rfl ?_ ?_) (λk=>?_)
  .exact eN
  .refine eM ?_;rfl
  obtain⟨k,n⟩:=k;have t:k<=(d.getD i d0).2.2.length:=n;have s:=Td ((d.getD i d0).2.2.take k) o;have v:=AA6 k (d.getD i d0).2.2;have q:=λh:k<(d.getD i d0).2.2.length=>Ce Hw (d.getD i d0).2.2 (ByteArray.empty,ByteArray.empty) o h;simp only;repeat'(first|apply eS rfl|apply AB|refine rX c ?_ ?_|refine rC ?_ ?_<;>intro a<;>try(cases a;done))
  .assumption
  .refine⟨by assumption,a,?_⟩;simp only[AB9]at l;dsimp only[Ty.den]at *;omega
  .have r:(k:Int)<((d.getD i d0).2.2.length:Int):=a;exact eV
  .have b:k<(d.getD i d0).2.2.length:=An.1 a;have e:=q b;refine⟨⟨k+1,b⟩,by simp only;omega,AC [] rfl rfl ?_ ?_⟩
   .exact eN
   simp only[e];unfold Hw;exact eN
  .have:=f;exact eV
  have b:(d.getD i d0).2.2.take k=(d.getD i d0).2.2:=By (NO.1 a);have e:Af (d.take (i+1))=((d.getD i d0).2.2.take k).foldl Hw o:=by rw[b];exact hs
  refine⟨⟨i+1,j⟩,by simp only;omega,AC [] rfl rfl ?_ ?_⟩
  .exact eN
  simp only[e];exact eN
 have b:d.take i=d:=By (by exact eV);rw[b];exact fI c [.tmp 2]
end
theorem Te {d:List AD} {l:List ByteArray}:∀ {r:List ByteArray} {k:Nat},Lh d l k r=0->∀s∈r,0<=AY d s
 | [],_,_,s,hs=>by cases hs
 | x :: r,k,h,s,hs=>by
  simp only[Lh]at h;split at h
  .cases h
  rename_i a;split at h
  .cases h
  rcases Is.1 hs with rfl|hs
  .omega
  exact Te h s hs
theorem NC {d:List AD}:∀ {l:List AD},Gi d l=0->∀x∈l,∀s∈x.2.1,0<=AY d s
 | [],_,x,a=>by cases a
 | y :: l,h,x,a=>by
  simp only[Gi]at h;split at h
  .rename_i b;exact absurd h b
  rename_i b;rcases Is.1 a with rfl|a
  .exact Te (IN b)
  exact NC h x a
theorem XF {d:List AD} (h:C4 d=0):Hu d:=NC h
theorem Ab {d:List AD} (h:AU d=0):Hu d/\d.length<=256/\Et d=1/\A5 d=0/\d.length<=(BM d).length:=by
 unfold AU at h;split at h
 .rename_i a;exact absurd h a
 rename_i a;split at h
 .rename_i b;exact absurd h b
 rename_i b;split at h
 .rename_i c;exact absurd h c
 rename_i c;split at h
 .cases h
 rename_i e;split at h
 .cases h
 rename_i f;exact⟨XF (IN c),Kh (IN a),IN e,IN b,by omega⟩
section
attribute [local go_sem] yM tG
def Cs (l:List (List Int)) (i k:Nat):List (List Int) :=
 if (decide (0<((DP (l.getD i []) (l.getD k [])).length:Int))&&!OI l (DP (l.getD i []) (l.getD k [])))=true then l++[DP (l.getD i []) (l.getD k [])] else l
def D2 (i:Nat):Nat->Nat->List (List Int)->List (List Int)
 | 0,_,l=>l
 | n+1,k,l=>if l.length<=256 then D2 i n (k+1) (Cs l i k) else l
def GC:Nat->Nat->List (List Int)->List (List Int)
 | 0,_,l=>l
 | n+1,i,l=>if i<l.length/\l.length<=256 then GC n (i+1) (D2 i i 0 l) else l
def AO (c:List (List Int)):List (List Int):=GC 257 0 c
theorem RI (a b:List Int):(DP a b).length<=a.length:=by
 unfold DP A9;have:=EB .and a b a.length;rw[OS];omega
structure w9 (l:List (List Int)):Prop where
 len:l.length<=257
 wid:∀c∈l,c.length<=64
theorem Kl {l:List (List Int)} (h:∀c∈l,c.length<=64) (k:Nat):(l.getD k []).length<=64:=by
 rw[AS];cases a:l[k]? with
 | none=>simp
 | some x=>exact h x (AAj a)
theorem XG {l:List (List Int)} (h:∀c∈l,c.length<=64) (i k:Nat):∀c∈Cs l i k,c.length<=64:=by
 unfold Cs;split
 .intro c a;rcases aT.1 a with a|a
  .exact h c a
  have:c=DP (l.getD i []) (l.getD k []):=by simpa using a
  rw[this];exact f3 (RI _ _) (Kl h i)
 exact h
theorem XH (l:List (List Int)) (i k:Nat):l.length<=(Cs l i k).length/\(Cs l i k).length<=l.length+1:=by
 unfold Cs;split
 .simp
 exact⟨If _,Nat.le_succ _⟩
def VN:Spec:={ ins:=[Pz],pre:=λ(c,_)=>List.length c<=256/\∀x∈(c:List (List Int)),x.length<=64,out:=λ(c,_)=>[.p Pz (AO c)] }
theorem gB:Ap Tryz.prog 59 VN:=by
 refine fK [0,2,3,4,5,6,18,28,48] Tryz.func59 Tryz.ntmps59 (AF mE (AF yN AH)) ?_;rintro w0 O0 ⟨c,u⟩ d-⟨o,v⟩;have o:c.length<=256:=o;simp only[VN,AP];repeat'(first|exact trivial|apply eS rfl|refine rX d ?_ ?_)
 .simp only[AN];dsimp only[Ty.den]at *;omega
 refine AJ (ι:={x:Nat×List (List Int)//x.1<=256/\w9 x.2/\GC (257-x.1) x.1 x.2=AO c}) (λx=>⟨[(3,.sr 7 BZ 0 x.1.2.length),(4,.p (.int .i64) (x.1.1:Int))],[(7,.arr 38 BZ x.1.2)]⟩) (λx=>257-x.1.1) ⟨(0,c),by simp,⟨by simp only;omega,v⟩,rfl⟩ (eW [(7,.nm 7)]) (λx=>?_)
 obtain⟨⟨i,l⟩,hi,⟨r,t⟩,g⟩:=x;simp only at hi r t g;simp only;repeat'(first|exact trivial|apply eS rfl|refine rX d ?_ ?_|refine rC ?_ ?_<;>intro a<;>try(cases a;done))
 .have z:i<l.length:=by omega
  have B:l.length<=256:=by omega
  have q:GC (256-i) (i+1) (D2 i i 0 l)=AO c:=by
   have e:257-i=(256-i)+1:=by omega
   rw[<-g,e];show _=if i<l.length/\l.length<=256 then GC (256-i) (i+1) (D2 i i 0 l) else l
   rw[At ⟨z,B⟩]
  refine AJ (ι:={y:Nat×List (List Int)//y.1<=i/\w9 y.2/\l.length<=y.2.length/\D2 i (i-y.1) y.1 y.2=D2 i i 0 l}) (λy=>⟨[(3,.sr 7 BZ 0 y.1.2.length),(4,.p (.int .i64) (i:Int)),(5,.p (.int .i64) (y.1.1:Int))],[(7,.arr 38 BZ y.1.2)]⟩) (λy=>i-y.1.1) ⟨(0,l),by simp,⟨r,t⟩,If _,rfl⟩ (eW [(7,.nm 7)]) (λy=>?_)
  obtain⟨⟨k,m⟩,A,⟨n,b⟩,s,f⟩:=y;simp only at A n b s f;simp only;repeat'(first|exact trivial|apply eS rfl|apply AB|refine rX d ?_ ?_|refine rC ?_ ?_<;>intro a<;>try(cases a;done))
  .exact⟨by exact eV,by exact eV,f3 (Kl b i) di⟩
  .simp only[AN];omega
  .omega
  .have e:Cs m i k=m++[DP (m.getD i []) (m.getD k [])]:=by
    unfold Cs;rw[At];rw[AT,Do,OF];exact a
   have E:=XG b i k;have F:=XH m i k;refine⟨⟨(k+1,Cs m i k),by simp only;omega,⟨by simp only;omega,E⟩,by simp only;omega,?_⟩,by simp only;omega,AC [(7,.nm 7)] rfl rfl ?_ ?_⟩
   .simp only;rw[<-f,show i-k=(i-(k+1))+1 by omega];show _=if m.length<=256 then D2 i (i-(k+1)) (k+1) (Cs m i k) else m
    rw[At oa]
   .simp only[e];exact eN
   simp only[e];exact eN
  .omega
  .have e:Cs m i k=m:=by
    unfold Cs;rw[As];rw[AT,Do,OF];intro h;rw[a h.1]at h;exact absurd h.2 sa
   refine⟨⟨(k+1,m),by simp only;omega,⟨n,b⟩,s,?_⟩,by simp only;omega,AC [(7,.nm 7)] rfl rfl ?_ ?_⟩
   .simp only;rw[<-f,show i-k=(i-(k+1))+1 by omega];show _=if m.length<=256 then D2 i (i-(k+1)) (k+1) (Cs m i k) else m
    rw[At oa,e]
   .exact eN
   exact eN
  .omega
  have D:m=D2 i i 0 l:=by
   rw[<-f];cases C:i-k with
   | zero=>rfl
   | succ j =>
    show _=if m.length<=256 then _ else m
    rw[As oa]
  rw[<-D]at q;refine⟨⟨(i+1,m),by simp only;omega,⟨n,b⟩,?_⟩,by simp only;omega,AC [(7,.nm 7)] rfl rfl ?_ ?_⟩
  .simp only;rw[show 257-(i+1)=256-i by omega];exact q
  .exact eN
  exact eN
 have w:l=AO c:=by
  rw[<-g];cases C:257-i with
  | zero=>rfl
  | succ m =>
   show _=if i<l.length/\l.length<=256 then _ else l
   rw[As oa]
 rw[<-w];refine DH [7] ?_;exact fI d [.tmp 2]
theorem qF {α:Type} (x y:α):(if ({ data:=#[] }:ByteArray).size<=AN then x else y)=x:=At (by show 0<=AN;decide)
theorem zY {α:Type} (a:UInt8) (x y:α):(if ({ data:=#[a] }:ByteArray).size<=AN then x else y)=x:=At (by show 1<=AN;decide)
theorem cs2 {α:Type} (a b:UInt8) (x y:α):(if ({ data:=#[a,b] }:ByteArray).size<=AN then x else y)=x:=At (by show 2<=AN;decide)
theorem cs3 {α:Type} (a b c:UInt8) (x y:α):(if ({ data:=#[a,b,c] }:ByteArray).size<=AN then x else y)=x:=At (by show 3<=AN;decide)
theorem cs4 {α:Type} (a b c d:UInt8) (x y:α):(if ({ data:=#[a,b,c,d] }:ByteArray).size<=AN then x else y)=x:=At (by show 4<=AN;decide)
theorem cs5 {α:Type} (a b c d e:UInt8) (x y:α):(if ({ data:=#[a,b,c,d,e] }:ByteArray).size<=AN then x else y)=x:=At (by show 5<=AN;decide)
theorem cs6 {α:Type} (a b c d e f:UInt8) (x y:α):(if ({ data:=#[a,b,c,d,e,f] }:ByteArray).size<=AN then x else y)=x:=At (by show 6<=AN;decide)
theorem cs7 {α:Type} (a b c d e f g:UInt8) (x y:α):(if ({ data:=#[a,b,c,d,e,f,g] }:ByteArray).size<=AN then x else y)=x:=At (by show 7<=AN;decide)
theorem cs8 {α:Type} (a b c d e f g h:UInt8) (x y:α):(if ({ data:=#[a,b,c,d,e,f,g,h] }:ByteArray).size<=AN then x else y)=x:=At (by show 8<=AN;decide)
end
def A0 (b:List Int) (i:Nat):Bool:=(b.getD (i / 64) 0).toNat.testBit (i % 64)
def OJ (x:Int):Prop:=0<=x/\x<18446744073709551616
theorem FA {x:Int} (h:OJ x):(BitVec.ofInt 64 x).toNat=x.toNat:=by
 rw[BitVec.toNat_ofInt];have a:=h.1;have b:=h.2;rw[Int.emod_eq_of_lt a (by simpa using b)]
theorem ND {n:Nat} (h:n<18446744073709551616):IntKind.u64.wrap (n:Int)=n:=Hi (by rw[Gg];omega)
theorem tK {x y:Int} (a:OJ x) (b:OJ y):A4 .or .u64 x y=((x.toNat ||| y.toNat:Nat):Int):=by
 have c:(BitVec.ofInt IntKind.u64.bits x ||| BitVec.ofInt IntKind.u64.bits y).toNat=x.toNat ||| y.toNat:=by
  rw[BitVec.toNat_or];show (BitVec.ofInt 64 x).toNat ||| (BitVec.ofInt 64 y).toNat=_
  rw[FA a,FA b]
 unfold A4;simp only;rw[c];have e:(18446744073709551616:Nat)=2 ^ 64:=by decide
 refine ND ?_;rw[e];refine Nat.or_lt_two_pow ?_ ?_
 .have:=a.2;have:=a.1;omega
 have:=b.2;have:=b.1;omega
theorem Eh {x y:Int} (a:OJ x) (c:OJ y):A4 .and .u64 x y=((x.toNat &&& y.toNat:Nat):Int):=by
 have b:(BitVec.ofInt IntKind.u64.bits x &&& BitVec.ofInt IntKind.u64.bits y).toNat=x.toNat &&& y.toNat:=by
  rw[ACI];show (BitVec.ofInt 64 x).toNat &&& (BitVec.ofInt 64 y).toNat=_;rw[FA a,FA c]
 unfold A4;simp only;rw[b];refine ND (ABQ ABR ?_);have:=a.2;have:=a.1;omega
theorem OK {x y:Int}:A4 .andNot .u64 x y=((BitVec.ofInt 64 x &&& ~~~BitVec.ofInt 64 y).toNat:Int):=by
 show IntKind.u64.wrap ((BitVec.ofInt 64 x &&& ~~~BitVec.ofInt 64 y).toNat:Int)=_;exact ND (BitVec.isLt _)
theorem PK {x y:Int} (e:OJ x) (f:OJ y) (h:A4 .andNot .u64 x y=0) {r:Nat} (d:r<64) (c:x.toNat.testBit r=true):y.toNat.testBit r=true:=by
 rw[OK]at h;have b:(BitVec.ofInt 64 x &&& ~~~BitVec.ofInt 64 y).toNat=0:=by omega
 have a:(BitVec.ofInt 64 x &&& ~~~BitVec.ofInt 64 y).toNat.testBit r=false:=by rw[b];exact Nat.zero_testBit r
 rw[ABp,BitVec.getLsbD_and,BitVec.getLsbD_not,<-ABp,<-ABp,FA e,FA f,c]at a;simpa[d] using a
theorem XI {x:Int}:A4 .andNot .u64 x x=0:=by
 rw[OK];simp
theorem MK {b:List Int}:∀ {n:Nat},∀k,Cm b n<=k->k<n->b.getD k 0=0
 | 0,k,_,h=>by omega
 | n+1,k,a,e=>by
  unfold Cm at a;split at a
  .rename_i d;by_cases c:k=n
   .rw[c];exact d
   exact MK k a oa
  omega
theorem NE (b:List Int) (k:Nat):(A9 b).getD k 0=b.getD k 0:=by
 unfold A9;by_cases h:k<Cm b b.length
 .simp[AS,AA3,h]
 have a:(List.take (Cm b b.length) b).getD k 0=0:=by
  rw[AS,AA3,As h];rfl
 rw[a];by_cases c:k<b.length
 .exact(MK k oa c).symm
 rw[AS,AAA oa];rfl
theorem Ew (b:List Int) (i:Nat):A0 (A9 b) i=A0 b i:=by unfold A0;rw[NE]
def Ei (b:List Int):Prop:=∀x∈b,OJ x
theorem BA {b:List Int} (h:Ei b) (k:Nat):OJ (b.getD k 0):=by
 rw[AS];cases a:b[k]? with
 | none=>exact⟨by simp,by simp⟩
 | some x=>exact h x (AAj a)
theorem Ex {b:List Int} (h:Ei b):Ei (A9 b):=λx a=>h x (AAv a)
theorem Il (b:List Int) (k:Nat):E9 b (k:Int)=b.getD k 0:=by
 unfold E9;split
 .simp
 rename_i h;rw[AS,AAA oa];rfl
theorem LO (op:BinOp) (a b:List Int) {n k:Nat} (h:k<n):(Fi op a b n).getD k 0=A4 op .u64 (a.getD k 0) (b.getD k 0):=by
 unfold Fi;rw[AS,AAr,ABN h];show A4 op .u64 (a.getD k 0) (E9 b (k:Int))=_;rw[Il]
theorem VO {a b:List Int} (h:Ep a b=true) {k:Nat} (d:k<a.length):A4 .andNot .u64 (a.getD k 0) (b.getD k 0)=0:=by
 unfold Ep OC A9 at h;have e:(List.take (Cm (Fi .andNot a b a.length) (Fi .andNot a b a.length).length) (Fi .andNot a b a.length)).length=0:=by
  have:=AA9.1 h;omega
 rw[OS,EB]at e;have f:=Q8 (Fi .andNot a b a.length) a.length;have c:=MK (b:=Fi .andNot a b a.length) (n:=a.length) k oa d;rw[LO _ _ _ d]at c;exact c
theorem Km {a b:List Int} (c:Ei a) (d:Ei b) (h:Ep a b=true) {i:Nat} (hi:A0 a i=true):A0 b i=true:=by
 by_cases e:i / 64<a.length
 .exact PK (BA c _) (BA d _) (VO h e) (ACz _ di) hi
 exfalso;unfold A0 at hi;rw[AS,AAA oa]at hi;simp at hi
theorem OL {b:List Int}:∀ {n:Nat},(∀k,k<n->b.getD k 0=0)->Cm b n=0
 | 0,_=>rfl
 | n+1,h=>by
  unfold Cm;rw[At (h n oa)];exact OL λk a=>h k oa
theorem XJ (a:List Int):Ep a a=true:=by
 unfold Ep OC A9;have b:Cm (Fi .andNot a a a.length) (Fi .andNot a a a.length).length=0:=by
  rw[EB];exact OL λk c=>by rw[LO _ _ _ c];exact XI
 rw[b];rfl
theorem XK (a:List Int):Cc a a=true:=by unfold Cc;rw[XJ];rfl
theorem tL {b:List Int} (k:Ei b) (q:b.length=64) {x:Int} (d:0<=x) (p:x<=4095) (i:Nat):A0 (P2 b x) i=(A0 b i||decide (x=(i:Int))):=by
 have e:Int.tdiv x 64=x / 64:=oF d;have f:Int.tmod x 64=x % 64:=AAB d;obtain⟨n,rfl⟩:∃n:Nat,x=(n:Int):=⟨x.toNat,by omega⟩;have hs:Pc .u64 1 ((n:Int) % 64)=((2 ^ (n % 64):Nat):Int):=by
  unfold Pc;have g:min ((n:Int) % 64).toNat IntKind.u64.bits=n % 64:=by
   have:((n:Int) % 64).toNat=n % 64:=by omega
   rw[this];have:IntKind.u64.bits=64:=rfl;omega
  rw[g,Int.one_mul];have:(2:Int) ^ (n % 64)=((2 ^ (n % 64):Nat):Int):=by simp
  rw[this];refine ND ?_;have a:(2:Nat) ^ (n % 64)<2 ^ 64:=Nat.pow_lt_pow_right di (ACz _ di);exact a
 have o:OJ (Pc .u64 1 ((n:Int) % 64)):=by
  rw[hs];have a:(2:Nat) ^ (n % 64)<2 ^ 64:=Nat.pow_lt_pow_right di (ACz _ di);have j:(2:Nat) ^ 64=18446744073709551616:=by decide
  refine⟨AAg _,?_⟩;rw[j]at a;exact An.2 a
 have m:((n:Int) / 64).toNat=n / 64:=by omega
 unfold P2 A0;rw[e,f,m];by_cases c:i / 64=n / 64
 .have l:n / 64<b.length:=by omega
  rw[c];have:(b.set (n / 64) (A4 .or .u64 (b.getD (n / 64) 0) (Pc .u64 1 ((n:Int) % 64)))).getD (n / 64) 0=A4 .or .u64 (b.getD (n / 64) 0) (Pc .u64 1 ((n:Int) % 64)):=by
   simp[AS,l]
  rw[this,tK (BA k _) o,hs];simp only[AA4,Nat.testBit_or,Nat.testBit_two_pow]
  congr 1
  rw[AC8];omega
 have:(b.set (n / 64) (A4 .or .u64 (b.getD (n / 64) 0) (Pc .u64 1 ((n:Int) % 64)))).getD (i / 64) 0=b.getD (i / 64) 0:=by
  simp[AS,AB4,Ne.symm c]
 rw[this];have:decide ((n:Int)=(i:Int))=false:=by
  rw[IF];intro h;exact c oa
 rw[this,ABo]
theorem tM {b:List Int} (c:Ei b) (x:Int):Ei (P2 b x):=by
 intro y a;unfold P2 at a;rcases List.mem_or_eq_of_mem_set a with h|h
 .exact c y h
 rw[h];have:=Hj .u64 ((BitVec.ofInt IntKind.u64.bits (b.getD (x.tdiv 64).toNat 0) ||| BitVec.ofInt IntKind.u64.bits (Pc .u64 1 (x.tmod 64))).toNat:Int);rw[Gg]at this;exact⟨this.1,by have:=this.2;show _<_;exact ABc this di⟩
theorem LP {l:List Int} (h:l.all YV=true) (i:Nat):A0 (XD l) i=decide ((i:Int)∈l)/\Ei (XD l):=by
 have key:∀(l b:List Int),l.all YV=true->Ei b->b.length=64->A0 (l.foldl P2 b) i=(A0 b i||decide ((i:Int)∈l))/\Ei (l.foldl P2 b):=by
  intro l;induction l with
  | nil=>intro b _ a _;simp[a]
  | cons x l m =>
   intro b c a e;rw[AAZ,AT]at c;have f:=c.1;unfold YV at f;rw[OF,wT,IF,IF]at f;obtain⟨g1,g⟩:=m (P2 b x) c.2 (tM a x) (by simp[P2,e]);rw[No];refine⟨?_,g⟩;rw[g1,tL a e oa oa,Bool.or_assoc]
   congr 1
   rw[<-Bool.decide_or,AC8,Is,eq_comm]
 have j:Ei (List.replicate 64 (0:Int)):=by
  intro y k;rw[(List.mem_replicate.1 k).2];exact⟨by decide,by decide⟩
 have d:=key l (List.replicate 64 0) h j sa;refine⟨?_,d.2⟩;unfold XD;rw[d.1];have:A0 (List.replicate 64 (0:Int)) i=false:=by
  unfold A0;have:(List.replicate 64 (0:Int)).getD (i / 64) 0=0:=by
   rw[AS,List.getElem?_replicate];split<;>rfl
  rw[this];simp
 rw[this,ACG]
theorem mQ {low all:List ByteArray} {n i:Nat}:((i:Int)∈Kj low all n)↔i<n/\AR low (all.getD i ByteArray.empty)=true:=by
 unfold Kj;rw[To];constructor
 .rintro⟨j,a,e⟩;have:j=i:=by omega
  subst this;rw[tO,gO]at a;exact a
 rintro⟨b,c⟩;exact⟨i,by rw[tO,gO];exact⟨b,c⟩,rfl⟩
theorem VP {low all:List ByteArray} {n:Nat} (c:n<=4096):(Kj low all n).all YV=true:=by
 rw[IS];intro x a;unfold Kj at a;obtain⟨j,b,rfl⟩:=To.1 a;rw[tO,gO]at b;unfold YV;rw[OF,wT,IF,IF];exact⟨by omega,by omega⟩
theorem BQ {d:List AD} {all:List ByteArray} (e:all.length<=4096) (s:ByteArray) (i:Nat):(A0 (DN d all s) i=true↔i<all.length/\AR (Ax d s) (all.getD i ByteArray.empty)=true)/\Ei (DN d all s)/\(DN d all s).length<=64:=by
 have b:=VP (low:=Ax d s) (all:=all) e;have c:=LP b i;have a:DN d all s=A9 (XD (Kj (Ax d s) all all.length)):=by
  unfold DN ZT;rw[At b]
 refine⟨?_,?_,?_⟩
 .rw[a,Ew,c.1,Do,mQ]
 .rw[a];exact Ex c.2
 rw[a];unfold A9;have:=NB (Kj (Ax d s) all all.length);rw[OS];omega
theorem Kn (d:List AD) {s t:ByteArray} (h:AM s t=true):AY d s=AY d t:=by
 have key:∀(l:List AD) (k:Nat),Cn s k l=Cn t k l:=by
  intro l;induction l with
  | nil=>intro k;rfl
  | cons x l a =>
   intro k;simp only[Cn];have:AM x.1 s=AM x.1 t:=by grind [AM,BX,CX]
   rw[this,a]
 exact key d 0
theorem AL {α:Type} {l:List α} {d:α} {k:Nat} (h:k<l.length):l.getD k d∈l:=by grind
theorem BJ {α:Type} {l:List α} (d:α) {x:α} (h:x∈l):∃k,k<l.length/\l.getD k d=x:=by
 obtain⟨k,a,e⟩:=AAN.1 h;exact⟨k,a,by rw[AS,DO a];exact e⟩
theorem Hx {d:List AD}:∀ {r:List AD} {k:Nat},Ke d k r=0->∀j,j<r.length->¬AY d (r.getD j d0).1<((k+j:Nat):Int)/\Bc (r.getD j d0).1 false=true
 | [],_,_,j,a=>by simp at a
 | x :: r,k,h,j,a=>by
  simp only[Ke]at h;split at h
  .cases h
  rename_i b;split at h
  .cases h
  rename_i c;cases j with
  | zero=>exact⟨c,by simpa using b⟩
  | succ j =>
   have:=Hx h j (by simpa using a);have e:k+(j+1)=k+1+j:=by omega
   rw[e];exact this
theorem JR (s:ByteArray):∀(l:List AD) (k j:Nat),j<l.length->AM (l.getD j d0).1 s=true->Cn s k l<=((k+j:Nat):Int)
 | [],_,j,h,_=>by simp at h
 | x :: l,k,j,h,e=>by
  simp only[Cn];split
  .omega
  rename_i a;cases j with
  | zero=>exact absurd e a
  | succ j =>
   have:=JR s l (k+1) j (by simpa using h) e;omega
theorem HJ {d:List AD} (h:A5 d=0) {j:Nat} (b:j<d.length):AY d (d.getD j d0).1=(j:Int):=by
 have c:=(Hx h j b).1;have a:=JR (d.getD j d0).1 d 0 j b (B3 _);rw[AAO]at c a;have a:AY d (d.getD j d0).1<=(j:Int):=a;omega
theorem FT {d:List AD} (h:A5 d=0) {x y:AD} (a:x∈d) (b:y∈d) (e:AM x.1 y.1=true):x=y:=by
 obtain⟨i,hi,rfl⟩:=BJ d0 a;obtain⟨j,c,rfl⟩:=BJ d0 b;grind [HJ,Kn]
theorem ZW (d:List AD) (out:List ByteArray) (h:(GB d out).1=true):∃x∈d,x.1=(GB d out).2/\AR out x.1=false/\GS x out=true:=by
 have key:∀(l:List AD) (s:Bool×ByteArray),(∀x∈l,x∈d)->(s.1=true->∃x∈d,x.1=s.2/\AR out x.1=false/\GS x out=true)->(l.foldl (GY out) s).1=true ->
   ∃x∈d,x.1=(l.foldl (GY out) s).2/\AR out x.1=false/\GS x out=true:=by
  intro l;induction l with
  | nil=>intro s _ hs h;exact hs h
  | cons y l c =>
   intro s a hs h;rw[No]at h ⊢;refine c _ (λx b=>a x (by simp[b])) (λhp=>?_) h;unfold GY at hp ⊢;split
   .grind
   grind
 exact key d _ (λ_ h=>h) (λh=>by cases h) h
def PL (d:List AD) (o:List ByteArray):Prop:=∀j,j<o.length->∃x∈d,x.1=o.getD j ByteArray.empty/\AR (o.take j) x.1=false/\GS x (o.take j)=true
theorem PL.snoc {d:List AD} {o:List ByteArray} (h:PL d o) {x:AD} (k:x∈d) (f:AR o x.1=false) (g:GS x o=true):PL d (o++[x.1]):=by
 intro j i;by_cases a:j<o.length
 .obtain⟨y,l,b,c,e⟩:=h j a;grind
 grind
theorem RJ {d:List AD}:∀ {n:Nat} {o:List ByteArray},PL d o->PL d (FQ d n o)
 | 0,_,h=>h
 | n+1,o,h=>by
  unfold FQ;split
  .rename_i hp;obtain⟨x,c,e,a,b⟩:=ZW d o hp;rw[<-e];exact RJ (h.snoc c a b)
  exact h
theorem OM (d:List AD):PL d (BM d):=RJ λj a=>by simp at a
theorem PL.ok {d:List AD} {o:List ByteArray} (h:PL d o):Sf d o:=by
 refine⟨λs hs=>?_,?_⟩
 .obtain⟨j,a,rfl⟩:=BJ ByteArray.empty hs;obtain⟨x,b,e,-⟩:=h j a;rw[<-e];exact CD b
 rw[iN];intro i j hi a g;obtain⟨x,b,e,c,-⟩:=h j a;have f:=NA c o[i] (by rw[AAS];exact⟨i,by omega,rfl⟩);grind
theorem ZX {n:Nat} {l:List Nat} (h:l.Nodup) (d:∀j∈l,j<n) (e:n<=l.length) {k:Nat} (c:k<n):k∈l:=by
 refine IN λb=>?_;have:=E8 n (k :: l) (AAn.2 ⟨b,h⟩) (λj a=>by
  rcases Is.1 a with rfl|a
  .exact c
  exact d j a)
 simp at this;omega
theorem RK {d:List AD} (h:d.length<=(BM d).length) {x:AD} (i:x∈d):∃s∈BM d,AM s x.1=true:=by
 have a:=(OM d).ok;have b:=JQ d a;have l:=CD i;have m:=Be d x.1;have c:=ZX (n:=d.length) b (λj f=>by
  obtain⟨s,hs,rfl⟩:=To.1 f;have b:=a.decl s hs;rcases Be d s with g|⟨_,g,_⟩<;>omega) (by simpa using h) (k:=(AY d x.1).toNat) oa
 obtain⟨s,hs,e⟩:=To.1 c;refine⟨s,hs,?_⟩;rcases Be d s with g|⟨_,_,g1⟩
 .have:=a.decl s hs;omega
 grind [BX,CX]
def Fc (d:List AD) (s:ByteArray):Nat:=(BM d).findIdx λx=>AM x s
theorem HK (d:List AD) {s t:ByteArray} (h:AM s t=true):Fc d s=Fc d t:=by grind [Fc,AM,BX,CX]
theorem JS {d:List AD} (q:A5 d=0) (o:d.length<=(BM d).length) {x:AD} (g:x∈d) {s:ByteArray} (hs:AR x.2.1 s=true):Fc d s<Fc d x.1:=by
 obtain⟨t,r,e⟩:=RK o g;have c:Fc d x.1<(BM d).length:=List.findIdx_lt_length_of_exists ⟨t,r,e⟩;have heq:AM ((BM d)[Fc d x.1]) x.1=true:=List.findIdx_getElem (w:=c);obtain⟨y,A,a,-,j⟩:=OM d (Fc d x.1) c;rw[AS,DO c]at a;have a:y.1=(BM d)[Fc d x.1]:=a;rw[<-a]at heq;have B:=FT q A g heq;subst B;obtain⟨u,z,h⟩:=aS.1 hs;have k:AR ((BM d).take (Fc d y.1)) u=true:=IS.1 j u z;obtain⟨v,f,ev⟩:=aS.1 k;rw[AAS]at f;obtain⟨i,hi,rfl⟩:=f;have n:i<Fc d y.1:=by omega
 refine ABQ ?_ n;refine IN λm=>?_;have b:=List.not_of_lt_findIdx (p:=λx=>AM x s) (xs:=BM d) (i:=i) (by unfold Fc at m;omega);have l:AM ((BM d)[i]) s=true:=BX ev h;try simp only at b
 rw[l]at b;exact absurd b sa
def Sg (d:List AD) (s x:ByteArray):Prop:=AM s x=true\/Fc d s<Fc d x
theorem gC {d:List AD} (i:A5 d=0) (g:d.length<=(BM d).length) {s c:ByteArray} (b:Sg d s c) {o:List ByteArray} (e:∀x∈o,Sg d s x) {x:AD} (j:x∈d):∀y∈EM c o x,Sg d s y:=by
 intro y a;unfold EM at a;split at a
 .rename_i h;rw[AT]at h;rcases aT.1 a with a|a
  .exact e y a
  have:y=x.1:=by simpa using a
  subst this;have f:=JS i g j h.1;right;rcases b with b|b
  .rw[HK d b];exact f
  omega
 exact e y a
theorem RL {d:List AD} (f:A5 d=0) (e:d.length<=(BM d).length) {s c:ByteArray} (b:Sg d s c):∀ {l:List AD} {o:List ByteArray},(∀x∈l,x∈d)->(∀x∈o,Sg d s x)->∀y∈l.foldl (EM c) o,Sg d s y
 | [],_,_,a=>a
 | x :: l,o,g,a=>by
  rw[No];exact RL f e b (λy h=>g y (by simp[h])) (gC f e b a (g x sa))
theorem PM {d:List AD} (c:A5 d=0) (b:d.length<=(BM d).length) {s:ByteArray}:∀ {n i:Nat} {o:List ByteArray},(∀x∈o,Sg d s x)->∀y∈CO d n i o,Sg d s y
 | 0,_,_,a=>a
 | n+1,i,o,a=>by
  unfold CO;split
  .rename_i hi;exact PM c b (RL c b (a _ (AL hi)) (λ_ h=>h) a)
  exact a
theorem mR {c:ByteArray} {o:List ByteArray} {x:AD} {y:ByteArray} (h:y∈o):y∈EM c o x:=by grind [EM]
theorem LQ {c:ByteArray} {y:ByteArray}:∀ {l:List AD} {o:List ByteArray},y∈o->y∈l.foldl (EM c) o
 | [],_,h=>h
 | x :: l,o,h=>by rw[No];exact LQ (mR h)
theorem JT {d:List AD} {y:ByteArray}:∀ {n i:Nat} {o:List ByteArray},y∈o->y∈CO d n i o
 | 0,_,_,h=>h
 | n+1,i,o,h=>by
  unfold CO;split
  .exact JT (LQ h)
  exact h
theorem FU {l:List ByteArray} {s x:ByteArray} (h:x∈C3 l s):x∈l\/x=s:=by grind [C3]
theorem LR {l:List ByteArray} {s x:ByteArray} (h:x∈l):x∈C3 l s:=by
 unfold C3;split
 .exact h
 have a:x∈l.take (SW l s)\/x∈l.drop (SW l s):=aT.1 (by rw[ABz];exact h);grind
theorem NF {l:List ByteArray} {s:ByteArray}:AR (C3 l s) s=true:=by
 unfold C3;grind [Hr,SW,AM,AR,B3]
theorem Gr {l:List ByteArray} {s:ByteArray} (h:s∈l):AR l s=true:=aS.2 ⟨s,h,B3 s⟩
theorem Gt {l m:List ByteArray} {s:ByteArray} (hs:∀x∈l,x∈m) (h:AR l s=true):AR m s=true:=by
 obtain⟨x,a,e⟩:=aS.1 h;exact aS.2 ⟨x,hs x a,e⟩
theorem NG:∀ {l o:List ByteArray} {x:ByteArray},x∈l.foldl C3 o->x∈o\/x∈l
 | [],_,_,h=>.inl h
 | y :: l,o,x,h=>by
  rw[No]at h;rcases NG h with h|h
  .grind [FU]
  grind
theorem Tf:∀ {l o:List ByteArray} {x:ByteArray},x∈o->x∈l.foldl C3 o
 | [],_,_,h=>h
 | y :: l,o,x,h=>by rw[No];exact Tf (LR h)
theorem Ko:∀ {l o:List ByteArray} {x:ByteArray},x∈l->AR (l.foldl C3 o) x=true
 | [],_,_,h=>by cases h
 | y :: l,o,x,h=>by
  rw[No];rcases Is.1 h with rfl|h
  .grind [Gt,Tf,NF]
  exact Ko h
theorem JU {d:List AD} {s:ByteArray} (h:0<=AY d s):AR (Ax d s) s=true:=by
 unfold Ax;rw[As oa];exact Ko (JT sa)
theorem RM {d:List AD} (f:A5 d=0) (c:d.length<=(BM d).length) {s x:ByteArray} (h:AR (Ax d s) x=true):Sg d s x:=by
 obtain⟨y,a,e⟩:=aS.1 h;have b:Sg d s y:=by
  unfold Ax at a;split at a
  .cases a
  rcases NG a with a|a
  .cases a
  refine PM f c (λz g=>?_) y a;have:z=s:=by simpa using g
  rw[this];exact .inl (B3 s)
 rcases b with b|b
 .exact .inl (BX b e)
 rw[HK d e]at b;exact .inr b
theorem CY {d:List AD} {s:ByteArray} (h:s∈AG d):∃x∈d,x.1=s:=by
 have key:∀(l:List AD) (o:List ByteArray),s∈l.foldl (λo x=>C3 o x.1) o->s∈o\/∃x∈l,x.1=s:=by
  intro l;induction l with
  | nil=>intro o h;exact .inl h
  | cons x l a =>
   intro o h;rw[No]at h;rcases a _ h with h|⟨y,b,e⟩
   .grind [FU]
   grind
 rcases key d [] h with h|h
 .cases h
 exact h
theorem ML {d:List AD} {x:AD} (h:x∈d):AR (AG d) x.1=true:=by
 have b:∀(l:List AD) (o:List ByteArray),∀y∈o,y∈l.foldl (λo x=>C3 o x.1) o:=by
  intro l;induction l with
  | nil=>intro o y h;exact h
  | cons x l a=>intro o y h;rw[No];exact a _ y (LR h)
 have key:∀(l:List AD) (o:List ByteArray),x∈l->AR (l.foldl (λo x=>C3 o x.1) o) x.1=true:=by
  intro l;induction l with
  | nil=>intro o h;cases h
  | cons y l a =>
   intro o h;rw[No];rcases Is.1 h with rfl|h
   .grind [Gt,NF]
   exact a _ h
 exact key d [] h
theorem XL {d:List AD} (m:A5 d=0) (l:d.length<=(BM d).length) (u:d.length<=256) {i j:Nat} (hi:i<(AG d).length) (k:j<(AG d).length)
  (h:Cc (DN d (AG d) ((AG d).getD i ByteArray.empty)) (DN d (AG d) ((AG d).getD j ByteArray.empty))=true):AM ((AG d).getD i ByteArray.empty) ((AG d).getD j ByteArray.empty)=true:=by
 have p:=DC d d.length;rw[TO]at p;have c:(AG d).length<=4096:=by omega
 generalize hs:(AG d).getD i ByteArray.empty=s at *;generalize f:(AG d).getD j ByteArray.empty=t at *;have q:0<=AY d s:=by
  obtain⟨x,g,e⟩:=CY (s:=s) (by rw[<-hs];exact AL hi);rw[<-e];exact CD g
 have r:0<=AY d t:=by
  obtain⟨x,g,e⟩:=CY (s:=t) (by rw[<-f];exact AL k);rw[<-e];exact CD g
 obtain⟨c1,w1,-⟩:=BQ (d:=d) c s i;obtain⟨c2,w2,-⟩:=BQ (d:=d) c t i;obtain⟨n,-,-⟩:=BQ (d:=d) c s j;obtain⟨o,-,-⟩:=BQ (d:=d) c t j;unfold Cc at h;rw[AT]at h;have a:=RM m l (c2.1 (Km w1 w2 h.1 (c1.2 ⟨hi,by rw[hs];exact JU q⟩))).2;have b:=RM m l (n.1 (Km w2 w1 h.2 (o.2 ⟨k,by rw[f];exact JU r⟩))).2;rw[hs]at a;rw[f]at b;rcases a with a|a
 .exact CX a
 rcases b with b|b
 .exact b
 omega
section
attribute [local go_sem] VD mC Ki qF zY
def RN (d:List AD) (all:List ByteArray) (codes:List (List Int)) (b:List Int):Nat->Nat->List ByteArray->ByteArray ⊕ List ByteArray
 | 0,_,l=>.inr l
 | n+1,i,l=>if Cc (codes.getD i []) b=true then .inl (all.getD i ByteArray.empty) else RN d all codes b n (i+1) (if Gh b (i:Int)=true then l++[all.getD i ByteArray.empty] else l)
def RO (l:List ByteArray) (s:ByteArray) (i:Nat):ByteArray:=(if 0<(i:Int) then s++ByteArray.mk #[38] else s)++l.getD i ByteArray.empty
def Im (l:List ByteArray):ByteArray:=(List.range l.length).foldl (RO l) ByteArray.empty
def CH (d:List AD) (all:List ByteArray) (codes:List (List Int)) (b:List Int):ByteArray :=
 match RN d all codes b all.length 0 [] with
 | .inl s=>s
 | .inr l=>Im (Ag d l)
theorem Lz {d:List AD} {x:ByteArray}:∀ {l o:List ByteArray},x∈l.foldl (Dl d) o->x∈o\/x∈l
 | [],_,h=>.inl h
 | y :: l,o,h=>by
  rw[No]at h;rcases Lz h with h|h
  .unfold Dl at h;split at h
   .rcases FU h with h|h
    .exact .inl h
    exact .inr (by simp[h])
   exact .inl h
  exact .inr (by simp[h])
theorem FW {d:List AD} {l:List ByteArray} {x:ByteArray} (h:x∈Ag d l):x∈l:=by
 unfold Ag Ik at h;obtain⟨i,hi,rfl⟩:=To.1 h;rw[tO,gO]at hi;rcases Lz (AL (d:=ByteArray.empty) hi.1) with h|h
 .cases h
 exact h
theorem NH (d:List AD) (l:List ByteArray):(Ag d l).length<=l.length:=f3 (RC _ _ _) (F0 d l)
theorem ZY {l:List ByteArray} (h:∀s∈l,s.size<=32) (k:Nat):(l.getD k ByteArray.empty).size<=32:=by
 rw[AS];cases a:l[k]? with
 | none=>simp
 | some x=>exact h x (AAj a)
def Io (l:List ByteArray) (n:Nat):ByteArray:=(List.range n).foldl (RO l) ByteArray.empty
theorem JV (l:List ByteArray) (n:Nat):Io l (n+1)=RO l (Io l n) n:=by
 unfold Io;rw[AA0,AAk];rfl
theorem MM {l:List ByteArray} (h:∀s∈l,s.size<=32):∀n,(Io l n).size<=33*n
 | 0=>by simp[Io]
 | n+1=>by
  have a:=MM h n;have b:=ZY h n;rw[JV];unfold RO;split
  .rw[ABn,ABn];have:(ByteArray.mk #[38]).size=1:=rfl;omega
  rw[ABn];omega
def VQ:Spec:={ ins:=[Aw,Ad,Pz,BZ],pre:=λ(d,all,codes,b,_)=>Hu d/\List.length d<=256/\List.length all<=256/\List.length codes=List.length all/\(∀s∈(all:List ByteArray),s.size<=32)/\(∀x∈(codes:List (List Int)),x.length<=64)/\List.length b<=64,out:=λ(d,all,codes,b,_)=>[.p T9 (CH d all codes b)] }
theorem gD:Ap Tryz.prog 60 VQ:=by
 refine fK [0,1,2,3,8,9,10,11,12,16,24,31,45,49] Tryz.func60 Tryz.ntmps60 (AF f2 (AF mD (AF RD AH))) ?_;rintro w0 O0 ⟨d,all,codes,b,u⟩ e-⟨hs,C,w,t,F,B,A⟩;have w:all.length<=256:=w;have t:codes.length=all.length:=t;simp only[VQ,AP];repeat'(first|exact trivial|apply eS rfl|refine rX e ?_ ?_)
 refine AJ (ι:={x:Nat×List ByteArray//x.1<=all.length/\x.2.length<=x.1/\(∀s∈x.2,s.size<=32)/\RN d all codes b (all.length-x.1) x.1 x.2=RN d all codes b all.length 0 []}) (λx=>⟨[(0,.p Aw d),(1,.p Ad all),(2,.p Pz codes),(3,.p BZ b),(9,.sr 38 T9 0 x.1.2.length),(10,.p (.int .i64) (x.1.1:Int))],[(38,.arr 9 T9 x.1.2)]⟩) (λx=>all.length-x.1.1) ⟨(0,[]),by simp,by simp,by simp,rfl⟩ (eW [(38,.nil)]) (λx=>?_)
 obtain⟨⟨i,l⟩,hi,E,q,f⟩:=x;simp only at hi E q f;have v:i<all.length->RN d all codes b (all.length-i) i l=if Cc (codes.getD i []) b=true then .inl (all.getD i ByteArray.empty) else RN d all codes b (all.length-(i+1)) (i+1) (if Gh b (i:Int)=true then l++[all.getD i ByteArray.empty] else l):=by
  intro h;rw[show all.length-i=(all.length-(i+1))+1 by omega];rfl
 simp only;repeat'(first|exact trivial|apply eS rfl|apply AB|refine rX e ?_ ?_|refine rC ?_ ?_<;>intro a<;>try(cases a;done))
 .exact⟨by rw[t];exact a,f3 (Kl B i) di,f3 A di⟩
 .assumption
 .have c:i<all.length:=by exact eV
  have n:CH d all codes b=all.getD i ByteArray.empty:=by
   unfold CH;rw[<-f,v c,At a]
  exact fI e [.tmp 8] (by rw[n];exact eR)
 .have c:i<all.length:=by exact eV
  exact⟨An.2 c,by simp only[AN];omega⟩
 .exact eV
 .have c:i<all.length:=by exact eV
  have j:=v c;rw[As (by rw[‹Cc _ _=false›];simp),At a]at j;refine⟨⟨(i+1,l++[all.getD i ByteArray.empty]),by simp only;omega,by simp only[YT,AAe];omega,?_,j.symm.trans f⟩,by simp only;omega,AC [(38,.nm 38)] rfl rfl ?_ ?_⟩
  .intro s hs;rcases aT.1 hs with hs|hs
   .exact q s hs
   have:s=all.getD i ByteArray.empty:=by simpa using hs
   rw[this];exact ZY F i
  .exact eN
  exact eN
 .exact eV
 .have c:i<all.length:=by exact eV
  have j:=v c;rw[As (by rw[‹Cc _ _=false›];simp),As (by rw[a];simp)]at j;exact⟨⟨(i+1,l),by simp only;omega,by simp only;omega,q,j.symm.trans f⟩,by simp only;omega,eW [(38,.nm 38)]⟩
 have n:CH d all codes b=Im (Ag d l):=by
  unfold CH;rw[<-f];have:all.length-i=0:=by exact eV
  rw[this];rfl
 refine DH [38] ?_;repeat'(first|exact trivial|apply eS rfl|refine rX e ?_ ?_)
 .exact⟨hs,C,by omega⟩
 have z:∀s∈Ag d l,s.size<=32:=λs h=>q s (FW h);have H:=NH d l;have D:Im (Ag d l)=Io (Ag d l) (Ag d l).length:=rfl;rw[D]at n;generalize Ag d l=m at *;refine AJ (ι:={k:Nat//k<=m.length}) (λk=>⟨[(9,.p Ad m),(11,.p T9 (Io m k.1)),(12,.p (.int .i64) (k.1:Int))],[]⟩) (λk=>m.length-k.1) ⟨0,BY _⟩ (AC [] rfl rfl ?_ ?_) (λk=>?_)
 .exact eN
 .refine eM ?_;rfl
 obtain⟨k,y⟩:=k;have y:k<=m.length:=y;have G:=MM z k;have o:=JV m k;have I:=ZY z k;unfold RO at o;simp only;repeat'(first|exact trivial|apply eS rfl|apply AB|refine rX e ?_ ?_|refine rC ?_ ?_<;>intro a<;>try(cases a;done))
 .have r:(ByteArray.mk #[38]).size=1:=rfl;rw[r];simp only[AN];exact eV
 .refine⟨by assumption,?_⟩;have r:(ByteArray.mk #[38]).size=1:=rfl;rw[ABn,r];simp only[AN];exact eV
 .exact eV
 .have g:k<m.length:=by exact eV
  rw[At a]at o;refine⟨⟨k+1,g⟩,by simp only;omega,AC [] rfl rfl ?_ ?_⟩
  .exact eN
  simp only[o];exact eN
 .refine⟨by assumption,?_⟩;simp only[AN];exact eV
 .exact eV
 .have g:k<m.length:=by exact eV
  rw[As (AAs.2 a)]at o;refine⟨⟨k+1,g⟩,by simp only;omega,AC [] rfl rfl ?_ ?_⟩
  .exact eN
  simp only[o];exact eN
 have g:k=m.length:=by exact eV
 rw[<-g]at n;exact fI e [.tmp 8] (by rw[n];exact eR)
end
section
attribute [local go_sem] Ht M9 mP VN VQ VM
def DS (x:AI) (out:List AI):Nat->Nat
 | 0=>0
 | n+1=>if D0 x (out.getD n c0)=true then DS x out n else n+1
def RP (out:List AI) (x:AI):List AI:=out.take (DS x out out.length)++[x]++out.drop (DS x out out.length)
def AK (d:List AD):List (List Int):=(AG d).map λs=>DN d (AG d) s
def Fl (d:List AD) (all:List ByteArray) (codes:List (List Int)) (out:List AI) (b:List Int):List AI:=RP out (CH d all codes b,b)
def MN (d:List AD):List AI->List Int->List AI:=Fl d (AG d) (AK d)
theorem MO (d:List AD) (all:List ByteArray) (codes:List (List Int)):∀(l:List (List Int)) (o:List AI),(l.foldl (Fl d all codes) o).length=o.length+l.length
 | [],o=>by simp
 | b :: l,o=>by
  rw[No,MO d all codes l];unfold Fl RP;simp only[YT,OS,AAM,iF,AB9];omega
theorem RQ {d:List AD} {all:List ByteArray} {codes:List (List Int)}:∀ {l:List (List Int)} {o:List AI},(∀c∈l,c.length<=64)->(∀y∈o,y.2.length<=64)->∀y∈l.foldl (Fl d all codes) o,y.2.length<=64
 | [],_,_,e=>e
 | b :: l,o,f,e=>by
  rw[No];refine RQ (λc g=>f c (by simp[g])) (λy a=>?_);unfold Fl RP at a;simp only[aT,nO]at a;rcases a with (a|a)|a
  .exact e y (AAv a)
  .rw[a];exact f b sa
  exact e y (ABf a)
theorem XM (x:AI) (out:List AI):∀n,DS x out n<=n
 | 0=>If _
 | n+1=>by
  unfold DS;split
  .exact Nat.le_succ_of_le (XM x out n)
  exact If _
def AE (d:List AD):List AI:=(AO (AK d)).foldl (MN d) []
def A6 (d:List AD):List AI×Int :=
 if AU d≠0 then ([],AU d) else if 256<(AO (AK d)).length then ([],7) else (AE d,0)
theorem ZZ {s:ByteArray} {b:Bool} (h:Bc s b=true):s.size<=32:=by
 unfold Bc at h;rw[AT]at h;have a:=h.1;unfold Kb at a;simp only[OF,wT,IF]at a;have:=a.1.1.2;omega
theorem PN {d:List AD} (b:A5 d=0):∀s∈AG d,s.size<=32:=by
 intro s hs;obtain⟨x,c,rfl⟩:=CY hs;obtain⟨j,a,rfl⟩:=BJ d0 c;exact ZZ (Hx b j a).2
def HL (d:List AD) (n:Nat):List (List Int):=((AG d).take n).map λs=>DN d (AG d) s
theorem JW {d:List AD} {n:Nat} (h:n<=(AG d).length):(HL d n).length=n:=by simp[HL,h]
theorem PO {d:List AD} {n:Nat} (h:n<(AG d).length):HL d (n+1)=HL d n++[DN d (AG d) ((AG d).getD n ByteArray.empty)]:=by
 unfold HL;rw[Ai _ ByteArray.empty h,AA7];rfl
theorem RR (d:List AD):HL d (AG d).length=AK d:=by simp[HL,AK]
theorem MP (d:List AD):(AK d).length=(AG d).length:=by simp[AK]
theorem JX {d:List AD} (h:d.length<=256):∀c∈AK d,c.length<=64:=by
 intro c a;unfold AK at a;obtain⟨s,-,rfl⟩:=To.1 a;have b:=DC d d.length;rw[TO]at b;exact(BQ (d:=d) (all:=AG d) oa s 0).2.2
theorem XN {i:Nat}:∀ {n k:Nat} {l:List (List Int)},(∀c∈l,c.length<=64)->∀c∈D2 i n k l,c.length<=64
 | 0,_,_,h=>h
 | n+1,k,l,h=>by
  unfold D2;split
  .exact XN (XG h i k)
  exact h
theorem NI:∀ {n i:Nat} {l:List (List Int)},(∀c∈l,c.length<=64)->∀c∈GC n i l,c.length<=64
 | 0,_,_,h=>h
 | n+1,i,l,h=>by
  unfold GC;split
  .exact NI (XN h)
  exact h
theorem NJ {out:List AI} {x y:AI}:y∈RP out x↔y=x\/y∈out:=by
 unfold RP;rw[aT,aT,nO];have h:=aT (a:=y) (s:=out.take (DS x out out.length)) (t:=out.drop (DS x out out.length));rw[ABz]at h;rw[h];constructor
 .rintro ((h|h)|h)
  .exact .inr (.inl h)
  .exact .inl h
  exact .inr (.inr h)
 rintro (h|h|h)
 .exact .inl (.inr h)
 .exact .inl (.inl h)
 exact .inr h
def OO:Spec:={ ins:=[Aw],pre:=λ_=>True,out:=λ(d,_)=>[.p Bi (A6 d).1,.p Es (A6 d).2] }
theorem NK:Ap Tryz.prog 30 OO:=by
 refine fK [0,2,3,4,5,6,7,8,9,10,11,12,13,17,24,41,45,73] Tryz.func30 Tryz.ntmps30 (AF f8 (AF TV (AF tJ (AF gB (AF gD (AF f9 AH)))))) ?_;rintro w0 O0 ⟨d,u⟩ g - -;simp only[OO,AP];repeat'(first|exact trivial|apply eS rfl|refine rX g ?_ ?_|refine rC ?_ ?_<;>intro a<;>try(cases a;done))
 .have s:A6 d=([],AU d):=by unfold A6;rw[At a]
  exact fI g [.tmp 2,.tmp 3] (by rw[s];exact eR)
 .have i:AU d=0:=by simpa using a
  obtain⟨-,F,-⟩:=Ab i;exact f3 F di
 have i:AU d=0:=by simpa using a
 obtain⟨P,t,-,K,-⟩:=Ab i;have G:=DC d d.length;rw[TO]at G;have Q:=PN K;refine AJ (ι:={n:Nat//n<=(AG d).length}) (λn=>⟨[(0,.p Aw d),(5,.p Ad (AG d)),(6,.sr 36 BZ 0 (HL d n.1).length),(7,.p (.int .i64) (n.1:Int))],[(36,.arr 38 BZ (HL d n.1))]⟩) (λn=>(AG d).length-n.1) ⟨0,BY _⟩ (AC [(36,.nil)] rfl rfl ?_ ?_) (λn=>?_)
 .refine eM ?_;rfl
 .refine eM ?_;rfl
 obtain⟨n,L⟩:=n;have S:=JW L;have hs:=λh=>PO (d:=d) (n:=n) h;simp only;repeat'(first|exact trivial|apply eS rfl|apply AB|refine rX g ?_ ?_|refine rC ?_ ?_<;>intro a<;>try(cases a;done))
 .refine⟨a,⟨t,by dsimp only[Ty.den]at *;omega⟩,?_⟩;simp only[AN];dsimp only[Ty.den]at *;omega
 .exact eV
 .have x:n<(AG d).length:=by exact eV
  have e:=hs x;refine⟨⟨n+1,by omega⟩,by simp only;omega,AC [(36,.nm 36)] rfl rfl ?_ ?_⟩
  .simp only[e];exact eN
  simp only[e];exact eN
 have x:n=(AG d).length:=by exact eV
 subst x;rw[RR];have I:=MP d;have y:=JX t;have v:∀c∈AO (AK d),c.length<=64:=NI y;refine DH [36] ?_;repeat'(first|exact trivial|apply eS rfl|refine rX g ?_ ?_|refine rC ?_ ?_<;>intro a<;>try(cases a;done))
 .exact⟨by omega,y⟩
 .have s:A6 d=([],7):=by
   unfold A6;rw[As (by rw[i];simp),At oa]
  exact fI g [.tmp 2,.tmp 3] (by rw[s];exact eR)
 have E:A6 d=((AO (AK d)).foldl (Fl d (AG d) (AK d)) [],0):=by
  unfold A6;rw[As (by rw[i];simp),As oa];rfl
 generalize AO (AK d)=f at *;generalize AK d=codes at *;generalize AG d=all at *;refine AJ (ι:={k:Nat//k<=f.length}) (λk=>⟨[(0,.p Aw d),(5,.p Ad all),(6,.p Pz codes),(8,.p Pz f),(9,.sr 9 Bv 0 ((f.take k.1).foldl (Fl d all codes) []).length),(10,.p (.int .i64) (k.1:Int))],[(9,.arr 61 Bv ((f.take k.1).foldl (Fl d all codes) []))]⟩) (λk=>f.length-k.1) ⟨0,BY _⟩ (AC [(9,.nil)] rfl rfl ?_ ?_) (λk=>?_)
 .refine eM ?_;rfl
 .refine eM ?_;rfl
 obtain⟨k,J⟩:=k;have D:=MO d all codes (f.take k) [];have R:(f.take k).length=k:=by rw[OS];exact ACj J
 have M:=RQ (d:=d) (all:=all) (codes:=codes) (l:=f.take k) (o:=[]) (λc g=>v c (AAv g)) sa;have O:=λh:k<f.length=>Ce (Fl d all codes) f [] [] h;rw[R]at D;simp only[AB9,AAO]at D;generalize C:(f.take k).foldl (Fl d all codes) []=out at *;simp only;repeat'(first|exact trivial|apply eS rfl|refine rX g ?_ ?_|refine rC ?_ ?_<;>intro a<;>try(cases a;done))
 .exact⟨a,⟨P,t,by omega,I,Q,y,Kl v k⟩,a⟩
 .have w:k<f.length:=by exact eV
  have e:=O w;have H:=Kl v k;generalize f.getD k []=b at *;unfold Fl at e;generalize CH d all codes b=nm at *;refine AJ (ι:={q:Nat//q<=out.length/\DS (nm,b) out q=DS (nm,b) out out.length}) (λq=>⟨[(0,.p Aw d),(5,.p Ad all),(6,.p Pz codes),(8,.p Pz f),(9,.sr 9 Bv 0 out.length),(10,.p (.int .i64) (k:Int)),(11,.bp 11 [] 0),(12,.p (.int .i64) (q.1:Int))],[(9,.arr 61 Bv out),(11,.box 61 true [.p T9 nm,.p BZ b])]⟩) (λq=>q.1) ⟨out.length,If _,rfl⟩ (eW [(9,.nm 9),(11,.nm 11)]) (λq=>?_)
  obtain⟨q,j,B⟩:=q;have j:q<=out.length:=j;simp only;repeat'(first|exact trivial|apply eS rfl|apply AB|refine rX g ?_ ?_|refine rC ?_ ?_<;>intro a<;>try(cases a;done))
  .refine⟨λh=>by omega,λh=>by exact eV,λh=>⟨f3 H di,f3 (M _ (AW out c0 (k:=((q:Int)-1).toNat) oa)) di⟩⟩
  .omega
  .obtain⟨g1,A⟩:=a;obtain⟨q,rfl⟩:∃r,q=r+1:=⟨q-1,by omega⟩;have m:((q+1:Nat):Int)-1=(q:Int):=by omega
   refine⟨⟨q,by omega,?_⟩,ABd q,AC [(9,.nm 9),(11,.nm 11)] rfl rfl ?_ ?_⟩
   .rw[<-B];rw[m,AA4]at A;show _=if D0 (nm,b) (out.getD q c0)=true then DS (nm,b) out q else q+1
    rw[At A]
   .exact eN
   refine eM ?_;show (q:Int)+1-1=q;omega
  .refine⟨NO.2 j,?_⟩;rw[OS];simp only[AN];omega
  .rw[OS];simp only[AN];omega
  .refine⟨NO.2 j,?_⟩;rw[OS,AAM];simp only[AN];omega
  .omega
  have N:DS (nm,b) out q=q:=by
   cases q with
   | zero=>rfl
   | succ q =>
    have m:((q+1:Nat):Int)-1=(q:Int):=by omega
    have:=a oa;rw[m,AA4]at this;show (if D0 (nm,b) (out.getD q c0)=true then DS (nm,b) out q else q+1)=q+1;rw[As (by rw[this];simp)]
  unfold RP at e;rw[<-B,N]at e;refine⟨⟨k+1,by omega⟩,by simp only;omega,AC [(9,.nm 80)] rfl rfl ?_ ?_⟩
  .refine eM ?_;exact e.symm
  refine eM ?_;have z:=p7 List.length e;rw[YT,YT]at z;exact z.symm
 have w:k=f.length:=by exact eV
 rw[w,TO]at C;rw[C]at E;refine DH [9] ?_;exact fI g [.tmp 2,.tmp 3] (by rw[E];exact eR)
end
theorem Tg {d:List AD}:∀ {l:List (List Int)} {o:List AI} {y:AI},y∈l.foldl (MN d) o↔y∈o\/∃b∈l,y=(CH d (AG d) (AK d) b,b)
 | [],o,y=>by simp
 | b :: l,o,y=>by
  rw[No,Tg];unfold MN Fl;rw[NJ];simp only[Is];constructor
  .rintro ((h|h)|⟨c,a,e⟩)
   .exact .inr ⟨b,.inl rfl,h⟩
   .exact .inl h
   exact .inr ⟨c,.inr a,e⟩
  rintro (h|⟨c,rfl|a,e⟩)
  .exact .inl (.inr h)
  .exact .inl (.inl e)
  exact .inr ⟨c,a,e⟩
theorem CE {d:List AD} {y:AI}:y∈AE d↔∃b∈AO (AK d),y=(CH d (AG d) (AK d) b,b):=by
 unfold AE;rw[Tg];simp
theorem Ey (d:List AD):(AE d).length=(AO (AK d)).length:=by
 have h:=MO d (AG d) (AK d) (AO (AK d)) [];rw[AB9,AAO]at h;exact h
theorem mS {l:List (List Int)} {i k:Nat} {c:List Int} (h:c∈l):c∈Cs l i k:=by
 unfold Cs;split
 .exact aT.2 (.inl h)
 exact h
theorem XO {i:Nat} {c:List Int}:∀ {n k:Nat} {l:List (List Int)},c∈l->c∈D2 i n k l
 | 0,_,_,h=>h
 | n+1,k,l,h=>by
  unfold D2;split
  .exact XO (mS h)
  exact h
theorem XP {c:List Int}:∀ {n i:Nat} {l:List (List Int)},c∈l->c∈GC n i l
 | 0,_,_,h=>h
 | n+1,i,l,h=>by
  unfold GC;split
  .exact XP (XO h)
  exact h
theorem Hy (d:List AD) {i:Nat} (h:i<(AG d).length):(AK d).getD i []=DN d (AG d) ((AG d).getD i ByteArray.empty):=by
 unfold AK;simp[AS,h]
theorem cQ {d:List AD} (g:A5 d=0) (f:d.length<=(BM d).length) (c:d.length<=256) {j:Nat} (b:j<(AG d).length):∀(m i:Nat) (l:List ByteArray),i+m=(AG d).length->i<=j ->
  ∃s,RN d (AG d) (AK d) ((AK d).getD j []) m i l=.inl s/\AM s ((AG d).getD j ByteArray.empty)=true
 | 0,i,l,h,k=>by omega
 | m+1,i,l,h,k=>by
  unfold RN;split
  .rename_i a;refine⟨_,rfl,?_⟩;rw[Hy d oa,Hy d b]at a;exact XL g f c oa b a
  rename_i a;have n:i≠j:=by
   intro e;subst e;exact a (XK _)
  exact cQ g f c b m (i+1) _ oa oa
theorem cR (s:ByteArray):∀(l:List AI) (k:Nat),IK s k l<((k+l.length:Nat):Int)
 | [],k=>by simp only[IK];omega
 | x :: l,k=>by
  simp only[IK];split
  .simp only[iF];omega
  have:=cR s l (k+1);simp only[iF];omega
theorem cS (s:ByteArray):∀(l:List AI) (k:Nat) (x:AI),x∈l->AM x.1 s=true->0<=IK s k l
 | [],_,_,h,_=>by cases h
 | y :: l,k,x,h,e=>by
  simp only[IK];split
  .omega
  rename_i a;rcases Is.1 h with rfl|h
  .exact absurd e a
  exact cS s l (k+1) x h e
theorem HN (l:List AI) (s:ByteArray):A7 l s<(l.length:Int):=by
 have:=cR s l 0;rw[AAO]at this;exact this
theorem Kp {d:List AD} (h:AU d=0) {s:ByteArray} (hs:AR (AG d) s=true):0<=A7 (AE d) s:=by
 obtain⟨-,b,-,g,f⟩:=Ab h;obtain⟨t,i,e⟩:=aS.1 hs;obtain⟨j,c,rfl⟩:=BJ ByteArray.empty i;obtain⟨u,k,a⟩:=cQ g f b c (AG d).length 0 [] oa oa;have l:(AK d).length=(AG d).length:=by simp[AK]
 refine cS s (AE d) 0 (u,(AK d).getD j []) ?_ (BX a e);rw[CE];refine⟨(AK d).getD j [],XP (AL oa),?_⟩;unfold CH;rw[k]
theorem Hz {d:List AD} (h:AU d=0) {x:AD} (a:x∈d):0<=A7 (AE d) x.1:=Kp h (ML a)
theorem B5 {d:List AD} (h:(A6 d).2=0):AU d=0/\(AO (AK d)).length<=256/\(A6 d).1=AE d:=by
 unfold A6 at h ⊢;split at h
 .rename_i a;exact absurd h a
 rename_i a;split at h
 .cases h
 rename_i b;exact⟨IN a,by omega,by rw[As a,As b]⟩
theorem tN {d:List AD} (h:AU d=0):0<(AE d).length:=by
 obtain⟨-,-,a,-,-⟩:=Ab h;cases d with
 | nil=>cases a
 | cons x d =>
  have:=Hz h (x:=x) sa;have b:=HN (AE (x :: d)) x.1;omega
section
attribute [local go_sem] cN
def yO (l:List AI) (i k:Int) (m:Nat):Bool:=(m:Int)==i||(m:Int)==k||!Jv l k (m:Int)||!Jv l (m:Int) i
def gE (l:List AI) (i k:Int) (n:Nat):Bool:=(List.range n).all (yO l i k)
def gF (l:List AI) (i:Int) (k:Nat):Bool:=!((k:Int)==i||!Jv l (k:Int) i)&&gE l i (k:Int) l.length
def L0 (l:List AI) (i:Int) (n:Nat):List Int:=((List.range n).filter λ(k:Nat)=>gF l i k).map λ(k:Nat)=>(k:Int)
def Th (l:List AI) (i:Int):List Int:=L0 l i l.length
theorem Za (l:List AI) (i:Int) (n:Nat):L0 l i (n+1)=L0 l i n++if gF l i n=true then [(n:Int)] else []:=by
 unfold L0;rw[AA0,AAm,AA7]
 congr 1
 rw[AAa,AAC];split<;>rfl
theorem gG (l:List AI) (i:Int) (n:Nat):(L0 l i n).length<=n:=by
 unfold L0;rw[Of];exact f3 (AA2 _ _) sa
theorem gH (l:List AI) (i k:Int) (n:Nat):gE l i k (n+1)=(gE l i k n&&yO l i k n):=by
 unfold gE;rw[AA0,ABA];simp
def mT:Spec:={ ins:=[Bi,T3],pre:=λ(l,i,_)=>((0:Int)<=i/\i<(List.length l:Int))/\List.length l<=256/\(∀x∈(l:List AI),x.2.length<=64),out:=λ(l,i,_)=>[.p Dj (Th l i)] }
theorem tP:Ap Tryz.prog 31 mT:=by
 refine fK [0,1,4,5,6,7,8,12,24,28,56] Tryz.func31 Tryz.ntmps31 (AF cO AH) ?_;rintro w0 O0 ⟨l,i,u⟩ c-⟨hi,j,q⟩;have j:l.length<=256:=j;have f:∀x∈(l:List AI),x.2.length<=100000:=λx h=>f3 (q x h) di;simp only[mT,AP];repeat'(first|exact trivial|apply eS rfl|refine rX c ?_ ?_)
 refine AJ (ι:={k:Nat//k<=l.length}) (λk=>⟨[(0,.p Bi l),(1,.p T3 i),(5,.sr 60 T3 0 (L0 l i k.1).length),(6,.p (.int .i64) (k.1:Int))],[(60,.arr 3 T3 (L0 l i k.1))]⟩) (λk=>l.length-k.1) ⟨0,BY _⟩ (AC [(60,.nil)] rfl rfl ?_ ?_) (λk=>?_)
 .refine eM ?_;rfl
 .refine eM ?_;rfl
 obtain⟨k,g⟩:=k;have g:k<=l.length:=g;have r:=gG l i k;have hs:=Za l i k;simp only;repeat'(first|exact trivial|apply eS rfl|apply AB|refine rX c ?_ ?_|refine rC ?_ ?_<;>intro a<;>try(cases a;done))
 .intro h;exact⟨by assumption,hi,f⟩
 .exact eV
 .have e:k<l.length:=by exact eV
  have b:gF l i k=false:=by
   unfold gF;rw[AA1];left;rw[AAP,bY,AA9,OF];exact a
  rw[b,As sa,AAb]at hs;refine⟨⟨k+1,by omega⟩,by simp only;omega,AC [(60,.nm 60)] rfl rfl ?_ ?_⟩
  .simp only[hs];exact eN
  simp only[hs];exact eN
 .have e:k<l.length:=by exact eV
  have b:gF l i k=gE l i (k:Int) l.length:=by
   unfold gF;rw[show ((k:Int)==i||!Jv l (k:Int) i)=false by
    rw[wT,AAI,AAP];exact a]
   rfl
  refine AJ (ι:={m:Nat//m<=l.length}) (λm=>⟨[(0,.p Bi l),(1,.p T3 i),(5,.sr 60 T3 0 (L0 l i k).length),(6,.p (.int .i64) (k:Int)),(7,.p .bool (gE l i (k:Int) m.1)),(8,.p (.int .i64) (m.1:Int))],[(60,.arr 3 T3 (L0 l i k))]⟩) (λm=>l.length-m.1) ⟨0,BY _⟩ (AC [(60,.nm 60)] rfl rfl ?_ ?_) (λm=>?_)
  .exact eN
  .refine eM ?_;rfl
  obtain⟨m,n⟩:=m;have n:m<=l.length:=n;have o:=gH l i (k:Int) m;simp only;repeat'(first|exact trivial|apply eS rfl|apply AB|refine rX c ?_ ?_|refine rC ?_ ?_<;>intro a<;>try(cases a;done))
  .exact⟨λh=>⟨by assumption,a,f⟩,λh=>⟨a,hi,f⟩⟩
  .exact eV
  .have d:m<l.length:=by exact eV
   refine⟨⟨m+1,by omega⟩,by simp only;omega,AC [(60,.nm 60)] rfl rfl ?_ ?_⟩
   .exact eN
   simp only[o];unfold yO;exact eN
  .simp only[AN];dsimp only[Ty.den]at *;omega
  .exact eV
  .have d:m=l.length:=by exact eV
   subst d;rw[b,At a]at hs;refine⟨⟨k+1,by omega⟩,by simp only;omega,AC [(60,.nm 60)] rfl rfl ?_ ?_⟩
   .simp only[hs];exact eN
   simp only[hs];exact eN
  .exact eV
  have d:m=l.length:=by exact eV
  subst d;rw[b,As (by rw[a];simp),AAb]at hs;refine⟨⟨k+1,by omega⟩,by simp only;omega,AC [(60,.nm 60)] rfl rfl ?_ ?_⟩
  .simp only[hs];exact eN
  simp only[hs];exact eN
 have e:k=l.length:=by exact eV
 subst e;refine DH [60] ?_;exact fI c [.tmp 4] (by unfold Th;exact eR)
end
section
attribute [local go_sem] M9 M8 IJ
abbrev FV:=ByteArray×ByteArray
abbrev Kq:FV:=(ByteArray.empty,ByteArray.empty)
def VR (all:List ByteArray) (l:List FV):Nat->List FV->Int
 | _,[]=>0
 | k,x :: r=>if Bc x.1 true=false then 1 else if ((l.take k).any λy=>AM y.1 x.1)=true then 4 else if AR all x.2=false then 5 else VR all l (k+1) r
def RS (all:List ByteArray):List AD->Int
 | []=>0
 | x :: l=>if VR all x.2.2 0 x.2.2≠0 then VR all x.2.2 0 x.2.2 else RS all l
def Dx (d:List AD):Int:=RS (AG d) d
theorem RT (all:List ByteArray) (l:List FV) {k:Nat} (h:k<l.length):VR all l k (l.drop k)=if Bc (l.getD k Kq).1 true=false then 1 else if ((l.take k).any λy=>AM y.1 (l.getD k Kq).1)=true then 4 else if AR all (l.getD k Kq).2=false then 5 else VR all l (k+1) (l.drop (k+1)):=by
 rw[iS h];have e:l.getD k Kq=l[k]:=by simp[AS,h]
 rw[e];rfl
theorem OP (all:List ByteArray) (l:List AD) {k:Nat} (h:k<l.length):RS all (l.drop k)=if VR all (l.getD k d0).2.2 0 (l.getD k d0).2.2≠0 then VR all (l.getD k d0).2.2 0 (l.getD k d0).2.2 else RS all (l.drop (k+1)):=by
 rw[iS h];have e:l.getD k d0=l[k]:=by simp[AS,h]
 rw[e];rfl
def Zb:Spec:={ ins:=[Aw],pre:=λ(d,_)=>List.length d<=256,out:=λ(d,_)=>[.p Es (Dx d)] }
theorem mU:Ap Tryz.prog 93 Zb:=by
 refine fK [0,2,3,4,5,6,7,13,24,33,36,49,57] Tryz.func93 Tryz.ntmps93 (AF TV (AF ZN (AF GA AH))) ?_;rintro w0 O0 ⟨d,u⟩ e ⟨⟨z,w⟩,-⟩ n;have n:d.length<=256:=n;simp only[Zb,AP];repeat'(first|exact trivial|apply eS rfl|refine rX e ?_ ?_)
 .exact f3 n di
 have x:Dx d=RS (AG d) d:=rfl;rw[x];generalize AG d=all at *;refine AJ (ι:={i:Nat//i<=d.length/\RS all (d.drop i)=RS all d}) (λi=>⟨[(0,.p Aw d),(3,.p Ad all),(4,.p (.int .i64) (i.1:Int))],[]⟩) (λi=>d.length-i.1) ⟨0,BY _,rfl⟩ (eW []) (λi=>?_)
 obtain⟨i,hi,b⟩:=i;simp only;repeat'(first|exact trivial|apply eS rfl|refine rX e ?_ ?_|refine rC ?_ ?_<;>intro a<;>try(cases a;done))
 .exact a
 .have q:i<d.length:=by exact eV
  rw[OP all d q]at b;have B:(d.getD i d0).2.2.length<=AN:=(w _ (AW d d0 q)).2.2.1;have A:(List.getD d i (ByteArray.empty,[],[])).2.2=(d.getD i d0).2.2:=rfl;rw[A];generalize (d.getD i d0).2.2=l at *;simp only[AN]at B;refine AJ (ι:={k:Nat//k<=l.length/\VR all l k (l.drop k)=VR all l 0 l}) (λk=>⟨[(0,.p Aw d),(3,.p Ad all),(4,.p (.int .i64) (i:Int)),(5,.p Lx l),(6,.p (.int .i64) (k.1:Int))],[]⟩) (λk=>l.length-k.1) ⟨0,BY _,rfl⟩ (eW []) (λk=>?_)
  obtain⟨k,D,c⟩:=k;have s:=λh:k<l.length=>RT all l h;simp only;repeat'(first|exact trivial|apply eS rfl|apply AB|refine rX e ?_ ?_|refine rC ?_ ?_<;>intro a<;>try(cases a;done))
  .exact a
  .have f:k<l.length:=by exact eV
   rw[s f,At a]at c;rw[<-c,At di]at b;exact fI e [.tmp 2] (by rw[<-b];exact eR)
  .have f:k<l.length:=by exact eV
   have r:(k:Int)<(l.length:Int):=An.2 f;rw[s f,As (by rw[a];simp)]at c;refine AJ (ι:={m:Nat//m<=k/\((l.take m).any λy=>AM y.1 (l.getD k Kq).1)=false}) (λm=>⟨[(0,.p Aw d),(3,.p Ad all),(4,.p (.int .i64) (i:Int)),(5,.p Lx l),(6,.p (.int .i64) (k:Int)),(7,.p (.int .i64) (m.1:Int))],[]⟩) (λm=>k-m.1) ⟨0,BY _,rfl⟩ (eW []) (λm=>?_)
   obtain⟨m,E,j⟩:=m;have t:=λh:m<l.length=>LM l Kq (λy=>AM y.1 (l.getD k Kq).1) h;simp only;repeat'(first|exact trivial|apply eS rfl|apply AB|refine rX e ?_ ?_|refine rC ?_ ?_<;>intro a<;>try(cases a;done))
   .have C:(m:Int)<(k:Int):=a;exact⟨by exact eV,r⟩
   .have g:m<k:=An.1 (by assumption);have o:=t oa;have v:((l.take k).any λy=>AM y.1 (l.getD k Kq).1)=true:=by
     rw[aS];exact⟨l.getD m Kq,by
      rw[AAS];refine⟨m,by omega,?_⟩;simp[AS,show m<l.length by omega],a⟩
    rw[At v]at c;rw[<-c,At di]at b;exact fI e [.tmp 2] (by rw[<-b];exact eR)
   .omega
   .have g:m<k:=An.1 (by assumption);have o:=t oa;refine⟨⟨m+1,by omega,?_⟩,by simp only;omega,AC [] rfl rfl ?_ ?_⟩
    .rw[o,j];exact a
    .exact eN
    exact eN
   .exact r
   .have g:m=k:=by omega
    subst g;rw[As (by rw[j];simp),At a]at c;rw[<-c,At di]at b;exact fI e [.tmp 2] (by rw[<-b];exact eR)
   .have:=z;simp only[AN]at this;omega
   have g:m=k:=by omega
   subst g;rw[As (by rw[j];simp),As (by rw[a];simp)]at c;exact⟨⟨m+1,by omega,c⟩,by simp only;omega,eW []⟩
  .omega
  have f:l.drop k=[]:=OR (NO.1 a);rw[f]at c;rw[<-c,As (by simp[VR])]at b;exact⟨⟨i+1,by omega,b⟩,by simp only;omega,eW []⟩
 have f:d.drop i=[]:=OR (by exact eV);rw[f]at b;exact fI e [.tmp 2] (by rw[<-b];first|exact eR|refine qD ?_;rfl)
end
section
attribute [local go_sem] VL VC Ki qF
def Ip (s:ByteArray) (o:List ByteArray) (x:AD):List ByteArray:=if (Bk x s).2=true then C3 o x.1 else o
def GT (d:List AD) (s:ByteArray):List ByteArray:=d.foldl (Ip s) []
theorem Zc (s:ByteArray) (d:List AD) (k:Nat):(GT (d.take k) s).length<=k:=by
 have key:∀(l:List AD) (o:List ByteArray),(l.foldl (Ip s) o).length<=o.length+l.length:=by
  intro l;induction l with
  | nil=>intro o;simp
  | cons x l c =>
   intro o;have a:=c (Ip s o x);have b:(Ip s o x).length<=o.length+1:=by
    unfold Ip;split
    .exact Kg o x.1
    omega
   simp only[No,iF];omega
 have a:=key (d.take k) [];have b:=AA6 k d;unfold GT;simp only[AB9]at a;omega
def Ez (d:List AD) (s:ByteArray):ByteArray×Bool:=if (Ag d (GT d s)).length=1 then ((Ag d (GT d s)).getD 0 ByteArray.empty,true) else (ByteArray.empty,false)
def VS:Spec:={ ins:=[Aw,T9],pre:=λ(d,_,_)=>Hu d/\List.length d<=256,out:=λ(d,s,_)=>[.p T9 (Ez d s).1,.p .bool (Ez d s).2] }
theorem XQ:Ap Tryz.prog 63 VS:=by
 refine fK [0,1,4,5,6,7,9,10,14,26,39] Tryz.func63 Tryz.ntmps63 (AF XE (AF OB (AF RD AH))) ?_;rintro w0 O0 ⟨d,s,u⟩ c-⟨m,g⟩;have g:d.length<=256:=g;simp only[VS,AP];repeat'(first|exact trivial|apply eS rfl|refine rX c ?_ ?_)
 refine AJ (ι:={i:Nat//i<=d.length}) (λi=>⟨[(0,.p Aw d),(1,.p T9 s),(6,.p Ad (GT (d.take i.1) s)),(7,.p (.int .i64) (i.1:Int))],[]⟩) (λi=>d.length-i.1) ⟨0,BY _⟩ (AC [] rfl rfl ?_ ?_) (λi=>?_)
 .exact eN
 .refine eM ?_;rfl
 obtain⟨i,hi⟩:=i;have hi:i<=d.length:=hi;have n:=Zc s d i;have hs:=λh:i<d.length=>Ce (Ip s) d d0 [] h;have k:∀e,GT e s=e.foldl (Ip s) []:=λ_=>rfl;rw[<-k,<-k]at hs;unfold Ip at hs;simp only;repeat'(first|exact trivial|apply eS rfl|apply AB|refine rX c ?_ ?_|refine rC ?_ ?_<;>intro a<;>try(cases a;done))
 .exact a
 .exact⟨by assumption,by omega⟩
 .exact eV
 .have b:i<d.length:=by exact eV
  have e:=hs b;rw[At a]at e;refine⟨⟨i+1,by omega⟩,by simp only;omega,AC [] rfl rfl ?_ ?_⟩
  .exact eN
  simp only[e];exact eN
 .exact eV
 .have b:i<d.length:=by exact eV
  have e:=hs b;rw[As (by rw[a];simp)]at e;refine⟨⟨i+1,by omega⟩,by simp only;omega,AC [] rfl rfl ?_ ?_⟩
  .exact eN
  simp only[e];exact eN
 .exact⟨m,g,by omega⟩
 .have b:d.take i=d:=By (by exact eV);rw[b]at a ⊢;have f:Ez d s=(ByteArray.empty,false):=by
   unfold Ez;rw[As oa]
  exact fI c [.tmp 4,.tmp 5] (by rw[f];first|exact eR|refine qD ?_;first|rfl|exact⟨rfl,rfl⟩)
 .have j:((Ag d (GT (d.take i) s)).length:Int)=1:=by simpa using a
  have l:(0:Int)<((Ag d (GT (d.take i) s)).length:Int):=by rw[j];decide
  exact l
 have b:d.take i=d:=By (by exact eV);rw[b]at a ⊢;have j:((Ag d (GT d s)).length:Int)=1:=by simpa using a
 have f:Ez d s=((Ag d (GT d s)).getD 0 ByteArray.empty,true):=by
  unfold Ez;rw[At oa]
 exact fI c [.tmp 4,.tmp 5] (by rw[f];exact eR)
end
section
attribute [local go_sem] VL P3 cN tG
def Iq (l:List AI) (t:Int) (s:ByteArray) (o:List Int×Bool) (x:AD):List Int×Bool :=
 if (!(Bk x s).2||!Jv l (A7 l x.1) t)=true then o else (DP o.1 (l.getD (A7 l (Bk x s).1).toNat c0).2,true)
def OQ (d:List AD) (l:List AI) (t:Int) (s:ByteArray):List Int×Bool:=d.foldl (Iq l t s) ((l.getD 0 c0).2,false)
def VT (d:List AD) (l:List AI):Prop:=(∀x∈d,0<=A7 l x.1)/\∀x∈d,∀y∈x.2.2,0<=A7 l y.2
theorem RU (s:ByteArray):∀(l:List (ByteArray×ByteArray)),(HI s l).2=true->∃y∈l,y.2=(HI s l).1
 | [],h=>by cases h
 | x :: l,h=>by
  simp only[HI]at h ⊢;split at h
  .rename_i a;rw[At a];exact⟨x,by simp,rfl⟩
  rename_i a;rw[As a];obtain⟨y,b,e⟩:=RU s l h;exact⟨y,by simp[b],e⟩
theorem VT.value {d:List AD} {l:List AI} (h:VT d l) {x:AD} (b:x∈d) {s:ByteArray} (a:(Bk x s).2=true):0<=A7 l (Bk x s).1:=by
 obtain⟨y,c,e⟩:=RU s x.2.2 a;have:=h.2 x b y c;rw[e]at this;exact this
theorem mV {l:List AI} (t:Int) (s:ByteArray) (x:AD) {o:List Int×Bool} (h:o.1.length<=64):(Iq l t s o x).1.length<=64:=by
 unfold Iq;split
 .exact h
 exact f3 (RI _ _) h
theorem RW {l:List AI} (t:Int) (s:ByteArray):∀(d:List AD) {o:List Int×Bool},o.1.length<=64->(d.foldl (Iq l t s) o).1.length<=64
 | [],_,h=>h
 | x :: d,_,h=>by rw[No];exact RW t s d (mV t s x h)
theorem XR (s:ByteArray):∀(l:List AI) (k:Nat),IK s k l<((k+l.length:Nat):Int)
 | [],k=>by simp only[IK];omega
 | x :: l,k=>by
  simp only[IK];split
  .simp only[iF];omega
  have:=XR s l (k+1);simp only[iF];omega
theorem PP (l:List AI) (s:ByteArray):A7 l s<(l.length:Int):=by
 have:=XR s l 0;rw[AAO]at this;exact this
def tQ:Spec:={ ins:=[Aw,Bi,T3,T9],pre:=λ(d,l,t,_,_)=>VT d l/\((0:Int)<=t/\t<(List.length l:Int))/\List.length l<=256/\(∀x∈(l:List AI),x.2.length<=64),out:=λ(d,l,t,s,_)=>[.p BZ (OQ d l t s).1,.p .bool (OQ d l t s).2] }
theorem mW:Ap Tryz.prog 54 tQ:=by
 refine fK [0,1,2,3,8,9,10,11,12,13,14,22,48] Tryz.func54 Tryz.ntmps54 (AF XE (AF Ta (AF cO (AF mE AH)))) ?_;rintro w0 O0 ⟨d,l,t,s,u⟩ f ⟨⟨A,G⟩,-⟩ ⟨r,j,n,w⟩;have n:l.length<=256:=n;have F:∀x∈(l:List AI),x.2.length<=100000:=λx h=>f3 (w x h) di;have q:0<List.length l:=An.1 (ABc j.1 j.2);simp only[AN]at A;simp only[tQ,AP];repeat'(first|exact trivial|apply eS rfl|refine rX f ?_ ?_)
 .exact An.2 q
 have m:OQ d l t s=d.foldl (Iq l t s) ((l.getD 0 c0).2,false):=rfl;have y:(l.getD 0 c0).2.length<=64:=w _ (AW l c0 q);have z:(List.getD l 0 (ByteArray.empty,[])).2=(l.getD 0 c0).2:=rfl;rw[z];generalize (l.getD 0 c0).2=c at *;refine AJ (ι:={i:Nat//i<=d.length}) (λi=>⟨[(0,.p Aw d),(1,.p Bi l),(2,.p T3 t),(3,.p T9 s),(10,.p .bool ((d.take i.1).foldl (Iq l t s) (c,false)).2),(11,.p BZ ((d.take i.1).foldl (Iq l t s) (c,false)).1),(12,.p (.int .i64) (i.1:Int))],[]⟩) (λi=>d.length-i.1) ⟨0,BY _⟩ (AC [] rfl rfl ?_ ?_) (λi=>?_)
 .exact eN
 .refine eM ?_;exact⟨rfl,rfl⟩
 obtain⟨i,hi⟩:=i;have hi:i<=d.length:=hi;have B:=RW (l:=l) t s (d.take i) (o:=(c,false)) y;have hs:=λh:i<d.length=>Ce (Iq l t s) d d0 (c,false) h;have E:=λh:i<d.length=>r.1 _ (AW d d0 h);have D:=λ(h:i<d.length) (g:(Bk (d.getD i d0) s).2=true)=>r.value (AW d d0 h) g;have k:∀o x,Iq l t s o x=(if (!(Bk x s).2||!Jv l (A7 l x.1) t)=true then o else (DP o.1 (l.getD (A7 l (Bk x s).1).toNat c0).2,true)):=λ_ _=>rfl;generalize v:(d.take i).foldl (Iq l t s) (c,false)=o at *;simp only;repeat'(first|exact trivial|apply eS rfl|apply AB|refine rX f ?_ ?_|refine rC ?_ ?_<;>intro a<;>try(cases a;done))
 .exact a
 .have b:i<d.length:=An.1 a;exact⟨λ_=>a,λ_=>⟨⟨E b,PP _ _⟩,j,F⟩⟩
 .exact eV
 .have b:i<d.length:=An.1 (by assumption);have e:=hs b;rw[k,At (by rw[bY,OF,OF];exact a)]at e;refine⟨⟨i+1,by omega⟩,by simp only;omega,AC [] rfl rfl ?_ ?_⟩
  .exact eN
  refine eM ?_;rw[e];exact⟨rfl,rfl⟩
 .have b:i<d.length:=An.1 (by assumption);exact⟨⟨D b a.1,PP _ _⟩,f3 B di⟩
 .exact eV
 .have b:i<d.length:=An.1 (by assumption);have e:=hs b;have C:¬(!(Bk (d.getD i d0) s).2||!Jv l (A7 l (d.getD i d0).1) t)=true:=by
   rw[bY,OF,OF];rintro (h|h)
   .rw[show (Bk (d.getD i d0) s).2=true from a.1]at h;cases h
   rw[show Jv l (A7 l (d.getD i d0).1) t=true from a.2]at h;cases h
  rw[k,As C]at e;refine⟨⟨i+1,by omega⟩,by simp only;omega,AC [] rfl rfl ?_ ?_⟩
  .exact eN
  refine eM ?_;rw[e];exact⟨rfl,rfl⟩
 have b:d.take i=d:=By (NO.1 a);rw[b]at v;rw[v]at m;exact fI f [.tmp 8,.tmp 9] (by rw[m];exact eR)
end
theorem PQ:∀ {l:List AD},Fj l=0->∀x∈l,x.2.1.length<=256/\x.2.2.length<=256
 | [],_,x,a=>by cases a
 | y :: l,h,x,a=>by
  simp only[Fj]at h;split at h
  .cases h
  rename_i b;rcases Is.1 a with rfl|a
  .exact⟨by omega,by omega⟩
  exact PQ h x a
theorem Gj {d:List AD} (h:AU d=0):∀x∈d,x.2.1.length<=256/\x.2.2.length<=256:=by
 have a:B2 d=0:=by
  unfold AU at h;split at h
  .rename_i a;exact absurd h a
  rename_i a;exact IN a
 unfold B2 at a;split at a
 .cases a
 exact PQ a
theorem JY {d:List AD} (h:AU d=0):∀x∈AE d,x.2.length<=64:=by
 intro x e;obtain⟨-,a,-⟩:=Ab h;obtain⟨b,c,rfl⟩:=CE.1 e;exact NI (JX a) b c
theorem XS {all:List ByteArray} {l:List FV}:∀ {r:List FV} {k:Nat},VR all l k r=0->∀y∈r,AR all y.2=true
 | [],_,_,y,a=>by cases a
 | x :: r,k,h,y,a=>by
  simp only[VR]at h;split at h
  .cases h
  split at h
  .cases h
  split at h
  .cases h
  rename_i b;rcases Is.1 a with rfl|a
  .simpa using b
  exact XS h y a
theorem LS {all:List ByteArray}:∀ {l:List AD},RS all l=0->∀x∈l,∀y∈x.2.2,AR all y.2=true
 | [],_,x,a=>by cases a
 | z :: l,h,x,a=>by
  simp only[RS]at h;split at h
  .rename_i b;exact absurd h b
  rename_i b;rcases Is.1 a with rfl|a
  .exact XS (IN b)
  exact LS h x a
theorem VU {d:List AD} (h:AU d=0) (b:Dx d=0):VT d (AE d) :=
 ⟨λx a=>Hz h a,λx a y c=>Kp h (LS b x a y c)⟩
theorem RY (l:List (List Int)) (i k:Nat):l <+: Cs l i k:=by
 unfold Cs;split
 .exact List.prefix_append _ _
 exact AB1 _
theorem RZ (i:Nat):∀(n k:Nat) (l:List (List Int)),l <+: D2 i n k l
 | 0,_,l=>AB1 l
 | n+1,k,l=>by
  unfold D2;split
  .exact(RY l i k).trans (RZ i n (k+1) _)
  exact AB1 l
theorem Kr:∀(n i:Nat) (l:List (List Int)),l <+: GC n i l
 | 0,_,l=>AB1 l
 | n+1,i,l=>by
  unfold GC;split
  .exact(RZ i i 0 l).trans (Kr n (i+1) _)
  exact AB1 l
theorem NL {l m:List (List Int)} (h:l <+: m) {k:Nat} (a:k<l.length):m.getD k []=l.getD k []:=by
 obtain⟨t,rfl⟩:=h;simp only[AS];rw[AA5 a]
def Jw (l:List (List Int)) (q p:Nat):Prop:=DP (l.getD q []) (l.getD p [])=[]\/DP (l.getD q []) (l.getD p [])∈l
theorem Jw.pre {l m:List (List Int)} (h:l <+: m) {q p:Nat} (b:q<l.length) (hp:p<l.length) (a:Jw l q p):Jw m q p:=by
 unfold Jw at a ⊢;rw[NL h b,NL h hp];rcases a with a|a
 .exact .inl a
 exact .inr (h.subset a)
theorem tR {l:List (List Int)} {b:List Int} (h:OI l b=true):b∈l:=by
 obtain⟨x,a,e⟩:=aS.1 h;have:x=b:=by simpa[GX] using e
 rw[<-this];exact a
theorem Zd {l:List (List Int)} {i k:Nat} (hi:i<l.length) (d:k<l.length):Jw (Cs l i k) i k:=by
 have hp:=RY l i k;unfold Jw;rw[NL hp hi,NL hp d];unfold Cs;split
 .right;simp
 rename_i a;rw[AT,Do,OF]at a;by_cases c:0<((DP (l.getD i []) (l.getD k [])).length:Int)
 .right;cases b:OI l (DP (l.getD i []) (l.getD k [])) with
  | true=>exact tR b
  | false=>exact absurd ⟨c,b⟩ a
 left;exact dO oa
theorem Ra {i:Nat}:∀ {n k:Nat} {l:List (List Int)},n+k=i->i<l.length->(D2 i n k l).length<=256->(∀p,p<k->Jw l i p)->∀p,p<i->Jw (D2 i n k l) i p
 | 0,k,l,c,hi,a,h=>λp hp=>h p oa
 | n+1,k,l,c,hi,a,h=>by
  unfold D2 at a ⊢;split at a
  .rename_i b;rw[At b];have hp:=RY l i k;refine Ra oa (AAf hi hp.length_le) a λp d=>?_;by_cases e:p=k
   .subst e;exact Zd hi oa
   exact(h p oa).pre hp hi oa
  rename_i b;exact absurd (by omega:l.length<=256) b
theorem Rb:∀ {n i:Nat} {l:List (List Int)},257<=n+i->(GC n i l).length<=256->i<=l.length->(∀q p,p<q->q<i->Jw l q p)->∀q p,p<q->q<(GC n i l).length->Jw (GC n i l) q p
 | 0,i,l,g,a,f,h=>λq p c d=>by
  have m:l.length<=256:=a;omega
 | n+1,i,l,g,a,f,h=>by
  unfold GC at a ⊢;split at a
  .rename_i b;rw[At b];have hp:=RZ i i 0 l;have o:=hp.length_le;have j:=(Kr n (i+1) (D2 i i 0 l)).length_le;refine Rb oa a oa λq p c d=>?_;by_cases e:q=i
   .subst e;exact Ra oa b.1 oa (λp hp=>by omega) p c
   exact(h q p c oa).pre hp oa oa
  rename_i b;rw[As b];intro q p c d;exact h q p c (by
   refine IN λk=>b ⟨by omega,a⟩)
theorem VV {c:List (List Int)} (a:(AO c).length<=256):∀q p,p<q->q<(AO c).length->Jw (AO c) q p :=
 Rb oa a (BY _) (λq p _ h=>by omega)
theorem XT (a b:List Int) (k:Nat):(DP a b).getD k 0=if k<a.length then A4 .and .u64 (a.getD k 0) (b.getD k 0) else 0:=by
 unfold DP;rw[NE];split
 .rename_i h;exact LO .and a b h
 rename_i h;rw[AS,AAA (by rw[EB];omega)];rfl
theorem GD {b:List Int} {k:Nat} (h:¬k<b.length):b.getD k 0=0:=by
 rw[AS,AAA oa];rfl
theorem LT {a b:List Int} (c:Ei a) (d:Ei b) (i:Nat):A0 (DP a b) i=(A0 a i&&A0 b i):=by
 unfold A0;rw[XT];split
 .rw[Eh (BA c _) (BA d _),AA4,Nat.testBit_and]
 rename_i h;rw[GD h];simp
theorem LU {a b:List Int} (d:Ei a) (f:Ei b):Ei (DP a b):=by
 refine Ex λx e=>?_;unfold Fi at e;obtain⟨i,-,rfl⟩:=To.1 e;rw[Il,Eh (BA d _) (BA f _)];have c:=BA d i;have g:(a.getD i 0).toNat &&& (b.getD i 0).toNat<=(a.getD i 0).toNat:=ABR;have h:=c.1;have j:=c.2;exact⟨AAg _,by omega⟩
theorem OT (b:List Int):∀n,Cm b n=0\/b.getD (Cm b n-1) 0≠0
 | 0=>.inl rfl
 | n+1=>by
  unfold Cm;split
  .exact OT b n
  rename_i h;right;simpa using h
theorem tS {n:Nat} (b:n≠0) (a:n<18446744073709551616):∃r,r<64/\n.testBit r=true:=by
 refine IN λd=>b ?_;refine Nat.eq_of_testBit_eq λr=>?_;rw[Nat.zero_testBit];by_cases f:r<64
 .cases c:n.testBit r with
  | false=>rfl
  | true=>exact absurd ⟨r,f,c⟩ d
 have e:(18446744073709551616:Nat)=2 ^ 64:=by decide
 rw[e]at a;exact ABV (AAf a (ACf di oa))
theorem XU {b:List Int} (c:Ei b) {k:Nat} (h:b.getD k 0≠0):∃i,A0 b i=true:=by
 have a:=BA c k;have e:=a.1;have f:=a.2;obtain⟨r,g,d⟩:=tS (n:=(b.getD k 0).toNat) oa oa;refine⟨64*k+r,?_⟩;unfold A0;rw[show (64*k+r) / 64=k by omega,show (64*k+r) % 64=r by omega];exact d
theorem Ze {b:List Int} (c:Ei b) (h:A9 b≠[]):∃i,A0 b i=true:=by
 rcases OT b b.length with a|a
 .exact absurd (by unfold A9;rw[a];rfl) h
 exact XU c a
theorem yP {b:List Int} {i:Nat} (h:A0 b i=true):b≠[]:=by
 rintro rfl;unfold A0 at h;simp at h
theorem Ti {a b:List Int} (d:Ei a) (e:Ei b) (h:∀i,A0 a i=true->A0 b i=true) (k:Nat):A4 .andNot .u64 (a.getD k 0) (b.getD k 0)=0:=by
 rw[OK];have:(BitVec.ofInt 64 (a.getD k 0) &&& ~~~BitVec.ofInt 64 (b.getD k 0))=0#64:=by
  apply BitVec.eq_of_getLsbD_eq;intro r g;rw[BitVec.getLsbD_and,BitVec.getLsbD_not,<-ABp,<-ABp,FA (BA d k),FA (BA e k)];have c:=h (64*k+r);unfold A0 at c;rw[show (64*k+r) / 64=k by omega,show (64*k+r) % 64=r by omega]at c;cases f:(a.getD k 0).toNat.testBit r with
  | false=>simp
  | true=>rw[c f];simp
 rw[this];rfl
theorem EC {a b:List Int} (c:Ei a) (d:Ei b):Ep a b=true↔∀i,A0 a i=true->A0 b i=true:=by
 constructor
 .exact λh i hi=>Km c d h hi
 intro h;unfold Ep OC A9;have e:Cm (Fi .andNot a b a.length) (Fi .andNot a b a.length).length=0:=by
  rw[EB];exact OL λk f=>by rw[LO _ _ _ f];exact Ti c d h k
 rw[e];rfl
section
attribute [local go_sem] OO RG Zb VS tQ
def Ks (d:List AD) (l:List AI) (t:Nat) (s:ByteArray):Bool:=(OQ d l (t:Int) s).2&&((OQ d l (t:Int) s).1.length:Int)==0
def VW (d:List AD) (l:List AI) (f:List ByteArray) (t:Nat):Bool:=f.any (Ks d l t)
def IL (d:List AD) (l:List AI) (f:List ByteArray) (n:Nat):Bool:=(List.range n).any (VW d l f)
theorem XV (d:List AD) (l:List AI) (f:List ByteArray) (n:Nat):IL d l f (n+1)=(IL d l f n||VW d l f n):=by
 unfold IL;rw[AA0,ABT];simp
def Br (d:List AD):Int :=
 if (A6 d).2≠0 then (A6 d).2 else if 64<(Af d).length then 7 else if Dx d≠0 then Dx d else
 if ((Af d).all λs=>(Ez d s).2)=false then 10 else if IL d (A6 d).1 (Af d) (A6 d).1.length=true then 11 else 0
def P4:Spec:={ ins:=[Aw],pre:=λ_=>True,out:=λ(d,_)=>[.p Es (Br d)] }
theorem Tj:Ap Tryz.prog 52 P4:=by
 refine fK [0,2,3,4,5,6,7,9,10,11,12,13,20,26,30,35,48,52,58,77] Tryz.func52 Tryz.ntmps52 (AF NK (AF RH (AF mU (AF XQ (AF mW AH))))) ?_;rintro w0 O0 ⟨d,u⟩ b - -;simp only[P4,AP];repeat'(first|exact trivial|apply eS rfl|refine rX b ?_ ?_|refine rC ?_ ?_<;>intro a<;>try(cases a;done))
 .have n:Br d=(A6 d).2:=by unfold Br;rw[At a]
  exact fI b [.tmp 2] (by rw[n];exact eR)
 .have c:(A6 d).2=0:=by simpa using a
  obtain⟨e,-,-⟩:=B5 c;obtain⟨-,v,-⟩:=Ab e;exact⟨v,λx M=>(Gj e x M).2⟩
 .have c:(A6 d).2=0:=by simpa using ‹((A6 d).2 != 0)=false›
  have n:Br d=7:=by
   unfold Br;rw[As (by rw[c];simp),At oa]
  exact fI b [.tmp 2] (by rw[n];exact eR)
 .have c:(A6 d).2=0:=by simpa using ‹((A6 d).2 != 0)=false›
  obtain⟨e,-,-⟩:=B5 c;exact(Ab e).2.1
 .have c:(A6 d).2=0:=by simpa using ‹((A6 d).2 != 0)=false›
  have n:Br d=Dx d:=by
   unfold Br;rw[As (by rw[c];simp),As oa,At a]
  exact fI b [.tmp 2] (by rw[n];exact eR)
 have c:(A6 d).2=0:=by simpa using ‹((A6 d).2 != 0)=false›
 have w:Dx d=0:=by simpa using a
 obtain⟨e,D,C⟩:=B5 c;obtain⟨I,v,-⟩:=Ab e;have F:=VU e w;have L:=JY e;have O:=tN e;have E:(AE d).length<=256:=by rw[Ey];exact D
 have g:Br d=if ((Af d).all λs=>(Ez d s).2)=false then 10 else if IL d (A6 d).1 (Af d) (A6 d).1.length=true then 11 else 0:=by
  unfold Br;rw[As (by rw[c];simp),As oa,As (by rw[w];simp)]
 rw[C]at g ⊢;generalize AE d=l at *;generalize Af d=f at *;refine AJ (ι:={i:Nat//i<=f.length/\((f.take i).all λs=>(Ez d s).2)=true}) (λi=>⟨[(0,.p Aw d),(3,.p Bi l),(5,.p Ad f),(7,.p (.int .i64) (i.1:Int))],[]⟩) (λi=>f.length-i.1) ⟨0,BY _,rfl⟩ (eW []) (λi=>?_)
 obtain⟨i,hi,o⟩:=i;have H:=λh:i<f.length=>OD f ByteArray.empty (λs=>(Ez d s).2) h;simp only;repeat'(first|exact trivial|apply eS rfl|apply AB|refine rX b ?_ ?_|refine rC ?_ ?_<;>intro a<;>try(cases a;done))
 .exact⟨a,I,v⟩
 .have j:i<f.length:=An.1 (by assumption);have A:(f.all λs=>(Ez d s).2)=false:=by
   rw[ABj];intro h;have:=IS.1 h _ (AW f ByteArray.empty j);rw[show (Ez d (f.getD i ByteArray.empty)).2=false from a]at this;cases this
  rw[At A]at g;exact fI b [.tmp 2] (by rw[g];exact eR)
 .omega
 .have j:i<f.length:=An.1 (by assumption);refine⟨⟨i+1,j,?_⟩,by simp only;omega,AC [] rfl rfl ?_ ?_⟩
  .rw[H j,o];exact a
  .exact eN
  exact eN
 have j:f.take i=f:=By (NO.1 a);rw[j]at o;rw[As (by rw[o];simp)]at g;refine AJ (ι:={t:Nat//t<=l.length/\IL d l f t=false}) (λt=>⟨[(0,.p Aw d),(3,.p Bi l),(5,.p Ad f),(10,.p (.int .i64) (t.1:Int))],[]⟩) (λt=>l.length-t.1) ⟨0,BY _,rfl⟩ (eW []) (λt=>?_)
 obtain⟨t,P,z⟩:=t;have K:=XV d l f t;simp only;repeat'(first|exact trivial|apply eS rfl|refine rX b ?_ ?_|refine rC ?_ ?_<;>intro a<;>try(cases a;done))
 .have y:t<l.length:=An.1 a;refine AJ (ι:={k:Nat//k<=f.length/\(f.take k).any (Ks d l t)=false}) (λk=>⟨[(0,.p Aw d),(3,.p Bi l),(5,.p Ad f),(10,.p (.int .i64) (t:Int)),(11,.p (.int .i64) (k.1:Int))],[]⟩) (λk=>f.length-k.1) ⟨0,BY _,rfl⟩ (eW []) (λk=>?_)
  obtain⟨k,N,q⟩:=k;have G:=λh:k<f.length=>LM f ByteArray.empty (Ks d l t) h;simp only;repeat'(first|exact trivial|apply eS rfl|apply AB|refine rX b ?_ ?_|refine rC ?_ ?_<;>intro a<;>try(cases a;done))
  .exact⟨a,F,by assumption,E,L⟩
  .have m:k<f.length:=An.1 (by assumption);have r:Ks d l t (f.getD k ByteArray.empty)=true:=by
    unfold Ks;rw[AT,AA9];exact a
   have B:IL d l f l.length=true:=by
    unfold IL;rw[aS];exact⟨t,gO.2 y,Hr f ByteArray.empty _ m r⟩
   rw[At B]at g;exact fI b [.tmp 2] (by rw[g];exact eR)
  .omega
  .have m:k<f.length:=An.1 (by assumption);have r:Ks d l t (f.getD k ByteArray.empty)=false:=by
    rw[ABj];unfold Ks;intro h;rw[AT,AA9]at h;exact a h.1 h.2
   refine⟨⟨k+1,m,?_⟩,by simp only;omega,AC [] rfl rfl ?_ ?_⟩
   .rw[G m,q,r];rfl
   .exact eN
   exact eN
  .omega
  have m:f.take k=f:=By (NO.1 a);rw[m]at q;refine⟨⟨t+1,y,?_⟩,by simp only;omega,AC [] rfl rfl ?_ ?_⟩
  .rw[K,z];exact q
  .exact eN
  exact eN
 have J:t=l.length:=by exact eV
 subst J;rw[As (by rw[z];simp)]at g;exact fI b [.tmp 2] (by rw[g];exact eR)
end
section
attribute [local go_sem] P4 OO RG VS P3
abbrev XW:=ByteArray×Int
theorem GE {d:List AD} (h:Br d=0):(A6 d).2=0/\(Af d).length<=64/\Dx d=0:=by
 unfold Br at h;split at h
 .rename_i a;exact absurd h a
 rename_i a;split at h
 .cases h
 rename_i c;split at h
 .rename_i b;exact absurd h b
 rename_i b;exact⟨IN a,by omega,IN b⟩
def Tk (d:List AD) (s:ByteArray):XW:=(s,A7 (AE d) (Ez d s).1)
def Fm (d:List AD):List XW×Int:=if Br d≠0 then ([],Br d) else ((Af d).map (Tk d),0)
theorem Sh {α β:Type} (f:α->β) (l:List α) (d:α) {k:Nat} (h:k<l.length):(l.take (k+1)).map f=(l.take k).map f++[f (l.getD k d)]:=by
 rw[Ai l d h,AA7];rfl
theorem VX {α β:Type} (f:α->β) (l:List α) {k:Nat} (h:k<=l.length):((l.take k).map f).length=k:=by simp[h]
def OU:Spec:={ ins:=[Aw],pre:=λ_=>True,out:=λ(d,_)=>[.p qE (Fm d).1,.p Es (Fm d).2] }
theorem XX:Ap Tryz.prog 32 OU:=by
 refine fK [0,2,3,4,5,7,8,9,10,15,27] Tryz.func32 Tryz.ntmps32 (AF Tj (AF NK (AF RH (AF XQ (AF Ta AH))))) ?_;rintro w0 O0 ⟨d,u⟩ g - -;simp only[OU,AP];repeat'(first|exact trivial|apply eS rfl|refine rX g ?_ ?_|refine rC ?_ ?_<;>intro a<;>try(cases a;done))
 .have l:Fm d=([],Br d):=by unfold Fm;rw[At a]
  exact fI g [.tmp 2,.tmp 3] (by rw[l];exact eR)
 .have c:Br d=0:=by simpa using a
  obtain⟨k,-,-⟩:=GE c;obtain⟨b,-,-⟩:=B5 k;exact⟨(Ab b).2.1,λx s=>(Gj b x s).2⟩
 have c:Br d=0:=by simpa using a
 obtain⟨k,t,-⟩:=GE c;obtain⟨b,-,n⟩:=B5 k;obtain⟨r,m,-⟩:=Ab b;have q:Fm d=((Af d).map (Tk d),0):=by unfold Fm;rw[As (by rw[c];simp)]
 rw[n];generalize Af d=f at *;refine AJ (ι:={i:Nat//i<=f.length}) (λi=>⟨[(0,.p Aw d),(5,.p Bi (AE d)),(7,.p Ad f),(8,.sr 49 yI 0 ((f.take i.1).map (Tk d)).length),(9,.p (.int .i64) (i.1:Int))],[(49,.arr 79 yI ((f.take i.1).map (Tk d)))]⟩) (λi=>f.length-i.1) ⟨0,BY _⟩ (eW [(49,.nil)]) (λi=>?_)
 obtain⟨i,hi⟩:=i;have o:=VX (Tk d) f hi;have hs:=λh:i<f.length=>Sh (Tk d) f ByteArray.empty h;simp only;repeat'(first|exact trivial|apply eS rfl|apply AB|refine rX g ?_ ?_|refine rC ?_ ?_<;>intro a<;>try(cases a;done))
 .exact⟨a,r,m⟩
 .refine⟨a,?_⟩;rw[o];simp only[AN];omega
 .omega
 .have j:i<f.length:=An.1 a;have e:=hs j;refine⟨⟨i+1,j⟩,by simp only;omega,AC [(49,.nm 49)] rfl rfl ?_ ?_⟩
  .simp only[e];refine eM ?_;rfl
  simp only[e];exact eN
 have j:f.take i=f:=By (NO.1 a);rw[j];refine DH [49] ?_;exact fI g [.tmp 2,.tmp 3] (by rw[q];exact eR)
end
section
attribute [local go_sem] P4 OO RG tQ ZU
def VY (d:List AD) (l:List AI) (f:List ByteArray) (t:Nat) (n:Nat):List (Int×Int) :=
 ((List.range n).filter λ(i:Nat)=>(OQ d l (t:Int) (f.getD i ByteArray.empty)).2).map λ(i:Nat)=>((i:Int),VK l (OQ d l (t:Int) (f.getD i ByteArray.empty)).1)
def Kt (d:List AD) (l:List AI) (f:List ByteArray) (n:Nat):List (List (Int×Int)):=(List.range n).map λt=>VY d l f t f.length
def CS (d:List AD):List (List (Int×Int))×Int:=if Br d≠0 then ([],Br d) else (Kt d (AE d) (Af d) (AE d).length,0)
theorem gI (d:List AD) (l:List AI) (f:List ByteArray) (t n:Nat):VY d l f t (n+1)=VY d l f t n++if (OQ d l (t:Int) (f.getD n ByteArray.empty)).2=true then [((n:Int),VK l (OQ d l (t:Int) (f.getD n ByteArray.empty)).1)] else []:=by
 unfold VY;rw[AA0,AAm,AA7]
 congr 1
 rw[AAa,AAC];split<;>rfl
theorem mX (d:List AD) (l:List AI) (f:List ByteArray) (t n:Nat):(VY d l f t n).length<=n:=by
 unfold VY;rw[Of];exact f3 (AA2 _ _) sa
theorem Zf (d:List AD) (l:List AI) (f:List ByteArray) (n:Nat):Kt d l f (n+1)=Kt d l f n++[VY d l f n f.length]:=by simp[Kt,AA0]
theorem Tl (d:List AD) (l:List AI) (f:List ByteArray) (n:Nat):(Kt d l f n).length=n:=by simp[Kt]
theorem mY {d:List AD} {l:List AI} (h:∀x∈l,x.2.length<=64) (t:Int) (s:ByteArray):(OQ d l t s).1.length<=64:=by
 unfold OQ;refine RW t s d ?_;rw[AS];cases a:l[0]? with
 | none=>simp
 | some x=>exact h x (AAj a)
def Rc:Spec:={ ins:=[Aw],pre:=λ_=>True,out:=λ(d,_)=>[.p VB (CS d).1,.p Es (CS d).2] }
theorem Zg:Ap Tryz.prog 29 Rc:=by
 refine fK [0,2,3,4,5,7,8,9,10,11,12,13,17,29,35,49] Tryz.func29 Tryz.ntmps29 (AF Tj (AF NK (AF RH (AF mW (AF mN AH))))) ?_;rintro w0 O0 ⟨d,u⟩ e - -;simp only[Rc,AP];repeat'(first|exact trivial|apply eS rfl|refine rX e ?_ ?_|refine rC ?_ ?_<;>intro a<;>try(cases a;done))
 .have o:CS d=([],Br d):=by unfold CS;rw[At a]
  exact fI e [.tmp 2,.tmp 3] (by rw[o];exact eR)
 .have h:Br d=0:=by simpa using a
  obtain⟨m,-,-⟩:=GE h;obtain⟨b,-,-⟩:=B5 m;exact⟨(Ab b).2.1,λx A=>(Gj b x A).2⟩
 have h:Br d=0:=by simpa using a
 obtain⟨m,C,q⟩:=GE h;obtain⟨b,j,v⟩:=B5 m;obtain⟨E,B,-⟩:=Ab b;have z:CS d=(Kt d (AE d) (Af d) (AE d).length,0):=by unfold CS;rw[As (by rw[h];simp)]
 have y:=VU b q;have n:=JY b;have w:(AE d).length<=256:=by rw[Ey];exact j
 rw[v];generalize AE d=l at *;generalize Af d=f at *;have r:=λt s=>mY (d:=d) n t s;refine AJ (ι:={t:Nat//t<=l.length}) (λt=>⟨[(0,.p Aw d),(5,.p Bi l),(7,.p Ad f),(8,.sr 61 IP 0 (Kt d l f t.1).length),(9,.p (.int .i64) (t.1:Int))],[(61,.arr 40 IP (Kt d l f t.1))]⟩) (λt=>l.length-t.1) ⟨0,BY _⟩ (AC [(61,.nil)] rfl rfl ?_ ?_) (λt=>?_)
 .refine eM ?_;rfl
 .refine eM ?_;rfl
 obtain⟨t,F⟩:=t;have j:=Tl d l f t;have hs:=Zf d l f t;simp only;repeat'(first|exact trivial|apply eS rfl|refine rX e ?_ ?_|refine rC ?_ ?_<;>intro a<;>try(cases a;done))
 .refine AJ (ι:={i:Nat//i<=f.length}) (λi=>⟨[(0,.p Aw d),(5,.p Bi l),(7,.p Ad f),(8,.sr 61 IP 0 (Kt d l f t).length),(9,.p (.int .i64) (t:Int)),(10,.sr 57 ZH 0 (VY d l f t i.1).length),(11,.p (.int .i64) (i.1:Int))],[(61,.arr 40 IP (Kt d l f t)),(57,.arr 107 ZH (VY d l f t i.1))]⟩) (λi=>f.length-i.1) ⟨0,BY _⟩ (AC [(61,.nm 61),(57,.nil)] rfl rfl ?_ ?_) (λi=>?_)
  .refine eM ?_;rfl
  .refine eM ?_;rfl
  obtain⟨i,hi⟩:=i;have D:=mX d l f t i;have c:=gI d l f t i;simp only;repeat'(first|exact trivial|apply eS rfl|apply AB|refine rX e ?_ ?_|refine rC ?_ ?_<;>intro a<;>try(cases a;done))
  .exact⟨a,y,by assumption,w,n⟩
  .refine⟨f3 (r _ _) di,?_⟩;simp only[AN];omega
  .omega
  .have g:i<f.length:=An.1 (by assumption);rw[At a]at c;refine⟨⟨i+1,g⟩,by simp only;omega,AC [(61,.nm 61),(57,.nm 57)] rfl rfl ?_ ?_⟩
   .simp only[c];exact eN
   simp only[c];exact eN
  .omega
  .have g:i<f.length:=An.1 (by assumption);rw[As (by rw[a];simp),AAb]at c;refine⟨⟨i+1,g⟩,by simp only;omega,AC [(61,.nm 61),(57,.nm 57)] rfl rfl ?_ ?_⟩
   .simp only[c];exact eN
   simp only[c];exact eN
  .rw[j];simp only[AN];omega
  .omega
  have k:t<l.length:=An.1 (by assumption);have g:i=f.length:=by omega
  subst g;refine⟨⟨t+1,k⟩,by simp only;omega,AC [(61,.nm 61)] rfl rfl ?_ ?_⟩
  .simp only[hs];exact eN
  simp only[hs];exact eN
 have k:t=l.length:=by omega
 subst k;refine DH [61] ?_;exact fI e [.tmp 2,.tmp 3] (by rw[z];exact eR)
end
section
attribute [local go_sem] Rc OO mT OU
abbrev FX:=ByteArray×List Int×List Int×List (Int×Int)
abbrev C6:=List FX×List XW
def Ej (l:List AI) (v:List (List (Int×Int))) (n:Nat):List FX:=(List.range n).map λi=>((l.getD i c0).1,(l.getD i c0).2,Th l (i:Int),v.getD i [])
theorem Zh (l:List AI) (v:List (List (Int×Int))) (n:Nat):Ej l v (n+1)=Ej l v n++[((l.getD n c0).1,(l.getD n c0).2,Th l (n:Int),v.getD n [])]:=by simp[Ej,AA0]
theorem LV (l:List AI) (v:List (List (Int×Int))) (n:Nat):(Ej l v n).length=n:=by simp[Ej]
def B4 (d:List AD):C6:=(Ej (AE d) (CS d).1 (AE d).length,(Fm d).1)
def GF (d:List AD):C6×Int:=if (CS d).2≠0 then (([],[]),(CS d).2) else (B4 d,0)
def Rd:Spec:={ ins:=[Aw],pre:=λ_=>True,out:=λ(d,_)=>[.p l3 (GF d).1,.p Es (GF d).2] }
theorem Zi:Ap Tryz.prog 14 Rd:=by
 refine fK [0,2,3,4,5,6,8,9,10,18,29] Tryz.func14 Tryz.ntmps14 (AF Zg (AF NK (AF tP (AF XX AH)))) ?_;rintro w0 O0 ⟨d,u⟩ b - -;simp only[Rd,AP];repeat'(first|exact trivial|apply eS rfl|refine rX b ?_ ?_|refine rC ?_ ?_<;>intro a<;>try(cases a;done))
 .have j:GF d=(([],[]),(CS d).2):=by unfold GF;rw[At a]
  exact fI b [.cell 2 27,.tmp 3] (by rw[j];exact eR)
 have c:(CS d).2=0:=by simpa using a
 have f:Br d=0:=by
  unfold CS at c;split at c
  .rename_i h;exact absurd c h
  rename_i h;exact IN h
 obtain⟨w,y,x⟩:=GE f;obtain⟨k,o,m⟩:=B5 w;have g:GF d=(B4 d,0):=by unfold GF;rw[As (by rw[c];simp)]
 have s:(CS d).1.length=(AE d).length:=by
  unfold CS;rw[As (by rw[f];simp)];exact Tl _ _ _ _
 have t:=JY k;have q:(AE d).length<=256:=by rw[Ey];exact o
 unfold B4 at g;rw[m];generalize AE d=l at *;generalize (CS d).1=v at *;refine AJ (ι:={n:Nat//n<=l.length}) (λn=>⟨[(0,.p Aw d),(2,.bp 2 [] 0),(4,.p VB v),(6,.p Bi l),(8,.bp 8 [] 0),(9,.p (.int .i64) (n.1:Int))],[(2,.box 27 true [.raw (.slice none 0 0),.raw (.slice none 0 0)]),(8,.box 27 true [.sr 53 sE 0 (Ej l v n.1).length,.raw (.slice none 0 0)]),(53,.arr 42 sE (Ej l v n.1))]⟩) (λn=>l.length-n.1) ⟨0,BY _⟩ (AC [(2,.nm 2),(8,.nm 8),(53,.nil)] rfl rfl ?_ ?_) (λn=>?_)
 .refine eM ?_;exact⟨rfl,rfl⟩
 .exact eN
 obtain⟨n,z⟩:=n;have r:=LV l v n;have i:=Zh l v n;simp only;repeat'(first|exact trivial|apply eS rfl|apply AB|refine rX b ?_ ?_|refine rC ?_ ?_<;>intro a<;>try(cases a;done))
 .refine⟨a,a,⟨a,q,t⟩,by rw[s];exact a,?_⟩;rw[r];simp only[AN];omega
 .omega
 .have e:n<l.length:=An.1 a;refine⟨⟨n+1,e⟩,by simp only;omega,AC [(2,.nm 2),(8,.nm 8),(53,.nm 53)] rfl rfl ?_ ?_⟩
  .simp only[i];exact eN
  simp only[i];exact eN
 have e:n=l.length:=by omega
 subst e;refine DH [53] ?_;exact fI b [.cell 2 27,.tmp 3] (by rw[g];exact eR)
end
section
def VZ:Spec:={ ins:=[BZ,T3],pre:=λ(_,i,_)=>(0:Int)<=i,out:=λ(b,i,_)=>[.p Se (E9 b i)],lend:=true }
attribute [local go_sem] VZ
theorem XY:Ap Tryz.prog 28 VZ:=by
 refine fK [0,1,4,8] Tryz.func28 Tryz.ntmps28 AH ?_;rintro w0 O0 ⟨b,i,u⟩ d-hi;simp only[VZ,AP];repeat'(first|exact trivial|apply eS rfl|refine rX d ?_ ?_|refine rC ?_ ?_<;>intro a<;>try(cases a;done))
 .exact⟨hi,a⟩
 .have c:E9 b i=b.getD i.toNat 0:=by unfold E9;rw[At a]
  exact fI d [.tmp 4] (by rw[c];exact eR)
 have c:E9 b i=0:=by unfold E9;rw[As (AAs.2 a)]
 exact fI d [.tmp 4] (by rw[c];exact eR)
def HO (a b:List Int):Bool:=(List.range a.length).all λi=>A4 .andNot .u64 (a.getD i 0) (E9 b (i:Int))==0
def XZ (a b:List Int) (n:Nat):Bool:=(List.range n).all λi=>A4 .andNot .u64 (a.getD i 0) (E9 b (i:Int))==0
theorem Zj (a b:List Int) (n:Nat):XZ a b (n+1)=(XZ a b n&&A4 .andNot .u64 (a.getD n 0) (E9 b (n:Int))==0):=by
 unfold XZ;rw[AA0,ABA];simp
def GG:Spec:={ ins:=[BZ,BZ],pre:=λ_=>True,out:=λ(a,b,_)=>[.p .bool (HO a b)],lend:=true }
attribute [local go_sem] GG
theorem Fo:Ap Tryz.prog 13 GG:=by
 refine fK [0,1,4,5,6,7,8,9,10,19] Tryz.func13 Tryz.ntmps13 (AF XY AH) ?_;rintro w0 O0 ⟨a,b,u⟩ e ⟨⟨h,-⟩,-⟩ -;simp only[AN]at h;simp only[GG,AP];repeat'(first|exact trivial|apply eS rfl|refine rX e ?_ ?_)
 have i:HO a b=XZ a b a.length:=rfl;refine AJ (ι:={n:Nat//n<=a.length/\XZ a b n=true}) (λn=>⟨[(1,.p BZ b),(7,.p BZ a),(8,.p (.int .i64) (a.length:Int)),(9,.p (.int .i64) (n.1:Int))],[]⟩) (λn=>a.length-n.1) ⟨0,BY _,rfl⟩ (eW []) (λn=>?_)
 obtain⟨n,j,f⟩:=n;have hs:=Zj a b n;simp only;repeat'(first|exact trivial|apply eS rfl|apply AB|refine rX e ?_ ?_|refine rC ?_ ?_<;>intro d<;>try(cases d;done))
 .exact d
 .have c:n<a.length:=by exact eV
  have g:HO a b=false:=by
   unfold HO;rw[List.all_eq_false];exact⟨n,gO.2 c,by simpa using d⟩
  exact fI e [.tmp 4] (by rw[g];exact eR)
 .exact eV
 .have c:n<a.length:=by exact eV
  refine⟨⟨n+1,c,?_⟩,by simp only;omega,AC [] rfl rfl ?_ ?_⟩
  .rw[hs,f];simpa using d
  .exact eN
  exact eN
 have c:n=a.length:=by exact eV
 subst c;exact fI e [.tmp 4] (by rw[i,f];exact eR)
abbrev Re:FX:=(ByteArray.empty,[],[],[])
def NM (h:C6) (a b:Int):Bool:=HO (h.1.getD b.toNat Re).2.1 (h.1.getD a.toNat Re).2.1
def mZ:Spec:={ ins:=[l3,T3,T3],pre:=λ(h,a,b,_)=>((0:Int)<=a/\a<(List.length (h:C6).1:Int))/\((0:Int)<=b/\b<(List.length (h:C6).1:Int)),out:=λ(h,a,b,_)=>[.p .bool (NM h a b)],lend:=true }
theorem tT:Ap Tryz.prog 12 mZ:=by
 refine fK [0,1,2,3,6] Tryz.func12 Tryz.ntmps12 (AF Fo AH) ?_;rintro w0 O0 ⟨⟨g,f⟩,a,b,u⟩ c-⟨d,e⟩;simp only[mZ,AP];repeat'(first|exact trivial|apply eS rfl|refine rX c ?_ ?_)
 .exact⟨e,d⟩
 exact fI c [.tmp 6] (by unfold NM;exact eR)
end
section
attribute [local go_sem] GG
def Ku:Spec:={ ins:=[BZ],pre:=λ(b,_)=>List.length b<=100000,out:=λ(b,_)=>[.p BZ (A9 b)] }
attribute [local go_sem] Ku
theorem MQ:Ap Tryz.prog 25 Ku:=by
 refine fK [0,2,3,15] Tryz.func25 Tryz.ntmps25 AH ?_;rintro w0 O0 ⟨b,u⟩ d-g;have g:b.length<=100000:=g;simp only[Ku,AP];repeat'(first|exact trivial|apply eS rfl|refine rX d ?_ ?_)
 refine AJ (ι:={n:Nat//n<=b.length/\Cm b n=Cm b b.length}) (λn=>⟨[(0,.p BZ b),(3,.p (.int .i64) (n.1:Int))],[]⟩) (λn=>n.1) ⟨b.length,If _,rfl⟩ (eW []) (λn=>?_)
 obtain⟨n,l,i⟩:=n;simp only;repeat'(first|apply eS rfl|apply AB|refine rX d ?_ ?_|refine rC ?_ ?_<;>intro c<;>try(cases c;done))
 .constructor
  .exact eV
  intro h;refine⟨?_,?_⟩<;>exact eV
 .exact eV
 .obtain⟨f,a⟩:=c;obtain⟨m,rfl⟩:∃m,n=m+1:=⟨n-1,by omega⟩;have e:(((m+1:Nat):Int)-1)=(m:Int):=by omega
  rw[e]at a;have a:b.getD m 0=0:=a;have k:Cm b m=Cm b b.length:=by
   rw[<-i];show _=if b.getD m 0=0 then Cm b m else m+1
   rw[At a]
  refine⟨⟨m,by omega,k⟩,by simp,AC [] rfl rfl ?_ ?_⟩
  .exact eN
  simp only[e];exact eN
 .exact NO.2 l
 have j:Cm b n=n:=by
  cases n with
  | zero=>rfl
  | succ m =>
   have e:(((m+1:Nat):Int)-1)=(m:Int):=by omega
   rw[e]at c;have a:=c oa;have a:¬b.getD m 0=0:=a;show (if b.getD m 0=0 then Cm b m else m+1)=m+1;rw[As a]
 have f:A9 b=b.take n:=by unfold A9;rw[<-i,j]
 rw[<-f];exact fI d [.tmp 2]
def EP (g:Nat->Int) (n i:Nat):List Int:=(List.range n).map λj=>if j<i then g j else 0
theorem LW (g:Nat->Int) (n i:Nat):(EP g n i).length=n:=by simp[EP]
theorem Rf (g:Nat->Int) (n:Nat):EP g n 0=List.replicate n 0:=by
 apply AAx
 .simp[EP]
 intro j a b;simp[EP]
theorem Tm (g:Nat->Int) (n i:Nat):(EP g n i).set i (g i)=EP g n (i+1):=by
 apply AAx
 .simp[EP]
 intro j b c;simp only[EP,List.getElem_set,ACH,ACq];split
 .rename_i e;rw[At oa,e]
 rename_i e;by_cases a:j<i
 .rw[At a,At oa]
 rw[As a,As oa]
def Va (a b:List Int) (i:Nat):Int:=A4 .and .u64 (a.getD i 0) (b.getD i 0)
def CI (a b:List Int):List Int:=A9 (EP (Va a b) (min a.length b.length) (min a.length b.length))
def Rg:Spec:={ ins:=[BZ,BZ],pre:=λ(a,_,_)=>List.length a<=100000,out:=λ(a,b,_)=>[.p BZ (CI a b)] }
attribute [local go_sem] Rg
theorem P5:Ap Tryz.prog 9 Rg:=by
 refine fK [0,1,4,5,6,14,15,16] Tryz.func9 Tryz.ntmps9 (AF MQ AH) ?_;rintro w0 O0 ⟨a,b,u⟩ d-f;have f:a.length<=100000:=f;simp only[Rg,AP];repeat'(first|exact trivial|apply eS rfl|refine rX d ?_ ?_)
 .split<;>simp only[AN]<;>dsimp only[Ty.den]at *<;>omega
 have j:Int.toNat (if ((List.length b:Nat):Int)<((List.length a:Nat):Int) then ((List.length b:Nat):Int) else ((List.length a:Nat):Int))=min (List.length a) (List.length b):=by split<;>omega
 rw[j];have k:CI a b=A9 (EP (Va a b) (min a.length b.length) (min a.length b.length)):=rfl;have l:min a.length b.length<=a.length:=ACJ _ _;have m:min a.length b.length<=b.length:=Nat.min_le_right _ _;generalize min a.length b.length=n at *;refine AJ (ι:={i:Nat//i<=n}) (λi=>⟨[(0,.p BZ a),(1,.p BZ b),(5,.sr 12 Se 0 n),(14,.p (.int .i64) (n:Int)),(15,.p (.int .i64) (i.1:Int))],[(12,.arr 65 Se (EP (Va a b) n i.1))]⟩) (λi=>n-i.1) ⟨0,BY _⟩ (AC [(12,.nm 12)] rfl rfl ?_ ?_) (λi=>?_)
 .refine eM ?_;rw[Rf]
 .exact eN
 obtain⟨i,hi⟩:=i;have g:=LW (Va a b) n i;simp only;repeat'(first|exact trivial|apply eS rfl|apply AB|refine rX d ?_ ?_|refine rC ?_ ?_<;>intro c<;>try(cases c;done))
 .have e:i<n:=An.1 c;exact⟨by exact eV,by exact eV,c⟩
 .exact eV
 .have e:i<n:=An.1 c;refine⟨⟨i+1,e⟩,by simp only;omega,AC [(12,.nm 12)] rfl rfl ?_ ?_⟩
  .simp only[<-Tm];refine eM ?_;rfl
  exact eN
 have e:i=n:=by omega
 subst e;have h:(EP (Va a b) i i).take i=EP (Va a b) i i:=By (by rw[g];exact If _);refine DH [12] ?_;repeat'(first|apply eS rfl|refine rX d ?_ ?_)
 .rw[h,g];dsimp only[Ty.den]at *;omega
 rw[h];exact fI d [.tmp 4] (by rw[k];exact eR)
def AZ (a b:List Int):Bool:=HO a b&&HO b a
def NN:Spec:={ ins:=[BZ,BZ],pre:=λ_=>True,out:=λ(a,b,_)=>[.p .bool (AZ a b)],lend:=true }
attribute [local go_sem] NN
theorem OV:Ap Tryz.prog 27 NN:=by
 refine fK [0,1,4] Tryz.func27 Tryz.ntmps27 (AF Fo AH) ?_;rintro w0 O0 ⟨a,b,u⟩ c - -;simp only[NN,AP];repeat'(first|exact trivial|apply eS rfl|refine rX c ?_ ?_)
 exact fI c [.tmp 4] (by unfold AZ;exact eR)
def EQ (c:List Int):Nat->List FX->Int
 | _,[]=>-1
 | k,t :: l=>if AZ t.2.1 c=true then (k:Int) else EQ c (k+1) l
theorem Zk (c:List Int) (l:List FX) {k:Nat} (h:k<l.length):EQ c k (l.drop k)=if AZ (l.getD k Re).2.1 c=true then (k:Int) else EQ c (k+1) (l.drop (k+1)):=by
 rw[iS h];have e:l.getD k Re=l[k]:=by simp[AS,h]
 rw[e];rfl
theorem m0 (c:List Int) (t:FX):Aj Tryz.prog 26 [.p sE t,.bp 1 [] 0] [(1,.box 38 false [.p BZ c])] [1] (λres b=>res=.p .bool (AZ t.2.1 c)/\b=[(1,.box 38 false [.p BZ c])]):=by
 refine Er [0,1,2,3] [] [] Tryz.func26 Tryz.ntmps26 (AF OV AH) ?_;intro w0 K O0 ρ0 a d e;simp only[AX];repeat'(first|exact trivial|apply eS rfl|refine rX a ?_ ?_)
 refine Ev.ent (σ':=⟨[(3,.p .bool (AZ t.2.1 c))],[(1,.box 38 false [.p BZ c])]⟩) ?_ (AC [(1,.nm 1)] rfl rfl ?_ ?_)
 .exact fM a [.tmp 3] (.p .bool (AZ t.2.1 c)) eT ⟨rfl,rfl⟩
 .exact eN
 exact eN
theorem gJ (l:List FX) (c:List Int) (m:l.length<=100000):Aj Tryz.prog 21 [.p jN l,.clo 26 [1]] [(1,.box 38 false [.p BZ c])] [1] (λres i=>res=.p T3 (EQ c 0 l)/\i=[(1,.box 38 false [.p BZ c])]):=by
 refine Er [0,1,4,5,7,8,9,16] [] [] Tryz.func21 Tryz.ntmps21 AH ?_;intro w0 K O0 ρ0 b n o;simp only[AX];repeat'(first|exact trivial|apply eS rfl|refine rX b ?_ ?_)
 refine AJ (ι:={k:Nat//k<=l.length/\EQ c k (l.drop k)=EQ c 0 l}) (λk=>⟨[(0,.p jN l),(1,.clo 26 [1]),(7,.p (.int .i64) (l.length:Int)),(8,.p (.int .i64) (k.1:Int))],[(1,.box 38 false [.p BZ c])]⟩) (λk=>l.length-k.1) ⟨0,BY _,rfl⟩ (eW [(1,.nm 1)]) (λk=>?_)
 obtain⟨k,j,d⟩:=k;have g:=λh:k<l.length=>Zk c l h;simp only;repeat'(first|exact trivial|apply eS rfl|refine rX b ?_ ?_|refine rC ?_ ?_<;>intro a<;>try(cases a;done))
 .have e:k<l.length:=An.1 a;have f:=g e;refine cP 5 b ?_ ?_
  .exact a
  refine rW b (m0 c (l.getD k Re)) [(1,.nm 1)] [] [(1,.nm 1)] (.p .bool (AZ (l.getD k Re).2.1 c)) ([(1,.box 38 false [.p BZ c])]) (Bq ?_)
  repeat'(first|exact trivial|apply eS rfl|apply AB|refine rX b ?_ ?_|refine rC ?_ ?_<;>intro a<;>try(cases a;done))
  .have a:AZ (l.getD k Re).2.1 c=true:=a;rw[At a,d]at f;refine Ev.ent (σ':=⟨[(4,.p (.int .i64) (k:Int))],[(1,.box 38 false [.p BZ c])]⟩) ?_ (AC [(1,.nm 1)] rfl rfl ?_ ?_)
   .exact fM b [.tmp 4] (.p T3 (k:Int)) eT ⟨by rw[f],rfl⟩
   .exact eN
   exact eN
  .omega
  have a:AZ (l.getD k Re).2.1 c=false:=a;rw[As (by rw[a];simp)]at f;exact⟨⟨k+1,e,f.symm.trans d⟩,by simp only;omega,eW [(1,.nm 1)]⟩
 have e:l.drop k=[]:=OR (NO.1 a);rw[e]at d;have d:(-1:Int)=EQ c 0 l:=d;refine Ev.ent (σ':=⟨[(4,.p (.int .i64) (-1))],[(1,.box 38 false [.p BZ c])]⟩) ?_ (AC [(1,.nm 1)] rfl rfl ?_ ?_)
 .exact fM b [.tmp 4] (.p T3 (-1)) eT ⟨by rw[d],rfl⟩
 .exact eN
 exact eN
def Ay (h:C6) (t:Int):List Int:=(h.1.getD t.toNat Re).2.1
def Ek (h:C6) (a b:Int):Int×Bool :=
 if (CI (Ay h a) (Ay h b)).length=0 then (0,false) else if EQ (CI (Ay h a) (Ay h b)) 0 h.1<0 then (0,false) else (EQ (CI (Ay h a) (Ay h b)) 0 h.1,true)
def cU:Spec:={ ins:=[l3,T3,T3],pre:=λ(h,a,b,_)=>((0:Int)<=a/\a<(List.length (h:C6).1:Int))/\((0:Int)<=b/\b<(List.length (h:C6).1:Int))/\List.length (h:C6).1<=100000/\(∀x∈(h:C6).1,x.2.1.length<=100000),out:=λ(h,a,b,_)=>[.p T3 (Ek h a b).1,.p .bool (Ek h a b).2],lend:=true }
theorem cV:Ap Tryz.prog 10 cU:=by
 refine fK [0,1,2,3,6,7,8,9,25,31] Tryz.func10 Tryz.ntmps10 (AF P5 AH) ?_;rintro w0 O0 ⟨⟨d,e⟩,a,b,u⟩ f-⟨j,l,o,r⟩;simp only[cU,AP];refine Ev.ent (σ':=⟨[(0,.p l3 (d,e)),(1,.p T3 a),(2,.p T3 b)],[]⟩) ?_ (AC [] rfl rfl ?_ ?_)
 .repeat'(first|exact trivial|apply eS rfl|refine rX f ?_ ?_|refine rC ?_ ?_<;>intro g<;>try(cases g;done))
  .refine⟨j,l,?_⟩;have k:Int.toNat a<List.length d:=(ACu j.1).2 j.2;exact r _ (AW (d:List FX) Re k)
  .have q:Ek (d,e) a b=(0,false):=by
    unfold Ek;rw[At (by unfold Ay;exact ACF g)]
   exact fI f [.tmp 6,.tmp 7] (by rw[q];exact eR)
  have n:∀c,c=CI (List.getD d (Int.toNat a) (ByteArray.empty,[],[],[])).2.1 (List.getD d (Int.toNat b) (ByteArray.empty,[],[],[])).2.1->c=CI (Ay (d,e) a) (Ay (d,e) b):=λc h=>h;have i:Ek (d,e) a b=if EQ (CI (Ay (d,e) a) (Ay (d,e) b)) 0 d<0 then (0,false) else (EQ (CI (Ay (d,e) a) (Ay (d,e) b)) 0 d,true):=by
   unfold Ek;rw[As (λh=>g (by unfold Ay at h;exact p7 Int.ofNat h))]
  generalize s:CI (List.getD d (Int.toNat a) (ByteArray.empty,[],[],[])).2.1 (List.getD d (Int.toNat b) (ByteArray.empty,[],[],[])).2.1=c at *;rw[<-n c rfl]at i;refine cP 3 f ?_ ?_
  .trivial
  refine rW f (gJ d c o) [(1,.nm 8)] [] [(8,.nm 1)] (.p T3 (EQ c 0 d)) ([(8,.box 38 false [.p BZ c])]) ?_
  generalize EQ c 0 d=m at *;refine rL f ?_ ?_
  .trivial
  repeat'(first|exact trivial|apply eS rfl|refine rX f ?_ ?_|refine rC ?_ ?_<;>intro g<;>try(cases g;done))
  .rw[At g]at i;exact fI f [.tmp 6,.tmp 7] (by rw[i];exact eR)
  rw[As (AAs.2 g)]at i;exact fI f [.tmp 6,.tmp 7] (by rw[i];exact eR)
 .exact eN
 exact eN
end
structure FY (l:List (List Int)):Prop where
 wds:∀c∈l,Ei c
 some:∀c∈l,∃i,A0 c i=true
 wid:∀c∈l,c.length<=64
 meet:∀a∈l,∀b∈l,(∃i,A0 a i=true/\A0 b i=true)->∃t∈l,∀i,A0 t i=(A0 a i&&A0 b i)
structure Bs (l:List (List Int)):Prop where
 wds:∀c∈l,Ei c
 some:∀c∈l,∃i,A0 c i=true
theorem OW {l:List (List Int)} {k:Nat} (h:¬k<l.length):l.getD k []=[]:=by
 rw[AS,AAA oa];rfl
theorem Bs.get {l:List (List Int)} (h:Bs l) (k:Nat):Ei (l.getD k []):=by
 by_cases a:k<l.length
 .exact h.wds _ (AL a)
 rw[OW a];intro x b;cases b
theorem tU {l:List (List Int)} (h:Bs l) (i k:Nat):Bs (Cs l i k):=by
 unfold Cs;split
 .rename_i b;rw[AT,Do]at b;refine⟨λc a=>?_,λc a=>?_⟩
  .rcases aT.1 a with a|a
   .exact h.wds c a
   have:c=DP (l.getD i []) (l.getD k []):=by simpa using a
   rw[this];exact LU (h.get i) (h.get k)
  rcases aT.1 a with a|a
  .exact h.some c a
  have:c=DP (l.getD i []) (l.getD k []):=by simpa using a
  rw[this];have m:DP (l.getD i []) (l.getD k [])≠[]:=by
   intro e;rw[e]at b;exact absurd b.1 sa
  have n:Ei (Fi .and (l.getD i []) (l.getD k []) (l.getD i []).length):=by
   intro x f;unfold Fi at f;obtain⟨j,-,rfl⟩:=To.1 f;rw[Il,Eh (BA (h.get i) _) (BA (h.get k) _)];have d:=BA (h.get i) j;have o:((l.getD i []).getD j 0).toNat &&& ((l.getD k []).getD j 0).toNat<=((l.getD i []).getD j 0).toNat:=ABR;have p:=d.1;have q:=d.2;exact⟨AAg _,by omega⟩
  obtain⟨j,g⟩:=Ze n m;exact⟨j,by unfold DP;rw[Ew];exact g⟩
 exact h
theorem cW {i:Nat}:∀ {n k:Nat} {l:List (List Int)},Bs l->Bs (D2 i n k l)
 | 0,_,_,h=>h
 | n+1,k,l,h=>by
  unfold D2;split
  .exact cW (tU h i k)
  exact h
theorem cX:∀ {n i:Nat} {l:List (List Int)},Bs l->Bs (GC n i l)
 | 0,_,_,h=>h
 | n+1,i,l,h=>by
  unfold GC;split
  .exact cX (cW h)
  exact h
theorem Tn {d:List AD} (f:AU d=0):Bs (AK d):=by
 obtain⟨-,l,-⟩:=Ab f;have h:=DC d d.length;rw[TO]at h;have b:(AG d).length<=4096:=by omega
 refine⟨λc a=>?_,λc a=>?_⟩
 .unfold AK at a;obtain⟨s,-,rfl⟩:=To.1 a;exact(BQ (d:=d) b s 0).2.1
 unfold AK at a;obtain⟨s,hs,rfl⟩:=To.1 a;obtain⟨j,g,e⟩:=BJ ByteArray.empty hs;have i:0<=AY d s:=by
  obtain⟨x,k,e⟩:=CY hs;rw[<-e];exact CD k
 exact⟨j,(BQ (d:=d) b s j).1.2 ⟨g,by rw[e];exact JU i⟩⟩
theorem HP {d:List AD} (l:AU d=0) (u:(AO (AK d)).length<=256):FY (AO (AK d)):=by
 obtain⟨-,o,-⟩:=Ab l;have g:Bs (AO (AK d)):=cX (Tn l);have n:=VV u;refine⟨g.wds,g.some,NI (JX o),λa r b s hi=>?_⟩;obtain⟨q,f,rfl⟩:=BJ [] r;obtain⟨p,hp,rfl⟩:=BJ [] s;have key:∀q p,q<(AO (AK d)).length->p<(AO (AK d)).length->Jw (AO (AK d)) q p->(∃i,A0 ((AO (AK d)).getD q []) i=true/\A0 ((AO (AK d)).getD p []) i=true) ->
   ∃t∈AO (AK d),∀i,A0 t i=(A0 ((AO (AK d)).getD q []) i&&A0 ((AO (AK d)).getD p []) i):=by
  intro q p f hp c hi;have m:=LT (g.get q) (g.get p);rcases c with c|c
  .obtain⟨i,j,k⟩:=hi;have:=m i;rw[c,j,k]at this;unfold A0 at this;simp at this
  exact⟨_,c,m⟩
 rcases ABX p q with h|h|h
 .exact key q p f hp (n q p h f) hi
 .subst h;exact⟨_,AL f,λi=>by rw[Bool.and_self]⟩
 obtain⟨t,v,e⟩:=key p q hp f (n p q h hp) (by obtain⟨i,j,k⟩:=hi;exact⟨i,k,j⟩);exact⟨t,v,λi=>by rw[e i,Bool.and_comm]⟩
def tV (h:C6):Prop:=FY (h.1.map λt=>t.2.1)/\h.1.length<=256
theorem Zl {d:List AD} (m:AU d=0) (k:(AO (AK d)).length<=256):tV (B4 d):=by
 have g:=HP m k;have f:∀c,c∈((B4 d).1.map λt=>t.2.1)↔c∈AO (AK d):=by
  intro c;have e:((B4 d).1.map λt=>t.2.1)=(AE d).map λx=>x.2:=by
   show ((Ej _ _ _).map λt=>t.2.1)=_;unfold Ej;rw[AB8];apply AAx
   .simp
   intro i l q;simp[AS,show i<(AE d).length by simpa using l]
  rw[e];constructor
  .intro h;obtain⟨x,p,rfl⟩:=To.1 h;obtain⟨b,j,rfl⟩:=CE.1 p;exact j
  intro h;exact To.2 ⟨_,CE.2 ⟨c,h,rfl⟩,rfl⟩
 refine⟨⟨λc h=>g.wds c ((f c).1 h),λc h=>g.some c ((f c).1 h),λc h=>g.wid c ((f c).1 h),λa n b j hi=>?_⟩,?_⟩
 .obtain⟨t,o,e⟩:=g.meet a ((f a).1 n) b ((f b).1 j) hi;exact⟨t,(f t).2 o,e⟩
 show (Ej _ _ _).length<=256;rw[LV,Ey];exact k
theorem C7 {h:C6} {t:Int} (a:0<=t) (g1:t<(h.1.length:Int)):Ay h t∈h.1.map λt=>t.2.1 :=
 To.2 ⟨_,AW h.1 Re (k:=t.toNat) oa,rfl⟩
theorem HQ {a b:List Int} (d:Ei a) (e:Ei b):HO a b=true↔∀i,A0 a i=true->A0 b i=true:=by
 constructor
 .intro h i hi;by_cases f:i / 64<a.length
  .have c:=IS.1 h (i / 64) (gO.2 f);rw[AA9,Il]at c;exact PK (BA d _) (BA e _) c (ACz _ di) hi
  exfalso;unfold A0 at hi;rw[GD f]at hi;simp at hi
 intro h;unfold HO;rw[IS];intro k _;rw[AA9,Il];exact Ti d e h k
theorem NP {a b:List Int} (c:Ei a) (d:Ei b) (i:Nat):A0 (CI a b) i=(A0 a i&&A0 b i):=by
 unfold CI;rw[Ew];unfold A0;have:(EP (Va a b) (min a.length b.length) (min a.length b.length)).getD (i / 64) 0=A4 .and .u64 (a.getD (i / 64) 0) (b.getD (i / 64) 0):=by
  by_cases h:i / 64<min a.length b.length
  .unfold EP;rw[AS,AAr,ABN h];show (if i / 64<min a.length b.length then Va a b (i / 64) else 0)=_;rw[At h];rfl
  rw[GD (by rw[LW];exact h),Eh (BA c _) (BA d _)];by_cases e:i / 64<a.length
  .rw[GD (b:=b) oa];simp
  rw[GD (b:=a) e];simp
 rw[this,Eh (BA c _) (BA d _),AA4,Nat.testBit_and]
theorem NQ {a b:List Int} (d:Ei a) (f:Ei b):Ei (CI a b):=by
 refine Ex λx e=>?_;unfold EP at e;obtain⟨j,-,rfl⟩:=To.1 e;split
 .unfold Va;rw[Eh (BA d _) (BA f _)];have c:=BA d j;have g:(a.getD j 0).toNat &&& (b.getD j 0).toNat<=(a.getD j 0).toNat:=ABR;have h:=c.1;have i:=c.2;exact⟨AAg _,by omega⟩
 exact⟨by decide,by decide⟩
theorem Rh (c:List Int):∀(l:List FX) (k:Nat),(EQ c k l=-1/\∀t∈l,AZ t.2.1 c=false)\/((k:Int)<=EQ c k l/\EQ c k l<(k:Int)+l.length/\AZ (l.getD ((EQ c k l).toNat-k) Re).2.1 c=true)
 | [],k=>.inl ⟨rfl,λt a=>by cases a⟩
 | x :: l,k=>by
  simp only[EQ];split
  .rename_i h;right;refine⟨by omega,by simp only[iF];omega,?_⟩;rw[show ((k:Int).toNat-k)=0 by omega];exact h
  rename_i h;have h:AZ x.2.1 c=false:=by simpa using h
  rcases Rh c l (k+1) with ⟨b,d⟩|⟨b,d,e⟩
  .left;refine⟨b,λt a=>?_⟩;rcases Is.1 a with rfl|a
   .exact h
   exact d t a
  right;refine⟨by omega,by simp only[iF];omega,?_⟩;rw[show ((EQ c (k+1) l).toNat-k)=((EQ c (k+1) l).toNat-(k+1))+1 by omega];exact e
def m5 (h:C6) (t:Int) (i:Nat):Bool:=A0 (Ay h t) i
theorem Ri {h:C6} (c:tV h) {a b:Int} (a0:0<=a) (d:a<(h.1.length:Int)) (e:0<=b) (f:b<(h.1.length:Int)):NM h a b=true↔∀i,m5 h b i=true->m5 h a i=true :=
 HQ (c.1.wds _ (C7 e f)) (c.1.wds _ (C7 a0 d))
theorem m6 {h:C6} (c:tV h) {a b:Int} (a0:0<=a) (l:a<(h.1.length:Int)) (m:0<=b) (n:b<(h.1.length:Int)) :
  ((Ek h a b).2=true->0<=(Ek h a b).1/\(Ek h a b).1<(h.1.length:Int)/\∀i,m5 h (Ek h a b).1 i=(m5 h a i&&m5 h b i))/\((∃i,m5 h a i=true/\m5 h b i=true)->(Ek h a b).2=true):=by
 have v:=c.1.wds _ (C7 a0 l);have w:=c.1.wds _ (C7 m n);have f:=NP v w;have q:=NQ v w;have heq:∀t∈h.1,AZ t.2.1 (CI (Ay h a) (Ay h b))=true↔∀i,A0 t.2.1 i=A0 (CI (Ay h a) (Ay h b)) i:=by
  intro t g;have y:=c.1.wds t.2.1 (To.2 ⟨t,g,rfl⟩);unfold AZ;rw[AT,HQ y q,HQ q y];constructor
  .rintro⟨z,A⟩ i;rw[AAo];exact⟨z i,A i⟩
  intro e;exact⟨λi hi=>by rw[<-e i];exact hi,λi hi=>by rw[e i];exact hi⟩
 unfold Ek;by_cases j:(CI (Ay h a) (Ay h b)).length=0
 .rw[At j];refine⟨λe=>(by cases e),?_⟩;rintro⟨i,s,u⟩;exfalso;have:=f i;rw[dO j]at this;unfold m5 at s u;rw[s,u]at this;unfold A0 at this;simp at this
 rw[As j];rcases Rh (CI (Ay h a) (Ay h b)) h.1 0 with ⟨d,o⟩|⟨d,o,p⟩
 .rw[At oa];refine⟨λe=>(by cases e),λhi=>?_⟩;exfalso;obtain⟨t,g,e⟩:=c.1.meet _ (C7 a0 l) _ (C7 m n) hi;obtain⟨x,r,rfl⟩:=To.1 g;have:=(heq x r).2 (λi=>by rw[f i];exact e i);rw[o x r]at this;cases this
 have d:0<=EQ (CI (Ay h a) (Ay h b)) 0 h.1:=by omega
 rw[As oa];refine⟨λ_=>⟨d,by simp only;omega,λi=>?_⟩,λ_=>rfl⟩;rw[AC2]at p;have B:=AW h.1 Re (k:=(EQ (CI (Ay h a) (Ay h b)) 0 h.1).toNat) oa;have:=(heq _ B).1 p i;rw[f i]at this;exact this
def tW (c:List Int):Prop:=c.length=0\/c.getD (c.length-1) 0≠0
theorem DD (b:List Int):tW (A9 b):=by
 unfold tW A9;have c:=Q8 b b.length;rw[OS,ACj c];rcases OT b b.length with h|h
 .exact .inl h
 by_cases a:Cm b b.length=0
 .exact .inl a
 right;rw[AS,ABr oa,<-AS];exact h
theorem tX {a b:List Int} (g:Ei a) (j:Ei b) (h:∀i,A0 a i=A0 b i) (k:Nat):a.getD k 0=b.getD k 0:=by
 have d:=BA g k;have f:=BA j k;have m:=d.1;have o:=d.2;have p:=f.1;have q:=f.2;have e:(a.getD k 0).toNat=(b.getD k 0).toNat:=by
  refine Nat.eq_of_testBit_eq λr=>?_;by_cases l:r<64
  .have:=h (64*k+r);unfold A0 at this;rw[show (64*k+r) / 64=k by omega,show (64*k+r) % 64=r by omega]at this;exact this
  have big:∀n:Nat,n<18446744073709551616->n.testBit r=false:=λn c=>by
   have e:(18446744073709551616:Nat)=2 ^ 64:=by decide
   rw[e]at c;exact ABV (AAf c (ACf di oa))
  rw[big _ oa,big _ oa]
 omega
theorem cZ {a b:List Int} (d:∀k,a.getD k 0=b.getD k 0) (c:tW b):b.length<=a.length:=by
 rcases c with h|h
 .omega
 refine IN λe=>h ?_;rw[<-d];exact GD oa
theorem MR {a b:List Int} (f:Ei a) (g:Ei b) (l:tW a) (m:tW b) (h:∀i,A0 a i=A0 b i):a=b:=by
 have c:=tX f g h;have j:a.length=b.length:=jM (cZ (λk=>(c k).symm) l) (cZ c m);refine AAx j λi d e=>?_;have:=c i;simpa[AS,d,e] using this
theorem Xa {α:Type} (l:List α) (x:α) (n:Nat):List.Perm (l.take n++[x]++l.drop n) (x :: l):=by
 have h:l.take n++[x]++l.drop n=l.take n++x :: l.drop n:=by simp
 rw[h];refine List.perm_middle.trans ?_;rw[ABz]
def Xb (l:List ByteArray):Prop:=l.Pairwise λa b=>AM a b=false
theorem H0 {a b:ByteArray} (h:AM a b=false):AM b a=false:=by
 cases c:AM b a with
 | false=>rfl
 | true=>rw[CX c]at h;cases h
theorem Rj {l:List ByteArray} {s:ByteArray} (h:Xb l) (hs:∀x∈l,AM x s=false):Xb (C3 l s):=by
 unfold C3;split
 .exact h
 refine(List.Perm.pairwise_iff (λb=>H0 b) (Xa l s _)).2 ?_;exact AAl.2 ⟨λx a=>H0 (hs x a),h⟩
theorem MS {d:List AD} (b:A5 d=0):Xb (AG d):=by
 have key:∀k,k<=d.length->Xb (AG (d.take k))/\∀s∈AG (d.take k),∃i,i<k/\(d.getD i d0).1=s:=by
  intro k;induction k with
  | zero =>
   intro _;exact⟨.nil,λs hs=>by cases hs⟩
  | succ k l =>
   intro m;obtain⟨c,a⟩:=l oa;have e:AG (d.take (k+1))=C3 (AG (d.take k)) (d.getD k d0).1:=by
    have:d.take (k+1)=d.take k++[d.getD k d0]:=Ai d d0 oa;rw[this];unfold AG;rw[AAk];rfl
   rw[e];refine⟨Rj c λx h=>?_,λs hs=>?_⟩
   .obtain⟨i,hi,rfl⟩:=a x h;cases f:AM (d.getD i d0).1 (d.getD k d0).1 with
    | false=>rfl
    | true =>
     have g:=Kn d f;rw[HJ b (j:=i) oa,HJ b (j:=k) oa]at g;omega
   rcases FU hs with hs|hs
   .obtain⟨i,hi,e⟩:=a s hs;exact⟨i,by omega,e⟩
   exact⟨k,by omega,hs.symm⟩
 have:=(key d.length (If _)).1
 rwa [TO]at this
structure Nd (l:List (List Int)):Prop where
 nd:l.Nodup
 nrm:∀c∈l,tW c
theorem tY {l:List (List Int)} {c:List Int} (h:Nd l) (b:c∉l) (d:tW c):Nd (l++[c]):=by
 refine⟨?_,λx a=>?_⟩
 .rw[wS];refine⟨h.nd,by simp,λx a y f e=>b ?_⟩;have:y=c:=by simpa using f
  rw[<-this,<-e];exact a
 rcases aT.1 a with a|a
 .exact h.nrm x a
 have:x=c:=by simpa using a
 rw[this];exact d
theorem tZ {l:List (List Int)} (h:Nd l) (i k:Nat):Nd (Cs l i k):=by
 unfold Cs;split
 .rename_i a;rw[AT,OF]at a;refine tY h (λb=>?_) (DD _);have:OI l (DP (l.getD i []) (l.getD k []))=true:=aS.2 ⟨_,b,by unfold GX;exact AAt rfl⟩;rw[this]at a;cases a.2
 exact h
theorem c5 {i:Nat}:∀ {n k:Nat} {l:List (List Int)},Nd l->Nd (D2 i n k l)
 | 0,_,_,h=>h
 | n+1,k,l,h=>by
  unfold D2;split
  .exact c5 (tZ h i k)
  exact h
theorem NR:∀ {n i:Nat} {l:List (List Int)},Nd l->Nd (GC n i l)
 | 0,_,_,h=>h
 | n+1,i,l,h=>by
  unfold GC;split
  .exact NR (c5 h)
  exact h
theorem Ir {d:List AD} (p:AU d=0):Nd (AK d):=by
 obtain⟨-,o,-,l,u⟩:=Ab p;have v:=DC d d.length;rw[TO]at v;have q:=MS l;refine⟨?_,λc r=>?_⟩
 .unfold AK List.Nodup;rw[AB3,iN];intro i j hi a t e;have n:=(iN.1 q) i j hi a t;have g:∀k,(f:k<(AG d).length)->(AG d).getD k ByteArray.empty=(AG d)[k]:=λk f=>by simp[AS,f]
  have m:=(BQ (d:=d) (all:=AG d) oa (AG d)[j] 0).2.1;have b:=XL l u o hi a (by
   rw[g i hi,g j a,e];unfold Cc;have:=(EC m m).2 λ_ h=>h;rw[this];rfl)
  rw[g i hi,g j a,n]at b;cases b
 obtain⟨s,hs,rfl⟩:=To.1 r;unfold DN ZT;split
 .exact DD _
 exact .inl rfl
theorem PR {d:List AD}:∀ {l:List (List Int)} {o:List AI},(o.map (·.2)++l).Nodup->((l.foldl (MN d) o).map (·.2)).Nodup
 | [],o,h=>by simpa using h
 | b :: l,o,h=>by
  rw[No];refine PR ?_;unfold MN Fl RP;have hp:=(Xa o (CH d (AG d) (AK d) b,b) (DS (CH d (AG d) (AK d) b,b) o o.length)).map (λx:AI=>x.2);have c:List.Perm ((o.take (DS (CH d (AG d) (AK d) b,b) o o.length)++[(CH d (AG d) (AK d) b,b)]++o.drop (DS (CH d (AG d) (AK d) b,b) o o.length)).map (λx:AI=>x.2)++l) (o.map (·.2)++b :: l) :=
   (hp.append_right l).trans (List.perm_middle (a:=b)).symm
  exact c.nodup_iff.2 h
theorem xA {d:List AD} (g:AU d=0):Nd ((B4 d).1.map λt=>t.2.1):=by
 have a:Nd (AO (AK d)):=NR (Ir g);have e:((B4 d).1.map λt=>t.2.1)=(AE d).map λx=>x.2:=by
  show ((Ej _ _ _).map λt=>t.2.1)=_;unfold Ej;rw[AB8];apply AAx
  .simp
  intro i f l;simp[AS,show i<(AE d).length by simpa using f]
 rw[e];refine⟨PR (by simpa using a.nd),λc j=>?_⟩;obtain⟨x,k,rfl⟩:=To.1 j;obtain⟨b,h,rfl⟩:=CE.1 k;exact a.nrm b h
theorem m7:∀(x y:List UInt8),Op.bytesLess x y=true↔x<y
 | _,[]=>by
  unfold Op.bytesLess;simp
 | [],b :: y=>by
  unfold Op.bytesLess;simp
 | a :: x,b :: y=>by
  unfold Op.bytesLess;rw[bY,AT,m7 x y,List.cons_lt_cons_iff];simp
theorem Fq {x y:ByteArray}:Bh x y=true↔x.toList<y.toList:=m7 _ _
theorem FB {x y z:ByteArray} (a:Bh x y=true) (b:Bh y z=true):Bh x z=true:=Fq.2 (List.lt_trans (Fq.1 a) (Fq.1 b))
theorem Xc {x y:ByteArray} (c:¬Bh x y=true) (d:¬AM x y=true):Bh y x=true:=by
 refine Fq.2 ?_;have a:¬x.toList<y.toList:=λq=>c (Fq.2 q);have b:¬x.toList=y.toList:=λq=>d (by unfold AM;rw[q];exact beq_self_eq_true _);exact IN λq=>b (List.le_antisymm (List.not_lt.1 q) (List.not_lt.1 a))
def Kv (l:List ByteArray):Prop:=l.Pairwise λa b=>Bh a b=true
theorem Xd {l:List ByteArray} (d:Kv l) (s:ByteArray):Kv (C3 l s):=by
 unfold C3;split
 .exact d
 rename_i n;have o:l.take (SW l s)=l.takeWhile λx=>Bh x s:=by
  unfold SW;exact(List.prefix_iff_eq_take.1 (List.takeWhile_prefix _)).symm
 have h:∀x∈l.take (SW l s),Bh x s=true:=λx c=>by
  rw[o]at c;have:=List.all_takeWhile (p:=λx=>Bh x s) (l:=l);rw[IS]at this;exact this x c
 have i:∀x∈l.drop (SW l s),Bh s x=true:=by
  by_cases f:SW l s<l.length
  .have m:=iS f;have e:l.getD (SW l s) ByteArray.empty=l[SW l s]:=by simp[AS,f]
   have k:Bh s l[SW l s]=true:=by
    refine Xc (λq=>?_) λq=>n ?_
    .have:=(ZO (λx=>Bh x s) ByteArray.empty l (SW l s) (If _)).1 ⟨f,by rw[e];exact q⟩;exact absurd this (by unfold SW;omega)
    rw[AT,Do,e];exact⟨f,q⟩
   intro x c;have hp:(l.drop (SW l s)).Pairwise λa b=>Bh a b=true:=d.drop;rw[m]at c hp;rcases Is.1 c with rfl|c
   .exact k
   exact FB k ((AAl.1 hp).1 x c)
  rw[OR oa];exact λx c=>by cases c
 show List.Pairwise _ _;rw[oN,ACg];refine⟨d.take,AAl.2 ⟨i,d.drop⟩,λa j b g=>?_⟩;rcases Is.1 g with rfl|g
 .exact h a j
 exact FB (h a j) (i b g)
theorem Tp (d:List AD):Kv (Af d):=by
 have b:∀(l:List (ByteArray×ByteArray)) (o:List ByteArray),Kv o->Kv (l.foldl Hw o):=by
  intro l;induction l with
  | nil=>exact λo h=>h
  | cons x l a=>exact λo h=>a _ (Xd h x.1)
 have c:∀(l:List AD) (o:List ByteArray),Kv o->Kv (l.foldl Kk o):=by
  intro l;induction l with
  | nil=>exact λo h=>h
  | cons x l a=>exact λo h=>a _ (b x.2.2 o h)
 exact c d [] .nil
theorem Fs {α:Type} [DecidableEq α]:∀ {l l':List α},l.Nodup->(∀x∈l,x∈l')->l.length<=l'.length
 | [],_,_,_=>by simp
 | x :: l,l',c,h=>by
  obtain⟨f,d⟩:=AAn.1 c;have a:=h x sa;have:=Fs (l:=l) (l':=l'.erase x) d (λy b=>(ABE (λe:y=x=>f (by rw[<-e];exact b))).2 (h y (by simp[b])));rw[ABO a]at this;have:=AAQ a;simp only[iF];omega
def A0J (d:List AD) (o:List ByteArray) (i:Nat):Prop:=∀j,j<i->∀x∈d,AR x.2.1 (o.getD j ByteArray.empty)=true->AR o x.1=true
theorem m8 {c:ByteArray} {o:List ByteArray} {x:AD} (h:AR x.2.1 c=true):AR (EM c o x) x.1=true:=by grind [EM,JP,B3]
theorem Tq {c:ByteArray} {x:AD} (h:AR x.2.1 c=true):∀ {l:List AD} {o:List ByteArray},x∈l->AR (l.foldl (EM c) o) x.1=true
 | [],_,a=>by cases a
 | y :: l,o,a=>by
  rw[No];rcases Is.1 a with rfl|a
  .grind [Gt,LQ,m8]
  exact Tq h a
theorem Rk {d:List AD}:∀ {n i:Nat} {o:List ByteArray},Sf d o->d.length<=n+i->A0J d o i->i<=o.length->∃m,A0J d (CO d n i o) m/\(CO d n i o).length<=m
 | 0,i,o,b,f,a,hi=>⟨i,a,by
  have:=b.len;show o.length<=i;omega⟩
 | n+1,i,o,b,f,a,hi=>by
  unfold CO;split
  .rename_i q;obtain⟨g1,k⟩:=RB (o.getD i ByteArray.empty) (l:=d) (o:=o) (λ_ h=>h) b;refine Rk g1 oa (λj p x c hs=>?_) oa;rw[OG _ oa]at hs;by_cases e:j=i
   .subst e;exact Tq hs c
   exact Gt (λz g=>LQ g) (a j oa x c hs)
  exact⟨i,a,by omega⟩
theorem OX {α:Type} {p:α->Bool}:∀ {l:List α},l.countP p=1->∀x∈l,p x=true->∀y∈l,p y=true->x=y
 | [],h,x,a,_,_,_,_=>by cases a
 | z :: l,h,x,a,d,y,b,e=>by
  rw[ABv]at h;by_cases c:p z=true
  .rw[At c]at h;grind
  rw[As c]at h;have a:x∈l:=by grind
  have b:y∈l:=by grind
  exact OX oa x a d y b e
theorem Rl (s:ByteArray):∀(l:List AD) (k:Nat),0<=Cn s k l->∃x∈l,AM x.1 s=true
 | [],k,h=>by
  simp only[Cn]at h;omega
 | y :: l,k,h=>by
  simp only[Cn]at h;split at h
  .rename_i e;exact⟨y,by simp,e⟩
  obtain⟨x,a,e⟩:=Rl s l (k+1) h;exact⟨x,by simp[a],e⟩
theorem Zm {d:List AD} (v:AU d=0):∃r∈d,∀x∈d,AR (Ax d r.1) x.1=true:=by
 obtain⟨hs,L,l,q,p⟩:=Ab v;have F:0<d.countP λx=>x.2.1.length==0:=by grind [Et]
 obtain⟨r,c,u⟩:=List.countP_pos_iff.1 F;refine⟨r,c,?_⟩;have G:=CD c;have A:Sf d [r.1]:=⟨λs hs=>by
  have:s=r.1:=by simpa using hs
  rw[this];exact G,by simp⟩
 obtain⟨m,E,M⟩:=Rk (d:=d) (n:=d.length) (i:=0) A oa (λj C=>by omega) oa;have t:r.1∈CO d d.length 0 [r.1]:=JT sa;have B:Ax d r.1=Y1 (CO d d.length 0 [r.1]):=by unfold Ax;rw[As oa]
 rw[B];generalize CO d d.length 0 [r.1]=o at *;have key:∀(k:Nat) (x:AD),x∈d->Fc d x.1<=k->AR o x.1=true:=by
  intro k;induction k with
  | zero =>
   intro x a D;by_cases g:x.2.1.length=0
   .have e:=OX l x a (by simpa using g) r c u;rw[e];exact Gr t
   obtain⟨s,b⟩:∃s,s∈x.2.1:=ABu oa;have:=JS q p a (Gr b);omega
  | succ k K =>
   intro x a D;by_cases g:x.2.1.length=0
   .have e:=OX l x a (by simpa using g) r c u;rw[e];exact Gr t
   obtain⟨s,b⟩:∃s,s∈x.2.1:=ABu oa;have H:=JS q p a (Gr b);obtain⟨y,J,e⟩:=Rl s d 0 (hs x a s b);rw[<-HK d e]at H;obtain⟨z,h,f⟩:=aS.1 (K y J oa);obtain⟨j,C,rfl⟩:=BJ ByteArray.empty h;refine E j oa x a ?_;exact aS.2 ⟨s,b,CX (BX f e)⟩
 intro x a;obtain⟨z,h,e⟩:=aS.1 (key _ x a (If _));obtain⟨w,I,f⟩:=aS.1 (Ko (o:=[]) h);exact aS.2 ⟨w,I,BX f e⟩
abbrev xB (c:List Int):Nat:=(B8 c).length
theorem Xe {w:Int} (a:OJ w) {r:Nat} (g:r<64):XA w (r:Int)=w.toNat.testBit r:=by
 have b:=a.1;have c:=a.2;have d:w.toNat / 2 ^ r<=w.toNat:=Nat.div_le_self _ _;have e:Cj .u64 w (r:Int)=((w.toNat / 2 ^ r:Nat):Int):=by
  unfold Cj;have f:min ((r:Int)).toNat IntKind.u64.bits=r:=by
   show min ((r:Int)).toNat 64=r;omega
  grind
 unfold XA;rw[Nat.testBit_eq_decide_div_mod_eq,e];generalize w.toNat / 2 ^ r=z at *;rw[Eh ⟨by omega,by omega⟩ ⟨by decide,by decide⟩,AA4,show (1:Int).toNat=1 from rfl,Nat.and_one_is_mod,AAo,AA9,Do];omega
theorem JZ {b:List Int} (e:Ei b) (i:Nat):Gh b (i:Int)=A0 b i:=by
 have a:Int.tdiv (i:Int) 64=((i / 64:Nat):Int):=by rw[oF oa];omega
 have c:Int.tmod (i:Int) 64=((i % 64:Nat):Int):=by rw[AAB oa];omega
 unfold Gh A0;rw[a,c,AA4];by_cases d:i / 64<b.length
 .rw[As (by rw[bY,Do,Do];omega),Xe (BA e _) oa]
 rw[At (by rw[bY,Do,Do];omega),GD d];simp
theorem PS (c:List Int):(B8 c).Nodup:=by
 unfold B8 Dk List.Nodup;rw[AB3];refine List.Pairwise.imp (λh e=>h ?_) (List.Pairwise.filter _ ACb);exact ACF e
theorem Gu {c:List Int} (b:Ei c) {x:Int}:x∈B8 c↔∃i:Nat,x=(i:Int)/\A0 c i=true:=by
 unfold B8 Dk;rw[To];constructor
 .grind [JZ]
 rintro⟨i,rfl,a⟩;refine⟨i,tO.2 ⟨gO.2 ?_,by rw[JZ b];exact a⟩,rfl⟩;refine IN λd=>?_;unfold A0 at a;rw[GD oa]at a;simp at a
theorem yQ {a b:List Int} (d:Ei a) (e:Ei b) (h:∀i,A0 a i=true->A0 b i=true) (f:xB b<=xB a) (i:Nat) (hi:A0 b i=true):A0 a i=true:=by
 refine IN λj=>?_;have c:(i:Int)∉B8 a:=λg=>by grind [Gu]
 have:=Fs (l:=(i:Int) :: B8 a) (l':=B8 b) (AAn.2 ⟨c,PS a⟩) λx c=>by grind [Gu]
 grind
theorem Rm (x:AI) (out:List AI):∀n,(DS x out n=0->n=0\/D0 x (out.getD 0 c0)=true)/\∀k,DS x out n=k+1->D0 x (out.getD k c0)=false
 | 0=>⟨λ_=>.inl rfl,λk h=>by simp[DS]at h⟩
 | n+1=>by
  obtain⟨a,b⟩:=Rm x out n;grind [DS]
theorem Xf {a b:AI} (h:D0 a b=true):xB b.2<=xB a.2:=by
 unfold D0 at h;grind
theorem Vb {a b:AI} (h:D0 a b=false):xB a.2<=xB b.2:=by
 unfold D0 at h;grind
def HM (out:List AI):Prop:=∀y∈out,xB y.2<=xB (out.getD 0 c0).2
theorem t2 {out:List AI} (h:HM out) (x:AI):HM (RP out x):=by
 obtain⟨s1,s2⟩:=Rm x out out.length;have f:=XM x out out.length;intro y a;rw[NJ]at a;unfold RP;cases b:DS x out out.length with
 | zero =>
  rw[AB6,AAz,AAK];have e:([x]++out).getD 0 c0=x:=rfl;rw[e];rcases a with rfl|a
  .exact If _
  have c:=h y a;rcases s1 b with e|e
  .grind
  exact f3 c (Xf e)
 | succ k =>
  have d:=Vb (s2 k b);rw[b]at f;have e:(out.take (k+1)++[x]++out.drop (k+1)).getD 0 c0=out.getD 0 c0:=by grind
  rw[e];rcases a with rfl|a
  .exact f3 d (h _ (AL oa))
  exact h y a
theorem Xg {d:List AD}:∀ {l:List (List Int)} {o:List AI},HM o->HM (l.foldl (MN d) o)
 | [],_,h=>h
 | b :: l,o,h=>by
  rw[No];exact Xg (t2 h _)
def In (n:Nat) (c:List Int):Prop:=Ei c/\∀i,A0 c i=true->i<n
theorem yR (n:Nat):In n []:=⟨λx a=>(by cases a),λi hi=>by unfold A0 at hi;simp at hi⟩
theorem yS {n:Nat} {a b:List Int} (c:In n a) (d:In n b):In n (DP a b) :=
 ⟨LU c.1 d.1,λi hi=>by
  rw[LT c.1 d.1,AT]at hi;exact c.2 i hi.1⟩
theorem t6 {n:Nat} {l:List (List Int)} (h:∀c∈l,In n c) (k:Nat):In n (l.getD k []):=by grind [AL,OW,yR]
theorem t7 {n:Nat} {l:List (List Int)} (h:∀c∈l,In n c) (i k:Nat):∀c∈Cs l i k,In n c:=by grind [Cs,DP,yS,t6]
theorem c6 {q i:Nat}:∀ {n k:Nat} {l:List (List Int)},(∀c∈l,In q c)->∀c∈D2 i n k l,In q c
 | 0,_,_,h=>h
 | n+1,k,l,h=>by
  unfold D2;split
  .exact c6 (t7 h i k)
  exact h
theorem P6 {q:Nat}:∀ {n i:Nat} {l:List (List Int)},(∀c∈l,In q c)->∀c∈GC n i l,In q c
 | 0,_,_,h=>h
 | n+1,i,l,h=>by
  unfold GC;split
  .exact P6 (c6 h)
  exact h
def A1v (h:C6):Prop:=∀t,0<=t->t<(h.1.length:Int)->NM h 0 t=true
theorem yT {d:List AD} (f:AU d=0) (F:(AO (AK d)).length<=256):A1v (B4 d):=by
 have E:=Zl f F;obtain⟨-,z,-,P,N⟩:=Ab f;have H:=DC d d.length;rw[TO]at H;have j:(AG d).length<=4096:=by omega
 obtain⟨r,I,M⟩:=Zm f;have a:∀c∈AO (AK d),In (AG d).length c:=P6 λc g=>by
  obtain⟨s,hs,rfl⟩:=To.1 g;exact⟨(BQ (d:=d) j s 0).2.1,λi hi=>((BQ (d:=d) j s i).1.1 hi).1⟩
 obtain⟨s,hs,es⟩:=aS.1 (ML I);have J:s=r.1:=by grind [CY,FT]
 subst J;have m:DN d (AG d) r.1∈AO (AK d):=by
  have hp:AK d <+: AO (AK d):=Kr 257 0 (AK d);exact hp.subset (To.2 ⟨_,hs,rfl⟩)
 have k:∀i,i<(AG d).length->A0 (DN d (AG d) r.1) i=true:=λi hi=>by grind [BQ,CY,AL]
 have A:HM (AE d):=Xg λy L=>by cases L
 have p:=CE.2 ⟨_,m,rfl⟩;have q:0<(AE d).length:=AAQ p;have o:=A _ p;obtain⟨b,l,h⟩:=CE.1 (AL (d:=c0) q);rw[h]at o;have D:=yQ (a b l).1 (a _ m).1 (λi hi=>k i ((a b l).2 i hi)) o;have C:Ay (B4 d) 0=b:=by
  show ((Ej (AE d) _ _).getD 0 Re).2.1=b;have:(Ej (AE d) (CS d).1 (AE d).length).getD 0 Re=(((AE d).getD 0 c0).1,((AE d).getD 0 c0).2,Th (AE d) ((0:Nat):Int),(CS d).1.getD 0 []):=by
   unfold Ej;rw[AS,AAr,ABN q];rfl
  rw[this,h]
 have O:(B4 d).1.length=(AE d).length:=LV _ _ _;intro t t0 u;refine(Ri E oa (by show (0:Int)<((B4 d).1.length:Int);omega) t0 u).2 λi hi=>?_;show A0 (Ay (B4 d) 0) i=true;rw[C];refine D i (k i ?_);have B:=C7 t0 u;have G:Ay (B4 d) t∈AO (AK d):=by
  have e:((B4 d).1.map λt=>t.2.1)=(AE d).map λx=>x.2:=by
   show ((Ej _ _ _).map λt=>t.2.1)=_;unfold Ej;rw[AB8];apply AAx
   .simp
   intro i w z;simp[AS,show i<(AE d).length by simpa using w]
  have n:Ay (B4 d) t∈(B4 d).1.map λt=>t.2.1:=B;rw[e]at n;obtain⟨x,K,v⟩:=To.1 n;obtain⟨c,g,rfl⟩:=CE.1 K;rw[<-v];exact g
 exact(a _ G).2 i hi
def Tr (w:Int):Int:=(((List.range 64).filter λ(r:Nat)=>XA w (r:Int)).length:Int)
def w1 (x:Int):Int:=A4 .and .u64 (Cj .u64 x 1) 6148914691236517205+A4 .and .u64 x 6148914691236517205
def w2 (x:Int):Int:=A4 .and .u64 (Cj .u64 x 2) 3689348814741910323+A4 .and .u64 x 3689348814741910323
def w3 (x:Int):Int:=A4 .and .u64 (Cj .u64 x 4+x) 1085102592571150095
def w4 (k x:Int):Int:=x+Cj .u64 x k
def PT (a:Int):Prop:=0<=a/\a<=18446744073709551615
instance (a:Int):Decidable (PT a):=inferInstanceAs (Decidable (_/\_))
def t8 (x:Int):Prop :=
 (PT (Cj .u64 x 1)/\PT (w1 x))/\(PT (Cj .u64 (w1 x) 2)/\PT (w2 (w1 x)))/\(PT (Cj .u64 (w2 (w1 x)) 4)/\PT (Cj .u64 (w2 (w1 x)) 4+w2 (w1 x))) /\
 (PT (Cj .u64 (w3 (w2 (w1 x))) 8)/\PT (w4 8 (w3 (w2 (w1 x)))))/\(PT (Cj .u64 (w4 8 (w3 (w2 (w1 x)))) 16)/\PT (w4 16 (w4 8 (w3 (w2 (w1 x)))))) /\
 (PT (Cj .u64 (w4 16 (w4 8 (w3 (w2 (w1 x))))) 32)/\PT (w4 32 (w4 16 (w4 8 (w3 (w2 (w1 x)))))))/\w4 32 (w4 16 (w4 8 (w3 (w2 (w1 x)))))<=9223372036854775807/\A4 .and .i64 (w4 32 (w4 16 (w4 8 (w3 (w2 (w1 x)))))) 127=Tr x
instance (x:Int):Decidable (t8 x):=by unfold t8;infer_instance
theorem yU:∀k:Nat,k<1024->t8 (k:Int):=by decide +kernel
theorem yV {x:Int} (a:0<=x) (b:x<1024):t8 x:=by
 have:=yU x.toNat oa
 rwa [Int.toNat_of_nonneg a]at this
def Xh (w:Nat):List Nat:=(List.range 64).filter λr=>w.testBit r
theorem c7:∀k:Nat,k<1024->k≠0->Xh k=Lib.ctz 64 k :: Xh (k &&& (k-1)):=by decide +kernel
section
def CR {α:Type} (p:α->Bool):Nat->List α->Int
 | _,[]=>-1
 | k,a :: l=>if p a=true then (k:Int) else CR p (k+1) l
theorem F1 {α:Type} (p:α->Bool):∀(k:Nat) (l:List α),decide (0<=CR p k l)=l.any p
 | _,[]=>rfl
 | k,a :: l=>by
  unfold CR;rw[List.any_cons];split
  .rename_i h;rw[h,Bool.true_or];exact AAt (AAg k)
  rename_i h;have h:p a=false:=by simpa using h
  rw[h,ACG];exact F1 p (k+1) l
theorem Dm {α:Type} (p:α->Bool) (d:α) (l:List α) {k:Nat} (h:k<l.length):CR p k (l.drop k)=if p (l.getD k d)=true then (k:Int) else CR p (k+1) (l.drop (k+1)):=by
 rw[iS h,AS,DO h];rfl
theorem Zn {α:Type} (p:α->Bool):∀(k:Nat) (l:List α),CR p k l=-1\/((k:Int)<=CR p k l/\CR p k l<((k+l.length:Nat):Int))
 | _,[]=>.inl rfl
 | k,a :: l=>by
  unfold CR;split
  .right;simp only[iF];omega
  rcases Zn p (k+1) l with h|h
  .exact .inl h
  right;simp only[iF];omega
def ixS:Spec:={ ins:=[Ad,T9],lend:=true,pre:=λ_=>True,out:=λ(l,s,_)=>[.p T3 (CR (λx=>AM s x) 0 (l:List ByteArray))] }
attribute [local go_sem] ixS
theorem A0K:Ap Tryz.prog 130 ixS:=by
 refine fK [0,1,4,5,7,8,9,16] Tryz.func130 Tryz.ntmps130 AH ?_;rintro w0 O0 ⟨l,s,u⟩ e ⟨⟨g,-⟩,-⟩ -;simp only[AN]at g;simp only[ixS,AP];repeat'(first|exact trivial|apply eS rfl|apply AB|refine rX e ?_ ?_|refine rC ?_ ?_<;>intro a<;>try(cases a;done))
 refine AJ (ι:={k:Nat//k<=l.length/\CR (λx=>AM s x) k (l.drop k)=CR (λx=>AM s x) 0 l}) (λk=>⟨[(0,.p Ad l),(1,.p T9 s),(7,.p (.int .i64) (l.length:Int)),(8,.p (.int .i64) (k.1:Int))],[]⟩) (λk=>l.length-k.1) ⟨0,BY _,rfl⟩ (eW []) (λk=>?_)
 obtain⟨k,i,b⟩:=k;have f:=λh=>Dm (λx=>AM s x) ByteArray.empty l (k:=k) h;simp only;repeat'(first|exact trivial|apply eS rfl|apply AB|refine rX e ?_ ?_|refine rC ?_ ?_<;>intro a<;>try(cases a;done))
 .exact a
 .have c:k<l.length:=An.1 (by assumption);have d:=f c;rw[At a,b]at d;exact fI e [.tmp 4] (by rw[d];exact eR)
 .exact eV
 .have c:k<l.length:=An.1 (by assumption);have d:=f c;rw[As (by rw[a];simp),b]at d;exact⟨⟨k+1,c,d.symm⟩,by simp only;omega,eW []⟩
 have c:l.drop k=[]:=OR (NO.1 a);rw[c]at b;have b:(-1:Int)=CR (λx=>AM s x) 0 l:=b;exact fI e [.tmp 4] (by rw[<-b];exact eR)
theorem Zo (l:List ByteArray) (s:ByteArray):(l.any λx=>AM s x)=AR l s:=by
 unfold AR
 congr 1
 funext x;rw[AAo];exact⟨CX,CX⟩
def m9:Spec:={ ins:=[Ad,T9],lend:=true,pre:=λ_=>True,out:=λ(l,s,_)=>[.p .bool (AR l s)] }
attribute [local go_sem] m9
theorem nC:Ap Tryz.prog 85 m9:=by
 refine fK [0,1,4] Tryz.func85 Tryz.ntmps85 (AF A0K AH) ?_;rintro w0 O0 ⟨l,s,u⟩ a - -;simp only[m9,AP];repeat'(first|exact trivial|apply eS rfl|apply AB|refine rX a ?_ ?_|refine rC ?_ ?_<;>intro b<;>try(cases b;done))
 have h:=F1 (λx=>AM s x) 0 (l:List ByteArray);rw[Zo]at h;exact fI a [.tmp 4] (by rw[<-h];exact eR)
def nD:Spec:={ ins:=[T9],lend:=true,pre:=λ_=>True,out:=λ_=>[.p .bool false] }
attribute [local go_sem] nD
theorem uA:Ap Tryz.prog 90 nD:=by
 refine fK [0,2] Tryz.func90 Tryz.ntmps90 AH ?_;rintro w0 O0 ⟨s,u⟩ a - -;simp only[nD,AP];repeat'(first|exact trivial|apply eS rfl|apply AB|refine rX a ?_ ?_|refine rC ?_ ?_<;>intro b<;>try(cases b;done))
 have h:AM s s=true:=B3 s;exact fI a [.tmp 2] (by rw[h];exact eR)
def MT (a b:ByteArray):Int:=if Bh a b=true then -1 else if AM a b=true then 0 else 1
def c8:Spec:={ ins:=[T9,T9],lend:=true,pre:=λ_=>True,out:=λ(a,b,_)=>[.p T3 (MT a b)] }
attribute [local go_sem] c8
theorem uB:Ap Tryz.prog 47 c8:=by
 refine fK [0,1,4,5,6,11,12,13,16,19] Tryz.func47 Tryz.ntmps47 (AF uA AH) ?_;rintro w0 O0 ⟨a,b,u⟩ d - -;simp only[c8,AP];repeat'(first|exact trivial|apply eS rfl|apply AB|refine rX d ?_ ?_|refine rC ?_ ?_<;>intro c<;>try(cases c;done))
 .exact fI d [.tmp 4] (by unfold MT;rw[At c];exact eR)
 .exact fI d [.tmp 4] (by unfold MT;rw[As (by rw[c.1];simp),As (by rw[c.2];simp)];exact eR)
 rename_i e;have f:AM a b=true:=c.resolve_left (by rw[e];simp);exact fI d [.tmp 4] (by unfold MT;rw[As (by rw[e];simp),At f];exact eR)
end
def ED (x:AD):Bool:=decide ((256:Int)<(x.2.1.length:Int))||decide ((256:Int)<(x.2.2.length:Int))
theorem gK (x:AD):Aj Tryz.prog 120 [.p zX x] [] [] (λres c=>res=.p .bool (ED x)/\c=[]):=by
 refine Er [0,1,2] [] [] Tryz.func120 Tryz.ntmps120 AH ?_;intro w0 K O0 ρ0 a d e;simp only[AX];repeat'(first|exact trivial|apply eS rfl|apply AB|refine rX a ?_ ?_|refine rC ?_ ?_<;>intro b<;>try(cases b;done))
 refine Ev.ent (σ':=⟨[(2,.p .bool (ED x))],[]⟩) ?_ (AC [] rfl rfl ?_ ?_)
 .exact fM a [.tmp 2] (.p .bool (ED x)) eT ⟨rfl,rfl⟩
 .first|exact eN|refine eM ?_
 unfold ED;first|exact eN|refine eM ?_
theorem gL  (l:List (AD)) (o:l.length<=140737488355328):Aj Tryz.prog 167 [.p Aw l,.fn 120] [] [] (λres m=>res=.p T3 (CR (ED) 0 l)/\m=[]):=by
 refine Er [0,1,4,5,7,8,9,16] [] [] Tryz.func167 Tryz.ntmps167 AH ?_;intro w0 K O0 ρ0 c q r;simp only[AX];repeat'(first|exact trivial|apply eS rfl|apply AB|refine rX c ?_ ?_|refine rC ?_ ?_<;>intro a<;>try(cases a;done))
 refine AJ (ι:={k:Nat//k<=l.length/\CR (ED) k (l.drop k)=CR (ED) 0 l}) (λk=>⟨[(0,.p Aw l),(1,.fn 120),(7,.p (.int .i64) (l.length:Int)),(8,.p (.int .i64) (k.1:Int))],[]⟩) (λk=>l.length-k.1) ⟨0,BY _,rfl⟩ (AC [] rfl rfl ?_ ?_) (λk=>?_)
 .first|exact eN|refine eM ?_
 .first|exact eN|refine eM ?_
 obtain⟨k,n,d⟩:=k;have j:k<l.length->∀b,(ED) (l.getD k d0)=b->CR (ED) k (l.drop k)=if b=true then (k:Int) else CR (ED) (k+1) (l.drop (k+1)):=λh b e=>by rw[<-e];exact Dm (ED) d0 l h
 simp only;repeat'(first|exact trivial|apply eS rfl|apply AB|refine rX c ?_ ?_|refine rC ?_ ?_<;>intro a<;>try(cases a;done))
 .have f:k<l.length:=An.1 a;refine cP 5 c ?_ ?_
  .exact a
  have key:=gK (l.getD k d0);refine rM c (key) [] [] ?_ ?_ ?_
  .first|exact eN|refine eM ?_
  .first|exact eN|refine eM ?_
  rintro _ _ ⟨rfl,rfl⟩;refine⟨[],.p .bool ((ED) (l.getD k d0)),[],rfl,rfl,?_,?_,rfl,rfl,Bq ?_⟩
  .first|exact eN|refine eM ?_
  .first|exact eN|refine eM ?_
  generalize s:(ED) (l.getD k d0)=i at *;have g:=j f i rfl;repeat'(first|exact trivial|apply eS rfl|apply AB|refine rX c ?_ ?_|refine rC ?_ ?_<;>intro a<;>try(cases a;done))
  .have a:i=true:=a;rw[At a,d]at g;refine Ev.ent (σ':=⟨[(4,.p (.int .i64) (k:Int))],[]⟩) ?_ (AC [] rfl rfl ?_ ?_)
   .exact fM c [.tmp 4] (.p T3 (k:Int)) eT ⟨by rw[g],rfl⟩
   .first|exact eN|refine eM ?_
   first|exact eN|refine eM ?_
  .omega
  have a:i=false:=a;rw[As (by rw[a];simp)]at g;refine⟨⟨k+1,f,g.symm.trans d⟩,by simp only;omega,AC [] rfl rfl ?_ ?_⟩
  .first|exact eN|refine eM ?_
  first|exact eN|refine eM ?_
 have f:l.drop k=[]:=OR (NO.1 a);rw[f]at d;have d:(-1:Int)=CR (ED) 0 l:=d;refine Ev.ent (σ':=⟨[(4,.p (.int .i64) (-1))],[]⟩) ?_ (AC [] rfl rfl ?_ ?_)
 .exact fM c [.tmp 4] (.p T3 (-1)) eT ⟨by rw[d],rfl⟩
 .first|exact eN|refine eM ?_
 first|exact eN|refine eM ?_
theorem gM  (l:List (AD)) (e:l.length<=140737488355328):Aj Tryz.prog 119 [.p Aw l,.fn 120] [] [] (λres f=>res=.p .bool (l.any (ED))/\f=[]):=by
 refine Er [0,1,4] [] [] Tryz.func119 Tryz.ntmps119 AH ?_;intro w0 K O0 ρ0 a g h;simp only[AX];repeat'(first|exact trivial|apply eS rfl|apply AB|refine rX a ?_ ?_|refine rC ?_ ?_<;>intro b<;>try(cases b;done))
 refine cP 2 a ?_ ?_
 .trivial
 have key:=gL l e;refine rM a (key) [] [] ?_ ?_ ?_
 .first|exact eN|refine eM ?_
 .first|exact eN|refine eM ?_
 rintro _ _ ⟨rfl,rfl⟩;refine⟨[],.p T3 (CR (ED) 0 l),[],rfl,rfl,?_,?_,rfl,rfl,?_⟩
 .first|exact eN|refine eM ?_
 .first|exact eN|refine eM ?_
 have d:=F1 (ED) 0 l;generalize CR (ED) 0 l=c at *;refine rL a ?_ ?_
 .trivial
 repeat'(first|exact trivial|apply eS rfl|apply AB|refine rX a ?_ ?_|refine rC ?_ ?_<;>intro b<;>try(cases b;done))
 refine Ev.ent (σ':=⟨[(4,.p .bool (decide (0<=c)))],[]⟩) ?_ (AC [] rfl rfl ?_ ?_)
 .exact fM a [.tmp 4] (.p .bool (decide (0<=c))) eT ⟨by rw[d],rfl⟩
 .first|exact eN|refine eM ?_
 first|exact eN|refine eM ?_
theorem Rn:∀d:List AD,decide (Fj d≠0)=d.any ED
 | []=>rfl
 | x :: d=>by
  unfold Fj;rw[List.any_cons,<-Rn d];unfold ED;by_cases a:256<x.2.1.length<;>by_cases b:256<x.2.2.length<;>simp[a,b]<;>omega
theorem uC (d:List AD):Aj Tryz.prog 70 [.p Aw d] [] [] (λres _=>res=.p .bool (decide (B2 d≠0))):=by
 refine Er [0,2] [] [] Tryz.func70 Tryz.ntmps70 AH ?_;intro w0 K O0 ρ0 a f i;simp only[AX];repeat'(first|exact trivial|apply eS rfl|apply AB|refine rX a ?_ ?_|refine rC ?_ ?_<;>intro b<;>try(cases b;done))
 have g:d.length<=140737488355328:=by have:=f.1.1;simpa[AN] using this
 refine evP a 4 ?_ ?_
 .trivial
 by_cases h:(256:Int)<(d.length:Int)
 .rw[AAt h];refine rL a ?_ ?_
  .trivial
  repeat'(first|exact trivial|apply eS rfl|apply AB|refine rX a ?_ ?_|refine rC ?_ ?_<;>intro b<;>try(cases b;done))
  have e:decide (B2 d≠0)=true:=by unfold B2;rw[At (An.1 h)];rfl
  exact fM a [.tmp 2] (.p .bool true) eT (by rw[e])
 rw[ABx h];refine rN 1 a ?_ ?_
 .trivial
 refine clG a (gM d g) [] [] ?_ ?_ ?_
 .first|exact eN|refine eM ?_
 .first|exact eN|refine eM ?_
 rintro _ _ ⟨rfl,-⟩;refine⟨[],.p .bool (d.any ED),[],rfl,rfl,?_,?_,rfl,rfl,?_⟩
 .first|exact eN|refine eM ?_
 .first|exact eN|refine eM ?_
 refine rL a ?_ ?_
 .trivial
 repeat'(first|exact trivial|apply eS rfl|apply AB|refine rX a ?_ ?_|refine rC ?_ ?_<;>intro b<;>try(cases b;done))
 have e:decide (B2 d≠0)=d.any ED:=by unfold B2;rw[As (λc=>h (An.2 c))];exact Rn d
 exact fM a [.tmp 2] (.p .bool (d.any ED)) eT (by rw[e])
def xC:Spec:={ ins:=[Aw],pre:=λ_=>True,out:=λ(d,_)=>[.p .bool (decide (B2 d≠0))] }
theorem nE:Ap Tryz.prog 70 xC :=
 Sd ⟨_,Tryz.func70,by kernel_rfl,by kernel_rfl⟩ (λ(d,u) _=>⟨[.p Aw d],λw O f ⟨v,r,e,a,b⟩=>⟨v,r,e,lW a,b⟩,uC d⟩) λ_ _ c=>⟨_,_,nO.1 c⟩
section
attribute [local go_sem] zY
abbrev A1x:=ByteArray×Int
abbrev EpD:=ByteArray×Int×List A1x
def A0L (e:EpD):List Int:=[e.2.1]
end
section
attribute [local go_sem] U9 VA bM qF zY cs3 cs4 cs5 cs6
def nF:Spec:={ ins:=[Ty.int .i32],pre:=λ_=>True,out:=λ(c,_)=>[.p .bool (BO 97 122 c)] }
attribute [local go_sem] nF
theorem uD:Ap Tryz.prog 168 nF:=by
 refine fK [0,2] Tryz.func168 Tryz.ntmps168 AH ?_;rintro w0 O0 ⟨c,u⟩ a - -;simp only[nF,AP];repeat'(first|exact trivial|apply eS rfl|refine rX a ?_ ?_)
 exact fI a [.tmp 2] (by unfold BO;exact eR)
def c9:Spec:={ ins:=[Ty.int .i32],pre:=λ_=>True,out:=λ(c,_)=>[.p .bool (BO 48 57 c)] }
attribute [local go_sem] c9
theorem dA:Ap Tryz.prog 180 c9:=by
 refine fK [0,2] Tryz.func180 Tryz.ntmps180 AH ?_;rintro w0 O0 ⟨c,u⟩ a - -;simp only[c9,AP];repeat'(first|exact trivial|apply eS rfl|refine rX a ?_ ?_)
 exact fI a [.tmp 2] (by unfold BO;exact eR)
def uE (s:ByteArray) (i:Nat):Bool:=BO 97 122 (ZL s i)||(decide (i≠0)&&(BO 48 57 (ZL s i)||ZL s i==45))
theorem Ro (s:ByteArray):Bc s false=(decide (1<=s.size/\s.size<=32)&&(List.range s.size).all (uE s)):=by
 rw[AAo];simp only[Bc,Kb,AT,OF,wT,IF,Do,IS,gO];constructor
 .rintro⟨⟨⟨⟨d,e⟩,f⟩,g⟩,b⟩;refine⟨⟨by omega,by omega⟩,λi hi=>?_⟩;have:=b i hi;unfold JM at this;unfold uE;by_cases a:i=0
  .subst a;rw[f,g]at this;simpa using this
  simp only[ABH,ABo,AC1,ABg,bY]at this;simp only[ACO,a,ACx,decide_true,ABg,bY];rcases this with (h|h)|h
  .exact .inr (.inl h)
  .exact .inr (.inr h)
  exact .inl h
 rintro⟨⟨d,e⟩,b⟩;have a:=b 0 oa;simp only[uE,ACO,ABq,decide_false,ABH,ABo]at a;have c:=a;simp only[BO,AT,Do]at c;refine⟨⟨⟨⟨by omega,by omega⟩,?_⟩,?_⟩,λi hi=>?_⟩
 .simp only[BO,AA1,IF];right;omega
 .simp only[AAI];omega
 have:=b i hi;unfold uE at this;unfold JM;simp only[ABH,ABo,AC1,ABg,bY];simp only[bY,AT]at this;rcases this with h|⟨-,h|h⟩
 .exact .inr h
 .exact .inl (.inl h)
 exact .inl (.inr h)
theorem dB (s:ByteArray) (p:Nat) (h:p<s.size):ZL s p=((s[p]'h).toNat:Int):=by
 have a:p<s.data.size:=h;show ((s.data.getD p 0).toNat:Int)=_;simp only[Array.getD_eq_getD_getElem?,AA8 a,ABJ];rfl
theorem uF {s:ByteArray} {p:Nat} (h:p<s.size) {q:Nat} {r:Int} (b:(s[p]'h).toNat<128->q=p+1/\r=((s[p]'h).toNat:Int)) (c:128<=(s[p]'h).toNat->128<=r) :
  (BO 97 122 r||(decide (p≠0)&&(BO 48 57 r||r==45)))=uE s p/\(uE s p=true->q=p+1):=by
 unfold uE;rw[dB s p h];by_cases d:(s[p]'h).toNat<128
 .obtain⟨e,a⟩:=b d;rw[a];exact⟨rfl,λ_=>e⟩
 have a:=c oa;have f:∀x:Int,128<=x->(BO 97 122 x||(decide (p≠0)&&(BO 48 57 x||x==45)))=false:=by
  intro x g;simp only[BO,wT,AA1,IF,AAI];exact⟨.inr oa,.inr ⟨.inr oa,by omega⟩⟩
 rw[f r a,f _ oa];exact⟨rfl,λh=>by cases h⟩
theorem Zp (s:ByteArray):Aj Tryz.prog 159 [.p T9 s,.fn 168] [] [] (λres _=>res=.p .bool (Bc s false)):=by
 refine Er [0,1,4,5,6,14,16,17,18,37] [] [] Tryz.func159 Tryz.ntmps159 (AF uD (AF dA AH)) ?_;intro w0 K O0 ρ0 a u x;have v:s.size<=AN:=u.1;simp only[AX];repeat'(first|exact trivial|apply eS rfl|refine rX a ?_ ?_|refine rC ?_ ?_<;>intro c<;>try(cases c;done))
 .have b:Bc s false=false:=by
   rw[Ro,AA1];exact .inl (ABx oa)
  exact fM a [.tmp 4] (.p .bool false) eT (by rw[b])
 refine cP 1 a ?_ ?_
 .trivial
 refine A0m a (by kernel_rfl) ?_;refine Bq ?_;repeat' apply eS rfl
 refine AJ (ι:={p:Nat//p<=s.size/\∀i,i<p->uE s i=true}) (λp=>⟨[(0,.p T9 s),(1,.fn 168),(16,.bp 16 [] 0)],[(16,.sit s p.1)]⟩) (λp=>s.size-p.1) ⟨0,BY _,λ_ h=>by omega⟩ (eW [(16,.nm 16)]) (λp=>?_)
 obtain⟨p,hp,j⟩:=p;simp only;repeat' apply eS rfl
 refine cP 0 a ?_ ?_
 .trivial
 refine A0n a v (λh=>?_) (λh q r A l m hi=>?_)
 .refine rL a ?_ ?_
  .trivial
  repeat'(first|exact trivial|apply eS rfl|refine rX a ?_ ?_|refine rC ?_ ?_<;>intro c<;>try(cases c;done))
  have z:p=s.size:=by omega
  have b:Bc s false=true:=by
   rw[Ro,AT];exact⟨AAt oa,IS.2 λi hi=>j i (by rw[gO]at hi;omega)⟩
  exact fM a [.tmp 4] (.p .bool true) eT (by rw[b])
 have f:=uF h l m;refine rL a ?_ ?_
 .trivial
 repeat'(first|exact trivial|apply eS rfl|apply AB|refine rX a ?_ ?_|refine rC ?_ ?_<;>intro c<;>try(cases c;done))
 .have b:Bc s false=false:=by
   rw[Ro,AA1];refine .inr (ABj.2 λo=>?_);have:=IS.1 o p (gO.2 h);rw[<-f.1]at this;simp only[bY,AT,Do,AA9]at this;rcases c with ⟨d,e⟩
   rw[d]at this;rcases this with h|⟨y,h⟩
   .cases h
   rcases e with g|⟨g,k⟩
   .omega
   rw[g]at h;rcases h with h|h
   .cases h
   exact k h
  exact fM a [.tmp 4] (.p .bool false) eT (by rw[b])
 have b:uE s p=true:=by
  rw[<-f.1];simp only[bY,AT,Do,AA9];cases d:BO 97 122 r
  .obtain⟨w,n⟩:=c d;refine .inr ⟨by omega,?_⟩;cases e:BO 48 57 r
   .have:=n e;exact .inr (by simpa using this)
   exact .inl rfl
  exact .inl rfl
 obtain rfl:=f.2 b;refine⟨⟨p+1,by omega,λi hi=>?_⟩,by simp only;omega,AC [(16,.nm 16)] rfl rfl ?_ ?_⟩
 .by_cases t:i=p
  .rw[t];exact b
  exact j i oa
 .exact eN
 exact eN
def Vc:Spec:={ ins:=[T9],pre:=λ_=>True,out:=λ(s,_)=>[.p .bool (Bc s false)] }
attribute [local go_sem] Vc
theorem nG:Ap Tryz.prog 121 Vc:=by
 refine fK [0,2] Tryz.func121 Tryz.ntmps121 AH ?_;rintro w0 O0 ⟨s,u⟩ a - -;simp only[Vc,AP];repeat'(first|exact trivial|apply eS rfl|refine rX a ?_ ?_)
 refine cP 1 a ?_ ?_
 .trivial
 refine rMe a (Zp s) [] [] ?_
 rintro _ _ rfl;refine⟨[],.p .bool (Bc s false),[],rfl,rfl,?_,?_,rfl,rfl,?_⟩
 .exact eN
 .exact eN
 refine rL a ?_ ?_
 .trivial
 repeat' apply eS rfl
 exact fI a [.tmp 2]
end
section
attribute [local go_sem] Vc m9
theorem Bg {a b:ByteArray}:AM a b=true↔a=b:=by
 rw[Fk,ByteArray.toList_eq,ByteArray.toList_eq];constructor
 .intro h;cases a;cases b
  congr 1
  exact ABL.1 h
 rintro rfl;rfl
theorem Zq (a b:ByteArray):(a==b)=decide (a=b):=by
 cases a with
 | mk a =>
  cases b with
  | mk b =>
   show (a==b)=_;rw[AAo,AA9,Do];constructor
   .rintro rfl;rfl
   intro h;injection h
theorem Bp {vt:Ty} (k c:ByteArray) (v:vt.den):∀m:List (ByteArray×vt.den),AQ .str vt c (Bm .str vt k v m)=if c=k then some v else AQ .str vt c m
 | []=>by
  show (if L2 .str c k=true then some v else none)=_;rw[show L2 .str c k=decide (c=k) from Zq _ _];simp[AQ]
 | x :: m=>by
  unfold Bm;by_cases h:k=x.1
  .subst h;rw[At (show L2 .str x.1 x.1=true from (Zq x.1 x.1).trans (AAt rfl))];unfold AQ;simp only[show ∀a b:ByteArray,L2 .str a b=decide (a=b) from Zq];by_cases d:c=x.1<;>simp[d]
  rw[As (show ¬L2 .str k x.1=true from λe=>h (by rw[show L2 .str k x.1=decide (k=x.1) from Zq _ _]at e;exact ABB e))];unfold AQ;simp only[show ∀a b:ByteArray,L2 .str a b=decide (a=b) from Zq,Bp k c v m];by_cases d:c=x.1
  .subst d;rw[At (AAt rfl),As (λe=>h e.symm),At (AAt rfl)]
  simp[d]
theorem Ts {vt:Ty} (k:ByteArray) (v:vt.den):∀m:List (ByteArray×vt.den),(Bm .str vt k v m).length<=m.length+1
 | []=>by simp[Bm]
 | x :: m=>by
  unfold Bm;split
  .simp
  have:=Ts k v m;simp;omega
def Tt (d:List AD) (k:Nat):List (ByteArray×Bool):=(d.take k).foldl (λm x=>Bm .str .bool x.1 true m) []
theorem Rp (d:List AD) {k:Nat} (h:k<d.length):Tt d (k+1)=Bm .str .bool (d.getD k d0).1 true (Tt d k):=by
 unfold Tt;rw[Ai d d0 h,AAk];rfl
theorem Tu (d:List AD) (s:ByteArray):∀k,k<=d.length->((AQ .str .bool s (Tt d k)).getD false=true↔∃j,j<k/\(d.getD j d0).1=s)
 | 0,_=>by simp[Tt,AQ]
 | k+1,h=>by
  rw[Rp d oa,Bp];have e:=Tu d s k oa;by_cases hs:s=(d.getD k d0).1
  .rw[At hs];exact⟨λ_=>⟨k,by omega,hs.symm⟩,λ_=>rfl⟩
  rw[As hs,e];constructor
  .rintro⟨j,c,a⟩;exact⟨j,by omega,a⟩
  rintro⟨j,c,a⟩;refine⟨j,?_,a⟩;rcases ABb.1 c with b|b
  .exact b
  subst b;exact absurd a.symm hs
theorem Vd {d:List AD} {k:Nat} (h:k<d.length):AY d (d.getD k d0).1<(k:Int)↔∃j,j<k/\(d.getD j d0).1=(d.getD k d0).1:=by
 constructor
 .intro b;rcases Be d (d.getD k d0).1 with a|⟨a,e,c⟩
  .have:=CD (d:=d) (x:=d.getD k d0) (AL h);omega
  exact⟨(AY d (d.getD k d0).1).toNat,by omega,Bg.1 c⟩
 rintro⟨j,b,a⟩;have:=JR (d.getD k d0).1 d 0 j oa (Bg.2 a);unfold AY;omega
def P7:Spec:={ ins:=[Aw],pre:=λ_=>True,out:=λ(d,_)=>[.p Es (A5 d)] }
attribute [local go_sem] P7
theorem gN:Ap Tryz.prog 71 P7:=by
 refine fK [0,2,3,5,9,10,11,12,18,22] Tryz.func71 Tryz.ntmps71 (AF nG AH) ?_;rintro w0 O0 ⟨d,u⟩ g ⟨⟨o,-⟩,-⟩ -;simp only[AN]at o;simp only[P7,AP];repeat'(first|exact trivial|apply eS rfl|apply AB|refine rX g ?_ ?_|refine rC ?_ ?_<;>intro b<;>try(cases b;done))
 refine AJ (ι:={k:Nat//k<=d.length/\Ke d k (d.drop k)=A5 d}) (λk=>⟨[(0,.p Aw d),(3,.mp 16),(10,.p (.int .i64) (d.length:Int)),(9,.p Aw d),(11,.p (.int .i64) (k.1:Int))],[(16,.mapo .str .bool (Tt d k.1))]⟩) (λk=>d.length-k.1) ⟨0,BY _,rfl⟩ (AC [(16,.nm 8)] rfl rfl ?_ ?_) (λk=>?_)
 .first|exact eN|refine eM ?_
  rfl
 .first|exact eN|refine eM ?_
 obtain⟨k,n,f⟩:=k;have j:=λh:k<d.length=>Hs d d h;have m:=λh:k<d.length=>Tu d (d.getD k d0).1 k n;have l:=λh:k<d.length=>Vd (d:=d) h;simp only;repeat'(first|exact trivial|apply eS rfl|apply AB|refine rX g ?_ ?_|refine rC ?_ ?_<;>intro b<;>try(cases b;done))
 .exact b
 .have a:k<d.length:=An.1 (by assumption);have c:=j a;rw[At b,f]at c;refine Ev.ent (σ':=⟨[(2,.p (.int .i64) 1)],[]⟩) ?_ (AC [] rfl rfl ?_ ?_)
  .exact fI g [.tmp 2] (by rw[c];exact eR)
  .first|exact eN|refine eM ?_
  first|exact eN|refine eM ?_
 .have a:k<d.length:=An.1 (by assumption);have c:=j a;rename_i i;rw[As (by rw[i];simp),At ((l a).2 ((m a).1 b)),f]at c;refine Ev.ent (σ':=⟨[(2,.p (.int .i64) 4)],[]⟩) ?_ (AC [] rfl rfl ?_ ?_)
  .exact fI g [.tmp 2] (by rw[c];exact eR)
  .first|exact eN|refine eM ?_
  first|exact eN|refine eM ?_
 .exact eV
 .have a:k<d.length:=An.1 (by assumption);have c:=j a;rename_i i;rw[As (by rw[i];simp),As (λe=>by rw[(m a).2 ((l a).1 e)]at b;cases b),f]at c;refine⟨⟨k+1,a,c.symm⟩,by simp only;omega,AC [(16,.nm 16)] rfl rfl ?_ ?_⟩
  .simp only;rw[Rp d a];first|exact eN|refine eM ?_
  first|exact eN|refine eM ?_
 have a:d.drop k=[]:=OR (NO.1 b);rw[a]at f;have f:(0:Int)=A5 d:=f;refine Ev.ent (σ':=⟨[(2,.p (.int .i64) 0)],[]⟩) ?_ (AC [] rfl rfl ?_ ?_)
 .exact fI g [.tmp 2] (by rw[<-f];exact eR)
 .first|exact eN|refine eM ?_
 first|exact eN|refine eM ?_
abbrev It:=List (ByteArray×List ByteArray)
def Xi (d:List AD) (k:Nat):It:=(d.take k).foldl (λm x=>Bm .str Ad x.1 x.2.1 m) []
def IM (d:List AD):It:=Xi d d.length
theorem OY (d:List AD) {k:Nat} (h:k<d.length):Xi d (k+1)=Bm .str Ad (d.getD k d0).1 (d.getD k d0).2.1 (Xi d k):=by
 unfold Xi;rw[Ai d d0 h,AAk];rfl
theorem Ve (d:List AD):Aj Tryz.prog 83 [.p Aw d] [] [] (λres g=>res=.mp 20/\g=[(20,.mapo .str Ad (IM d))]):=by
 refine Er [0,2,3,5,9,10,11,12] [] [] Tryz.func83 Tryz.ntmps83 AH ?_;intro w0 K O0 ρ0 c f i;have h:d.length<=140737488355328:=by have:=f.1.1;simpa[AN] using this
 simp only[AX];repeat'(first|exact trivial|apply eS rfl|apply AB|refine rX c ?_ ?_|refine rC ?_ ?_<;>intro a<;>try(cases a;done))
 refine AJ (ι:={k:Nat//k<=d.length}) (λk=>⟨[(0,.p Aw d),(3,.mp 16),(10,.p (.int .i64) (d.length:Int)),(9,.p Aw d),(11,.p (.int .i64) (k.1:Int))],[(16,.mapo .str Ad (Xi d k.1))]⟩) (λk=>d.length-k.1) ⟨0,BY _⟩ (AC [(16,.nm 8)] rfl rfl ?_ ?_) (λk=>?_)
 .first|exact eN|refine eM ?_
  rfl
 .first|exact eN|refine eM ?_
 obtain⟨k,e⟩:=k;simp only;repeat'(first|exact trivial|apply eS rfl|apply AB|refine rX c ?_ ?_|refine rC ?_ ?_<;>intro a<;>try(cases a;done))
 .exact a
 .exact eV
 .have b:k<d.length:=An.1 (by assumption);refine⟨⟨k+1,b⟩,by simp only;omega,AC [(16,.nm 16)] rfl rfl ?_ ?_⟩
  .simp only;rw[OY d b];first|exact eN|refine eM ?_
  first|exact eN|refine eM ?_
 have b:k=d.length:=jM e (NO.1 a);subst b;refine Ev.ent (σ':=⟨[(2,.mp 20)],[(20,.mapo .str Ad (IM d))]⟩) ?_ (AC [(20,.nm 16)] rfl rfl ?_ ?_)
 .exact fM c [.tmp 2] (.mp 20) eT ⟨rfl,rfl⟩
 .unfold IM;first|exact eN|refine eM ?_
 first|exact eN|refine eM ?_
theorem Xj (d:List AD) (s:ByteArray):∀k,k<=d.length->((AQ .str Ad s (Xi d k)).isSome=true↔∃j,j<k/\(d.getD j d0).1=s)
 | 0,_=>by simp[Xi,AQ]
 | k+1,h=>by
  rw[OY d oa,Bp];have e:=Xj d s k oa;by_cases hs:s=(d.getD k d0).1
  .rw[At hs];exact⟨λ_=>⟨k,by omega,hs.symm⟩,λ_=>rfl⟩
  rw[As hs,e];constructor
  .rintro⟨j,c,a⟩;exact⟨j,by omega,a⟩
  rintro⟨j,c,a⟩;refine⟨j,?_,a⟩;rcases ABb.1 c with b|b
  .exact b
  subst b;exact absurd a.symm hs
theorem Gv (d:List AD) (s:ByteArray):(AQ .str Ad s (IM d)).isSome=true↔0<=AY d s:=by
 unfold IM;rw[Xj d s d.length (If _)];constructor
 .rintro⟨j,a,b⟩;exact MJ s d 0 (d.getD j d0) (AL a) (Bg.2 b)
 intro h;rcases Be d s with a|⟨_,b,c⟩
 .omega
 exact⟨(AY d s).toNat,by omega,Bg.1 c⟩
def Vf:Spec:={ ins:=[Aw],pre:=λ_=>True,out:=λ(d,_)=>[.p Es (C4 d)] }
attribute [local go_sem] Vf
theorem nH:Ap Tryz.prog 72 Vf:=by
 refine fK [0,2,3,5,6,7,9,12,13,14,15,19,20,21,22,33,39] Tryz.func72 Tryz.ntmps72 (AF nC AH) ?_;rintro w0 O0 ⟨d,u⟩ c ⟨⟨r,s⟩,-⟩ -;simp only[AN]at r;simp only[Vf,AP];repeat'(first|exact trivial|apply eS rfl|apply AB|refine rX c ?_ ?_|refine rC ?_ ?_<;>intro a<;>try(cases a;done))
 refine cP 1 c ?_ ?_
 .trivial
 refine rM c (Ve d) [] [] ?_ ?_ ?_
 .first|exact eN|refine eM ?_
 .first|exact eN|refine eM ?_
 rintro _ _ ⟨rfl,rfl⟩;refine⟨[(16,.nm 20)],.mp 16,[(16,.mapo .str Ad (IM d))],rfl,rfl,?_,?_,rfl,rfl,?_⟩
 .first|exact eN|refine eM ?_
 .first|exact eN|refine eM ?_
 refine rL c ?_ ?_
 .trivial
 repeat'(first|exact trivial|apply eS rfl|apply AB|refine rX c ?_ ?_|refine rC ?_ ?_<;>intro a<;>try(cases a;done))
 refine AJ (ι:={k:Nat//k<=d.length/\Gi d (d.drop k)=C4 d}) (λk=>⟨[(0,.p Aw d),(3,.mp 16),(13,.p (.int .i64) (d.length:Int)),(12,.p Aw d),(14,.p (.int .i64) (k.1:Int))],[(16,.mapo .str Ad (IM d))]⟩) (λk=>d.length-k.1) ⟨0,BY _,rfl⟩ (AC [(16,.nm 16)] rfl rfl ?_ ?_) (λk=>?_)
 .first|exact eN|refine eM ?_
 .first|exact eN|refine eM ?_
 obtain⟨k,z,g⟩:=k;have v:=λh:k<d.length=>JO d d h;simp only;repeat'(first|exact trivial|apply eS rfl|apply AB|refine rX c ?_ ?_|refine rC ?_ ?_<;>intro a<;>try(cases a;done))
 .exact a
 .have l:k<d.length:=An.1 (by assumption);have f:=v l;have t:(d.getD k d0).2.1.length<=140737488355328:=by
   have q:=s (d.getD k d0) (AL l);exact q.2.1.1
  rw[show (d.getD k (ByteArray.empty,[],[]))=d.getD k d0 from rfl];generalize d.getD k d0=x at *;obtain⟨y,xs,w⟩:=x;simp only at f t ⊢;refine AJ (ι:={i:Nat//i<=xs.length/\Lh d xs i (xs.drop i)=Lh d xs 0 xs}) (λi=>⟨[(0,.p Aw d),(3,.mp 16),(13,.p (.int .i64) (d.length:Int)),(12,.p Aw d),(14,.p (.int .i64) (k:Int)),(5,.bp 5 [] 0),(19,.p Ad xs),(20,.p (.int .i64) (xs.length:Int)),(21,.p (.int .i64) (i.1:Int))],[(16,.mapo .str Ad (IM d)),(5,.box 35 true [.p T9 y,.p Ad xs,.p Lx w])]⟩) (λi=>xs.length-i.1) ⟨0,BY _,rfl⟩ (AC [(16,.nm 16),(5,.nm 5)] rfl rfl ?_ ?_) (λi=>?_)
  .first|exact eN|refine eM ?_
  .first|exact eN|refine eM ?_
  obtain⟨i,hi,j⟩:=i;have n:=λh:i<xs.length=>Ij d xs h;have m:=Gv d (xs.getD i ByteArray.empty);simp only;repeat'(first|exact trivial|apply eS rfl|apply AB|refine rX c ?_ ?_|refine rC ?_ ?_<;>intro a<;>try(cases a;done))
  .exact a
  .have e:i<xs.length:=An.1 (by assumption);have b:=n e;rw[At (by rw[<-ABP,<-m,a];simp),j]at b;rw[At (by rw[b];decide),b,g]at f;refine Ev.ent (σ':=⟨[(2,.p (.int .i64) 5)],[]⟩) ?_ (AC [] rfl rfl ?_ ?_)
   .exact fI c [.tmp 2] (by rw[f];exact eR)
   .first|exact eN|refine eM ?_
   first|exact eN|refine eM ?_
  .exact NO.2 hi
  .have e:i<xs.length:=An.1 (by assumption);have b:=n e;rename_i o;rw[As (by rw[<-ABP,<-m,o];simp),At a,j]at b;rw[At (by rw[b];decide),b,g]at f;refine Ev.ent (σ':=⟨[(2,.p (.int .i64) 4)],[]⟩) ?_ (AC [] rfl rfl ?_ ?_)
   .exact fI c [.tmp 2] (by rw[f];exact eR)
   .first|exact eN|refine eM ?_
   first|exact eN|refine eM ?_
  .exact eV
  .have e:i<xs.length:=An.1 (by assumption);have b:=n e;rename_i o;rw[As (by rw[<-ABP,<-m,o];simp),As (by rw[a];simp),j]at b;refine⟨⟨i+1,e,b.symm⟩,by simp only;omega,AC [(16,.nm 16),(5,.nm 5)] rfl rfl ?_ ?_⟩
   .first|exact eN|refine eM ?_
   first|exact eN|refine eM ?_
  .exact eV
  have e:i=xs.length:=jM hi (NO.1 (by assumption));subst e;rw[OR (If _)]at j;have j:(0:Int)=Lh d xs 0 xs:=j;rw[As (by rw[<-j];simp),g]at f;refine⟨⟨k+1,l,f.symm⟩,by simp only;omega,AC [(16,.nm 16)] rfl rfl ?_ ?_⟩
  .first|exact eN|refine eM ?_
  first|exact eN|refine eM ?_
 have l:d.drop k=[]:=OR (NO.1 a);rw[l]at g;have g:(0:Int)=C4 d:=g;refine Ev.ent (σ':=⟨[(2,.p (.int .i64) 0)],[]⟩) ?_ (AC [] rfl rfl ?_ ?_)
 .exact fI c [.tmp 2] (by rw[<-g];exact eR)
 .first|exact eN|refine eM ?_
 first|exact eN|refine eM ?_
end
section
attribute [local go_sem] Ku
def GZ (l:List Int):Int:=l.foldl (λm x=>if m<x then x else m) (-1)
def jO (n:Nat) (l:List Int):List Int:=l.foldl P2 (List.replicate n 0)
theorem NS:∀(l:List Int) (m:Int),m<=l.foldl (λm x=>if m<x then x else m) m/\∀x∈l,x<=l.foldl (λm x=>if m<x then x else m) m
 | [],m=>⟨ACN _,λx h=>by cases h⟩
 | a :: l,m=>by
  obtain⟨c,d⟩:=NS l (if m<a then a else m);rw[No];refine⟨AAE (by split<;>omega) c,λx b=>?_⟩;rcases Is.1 b with rfl|b
  .exact AAE (by split<;>omega) c
  exact d x b
theorem Rq:∀(l:List Int) (m:Int),m<=4095->l.all YV=true->l.foldl (λm x=>if m<x then x else m) m<=4095
 | [],m,h,_=>h
 | a :: l,m,h,b=>by
  rw[AAZ,AT]at b;rw[No];refine Rq l _ ?_ b.2;have c:=b.1;unfold YV at c;rw[OF,wT,IF,IF]at c;split<;>omega
theorem dC (n:Nat) (l:List Int):(jO n l).length=n:=by
 have key:∀(l b:List Int),(l.foldl P2 b).length=b.length:=by
  intro l;induction l with
  | nil=>intro b;rfl
  | cons x l a =>
   intro b;rw[No,a];simp[P2]
 unfold jO;rw[key];simp
theorem uG {b z:List Int} {x:Int} (c:0<=x) (h:x<64*b.length):P2 (b++z) x=P2 b x++z:=by
 have a:(x.tdiv 64).toNat<b.length:=by
  rw[oF c];omega
 unfold P2;rw[List.set_append_left _ _ a];rw[AS,AA5 a,<-AS]
theorem Xk {z:List Int}:∀ {l b:List Int},(∀x∈l,0<=x/\x<64*b.length)->l.foldl P2 (b++z)=l.foldl P2 b++z
 | [],_,_=>rfl
 | x :: l,b,h=>by
  rw[No,No,uG (h x sa).1 (h x sa).2];refine Xk λy a=>?_;have:=h y (by simp[a]);simpa[P2] using this
theorem nI {l:List Int} {n:Nat} (f:n<=64) (b:l.all YV=true) (h:∀x∈l,0<=x/\x<64*n):A9 (jO n l)=A9 (XD l):=by
 have e:XD l=jO n l++List.replicate (64-n) 0:=by
  unfold XD jO;rw[<-Xk (by simpa using h),List.replicate_append_replicate]
  congr 2;omega
 have a:Ei (XD l):=(LP b 0).2;have c:Ei (jO n l):=λx d=>a x (by rw[e];simp[d]);refine MR (Ex c) (Ex a) (DD _) (DD _) λi=>?_;rw[Ew,Ew,e];unfold A0
 congr 2
 by_cases hi:i / 64<(jO n l).length
 .rw[AS,AS,AA5 hi]
 rw[AS,AS,AAq oa,AAA oa,List.getElem?_replicate];split<;>rfl
def uH:Spec:={ ins:=[Dj],pre:=λ(l,_)=>List.all (l:List Int) YV=true,out:=λ(l,_)=>[.p BZ (ZT l).1,.p Es 0] }
attribute [local go_sem] uH
theorem yW:Ap Tryz.prog 75 uH:=by
 refine fK [0,2,3,4,6,7,9,10,11,12,13,21,30,31,32,33] Tryz.func75 Tryz.ntmps75 (AF MQ AH) ?_;rintro w0 O0 ⟨l,u⟩ q ⟨⟨B,-⟩,-⟩ c;simp only[AN]at B;have c:List.all (l:List Int) YV=true:=c;have z:∀x:Int,x∈(l:List Int)->0<=x/\x<=4095:=λx f=>by
  have b:=IS.1 c x f;unfold YV at b;rw[OF,wT,IF,IF]at b;exact⟨AAs.1 b.1,AAs.1 b.2⟩
 have E:(ZT l).1=A9 (XD l):=by unfold ZT;rw[At c]
 simp only[uH,AP];repeat'(first|exact trivial|apply eS rfl|apply AB|refine rX q ?_ ?_|refine rC ?_ ?_<;>intro a<;>try(cases a;done))
 refine AJ (ι:={k:Nat//k<=l.length}) (λk=>⟨[(0,.p Dj l),(4,.p (.int .i64) (GZ (l.take k.1))),(10,.p Dj l),(11,.p (.int .i64) (l.length:Int)),(12,.p (.int .i64) (k.1:Int))],[]⟩) (λk=>l.length-k.1) ⟨0,BY _⟩ (AC [] rfl rfl ?_ ?_) (λk=>?_)
 .first|exact eN|refine eM ?_
 .first|exact eN|refine eM ?_
  try rfl
 obtain⟨k,H⟩:=k;have F:∀h:k<l.length,GZ (l.take (k+1))=if GZ (l.take k)<l.getD k 0 then l.getD k 0 else GZ (l.take k):=λh=>Ce (λm x=>if m<x then x else m) l 0 _ h
 simp only;repeat'(first|exact trivial|apply eS rfl|apply AB|refine rX q ?_ ?_|refine rC ?_ ?_<;>intro a<;>try(cases a;done))
 .exact a
 .have b:=z _ (AL (d:=(0:Int)) (An.1 (by assumption):k<l.length));rcases a with o|o
  .exact absurd o (AAs.2 b.1)
  exact absurd o (AAs.2 b.2)
 .exact eV
 .have i:k<l.length:=An.1 (by assumption);refine⟨⟨k+1,i⟩,by simp only;omega,AC [] rfl rfl ?_ ?_⟩
  .first|exact eN|refine eM ?_
  simp only;rw[F i];first|exact eN|refine eM ?_
 .have i:l.take k=l:=By (NO.1 a);rw[i];have b:-1<=GZ l:=(NS l (-1)).1;have o:GZ l<=4095:=Rq l (-1) di c;have w:Int.tdiv (GZ l+64) 64=(GZ l+64) / 64:=oF oa;rw[w];simp only[AN];refine⟨?_,⟨by decide,?_⟩,?_,?_⟩<;>omega
 have i:l.take k=l:=By (NO.1 a);rw[i];have b:-1<=GZ l:=(NS l (-1)).1;have o:GZ l<=4095:=Rq l (-1) di c;have w:Int.tdiv (GZ l+64) 64=(GZ l+64) / 64:=oF oa;have C:((GZ l+64).tdiv 64).toNat<=64:=by omega
 have f:∀x:Int,x∈(l:List Int)->0<=x/\x<64*(((GZ l+64).tdiv 64).toNat:Int):=λx f=>by
  have r:x<=GZ l:=(NS l (-1)).2 x f;have s:=(z x f).1;omega
 generalize ((GZ l+64).tdiv 64).toNat=n at *;have D:=nI C c f;refine AJ (ι:={j:Nat//j<=l.length}) (λj=>⟨[(7,.sr 29 Se 0 n),(30,.p Dj l),(31,.p (.int .i64) (l.length:Int)),(32,.p (.int .i64) (j.1:Int))],[(29,.arr 65 Se (jO n (l.take j.1)))]⟩) (λj=>l.length-j.1) ⟨0,BY _⟩ (AC [(29,.nm 29)] rfl rfl ?_ ?_) (λj=>?_)
 .first|exact eN|refine eM ?_
  try rfl
 .first|exact eN|refine eM ?_
  try rfl
 obtain⟨j,G⟩:=j;have y:=dC n (l.take j);have hs:∀h:j<l.length,jO n (l.take (j+1))=P2 (jO n (l.take j)) (l.getD j 0):=λh=>Ce P2 l 0 _ h;simp only;repeat'(first|exact trivial|apply eS rfl|apply AB|refine rX q ?_ ?_|refine rC ?_ ?_<;>intro a<;>try(cases a;done))
 .exact a
 .have g:j<l.length:=An.1 (by assumption);have r:=f _ (AL (d:=(0:Int)) g);generalize (List.getD l j 0:Int)=x at *;have t:Int.tdiv x 64=x / 64:=oF r.1;have v:Int.tmod x 64=x % 64:=AAB r.1;rw[t,v];clear t v hs y;have s:(0:Int)<=x / 64/\x / 64<(n:Int):=by omega
  have A:(0:Int)<=x % 64:=by omega
  refine⟨⟨by decide,by omega⟩,s,⟨by decide,by omega⟩,A,s⟩
 .exact eV
 .have g:j<l.length:=An.1 (by assumption);have e:=hs g;refine⟨⟨j+1,g⟩,by simp only;omega,AC [(29,.nm 29)] rfl rfl ?_ ?_⟩
  .simp only[e];first|exact eN|refine eM ?_
   try rfl
  simp only[e];first|exact eN|refine eM ?_
  try rfl
 have g:l.take j=l:=By (NO.1 a);rw[g];refine DH [29] ?_;repeat'(first|exact trivial|apply eS rfl|apply AB|refine rX q ?_ ?_|refine rC ?_ ?_<;>intro a<;>try(cases a;done))
 .rw[OS];omega
 have y:=dC n l;have e:(jO n l).take n=jO n l:=By oa;rw[e];exact fI q [.tmp 2,.tmp 3] (by rw[E,<-D];exact eR)
end
inductive Up (d:List AD) (m:ByteArray):ByteArray->Prop
 | base {x:ByteArray}:AM m x=true->Up d m x
 | step {x s:ByteArray} {y:AD}:y∈d->AM y.1 x=true->AR y.2.1 s=true->Up d m s->Up d m x
section
variable {d:List AD}
theorem Xl {m x y:ByteArray} (h:Up d m x) (e:AM x y=true):Up d m y:=by
 cases h with
 | base h=>exact .base (BX h e)
 | step a b c f=>exact .step a (BX b e) c f
theorem yX {c x s:ByteArray} (h:Up d c x) {y:AD} (g:y∈d) (e:AM y.1 c=true) (hs:AR y.2.1 s=true):Up d s x:=by
 induction h with
 | base h=>exact .step g (BX e h) hs (.base (B3 s))
 | step a b f j i=>exact .step a b f i
theorem Rr {a b c:ByteArray} (g:Up d a b) (i:Up d b c):Up d a c:=by
 induction i with
 | base h=>exact Xl g h
 | step g1 e f k j=>exact .step g1 e f j
theorem uI {m a x:ByteArray} (e:AM a m=true) (h:Up d m x):Up d a x:=Rr (.base e) h
theorem uJ (i:A5 d=0) (g:d.length<=(BM d).length) {m x:ByteArray} (h:Up d m x):AM m x=true\/Fc d m<Fc d x:=by
 induction h with
 | base h=>exact .inl h
 | step c e f j a =>
  right;have b:=JS i g c f;rw[HK d e]at b;rcases a with a|a
  .rw[HK d a];exact b
  omega
theorem nJ {o:List ByteArray} {s t:ByteArray} (h:t∈C5 o s):t∈o\/t=s:=by
 unfold C5 at h;split at h
 .exact .inl h
 rcases aT.1 h with h|h
 .exact .inl h
 exact .inr (by simpa using h)
theorem Tv:∀ {l o:List ByteArray} {t:ByteArray},t∈l.foldl C5 o->t∈o\/t∈l
 | [],_,_,h=>.inl h
 | s :: l,o,t,h=>by
  rw[No]at h;rcases Tv h with h|h
  .rcases nJ h with h|h
   .exact .inl h
   exact .inr (by simp[h])
  exact .inr (by simp[h])
theorem Tw {s:ByteArray} (h:0<=AY d s):d.getD (AY d s).toNat d0∈d/\AM (d.getD (AY d s).toNat d0).1 s=true:=by
 rcases Be d s with g|⟨b,g1,a⟩
 .omega
 exact⟨AL oa,a⟩
theorem Tx (hs:Hu d) {x:ByteArray}:∀ {n i:Nat} {o:List ByteArray},(∀t∈o,0<=AY d t/\Up d t x)->∀t∈DM d n i o,0<=AY d t/\Up d t x
 | 0,_,_,b=>b
 | n+1,i,o,b=>by
  unfold DM;split
  .rename_i hi;refine Tx hs λt a=>?_;rcases Tv a with a|a
   .exact b t a
   obtain⟨c1,c2⟩:=b _ (AL (d:=ByteArray.empty) hi);obtain⟨c,e⟩:=Tw c1;exact⟨hs _ c t a,yX c2 c e (Gr a)⟩
  exact b
theorem Tz {l:List ByteArray} {t:ByteArray} (h:t∈Y1 l):t∈l:=(NG (o:=[]) h).resolve_left sa
theorem nK (hs:Hu d) {x t:ByteArray} (c:0<=AY d x) (h:AR (Bt d x) t=true):Up d t x:=by
 obtain⟨u,a,e⟩:=aS.1 h;unfold Bt at a;rw[As oa]at a;have:=(Tx hs (x:=x) (n:=d.length) (i:=0) (o:=[x]) (λt b=>by
  have:t=x:=by simpa using b
  subst this;exact⟨c,.base (B3 _)⟩) u (Tz a)).2
 exact uI (CX e) this
def A0M (d:List AD) (o:List ByteArray) (i:Nat):Prop:=∀j,j<i->∀s∈Eu d (o.getD j ByteArray.empty),AR o s=true
theorem T6 {m:ByteArray}:∀ {n i:Nat} {o:List ByteArray},(∀t∈o,Up d m t)->∀t∈CO d n i o,Up d m t
 | 0,_,_,a=>a
 | n+1,i,o,a=>by
  unfold CO;split
  .rename_i hi;have f:=a _ (AL (d:=ByteArray.empty) hi);generalize o.getD i ByteArray.empty=c at *;have key:∀(l:List AD) (o:List ByteArray),(∀y∈l,y∈d)->(∀t∈o,Up d m t)->∀t∈l.foldl (EM c) o,Up d m t:=by
    intro l;induction l with
    | nil=>exact λo _ a=>a
    | cons y l j =>
     intro o e a;rw[No];refine j _ (λz g=>e z (by simp[g])) λt b=>?_;unfold EM at b;split at b
     .rename_i h;rw[AT]at h;rcases aT.1 b with b|b
      .exact a t b
      have:t=y.1:=by simpa using b
      subst this;exact .step (e y sa) (B3 _) h.1 f
     exact a t b
   exact T6 (key d o (λ_ h=>h) a)
  exact a
theorem Rs {m x:ByteArray} (h:AR (Ax d m) x=true):Up d m x:=by
 obtain⟨u,a,e⟩:=aS.1 h;unfold Ax at a;split at a
 .cases a
 exact Xl (T6 (m:=m) (n:=d.length) (i:=0) (o:=[m]) (λt b=>by
  have:t=m:=by simpa using b
  subst this;exact .base (B3 _)) u (Tz a)) e
theorem Xm {m x:ByteArray} (v:0<=AY d m) (h:Up d m x):AR (Ax d m) x=true:=by
 have r:Sf d [m]:=⟨λs hs=>by
  have:s=m:=by simpa using hs
  rw[this];exact v,by simp⟩
 obtain⟨k,y,E⟩:=Rk (d:=d) (n:=d.length) (i:=0) r oa (λj u=>by omega) oa;have B:m∈CO d d.length 0 [m]:=JT sa;have t:Ax d m=Y1 (CO d d.length 0 [m]):=by unfold Ax;rw[As oa]
 rw[t];generalize CO d d.length 0 [m]=o at *;have key:AR o x=true:=by
  induction h with
  | base h=>exact aS.2 ⟨m,B,h⟩
  | step l p q D C =>
   obtain⟨z,c,a⟩:=aS.1 C;obtain⟨j,u,rfl⟩:=BJ ByteArray.empty c;obtain⟨s,A,f⟩:=aS.1 q;obtain⟨w,b,g⟩:=aS.1 (y j oa _ l (aS.2 ⟨s,A,BX f (CX a)⟩));exact aS.2 ⟨w,b,BX g p⟩
 obtain⟨z,c,e⟩:=aS.1 key;obtain⟨w,b,a⟩:=aS.1 (Ko (o:=[]) c);exact aS.2 ⟨w,b,BX a e⟩
theorem T7:∀ {l o:List ByteArray} {x:ByteArray},AR o x=true->AR (l.foldl (Dl d) o) x=true
 | [],_,_,h=>h
 | s :: l,o,x,h=>by
  rw[No];refine T7 ?_;unfold Dl;split
  .exact Gt (λz a=>LR a) h
  exact h
theorem Ja:∀ {l o:List ByteArray} {x:ByteArray},x∈l->0<=AY d x->AR (l.foldl (Dl d) o) x=true
 | s :: l,o,x,h,a=>by
  rw[No];rcases Is.1 h with rfl|h
  .refine T7 ?_;unfold Dl;rw[At a];exact NF
  exact Ja h a
theorem L1:∀ {l o:List ByteArray},(∀x∈o,0<=AY d x)->∀x∈l.foldl (Dl d) o,0<=AY d x
 | [],_,b=>b
 | s :: l,o,b=>by
  rw[No];refine L1 λx a=>?_;unfold Dl at a;split at a
  .rcases FU a with a|rfl
   .exact b x a
   assumption
  exact b x a
theorem yY {l:List ByteArray} (h:Xb l) {i j:Nat} (hi:i<l.length) (a:j<l.length) (d:i≠j):AM (l.getD i ByteArray.empty) (l.getD j ByteArray.empty)=false:=by
 have c:∀k (h:k<l.length),l.getD k ByteArray.empty=l[k]:=λk h=>by rw[AS,DO h];rfl
 rw[c i hi,c j a];rcases Nat.lt_or_gt_of_ne d with b|b
 .exact(iN.1 h) i j hi a b
 exact H0 ((iN.1 h) j i a hi b)
theorem Jb:∀ {l o:List ByteArray},Xb o->(∀s∈l,∀x∈o,AM x s=false)->Xb l->Xb (l.foldl (Dl d) o)
 | [],_,h,_,_=>h
 | s :: l,o,h,b,f=>by
  rw[No];have e:=AAl.1 f;refine Jb ?_ (λy c x a=>?_) e.2
  .unfold Dl;split
   .exact Rj h (b s sa)
   exact h
  unfold Dl at a;split at a
  .rcases FU a with a|rfl
   .exact b y (by simp[c]) x a
   exact e.1 y c
  exact b y (by simp[c]) x a
theorem gP (l:A5 d=0) (s:ByteArray):Xb (GT d s):=by
 have key:∀(r:List AD) (o:List ByteArray),Xb o->(∀y∈r,∀x∈o,AM x y.1=false)->r.Pairwise (λa b=>AM a.1 b.1=false)->Xb (r.foldl (Ip s) o):=by
  intro r;induction r with
  | nil=>exact λo h _ _=>h
  | cons y r t =>
   intro o h f hp;rw[No];have m:=AAl.1 hp;refine t _ ?_ (λz g x c=>?_) m.2
   .unfold Ip;split
    .exact Rj h (f y sa)
    exact h
   unfold Ip at c;split at c
   .rcases FU c with c|rfl
    .exact f z (by simp[g]) x c
    exact m.1 z g
   exact f z (by simp[g]) x c
 refine key d [] .nil (λy _ x c=>by cases c) (iN.2 λi j hi k u=>?_);cases e:AM d[i].1 d[j].1 with
 | false=>rfl
 | true =>
  have p:=HJ l hi;have q:=HJ l k;have g1:d.getD i d0=d[i]:=by rw[AS,DO hi];rfl
  have n:d.getD j d0=d[j]:=by rw[AS,DO k];rfl
  rw[g1,Kn d e]at p;rw[n]at q;omega
theorem Iu (v:AU d=0) {l:List ByteArray} (z:Xb l) {x:ByteArray} (n:x∈l) (C:0<=AY d x):∃m∈Ag d l,Up d m x:=by
 obtain⟨hs,H,-,F,E⟩:=Ab v;have D:∀y∈Ak d l,0<=AY d y:=L1 λy c=>by cases c
 obtain⟨t,p,u⟩:=aS.1 (Ja (d:=d) (o:=[]) n C);have p:t∈Ak d l:=p;have B:Xb (Ak d l):=Jb .nil (λs _ x n=>by cases n) z;have A:Ag d l=Ik d (Ak d l) (Ak d l).length:=rfl;rw[A];generalize Ak d l=all at *;have key:∀(k:Nat) (y:ByteArray),Fc d y<k->y∈all->Up d y x->∃m∈Ik d all all.length,Up d m x:=by
  intro k;induction k with
  | zero=>exact λy h=>by omega
  | succ k G =>
   intro y I c q;obtain⟨i,hi,rfl⟩:=BJ ByteArray.empty c;by_cases a:Ju d all i all.length=true
   .exact⟨_,To.2 ⟨i,tO.2 ⟨gO.2 hi,a⟩,rfl⟩,q⟩
   have a:Ju d all i all.length=false:=by simpa using a
   unfold Ju at a;obtain⟨j,b,f⟩:=List.all_eq_false.1 a;have b:=gO.1 b;unfold PJ at f;simp only[bY,AA9,OF,not_or,Bool.not_eq_false]at f;obtain⟨g,w⟩:=f;have g:j≠i:=λe=>g (by rw[e]);have r:=nK hs (D _ c) w;rcases uJ F E r with e|e
   .exact absurd e (by rw[yY B b hi g];simp)
   exact G _ oa (AL b) (Rr r q)
 exact key _ t (ABd _) p (.base u)
theorem FZ {s:ByteArray} (hs:s∈AG d):0<=AY d s:=by
 obtain⟨x,a,rfl⟩:=CY hs;exact CD a
theorem Jc {x:AD} (a:x∈d) (b:A5 d=0):x.1∈AG d:=by
 obtain⟨s,hs,e⟩:=aS.1 (ML a);obtain⟨y,c,rfl⟩:=CY hs;rw[<-FT b c a e];exact hs
end
end Go.Proofs.YtaoonfcjbmcmpaaGreatDoor.Fw
