/- Contracts of functions and plain laws. -/
import Derived.Test.YtddbnflakbngaaaGreatDoorFZJ
import Derived.Test.YtddbnflakbngaaaGreatDoorFZI
set_option linter.unusedVariables false
set_option linter.unusedSimpArgs false
namespace Go.Proofs.YtddbnflakbngaaaGreatDoor.Fw
attribute [local irreducible] Ev
attribute [go_sem] fQ AL List.toList_toArray B7 evG evK Xh E5 K3 HD GF GY P7 Lt Ca Dh NZ Co Cz frz l0 G9 Dg BG F7 Bj AV.frz AV.frzs AV.drp AV.drps AV.names AV.namess aq HB Ls Ks UA Jn Bu B1 KC Ea JE Eb JG JF JH VB P0 HY Ku F9 Ee VC Rr qUn KD JJ MO Fe D3 Jq Kv Em UB Cy Eo FN Rs JK OM Fq OL P1 Ru MP Jr Kw DS DC Fs D4 IH DT FO DU Ep GC Co C7 Pw Rq Ot G2 Jp Jo Kt OO P4 MR MU MS Ky TC MT Kz Z3 P6 P5 AV.trn AV.trns EZ Cw Obj.trn KS gC DW Du DV Eq Cg FP Al lk Hs HA ID bin lZ Xn l7 TA T8 zfx AV.cellss qR zfs pfs AV.cells CT FE Jm GB P3 CW OK Ty.cell1 JD FI D2 GX JC FH Kr MN Pv Fm HX OA T7 VA MM Kq Zz eH S9 IC C8 Hk RV.flat Ty.flat Ty.size St.add upd del Bp Value.oneCell' Xm Ty.dflt JB QL IQ QU List.take_succ_cons List.take_zero List.length_cons fY fZ QT KN Mk H7 KO A0X GG Nl Nm Nn Np R4 R5 Nq JP VZ Option.map_some Option.map_none Option.bind_some Option.getD_some Option.getD_none Option.isNone_none Option.isNone_some Bool.and_true Bool.true_and Bool.and_false Bool.false_and Bool.not_true Bool.not_false if_true if_false List.length_cons List.length_nil and_true true_and and_self List.all_cons List.all_nil List.append_nil List.nil_append List.cons_append List.getElem?_cons_zero List.getElem?_cons_succ List.getElem?_nil List.map_cons List.map_nil List.set_cons_zero List.set_cons_succ List.isEmpty_nil List.isEmpty_cons decide_true decide_false beq_self_eq_true bne_self_eq_false Nat.zero_add Nat.add_zero Nat.sub_zero Int.toNat_natCast Int.toNat_zero Int.toNat_one List.take_length List.length_append List.length_singleton true_or or_true or_self false_or or_false Ty.agg.injEq Ty.slice.injEq Ty.prod.injEq Ty.int.injEq Option.some.injEq beq_iff_eq MH evMG evMQ opM IT Mh CH KM Ha TV KK IR JQ LC Lx O6 OU O7 UE Mi QN QO KL Ai Az Op.operands Call.operands List.filterMap_cons List.filterMap_nil List.append_eq Bool.cond_false_right Bool.cond_true_left cond_true cond_false implies_true decide_eq_true_eq beq_true beq_false Bool.or_true Bool.or_false Bool.true_or Bool.false_or Option.isSome_some Array.empty_append List.append_toArray F8 Na FQ IE Z2 P2 Z1 GA Gf Ge JL IG Kx MQ Xo l6 Ht inB K2 GD G3 KE Aq f4 List.drop_zero D8 IW aR Cr Mm Cv AV.fgt AV.fgts Obj.fgt A6 A1 Ai DY KP Bi KQ List.any_cons List.any_nil mY f6 aU f7 Mo R9 qs List.flatMap_cons List.flatMap_nil List.cons_append tn aX Ms List.take_succ_cons List.drop_succ_cons a9 Hb Bk rS Nv CB CQ Ak K0 LB Bv matchAVs DE IP JO HZ Jy
attribute [go_sem] ty1 ty2 ty3 ty4 ty5 ty9 A5v A5w A5x A5y A5z A5A A5B A5C A5D A5E A5F A5G A5H A5I A5J A5K A5L A5M A5N A5O A5P A5Q A5R A5S A5T A5U A5V A5W A5X A5Y A5Z sB sC sD sE sF sG sH sI sJ sK sL sM sN sO sP sQ sR sS sT sU sV sW sX sY sZ s4 s5 s6 s7 s8 s9 tA tB tC tD
set_option maxRecDepth 100000
set_option maxHeartbeats 4000000
variable {k i c f:Nat} {a b:List Int} {o m:List ByteArray} {s x:ByteArray} {l W:List (List Int)} {Z X:Type} {n y:Int} {Y r:List (Int×Int)} {V:Int×Int}
section
def CV (a b c:Int):Bool:=decide (a<=c)&&decide (c<=b)
def bB:Ab:={ ins:=[.int .u8],pre:=λ_=>True,out:=λ(c,_)=>[.p .bool (CV 48 57 c)] }
attribute [go_sem] bB
def nG:Ab:={ ins:=[.int .u8],pre:=λ_=>True,out:=λ(c,_)=>[.p .bool (CV 65 90 c)] }
attribute [go_sem] nG
def nH:Ab:={ ins:=[.int .u8],pre:=λ_=>True,out:=λ(c,_)=>[.p .bool (CV 97 122 c)] }
attribute [go_sem] nH
theorem V7:Ag Tryz.prog 136 bB:=by
 refine fK [0,2] Tryz.func136 Tryz.ntmps136 AH ?_;rintro w0 O0 ⟨c,u⟩ a - -;simp only[bB,AL];repeat'(first|exact a6|apply eS rfl|refine rX a ?_ ?_)
 exact fI a [.tmp 2] (by unfold CV;exact eR)
theorem A1C:Ag Tryz.prog 178 nG:=by
 refine fK [0,2] Tryz.func178 Tryz.ntmps178 AH ?_;rintro w0 O0 ⟨c,u⟩ a - -;simp only[nG,AL];repeat'(first|exact a6|apply eS rfl|refine rX a ?_ ?_)
 exact fI a [.tmp 2] (by unfold CV;exact eR)
theorem A1D:Ag Tryz.prog 179 nH:=by
 refine fK [0,2] Tryz.func179 Tryz.ntmps179 AH ?_;rintro w0 O0 ⟨c,u⟩ a - -;simp only[nH,AL];repeat'(first|exact a6|apply eS rfl|refine rX a ?_ ?_)
 exact fI a [.tmp 2] (by unfold CV;exact eR)
def PG (c:Int) (big:Bool):Bool:=CV 48 57 c||c==45||big&&CV 65 90 c||!big&&CV 97 122 c
def A1E:Ab:={ ins:=[.int .u8,.bool],pre:=λ_=>True,out:=λ(c,b,_)=>[.p .bool (PG c b)] }
attribute [go_sem] A1E
theorem A61:Ag Tryz.prog 164 A1E:=by
 refine fK [0,1,4] Tryz.func164 Tryz.ntmps164 (AF V7 (AF A1C (AF A1D AH))) ?_;rintro w0 O0 ⟨c,b,u⟩ a - -;simp only[A1E,AL];repeat'(first|exact a6|apply eS rfl|refine rX a ?_ ?_)
 exact fI a [.tmp 4] (by unfold PG;exact eR)
abbrev OW (s:ByteArray) (i:Nat):Int:=((s.data.getD i 0).toNat:Int)
def PH (s:ByteArray):Bool:=decide ((s.size:Int)<1)||decide (32<(s.size:Int))||CV 48 57 (OW s 0)||OW s 0==45
def BK (s:ByteArray) (big:Bool):Bool:=!PH s&&(List.range s.size).all λi=>PG (OW s i) big
def nI:Ab:={ ins:=[T9,.bool],pre:=λ_=>True,out:=λ(s,b,_)=>[.p .bool (BK s b)] }
attribute [go_sem] nI
theorem gR:Ag Tryz.prog 154 nI:=by
 refine fK [0,1,4,5,23,27,35] Tryz.func154 Tryz.ntmps154 (AF V7 (AF A61 AH)) ?_;rintro w0 O0 ⟨s,b,u⟩ d - -;simp only[nI,AL];repeat'(first|exact a6|apply eS rfl|refine rX d ?_ ?_|refine rC ?_ ?_<;>intro a<;>try(cases a;done))
 .constructor
  .intro h;simp only[lU,ABs,bY]at h;have:1<=(s.size:Int):=by omega
   exact this
  intro h;simp only[lU,ABs,bY]at h;have:1<=(s.size:Int):=by omega
  exact this
 .have h1:PH s=true:=by
   unfold PH OW;simp only[AAo,Is,AAv];exact a
  have c:BK s b=false:=by unfold BK;rw[h1];rfl
  exact fI d [.tmp 4] (by rw[c];exact eR)
 have h1:PH s=false:=by
  unfold PH OW;simp only[ABs,bY,ACX];exact⟨⟨⟨O1,O1⟩,a.1.2⟩,a.2⟩
 have g:s.size<=32:=by omega
 refine AI (ι:={k:Nat//k<=s.size/\((List.range k).all λi=>PG (OW s i) b)=true}) (λk=>⟨[(0,.p T9 s),(1,.p .bool b),(5,.p (.int .i64) (k.1:Int))],[]⟩) (λk=>s.size-k.1) ⟨0,sc⟩ (eW []) (λk=>?_)
 obtain⟨k,hk,f⟩:=k;repeat'(first|exact a6|apply eS rfl|apply AD|refine rX d ?_ ?_|refine rC ?_ ?_<;>intro a<;>try(cases a;done))
 .exact a
 .have e:k<s.size:=by omega
  have c:BK s b=false:=by
   unfold BK;rw[ACj];refine .inr (ADj.2 λh=>?_);have:=OF.1 h k (AAn.2 e);rw[show PG (OW s k) b=false from a]at this;cases this
  exact fI d [.tmp 4] (by rw[c];exact eR)
 .omega
 .have e:k<s.size:=by omega
  refine⟨⟨k+1,O1,?_⟩,a2,AB [] rfl rfl ?_ ?_⟩
  .rw[ABV,AE1,f];rw[ADD,ADh,List.all_nil,Bool.and_true];exact a
  .exact eN
  exact eN
 have e:k=s.size:=by omega
 subst e;have c:BK s b=true:=by unfold BK;rw[h1,f];rfl
 exact fI d [.tmp 4] (by rw[c];exact eR)
def Yj:Ab:={ ins:=[T9],pre:=λ_=>True,out:=λ(s,_)=>[.p .bool (BK s false)] }
def Qa:Ab:={ ins:=[T9],pre:=λ_=>True,out:=λ(s,_)=>[.p .bool (BK s true)] }
theorem tG:Ag Tryz.prog 134 Yj:=by
 refine fK [0,2] Tryz.func134 Tryz.ntmps134 (AF gR AH) ?_;rintro w0 O0 ⟨s,u⟩ a - -;simp only[Yj,AL];repeat'(first|exact a6|apply eS rfl|refine rX a ?_ ?_)
 exact fI a [.tmp 2]
theorem V8:Ag Tryz.prog 135 Qa:=by
 refine fK [0,2] Tryz.func135 Tryz.ntmps135 (AF gR AH) ?_;rintro w0 O0 ⟨s,u⟩ a - -;simp only[Qa,AL];repeat'(first|exact a6|apply eS rfl|refine rX a ?_ ?_)
 exact fI a [.tmp 2]
end
section
theorem Nx {α:Type} (l:List α) (d:α) (p:α->Bool) (h:k<l.length):(l.take (k+1)).any p=((l.take k).any p||p (l.getD k d)):=by
 rw[Ap l d h,ADK];simp
theorem JU {α:Type} (l:List α) (d:α) (p:α->Bool) (h:k<l.length) (a:p (l.getD k d)=true):l.any p=true :=
 aS.2 ⟨_,AG l d h,a⟩
def Ac (l:List ByteArray) (s:ByteArray):Bool:=l.any λx=>AK x s
def J1:Ab:={ ins:=[CC,T9],pre:=λ_=>True,out:=λ(l,n,_)=>[.p .bool (Ac l n)],lend:=true }
attribute [go_sem] J1
theorem HG:Ag Tryz.prog 127 J1:=by
 refine fK [0,1,4,5,9,17] Tryz.func127 Tryz.ntmps127 AH ?_;rintro w0 O0 ⟨l,n,u⟩ a ⟨⟨e,-⟩,-⟩ -;simp only[AP]at e;simp only[J1,AL];repeat'(first|exact a6|apply eS rfl|refine rX a ?_ ?_)
 refine AI (ι:={k:Nat//k<=l.length/\(l.take k).any (λx=>AK x n)=false}) (λk=>⟨[(0,.p CC l),(1,.p T9 n),(5,.p (.int .i64) (k.1:Int))],[]⟩) (λk=>l.length-k.1) ⟨0,sc⟩ (eW []) (λk=>?_)
 obtain⟨k,hk,c⟩:=k;repeat'(first|exact a6|apply eS rfl|apply AD|refine rX a ?_ ?_|refine rC ?_ ?_<;>intro b<;>try(cases b;done))
 .exact eV
 .have d:k<l.length:=by exact eV
  have h1:Ac l n=true:=JU l ByteArray.empty _ d b;exact fI a [.tmp 4] (by rw[h1];exact eR)
 .exact eV
 .have d:k<l.length:=by exact eV
  refine⟨⟨k+1,eV,?_⟩,by simp only;exact eV,AB [] rfl rfl ?_ ?_⟩
  .rw[Nx l ByteArray.empty _ d,c];exact b
  .exact eN
  exact eN
 have hk:l.take k=l:=BY eV;rw[hk]at c;have h1:Ac l n=false:=c;exact fI a [.tmp 4] (by rw[h1];exact eR)
def Xi (l:List ByteArray) (s:ByteArray):Nat:=(l.takeWhile λx=>CP x s).length
theorem nJ {α:Type} (p:α->Bool) (d:α):∀(l:List α) (k:Nat),k<=(l.takeWhile p).length->((k<l.length/\p (l.getD k d)=true)↔k+1<=(l.takeWhile p).length)
 | [],k,h=>by simp
 | x :: l,k,h=>by
  by_cases a:p x=true
  .rw[List.takeWhile_cons,At a]at h ⊢;cases k with
   | zero=>simp[a]
   | succ k =>
    have:=nJ p d l k (by simpa using h);simpa using this
  rw[List.takeWhile_cons,As a]at h ⊢;have hk:k=0:=by simpa using h
  subst hk;simp[a]
theorem A8a {α:Type} (p:α->Bool) (l:List α):(l.takeWhile p).length<=l.length:=(List.takeWhile_sublist p).length_le
def D9 (l:List ByteArray) (s:ByteArray):List ByteArray :=
 if (decide (Xi l s<l.length)&&AK (l.getD (Xi l s) ByteArray.empty) s)=true then l else l.take (Xi l s)++[s]++l.drop (Xi l s)
def bC:Ab:={ ins:=[CC,T9],pre:=λ(l,_,_)=>List.length l<=100000,out:=λ(l,n,_)=>[.p CC (D9 l n)] }
attribute [go_sem] bC
theorem SH:Ag Tryz.prog 117 bC:=by
 refine fK [0,1,4,5,6,18,32] Tryz.func117 Tryz.ntmps117 AH ?_;rintro w0 O0 ⟨l,n,u⟩ c-m;have m:l.length<=100000:=m;simp only[bC,AL];repeat'(first|exact a6|apply eS rfl|refine rX c ?_ ?_)
 refine AI (ι:={k:Nat//k<=Xi l n}) (λk=>⟨[(0,.p CC l),(1,.p T9 n),(5,.raw (.slice none 0 0)),(6,.p (.int .i64) (k.1:Int))],[]⟩) (λk=>l.length-k.1) ⟨0,sc⟩ (eW []) (λk=>?_)
 obtain⟨k,hk⟩:=k;have d:=A8a (λx=>CP x n) l;have i:=nJ (λx=>CP x n) ByteArray.empty l k hk;simp only;repeat'(first|exact a6|apply eS rfl|apply AD|refine rX c ?_ ?_|refine rC ?_ ?_<;>intro a<;>try(cases a;done))
 .exact λh=>h
 .have h1:k<l.length/\CP (l.getD k ByteArray.empty) n=true:=⟨eV,a.2⟩;exact eV
 .have h1:k<l.length/\CP (l.getD k ByteArray.empty) n=true:=⟨eV,a.2⟩;exact⟨⟨k+1,i.1 h1⟩,a2,eW []⟩
 .exact λh=>h
 .rename_i f;have g:k=Xi l n:=by
   refine ADY hk (AEH λh=>?_);have:=i.2 h;rw[f (oN.2 this.1)]at this;cases this.2
  have e:D9 l n=l:=by
   unfold D9;rw[<-g,At];rw[An,Is];exact⟨oN.1 a.1,a.2⟩
  exact fI c [.tmp 4] (by rw[e];exact eR)
 .have j:=ACa k l;have b:k<=l.length:=iN hk d;simp only[AP];exact⟨AAw.2 b,by dsimp only[Ty.den]at *;omega⟩
 .have j:=ACa k l;have b:k<=l.length:=iN hk d;simp only[AP];dsimp only[Ty.den]at *;omega
 .have j:=ACa k l;have b:k<=l.length:=iN hk d;have q:(l.drop k).length<=l.length:=by rw[AD5];omega
  simp only[AP];exact⟨AAw.2 b,by dsimp only[Ty.den]at *;omega⟩
 rename_i f;have g:k=Xi l n:=by
  refine ADY hk (AEH λh=>?_);have:=i.2 h;rw[f (oN.2 this.1)]at this;cases this.2
 have e:D9 l n=l.take k++[n]++l.drop k:=by
  unfold D9;rw[<-g,As];rw[An,Is];intro h;rw[a (oN.2 h.1)]at h;cases h.2
 have b:k<=l.length:=iN hk d;have o:(l.take k).length+1+(l.drop k).length=(l.take k++[n]++l.drop k).length:=by simp only[IF,oR]
 rw[o,<-e];refine CO [38] ?_;exact fI c [.tmp 4]
end
section
def Ga (b:List Int) (i:Int):Int:=if i<b.length then b.getD i.toNat 0 else 0
def gS:Ab:={ ins:=[Ek,T3],pre:=λ(_,i,_)=>(0:Int)<=i,out:=λ(b,i,_)=>[.p SF (Ga b i)],lend:=true }
attribute [go_sem] gS
theorem tH:Ag Tryz.prog 138 gS:=by
 refine fK [0,1,4,8] Tryz.func138 Tryz.ntmps138 AH ?_;rintro w0 O0 ⟨b,i,u⟩ c-hi;simp only[gS,AL];repeat'(first|exact a6|apply eS rfl|refine rX c ?_ ?_|refine rC ?_ ?_<;>intro a<;>try(cases a;done))
 .exact⟨hi,a⟩
 .have h1:Ga b i=b.getD i.toNat 0:=by unfold Ga;rw[At a]
  exact fI c [.tmp 4] (by rw[h1];exact eR)
 have h1:Ga b i=0:=by unfold Ga;rw[As (ACA.2 a)]
 exact fI c [.tmp 4] (by rw[h1];exact eR)
def Cs (b:List Int):Nat->Nat
 | 0=>0
 | n+1=>if b.getD n 0=0 then Cs b n else n+1
def BZ (b:List Int):List Int:=b.take (Cs b b.length)
theorem V9 (b:List Int):∀n,Cs b n<=n
 | 0=>Of _
 | n+1=>by
  unfold Cs;split
  .exact Nat.le_succ_of_le (V9 b n)
  exact Of _
def LI:Ab:={ ins:=[Ek],pre:=λ(b,_)=>List.length b<=100000,out:=λ(b,_)=>[.p Ek (BZ b)] }
attribute [go_sem] LI
theorem Ny:Ag Tryz.prog 120 LI:=by
 refine fK [0,2,3,15] Tryz.func120 Tryz.ntmps120 AH ?_;rintro w0 O0 ⟨b,u⟩ d-f;have f:b.length<=100000:=f;simp only[LI,AL];repeat'(first|exact a6|apply eS rfl|refine rX d ?_ ?_)
 refine AI (ι:={n:Nat//n<=b.length/\Cs b n=Cs b b.length}) (λn=>⟨[(0,.p Ek b),(3,.p (.int .i64) (n.1:Int))],[]⟩) (λn=>n.1) ⟨b.length,Of _,rfl⟩ (eW []) (λn=>?_)
 obtain⟨n,hn,g⟩:=n;simp only;repeat'(first|apply eS rfl|apply AD|refine rX d ?_ ?_|refine rC ?_ ?_<;>intro c<;>try(cases c;done))
 .constructor
  .exact eV
  intro h;refine⟨?_,?_⟩<;>exact eV
 .exact eV
 .obtain⟨h1,a⟩:=c;obtain⟨m,rfl⟩:∃m,n=m+1:=⟨n-1,O1⟩;have e:(((m+1:Nat):Int)-1)=(m:Int):=by omega
  rw[e]at a;have a:b.getD m 0=0:=a;have j:Cs b m=Cs b b.length:=by
   rw[<-g];show _=if b.getD m 0=0 then Cs b m else m+1
   rw[At a]
  refine⟨⟨m,O1,j⟩,sc,AB [] rfl rfl ?_ ?_⟩
  .exact eN
  simp only[e];exact eN
 .have k:=ACa n b;simp only[AP];exact⟨AAw.2 hn,by dsimp only[Ty.den]at *;omega⟩
 have i:Cs b n=n:=by
  cases n with
  | zero=>rfl
  | succ m =>
   have e:(((m+1:Nat):Int)-1)=(m:Int):=by omega
   rw[e]at c;have a:=c O1;have a:¬b.getD m 0=0:=a;show (if b.getD m 0=0 then Cs b m else m+1)=m+1;rw[As a]
 have h1:BZ b=b.take n:=by unfold BZ;rw[<-g,i]
 rw[<-h1];refine CO [18] ?_;exact fI d [.tmp 2]
end
def A1F (w:Int) (r:Int):Bool:=C2 .and .u64 (eG .u64 w r) 1==1
def UH (b:List Int) (i:Int):Bool:=if (decide (i<0)||decide ((b.length:Int)<=i.tdiv 64))=true then false else A1F (b.getD (i.tdiv 64).toNat 0) (i.tmod 64)
def A1G:Ab:={ ins:=[Ek,T3],pre:=λ_=>True,out:=λ(b,i,_)=>[.p .bool (UH b i)],lend:=true }
theorem A97 {w:Int} (h0:0<=w) (r:Int):0<=eG .u64 w r/\eG .u64 w r<=w:=by
 unfold eG;have a:(0:Int)<2 ^ (min r.toNat IntKind.u64.bits):=Int.pow_pos dg;rw[Int.fdiv_eq_ediv_of_nonneg _ (Int.le_of_lt a)];exact⟨Int.ediv_nonneg h0 (Int.le_of_lt a),Int.ediv_le_self _ h0⟩
theorem A1H:Ag Tryz.prog 131 A1G:=by
 refine fK [0,1,4,13] Tryz.func131 Tryz.ntmps131 AH ?_;rintro w0 O0 ⟨b,i,u⟩ d ⟨⟨m,k⟩,e,-⟩ -;have e:I6 .i64 i:=e;rw[Nq]at e;have j:0<=i->Int.tdiv i 64=i / 64/\Int.tmod i 64=i % 64:=λh=>⟨AD7 h,ADp h⟩;simp only[A1G,AL];repeat'(first|exact a6|apply eS rfl|refine rX d ?_ ?_|refine rC ?_ ?_<;>intro c<;>try(cases c;done))
 .intro h;have h0:0<=i:=by simpa using h
  obtain⟨a,g⟩:=j h0;rw[a];refine⟨dg,?_,?_⟩<;>exact eV
 .have h1:UH b i=false:=by
   unfold UH;rw[At];rw[AAo,Is,Is];exact c
  exact fI d [.tmp 4] (by rw[h1];exact eR)
 .obtain⟨h0,l⟩:=c;obtain⟨a,g⟩:=j h0;rw[a]at l;have f:I6 .u64 (b.getD (i / 64).toNat 0):=k _ (AG b 0 eV);rw[JP]at f;have hs:=A97 f.1 (i % 64);rw[a,g];refine⟨⟨dg,eV,eV⟩,⟨eV,eV⟩,⟨dg,eV,eV⟩,⟨eV,eV⟩,eV,hs.1,ADi hs.2 f.2⟩
 have h1:UH b i=A1F (b.getD (i.tdiv 64).toNat 0) (i.tmod 64):=by
  unfold UH;rw[As];rw[AAo,Is,Is];rintro (h|h)<;>omega
 exact fI d [.tmp 4] (by rw[h1];unfold A1F;exact eR)
section
def Gn (op:BinOp) (a b:List Int) (n:Nat):List Int:=(List.range n).map λi=>C2 op .u64 (a.getD i 0) (Ga b (i:Int))
theorem Eu (op:BinOp) (a b:List Int) (n:Nat):(Gn op a b n).length=n:=by simp[Gn]
theorem Yk (op:BinOp) (a b:List Int) (n:Nat):Gn op a b (n+1)=Gn op a b n++[C2 op .u64 (a.getD n 0) (Ga b (n:Int))]:=by simp[Gn,ABV]
def El (a b:List Int):List Int:=BZ (Gn .and a b a.length)
def A1I:Ab:={ ins:=[Ek,Ek],pre:=λ(a,_,_)=>List.length a<=100000,out:=λ(a,b,_)=>[.p Ek (El a b)] }
theorem A1J:Ag Tryz.prog 119 A1I:=by
 refine fK [0,1,4,5,6,10] Tryz.func119 Tryz.ntmps119 (AF tH (AF Ny AH)) ?_;rintro w0 O0 ⟨a,b,u⟩ c-ha;have ha:a.length<=100000:=ha;simp only[A1I,AL];repeat'(first|exact a6|apply eS rfl|refine rX c ?_ ?_)
 refine AI (ι:={n:Nat//n<=a.length}) (λn=>⟨[(0,.p Ek a),(1,.p Ek b),(5,.sr 23 SF 0 n.1),(6,.p (.int .i64) (n.1:Int))],[(23,.arr 214 SF (Gn .and a b n.1))]⟩) (λn=>a.length-n.1) ⟨0,DO _⟩ (AB [(23,.nil)] rfl rfl ?_ ?_) (λn=>?_)
 .refine eM ?_;rfl
 .exact eN
 obtain⟨n,hn⟩:=n;have hz:=Eu .and a b n;have hs:=Yk .and a b n;simp only;repeat'(first|exact a6|apply eS rfl|apply AD|refine rX c ?_ ?_|refine rC ?_ ?_<;>intro d<;>try(cases d;done))
 .refine⟨d,?_⟩;simp only[AP];dsimp only[Ty.den]at *;omega
 .exact eV
 .have e:n<a.length:=by exact eV
  refine⟨⟨n+1,O1⟩,a2,AB [(23,.nm 23)] rfl rfl ?_ ?_⟩
  .simp only[hs];refine eM ?_;rw[BY (by rw[hz];exact Of _)]
  exact eN
 have e:n=a.length:=by exact eV
 subst e;refine CO [23] ?_;have f:(Gn .and a b a.length).take a.length=Gn .and a b a.length:=BY (by rw[Eu];exact Of _);repeat'(first|apply eS rfl|refine rX c ?_ ?_)
 .rw[f,Eu];exact ha
 rw[f];exact fI c [.tmp 4] (by unfold El;exact eR)
def SI (a b:List Int):List Int:=BZ (Gn .andNot a b a.length)
def nK:Ab:={ ins:=[Ek,Ek],pre:=λ(a,_,_)=>List.length a<=100000,out:=λ(a,b,_)=>[.p Ek (SI a b)] }
attribute [go_sem] nK
theorem A1K:Ag Tryz.prog 104 nK:=by
 refine fK [0,1,4,5,6,10] Tryz.func104 Tryz.ntmps104 (AF tH (AF Ny AH)) ?_;rintro w0 O0 ⟨a,b,u⟩ c-ha;have ha:a.length<=100000:=ha;simp only[nK,AL];repeat'(first|exact a6|apply eS rfl|refine rX c ?_ ?_)
 refine AI (ι:={n:Nat//n<=a.length}) (λn=>⟨[(0,.p Ek a),(1,.p Ek b),(5,.sr 23 SF 0 n.1),(6,.p (.int .i64) (n.1:Int))],[(23,.arr 214 SF (Gn .andNot a b n.1))]⟩) (λn=>a.length-n.1) ⟨0,DO _⟩ (AB [(23,.nil)] rfl rfl ?_ ?_) (λn=>?_)
 .refine eM ?_;rfl
 .exact eN
 obtain⟨n,hn⟩:=n;have hz:=Eu .andNot a b n;have hs:=Yk .andNot a b n;simp only;repeat'(first|exact a6|apply eS rfl|apply AD|refine rX c ?_ ?_|refine rC ?_ ?_<;>intro d<;>try(cases d;done))
 .refine⟨d,?_⟩;simp only[AP];dsimp only[Ty.den]at *;omega
 .exact eV
 .have e:n<a.length:=by exact eV
  refine⟨⟨n+1,O1⟩,a2,AB [(23,.nm 23)] rfl rfl ?_ ?_⟩
  .simp only[hs];refine eM ?_;rw[BY (by rw[hz];exact Of _)]
  exact eN
 have e:n=a.length:=by exact eV
 subst e;refine CO [23] ?_;have f:(Gn .andNot a b a.length).take a.length=Gn .andNot a b a.length:=BY (by rw[Eu];exact Of _);repeat'(first|apply eS rfl|refine rX c ?_ ?_)
 .rw[f,Eu];exact ha
 rw[f];exact fI c [.tmp 4] (by unfold SI;exact eR)
def E8 (a b:List Int):Bool:=((SI a b).length:Int)==0
def Qb:Ab:={ ins:=[Ek,Ek],pre:=λ(a,_,_)=>List.length a<=100000,out:=λ(a,b,_)=>[.p .bool (E8 a b)],lend:=true }
attribute [go_sem] Qb
theorem SJ:Ag Tryz.prog 59 Qb:=by
 refine fK [0,1,4] Tryz.func59 Tryz.ntmps59 (AF A1K AH) ?_;rintro w0 O0 ⟨a,b,u⟩ c-ha;have ha:a.length<=100000:=ha;simp only[Qb,AL];repeat'(first|exact a6|apply eS rfl|refine rX c ?_ ?_)
 .exact ha
 exact fI c [.tmp 4] (by unfold E8;exact eR)
def DZ (a b:List Int):Bool:=E8 a b&&E8 b a
def bD:Ab:={ ins:=[Ek,Ek],pre:=λ(a,b,_)=>List.length a<=100000/\List.length b<=100000,out:=λ(a,b,_)=>[.p .bool (DZ a b)],lend:=true }
theorem x6:Ag Tryz.prog 130 bD:=by
 refine fK [0,1,4] Tryz.func130 Tryz.ntmps130 (AF SJ AH) ?_;rintro w0 O0 ⟨a,b,u⟩ c-⟨ha,d⟩;simp only[bD,AL];repeat'(first|exact a6|apply eS rfl|refine rX c ?_ ?_)
 .exact⟨ha,λ_=>d⟩
 exact fI c [.tmp 4] (by unfold DZ;exact eR)
end
section
attribute [go_sem] A1G
def Hm (a b:List Int):Bool:=decide (a=b)
def WA:Ab:={ ins:=[Ek,Ek],pre:=λ_=>True,out:=λ(a,b,_)=>[.p .bool (Hm a b)],lend:=true }
theorem tI:Ag Tryz.prog 121 WA:=by
 refine fK [0,1,4,5,10,14,25] Tryz.func121 Tryz.ntmps121 AH ?_;rintro w0 O0 ⟨a,b,u⟩ d ⟨⟨ha,-⟩,-⟩ -;simp only[AP]at ha;simp only[WA,AL];repeat'(first|exact a6|apply eS rfl|refine rX d ?_ ?_|refine rC ?_ ?_<;>intro c<;>try(cases c;done))
 .have h1:Hm a b=false:=by
   unfold Hm;rw[bY];rintro rfl;exact c rfl
  exact fI d [.tmp 4] (by rw[h1];exact eR)
 have f:a.length=b.length:=by
  have:(a.length:Int)=(b.length:Int):=by simpa using c
  exact Int.ofNat_inj.1 this
 refine AI (ι:={k:Nat//k<=a.length/\a.take k=b.take k}) (λk=>⟨[(0,.p Ek a),(1,.p Ek b),(5,.p (.int .i64) (k.1:Int))],[]⟩) (λk=>a.length-k.1) ⟨0,DO _,rfl⟩ (eW []) (λk=>?_)
 obtain⟨k,hk,hf⟩:=k;simp only;repeat'(first|exact a6|apply eS rfl|apply AD|refine rX d ?_ ?_|refine rC ?_ ?_<;>intro c<;>try(cases c;done))
 .exact⟨c,by rw[<-f];exact c⟩
 .have e:k<a.length:=by exact eV
  have h1:Hm a b=false:=by
   unfold Hm;rw[bY];rintro rfl;exact c rfl
  exact fI d [.tmp 4] (by rw[h1];exact eR)
 .exact eV
 .have e:k<a.length:=by exact eV
  have g:a.getD k 0=b.getD k 0:=by simpa using c
  refine⟨⟨k+1,O1,?_⟩,a2,AB [] rfl rfl ?_ ?_⟩
  .rw[Ap a 0 e,Ap b 0 O1,hf];rw[show a.getD k 0=b.getD k 0 from g]
  .exact eN
  exact eN
 have e:k=a.length:=by exact eV
 subst e;rw[tO,f,tO]at hf;have h1:Hm a b=true:=by unfold Hm;rw[hf];simp
 exact fI d [.tmp 4] (by rw[h1];exact eR)
end
section
def OX (b:List Int) (n:Nat):List Int:=((List.range n).filter λ(i:Nat)=>UH b (i:Int)).map λ(i:Nat)=>(i:Int)
def IZ (b:List Int):List Int:=OX b (64*b.length)
theorem nL (b:List Int) (n:Nat):OX b (n+1)=OX b n++if UH b (n:Int)=true then [(n:Int)] else []:=by
 unfold OX;rw[ABV,ADG,ABX]
 congr 1
 rw[AC7,AE0];split<;>rfl
theorem x7 (b:List Int) (n:Nat):(OX b n).length<=n:=by
 unfold OX;rw[OR];exact iN (ADb _ _) sc
def A1L:Ab:={ ins:=[Ek],pre:=λ(b,_)=>List.length b<=100000,out:=λ(b,_)=>[.p DH (IZ b)] }
attribute [go_sem] A1L
theorem A62:Ag Tryz.prog 153 A1L:=by
 refine fK [0,2,3,4,9,14] Tryz.func153 Tryz.ntmps153 (AF A1H AH) ?_;rintro w0 O0 ⟨b,u⟩ c-e;have e:b.length<=100000:=e;simp only[A1L,AL];repeat'(first|exact a6|apply eS rfl|refine rX c ?_ ?_)
 refine AI (ι:={n:Nat//n<=64*b.length}) (λn=>⟨[(0,.p Ek b),(3,.sr 18 T3 0 (OX b n.1).length),(4,.p (.int .i64) (n.1:Int))],[(18,.arr 3 T3 (OX b n.1))]⟩) (λn=>64*b.length-n.1) ⟨0,DO _⟩ (AB [(18,.nil)] rfl rfl ?_ ?_) (λn=>?_)
 .refine eM ?_;rfl
 .refine eM ?_;rfl
 obtain⟨n,hn⟩:=n;have hz:=x7 b n;have hs:=nL b n;simp only;repeat'(first|exact a6|apply eS rfl|apply AD|refine rX c ?_ ?_|refine rC ?_ ?_<;>intro a<;>try(cases a;done))
 .exact eV
 .rw[a,At rfl]at hs;simp only[AP];dsimp only[Ty.den]at *;omega
 .exact eV
 .have d:n<64*b.length:=by exact eV
  rw[a,At rfl]at hs;refine⟨⟨n+1,O1⟩,a2,AB [(18,.nm 18)] rfl rfl ?_ ?_⟩
  .simp only[hs];exact eN
  simp only[hs];exact eN
 .exact eV
 .have d:n<64*b.length:=by exact eV
  rw[a,As sc,AAW]at hs;refine⟨⟨n+1,O1⟩,a2,AB [(18,.nm 18)] rfl rfl ?_ ?_⟩
  .simp only[hs];exact eN
  simp only[hs];exact eN
 have d:n=64*b.length:=by exact eV
 subst d;refine CO [18] ?_;exact fI c [.tmp 2] (by unfold IZ;exact eR)
def nM:Ab:={ ins:=[Ek],pre:=λ(b,_)=>List.length b<=100000,out:=λ(b,_)=>[.p T3 ((IZ b).length:Int)],lend:=true }
theorem A1M:Ag Tryz.prog 133 nM:=by
 refine fK [0,2] Tryz.func133 Tryz.ntmps133 (AF A62 AH) ?_;rintro w0 O0 ⟨b,u⟩ a-c;simp only[nM,AL];repeat'(first|exact a6|apply eS rfl|refine rX a ?_ ?_)
 .exact c
 exact fI a [.tmp 2]
end
section
attribute [go_sem] Yj
abbrev AJ:=ByteArray×List ByteArray×List (ByteArray×ByteArray)
abbrev d0:AJ:=(ByteArray.empty,[],[])
def C9 (s:ByteArray):Nat->List AJ->Int
 | _,[]=>-1
 | k,x :: l=>if AK x.1 s=true then (k:Int) else C9 s (k+1) l
def Ar (l:List AJ) (s:ByteArray):Int:=C9 s 0 l
theorem Td (s:ByteArray) (l:List AJ) (h:k<l.length):C9 s k (l.drop k)=if AK (l.getD k d0).1 s=true then (k:Int) else C9 s (k+1) (l.drop (k+1)):=by
 rw[OS h];have e:l.getD k d0=l[k]:=by simp[AS,h]
 rw[e];rfl
def PI:Ab:={ ins:=[FT,T9],pre:=λ_=>True,out:=λ(l,s,_)=>[.p T3 (Ar l s)] }
attribute [go_sem] PI
theorem Mv:Ag Tryz.prog 149 PI:=by
 refine fK [0,1,4,5,9,18] Tryz.func149 Tryz.ntmps149 AH ?_;rintro w0 O0 ⟨l,s,u⟩ c ⟨⟨d,-⟩,-⟩ -;simp only[AP]at d;simp only[PI,AL];repeat'(first|exact a6|apply eS rfl|refine rX c ?_ ?_)
 refine AI (ι:={k:Nat//k<=l.length/\C9 s k (l.drop k)=Ar l s}) (λk=>⟨[(0,.p FT l),(1,.p T9 s),(5,.p (.int .i64) (k.1:Int))],[]⟩) (λk=>l.length-k.1) ⟨0,DO _,rfl⟩ (eW []) (λk=>?_)
 obtain⟨k,hk,hf⟩:=k;simp only;repeat'(first|exact a6|apply eS rfl|apply AD|refine rX c ?_ ?_|refine rC ?_ ?_<;>intro b<;>try(cases b;done))
 .exact b
 .have a:k<l.length:=by exact eV
  rw[Td s l a,At b]at hf;exact fI c [.tmp 4] (by rw[<-hf];exact eR)
 .exact eV
 .have a:k<l.length:=by exact eV
  rw[Td s l a,As (by rw[b];simp)]at hf;exact⟨⟨k+1,O1,hf⟩,a2,eW []⟩
 have a:l.drop k=[]:=NO eV;rw[a]at hf;exact fI c [.tmp 4] (by rw[<-hf];first|exact eR|refine MJ ?_;rfl)
def Mw:List AJ->Int
 | []=>0
 | x :: l=>if 256<x.2.1.length\/256<x.2.2.length then 7 else Mw l
def FJ (l:List AJ):Int:=if 256<l.length then 7 else Mw l
theorem Te (l:List AJ) (h:k<l.length):Mw (l.drop k)=if 256<(l.getD k d0).2.1.length\/256<(l.getD k d0).2.2.length then 7 else Mw (l.drop (k+1)):=by
 rw[OS h];have e:l.getD k d0=l[k]:=by simp[AS,h]
 rw[e];rfl
def bE:Ab:={ ins:=[FT],pre:=λ_=>True,out:=λ(l,_)=>[.p DG (FJ l)] }
attribute [go_sem] bE
theorem A1N:Ag Tryz.prog 122 bE:=by
 refine fK [0,2,3,6,10,28] Tryz.func122 Tryz.ntmps122 AH ?_;rintro w0 O0 ⟨l,u⟩ b ⟨⟨d,-⟩,-⟩ -;simp only[AP]at d;simp only[bE,AL];repeat'(first|exact a6|apply eS rfl|refine rX b ?_ ?_|refine rC ?_ ?_<;>intro a<;>try(cases a;done))
 .have h1:FJ l=7:=by unfold FJ;rw[At eV]
  exact fI b [.tmp 2] (by rw[h1];exact eR)
 have h1:FJ l=Mw l:=by unfold FJ;rw[As eV]
 refine AI (ι:={k:Nat//k<=l.length/\Mw (l.drop k)=FJ l}) (λk=>⟨[(0,.p FT l),(3,.p (.int .i64) (k.1:Int))],[]⟩) (λk=>l.length-k.1) ⟨0,DO _,h1.symm⟩ (eW []) (λk=>?_)
 obtain⟨k,hk,hf⟩:=k;simp only;repeat'(first|exact a6|apply eS rfl|apply AD|refine rX b ?_ ?_|refine rC ?_ ?_<;>intro a<;>try(cases a;done))
 .exact⟨a,λ_=>a⟩
 .have c:k<l.length:=by exact eV
  rw[Te l c,At (by
   rcases a with h|h
   .exact .inl (oN.1 h)
   exact .inr (oN.1 h))]at hf
  exact fI b [.tmp 2] (by rw[<-hf];exact eR)
 .exact eV
 .have c:k<l.length:=by exact eV
  rw[Te l c,As (by
   rintro (h|h)
   .have:=AAw.1 a.1;exact absurd h (Nat.not_lt.2 this)
   have:=AAw.1 a.2;exact absurd h (Nat.not_lt.2 this))]at hf
  exact⟨⟨k+1,O1,hf⟩,a2,eW []⟩
 have c:l.drop k=[]:=NO eV;rw[c]at hf;exact fI b [.tmp 2] (by rw[<-hf];first|exact eR|refine MJ ?_;rfl)
theorem KV {α:Type} (l:List α) (d:α) (p:α->Bool) (h:k<l.length):(l.take (k+1)).all p=((l.take k).all p&&p (l.getD k d)):=by
 rw[Ap l d h,AE1];simp
def J2 (x:AJ) (done:List ByteArray):Bool:=x.2.1.all λs=>Ac done s
def bF:Ab:={ ins:=[T54,CC],pre:=λ_=>True,out:=λ(x,l,_)=>[.p .bool (J2 x l)],lend:=true }
attribute [go_sem] bF
theorem A1O:Ag Tryz.prog 150 bF:=by
 refine fK [0,1,2,4,5,10,20] Tryz.func150 Tryz.ntmps150 (AF HG AH) ?_;rintro w0 O0 ⟨⟨nm,sup,d⟩,l,u⟩ c ⟨⟨-,⟨e,-⟩,-⟩,-⟩ -;simp only[AP]at e;simp only[bF,AL];repeat'(first|exact a6|apply eS rfl|refine rX c ?_ ?_)
 refine AI (ι:={k:Nat//k<=sup.length/\(sup.take k).all (λs=>Ac l s)=true}) (λk=>⟨[(1,.p CC l),(2,.bp 2 [] 0),(5,.p (.int .i64) (k.1:Int))],[(2,.box 54 true [.p T9 nm,.p CC sup,.p T52 d])]⟩) (λk=>sup.length-k.1) ⟨0,sc⟩ (eW [(2,.nm 2)]) (λk=>?_)
 obtain⟨k,hk,hf⟩:=k;simp only;repeat'(first|exact a6|apply eS rfl|apply AD|refine rX c ?_ ?_|refine rC ?_ ?_<;>intro b<;>try(cases b;done))
 .exact b
 .have a:k<sup.length:=by exact eV
  have h1:J2 (nm,sup,d) l=false:=by
   unfold J2;refine ADj.2 λh=>?_;have:=OF.1 h _ (AG sup ByteArray.empty a);rw[b]at this;cases this
  exact fI c [.tmp 4] (by rw[h1];exact eR)
 .have:=e;exact eV
 .have a:k<sup.length:=by exact eV
  refine⟨⟨k+1,O1,?_⟩,a2,AB [(2,.nm 2)] rfl rfl ?_ ?_⟩
  .rw[KV sup ByteArray.empty _ a,hf];exact b
  .exact eN
  exact eN
 have a:sup.take k=sup:=BY eV;rw[a]at hf;have h1:J2 (nm,sup,d) l=true:=hf;exact fI c [.tmp 4] (by rw[h1];exact eR)
def PJ (d:List AJ):Nat->List AJ->Int
 | _,[]=>0
 | k,x :: l=>if BK x.1 false=false then 1 else if Ar d x.1<(k:Int) then 4 else PJ d (k+1) l
def Cj (d:List AJ):Int:=PJ d 0 d
theorem Mx (d l:List AJ) (h:k<l.length):PJ d k (l.drop k)=if BK (l.getD k d0).1 false=false then 1 else if Ar d (l.getD k d0).1<(k:Int) then 4 else PJ d (k+1) (l.drop (k+1)):=by
 rw[OS h];have e:l.getD k d0=l[k]:=by simp[AS,h]
 rw[e];rfl
def bG:Ab:={ ins:=[FT],pre:=λ_=>True,out:=λ(l,_)=>[.p DG (Cj l)] }
attribute [go_sem] bG
theorem A1P:Ag Tryz.prog 123 bG:=by
 refine fK [0,2,3,7,16,25] Tryz.func123 Tryz.ntmps123 (AF tG (AF Mv AH)) ?_;rintro w0 O0 ⟨l,u⟩ c ⟨⟨e,-⟩,-⟩ -;simp only[AP]at e;simp only[bG,AL];repeat'(first|exact a6|apply eS rfl|refine rX c ?_ ?_)
 refine AI (ι:={k:Nat//k<=l.length/\PJ l k (l.drop k)=Cj l}) (λk=>⟨[(0,.p FT l),(3,.p (.int .i64) (k.1:Int))],[]⟩) (λk=>l.length-k.1) ⟨0,DO _,rfl⟩ (eW []) (λk=>?_)
 obtain⟨k,hk,hf⟩:=k;simp only;repeat'(first|exact a6|apply eS rfl|apply AD|refine rX c ?_ ?_|refine rC ?_ ?_<;>intro b<;>try(cases b;done))
 .exact b
 .have a:k<l.length:=by exact eV
  rw[Mx l l a,At b]at hf;exact fI c [.tmp 2] (by rw[<-hf];exact eR)
 .assumption
 .rename_i d;have a:k<l.length:=by exact eV
  rw[Mx l l a,As (by rw[d];simp),At b]at hf;exact fI c [.tmp 2] (by rw[<-hf];exact eR)
 .exact eV
 .rename_i d;have a:k<l.length:=by exact eV
  rw[Mx l l a,As (by rw[d];simp),As (ACA.2 b)]at hf;exact⟨⟨k+1,O1,hf⟩,a2,eW []⟩
 have a:l.drop k=[]:=NO eV;rw[a]at hf;exact fI c [.tmp 2] (by rw[<-hf];first|exact eR|refine MJ ?_;rfl)
def UI (d:List AJ) (l:List ByteArray):Nat->List ByteArray->Int
 | _,[]=>0
 | k,x :: r=>if Ar d x<0 then 5 else if Ac (l.take k) x=true then 4 else UI d l (k+1) r
def LJ (d:List AJ):List AJ->Int
 | []=>0
 | x :: l=>if UI d x.2.1 0 x.2.1≠0 then UI d x.2.1 0 x.2.1 else LJ d l
def LK (d:List AJ):Int:=LJ d d
theorem SK (d:List AJ) (l:List ByteArray) (h:k<l.length):UI d l k (l.drop k)=if Ar d (l.getD k ByteArray.empty)<0 then 5 else if Ac (l.take k) (l.getD k ByteArray.empty)=true then 4 else UI d l (k+1) (l.drop (k+1)):=by
 rw[OS h];have e:l.getD k ByteArray.empty=l[k]:=by simp[AS,h]
 rw[e];rfl
theorem bH (d l:List AJ) (h:k<l.length):LJ d (l.drop k)=if UI d (l.getD k d0).2.1 0 (l.getD k d0).2.1≠0 then UI d (l.getD k d0).2.1 0 (l.getD k d0).2.1 else LJ d (l.drop (k+1)):=by
 rw[OS h];have e:l.getD k d0=l[k]:=by simp[AS,h]
 rw[e];rfl
def Uk:Ab:={ ins:=[FT],pre:=λ_=>True,out:=λ(l,_)=>[.p DG (LK l)] }
attribute [go_sem] Uk
theorem x8:Ag Tryz.prog 124 Uk:=by
 refine fK [0,2,3,4,5,9,20,29,37] Tryz.func124 Tryz.ntmps124 (AF HG (AF Mv AH)) ?_;rintro w0 O0 ⟨l,u⟩ d ⟨⟨h,g⟩,-⟩ -;simp only[AP]at h;simp only[Uk,AL];repeat'(first|exact a6|apply eS rfl|refine rX d ?_ ?_)
 refine AI (ι:={i:Nat//i<=l.length/\LJ l (l.drop i)=LK l}) (λi=>⟨[(0,.p FT l),(3,.p (.int .i64) (i.1:Int))],[]⟩) (λi=>l.length-i.1) ⟨0,DO _,rfl⟩ (eW []) (λi=>?_)
 obtain⟨i,hi,hf⟩:=i;simp only;repeat'(first|exact a6|apply eS rfl|refine rX d ?_ ?_|refine rC ?_ ?_<;>intro b<;>try(cases b;done))
 .exact b
 .have f:i<l.length:=by exact eV
  have j:=g _ (AG l d0 f);have m:(l.getD i d0).2.1.length<=AP:=j.2.1.1;simp only[AP]at m;rw[bH l l f]at hf;generalize (l.getD i d0).2.1=sup at *;refine AI (ι:={k:Nat//k<=sup.length/\UI l sup k (sup.drop k)=UI l sup 0 sup}) (λk=>⟨[(0,.p FT l),(3,.p (.int .i64) (i:Int)),(4,.p CC sup),(5,.p (.int .i64) (k.1:Int))],[]⟩) (λk=>sup.length-k.1) ⟨0,DO _,rfl⟩ (eW []) (λk=>?_)
  obtain⟨k,hk,c⟩:=k;simp only;repeat'(first|exact a6|apply eS rfl|apply AD|refine rX d ?_ ?_|refine rC ?_ ?_<;>intro b<;>try(cases b;done))
  .exact b
  .have a:k<sup.length:=by exact eV
   rw[SK l sup a,At b]at c;rw[<-c,At dg]at hf;exact fI d [.tmp 2] (by rw[<-hf];exact eR)
  .exact eV
  .rename_i e;have a:k<sup.length:=by exact eV
   rw[SK l sup a,As (ACA.2 e),At b]at c;rw[<-c,At dg]at hf;exact fI d [.tmp 2] (by rw[<-hf];exact eR)
  .exact eV
  .rename_i e;have a:k<sup.length:=by exact eV
   rw[SK l sup a,As (ACA.2 e),As (by rw[b];simp)]at c;exact⟨⟨k+1,O1,c⟩,a2,eW []⟩
  .exact eV
  have a:sup.drop k=[]:=NO eV;rw[a]at c;rw[<-c,As (by simp[UI])]at hf;exact⟨⟨i+1,O1,hf⟩,a2,eW []⟩
 have a:l.drop i=[]:=NO eV;rw[a]at hf;exact fI d [.tmp 2] (by rw[<-hf];first|exact eR|refine MJ ?_;rfl)
end
section
theorem E9 {α:Type} (g:X->α->X) (l:List α) (d:α) (t:X) {i:Nat} (hi:i<l.length):(l.take (i+1)).foldl g t=g ((l.take i).foldl g t) (l.getD i d):=by
 rw[Ap l d hi,AD0];rfl
theorem My (l:List ByteArray) (s:ByteArray):(D9 l s).length<=l.length+1:=by
 unfold D9;split
 .omega
 have:=A8a (λx=>CP x s) l;have a:Xi l s<=l.length:=this;simp only[IF,On,AD5,oR];omega
def AN (l:List AJ):List ByteArray:=l.foldl (λo x=>D9 o x.1) []
theorem EA (l:List AJ) (k:Nat):(AN (l.take k)).length<=k:=by
 have key:∀(l:List AJ) (o:List ByteArray),(l.foldl (λo x=>D9 o x.1) o).length<=o.length+l.length:=by
  intro l;induction l with
  | nil=>intro o;simp
  | cons x l b =>
   intro o;have h1:=b (D9 o x.1);have a:=My o x.1;simp only[ON,If];omega
 have h1:=key (l.take k) [];have a:=ACa k l;unfold AN;simp only[ABv]at h1;omega
def Qc:Ab:={ ins:=[FT],pre:=λ(l,_)=>List.length l<=100000,out:=λ(l,_)=>[.p CC (AN l)] }
attribute [go_sem] Qc
theorem Yl:Ag Tryz.prog 80 Qc:=by
 refine fK [0,2,3,4,8] Tryz.func80 Tryz.ntmps80 (AF SH AH) ?_;rintro w0 O0 ⟨l,u⟩ a-d;have d:l.length<=100000:=d;simp only[Qc,AL];repeat'(first|exact a6|apply eS rfl|refine rX a ?_ ?_)
 refine AI (ι:={k:Nat//k<=l.length}) (λk=>⟨[(0,.p FT l),(3,.p CC (AN (l.take k.1))),(4,.p (.int .i64) (k.1:Int))],[]⟩) (λk=>l.length-k.1) ⟨0,DO _⟩ (AB [] rfl rfl ?_ ?_) (λk=>?_)
 .exact eN
 .refine eM ?_;rfl
 obtain⟨k,hk⟩:=k;have hn:=EA l k;have hs:=λh:k<l.length=>E9 (λ(o:List ByteArray) (x:AJ)=>D9 o x.1) l d0 [] h;simp only;repeat'(first|exact a6|apply eS rfl|apply AD|refine rX a ?_ ?_|refine rC ?_ ?_<;>intro c<;>try(cases c;done))
 .exact⟨c,O1⟩
 .exact eV
 .have b:k<l.length:=by exact eV
  have e:=hs b;refine⟨⟨k+1,O1⟩,a2,AB [] rfl rfl ?_ ?_⟩
  .exact eN
  simp only;have e:AN (l.take (k+1))=D9 (AN (l.take k)) (l.getD k d0).1:=e;rw[e];exact eN
 have b:l.take k=l:=BY eV;rw[b];exact fI a [.tmp 2]
def JV (out:List ByteArray) (s:Bool×ByteArray) (x:AJ):Bool×ByteArray :=
 if (Ac out x.1||!J2 x out)=true then s else (true,if (!s.1||CP x.1 s.2)=true then x.1 else s.2)
def Ia (d:List AJ) (out:List ByteArray):Bool×ByteArray:=d.foldl (JV out) (false,ByteArray.empty)
def JW (d:List AJ):Nat->List ByteArray->List ByteArray
 | 0,out=>out
 | n+1,out=>if (Ia d out).1=true then JW d n (out++[(Ia d out).2]) else out
def Bw (d:List AJ):List ByteArray:=JW d d.length []
def Ib (d:List AJ) (out:List ByteArray):Nat:=d.countP λx=>!Ac out x.1
theorem B5 (s:ByteArray):AK s s=true:=by unfold AK;simp
theorem PK (out:List ByteArray) (s x:ByteArray):Ac (out++[s]) x=(Ac out x||AK s x):=by
 unfold Ac;simp[ADK]
theorem x9 (d:List AJ) (out:List ByteArray) (h:(Ia d out).1=true):∃x∈d,x.1=(Ia d out).2/\Ac out x.1=false:=by
 have key:∀(l:List AJ) (s:Bool×ByteArray),(∀x∈l,x∈d)->(s.1=true->∃x∈d,x.1=s.2/\Ac out x.1=false)->(l.foldl (JV out) s).1=true ->
   ∃x∈d,x.1=(l.foldl (JV out) s).2/\Ac out x.1=false:=by
  intro l;induction l with
  | nil=>intro s _ hs h;exact hs h
  | cons y l i =>
   intro s e hs h;rw[ON]at h ⊢;refine i _ (λx f=>e x (by simp[f])) (λb=>?_) h;unfold JV at b ⊢;split
   .rename_i a;rw[At a]at b;exact hs b
   rename_i a;simp only;have g:Ac out y.1=false:=by
    cases hh:Ac out y.1 with
    | false=>rfl
    | true=>rw[hh]at a;simp at a
   split
   .exact⟨y,e y sc,rfl,g⟩
   rename_i c;have:s.1=true:=by
    cases hh:s.1 with
    | true=>rfl
    | false=>rw[hh]at c;simp at c
   exact hs this
 exact key d _ (λ_ h=>h) (λh=>by cases h) h
theorem gT {d:List AJ} {out:List ByteArray} (h:(Ia d out).1=true):Ib d (out++[(Ia d out).2])<Ib d out:=by
 obtain⟨x,e,h1,c⟩:=x9 d out h;generalize (Ia d out).2=s at *;unfold Ib;have key:∀l:List AJ,(l.countP λy=>!Ac (out++[s]) y.1)<=l.countP λy=>!Ac out y.1:=by
  intro l;refine List.countP_mono_left λy _ a=>?_;rw[PK]at a;cases hh:Ac out y.1 with
  | false=>rfl
  | true=>rw[hh]at a;simp at a
 obtain⟨f,g,rfl⟩:=List.append_of_mem e;rw[AEw,AEw,ADq,ADq];have i:=key f;have j:=key g;have b:Ac (out++[s]) x.1=true:=by rw[PK,h1,B5,Bool.or_true]
 rw[b,c];simp only[AEk,AEb,ACk];simp only[ACT,AD1];omega
def bI:Ab:={ ins:=[FT],pre:=λ(l,_)=>List.length l<=100000,out:=λ(l,_)=>[.p CC (Bw l)] }
theorem yA:Ag Tryz.prog 125 bI:=by
 refine fK [0,2,3,4,5,6,7,11,29,40,46] Tryz.func125 Tryz.ntmps125 (AF HG (AF A1O AH)) ?_;rintro w0 O0 ⟨d,u⟩ j-r;have r:d.length<=100000:=r;simp only[bI,AL];repeat'(first|exact a6|apply eS rfl|refine rX j ?_ ?_)
 refine AI (ι:={x:Nat×List ByteArray×Bool//x.1+x.2.1.length<=d.length/\(x.2.2=true->Ib d x.2.1<=x.1/\JW d x.1 x.2.1=Bw d)/\(x.2.2=false->x.2.1=Bw d)}) (λx=>⟨[(0,.p FT d),(3,.sr 50 T9 0 x.1.2.1.length),(4,.p .bool x.1.2.2)],[(50,.arr 9 T9 x.1.2.1)]⟩) (λx=>(if x.1.2.2=true then x.1.1+1 else 0)) ⟨(d.length,[],true),sc,λ_=>⟨List.countP_le_length,rfl⟩,λh=>by cases h⟩ (eW [(50,.nil)]) (λx=>?_)
 obtain⟨⟨n,out,C⟩,s,t,v⟩:=x;simp only at s t v;simp only;repeat'(first|exact a6|apply eS rfl|refine rX j ?_ ?_|refine rC ?_ ?_<;>intro a<;>try(cases a;done))
 .subst a;obtain⟨hu,w⟩:=t rfl;have hz:({ data:=#[] }:ByteArray).size<=AP:=by decide
  rw[At hz];refine AI (ι:={y:Nat×Bool×ByteArray//y.1<=d.length/\(d.take y.1).foldl (JV out) (false,ByteArray.empty)=y.2}) (λy=>⟨[(0,.p FT d),(3,.sr 50 T9 0 out.length),(4,.p .bool y.1.2.1),(5,.p T9 y.1.2.2),(6,.p (.int .i64) (y.1.1:Int))],[(50,.arr 9 T9 out)]⟩) (λy=>d.length-y.1.1) ⟨(0,false,ByteArray.empty),sc,rfl⟩ (AB [(50,.nm 50)] rfl rfl ?_ ?_) (λy=>?_)
  .exact eN
  .refine eM ?_;rfl
  obtain⟨⟨k,z,b⟩,hk,c⟩:=y;simp only at hk c;have q:∀h:k<d.length,(d.take (k+1)).foldl (JV out) (false,ByteArray.empty)=JV out (z,b) (d.getD k d0):=λh=>by
   rw[E9 (JV out) d d0 _ h,c]
  simp only;repeat'(first|exact a6|apply eS rfl|apply AD|refine rX j ?_ ?_|refine rC ?_ ?_<;>intro a<;>try(cases a;done))
  .exact⟨a,λ_=>a⟩
  .exact eV
  .have g:k<d.length:=by exact eV
   refine⟨⟨(k+1,z,b),a2,?_⟩,a2,AB [(50,.nm 50)] rfl rfl ?_ ?_⟩
   .simp only;rw[q g];unfold JV;rw[At];rw[AAo,lU];exact a
   .exact eN
   exact eN
  .exact λ_=>by assumption
  .assumption
  .exact eV
  .rename_i f;have g:k<d.length:=by exact eV
   refine⟨⟨(k+1,true,(d.getD k d0).1),a2,?_⟩,a2,AB [(50,.nm 50)] rfl rfl ?_ ?_⟩
   .simp only;rw[q g];unfold JV;rw[As (by rw[f.1,f.2];simp),At (by rw[AAo,lU];exact a)]
   .exact eN
   exact eN
  .exact eV
  .rename_i f;have g:k<d.length:=by exact eV
   refine⟨⟨(k+1,true,b),a2,?_⟩,a2,AB [(50,.nm 50)] rfl rfl ?_ ?_⟩
   .simp only;rw[q g];unfold JV;rw[As (by rw[f.1,f.2];simp),As (by rw[AAo,lU];rintro (h|h)<;>simp_all)]
   .exact eN
   exact eN
  .simp only[AP];dsimp only[Ty.den]at *;omega
  .subst a;have l:d.take k=d:=BY eV;rw[l]at c;have i:Ia d out=(true,b):=c;have m:=gT (d:=d) (out:=out) (by rw[i]);rw[i]at m;obtain⟨e,rfl⟩:∃e,n=e+1:=⟨n-1,O1⟩;have o:JW d e (out++[b])=Bw d:=by
    rw[<-w];show _=if (Ia d out).1=true then JW d e (out++[(Ia d out).2]) else out
    rw[i,At rfl]
   have m:Ib d (out++[b])<Ib d out:=m;have B:Ib d (out++[b])<=e:=by omega
   exact⟨⟨(e,out++[b],true),by simp only[IF,oR];omega,λ_=>⟨B,o⟩,λh=>by cases h⟩,sc,eW [(50,.nm 50)]⟩
  subst a;have l:d.take k=d:=BY eV;rw[l]at c;have i:Ia d out=(false,b):=c;have o:out=Bw d:=by
   rw[<-w];cases n with
   | zero=>rfl
   | succ n =>
    show _=if (Ia d out).1=true then JW d n (out++[(Ia d out).2]) else out
    rw[i,As sc]
  exact⟨⟨(n,out,false),s,(λh=>by cases h),λ_=>o⟩,sc,eW [(50,.nm 50)]⟩
 subst a;have A:=v rfl;rw[A];refine CO [50] ?_;exact fI j [.tmp 2]
end
section
attribute [go_sem] bI
def Ic (d:List AJ):Nat:=d.countP λx=>x.2.1.length==0
theorem gU (d:List AJ) (h:k<d.length):Ic (d.take (k+1))=Ic (d.take k)+if ((d.getD k d0).2.1.length==0)=true then 1 else 0:=by
 unfold Ic;rw[Ap d d0 h,AEw,ADq,List.countP_nil];omega
theorem yB (d:List AJ):Ic d<=d.length:=List.countP_le_length
def BH (d:List AJ):Int :=
 if FJ d≠0 then FJ d else if Cj d≠0 then Cj d else if LK d≠0 then LK d else if Ic d≠1 then 1 else if (Bw d).length<d.length then 6 else 0
theorem Tf {d:List AJ} (h:FJ d=0):d.length<=256:=by
 unfold FJ at h;split at h
 .cases h
 omega
def Ul:Ab:={ ins:=[FT],pre:=λ_=>True,out:=λ(l,_)=>[.p DG (BH l)] }
attribute [go_sem] Ul
theorem yC:Ag Tryz.prog 79 Ul:=by
 refine fK [0,2,3,4,5,6,7,11,16,21,26,35,39,45] Tryz.func79 Tryz.ntmps79 (AF A1N (AF A1P (AF x8 (AF yA AH)))) ?_;rintro w0 O0 ⟨d,u⟩ c - -;simp only[Ul,AL];repeat'(first|exact a6|apply eS rfl|refine rX c ?_ ?_|refine rC ?_ ?_<;>intro a<;>try(cases a;done))
 .have h1:BH d=FJ d:=by unfold BH;rw[At a]
  exact fI c [.tmp 2] (by rw[h1];exact eR)
 .rename_i hs;have hs:FJ d=0:=by simpa using hs
  have h1:BH d=Cj d:=by unfold BH;rw[As (by rw[hs];simp),At a]
  exact fI c [.tmp 2] (by rw[h1];exact eR)
 .rename_i hs hn;have hs:FJ d=0:=by simpa using hs
  have hn:Cj d=0:=by simpa using hn
  have h1:BH d=LK d:=by unfold BH;rw[As (by rw[hs];simp),As (by rw[hn];simp),At a]
  exact fI c [.tmp 2] (by rw[h1];exact eR)
 rename_i hs hn;have hs:FJ d=0:=by simpa using hs
 have hn:Cj d=0:=by simpa using hn
 have hu:LK d=0:=by simpa using a
 have i:=Tf hs;have h1:BH d=if Ic d≠1 then 1 else if (Bw d).length<d.length then 6 else 0:=by
  unfold BH;rw[As (by rw[hs];simp),As (by rw[hn];simp),As (by rw[hu];simp)]
 refine AI (ι:={k:Nat//k<=d.length}) (λk=>⟨[(0,.p FT d),(6,.p (.int .i64) (Ic (d.take k.1):Int)),(7,.p (.int .i64) (k.1:Int))],[]⟩) (λk=>d.length-k.1) ⟨0,DO _⟩ (AB [] rfl rfl ?_ ?_) (λk=>?_)
 .exact eN
 .refine eM ?_;rfl
 obtain⟨k,hk⟩:=k;have j:=yB (d.take k);have l:=ACa k d;have g:=λh:k<d.length=>gU d h;simp only;repeat'(first|exact a6|apply eS rfl|apply AD|refine rX c ?_ ?_|refine rC ?_ ?_<;>intro a<;>try(cases a;done))
 .exact a
 .exact eV
 .exact eV
 .have b:k<d.length:=by exact eV
  have e:=g b;rw[At (by rw[AAv];exact Int.ofNat_eq_zero.1 a)]at e;refine⟨⟨k+1,O1⟩,a2,AB [] rfl rfl ?_ ?_⟩
  .exact eN
  simp only[e];exact eN
 .exact eV
 .have b:k<d.length:=by exact eV
  have e:=g b;rw[As (by rw[AAv];exact λh=>a (Int.ofNat_eq_zero.2 h))]at e;refine⟨⟨k+1,O1⟩,a2,AB [] rfl rfl ?_ ?_⟩
  .exact eN
  simp only[e];exact eN
 .have b:d.take k=d:=BY eV;rw[b]at a;rw[At (λh=>a (by rw[h];rfl))]at h1;exact fI c [.tmp 2] (by rw[h1];exact eR)
 .show d.length<=100000;omega
 .rename_i f;have b:d.take k=d:=BY eV;rw[b]at f;have f:(Ic d:Int)=1:=by simpa using f
  rw[As O1,At (oN.1 a)]at h1;exact fI c [.tmp 2] (by rw[h1];exact eR)
 rename_i f;have b:d.take k=d:=BY eV;rw[b]at f;have f:(Ic d:Int)=1:=by simpa using f
 rw[As O1,As (λh=>absurd (AAw.1 a) (Nat.not_le.2 h))]at h1;exact fI c [.tmp 2] (by rw[h1];exact eR)
end
def KW (o:List ByteArray) (s:ByteArray):List ByteArray:=if Ac o s=true then o else o++[s]
def Mz (d:List AJ) (s:ByteArray):List ByteArray:=(d.getD (Ar d s).toNat d0).2.1
def Id (d:List AJ):Nat->Nat->List ByteArray->List ByteArray
 | 0,_,o=>o
 | n+1,i,o=>if i<o.length then Id d n (i+1) ((Mz d (o.getD i ByteArray.empty)).foldl KW o) else o
def KX (l:List ByteArray):List ByteArray:=l.foldl D9 []
theorem Ym (l:List ByteArray):(KX l).length<=l.length:=by
 have key:∀(l o:List ByteArray),(l.foldl D9 o).length<=o.length+l.length:=by
  intro l;induction l with
  | nil=>intro o;simp
  | cons x l a =>
   intro o;have h1:=a (D9 o x);have b:=My o x;simp only[ON,If];omega
 have:=key l [];simpa[KX] using this
def LL (d:List AJ) (s:ByteArray):List ByteArray:=if Ar d s<0 then [] else KX (Id d d.length 0 [s])
def Qd (d:List AJ):Prop:=∀x∈d,∀s∈x.2.1,0<=Ar d s
theorem Yn (s:ByteArray):∀(l:List AJ) (k:Nat),C9 s k l=-1\/((k:Int)<=C9 s k l/\C9 s k l<(k:Int)+l.length/\AK (l.getD ((C9 s k l).toNat-k) d0).1 s=true)
 | [],_=>.inl rfl
 | x :: l,k=>by
  simp only[C9];split
  .rename_i h;right;refine⟨O1,by simp only[If];omega,?_⟩;have:((k:Int).toNat-k)=0:=by omega
   rw[this];exact h
  rcases Yn s l (k+1) with h|⟨h1,b,a⟩
  .exact .inl h
  right;refine⟨O1,by simp only[If];omega,?_⟩;have:((C9 s (k+1) l).toNat-k)=((C9 s (k+1) l).toNat-(k+1))+1:=by omega
  rw[this];exact a
theorem Da (d:List AJ) (s:ByteArray):Ar d s<0\/(0<=Ar d s/\Ar d s<(d.length:Int)/\AK (d.getD (Ar d s).toNat d0).1 s=true):=by
 rcases Yn s d 0 with h|⟨h1,a,b⟩
 .left;show C9 s 0 d<0;omega
 have a:Ar d s<((0:Nat):Int)+d.length:=a;exact .inr ⟨h1,O1,b⟩
theorem FA {a b:ByteArray}:AK a b=true↔a.toList=b.toList:=by unfold AK;simp
theorem Bt {a b:ByteArray} (h:AK a b=true):AK b a=true:=FA.2 (FA.1 h).symm
theorem BQ {a b c:ByteArray} (h:AK a b=true) (g:AK b c=true):AK a c=true:=FA.2 ((FA.1 h).trans (FA.1 g))
structure bJ (d:List AJ) (o:List ByteArray):Prop where
 decl:∀s∈o,0<=Ar d s
 nd:o.Pairwise λa b=>AK a b=false
theorem LM (d:List AJ):∀ {o:List ByteArray},bJ d o->(o.map λs=>(Ar d s).toNat).Nodup
 | [],_=>by simp
 | s :: o,h=>by
  rw[gO,AC2];have hnd:=AB3.1 h.nd;refine⟨λf=>?_,LM d ⟨λx a=>h.decl x (by simp[a]),hnd.2⟩⟩;obtain⟨x,a,e⟩:=IN.1 f;have h1:=h.decl s sc;have i:=h.decl x (by simp[a]);rcases Da d s with g|⟨_,_,c⟩
  .omega
  rcases Da d x with g|⟨_,_,b⟩
  .omega
  rw[e]at b;have:=hnd.1 x a;rw[BQ (Bt c) b]at this;cases this
theorem bJ.len {d:List AJ} (h:bJ d o):o.length<=d.length:=by
 have:=Dw d.length (o.map λs=>(Ar d s).toNat) (LM d h) (λj a=>by
  obtain⟨s,hs,rfl⟩:=IN.1 a;have h1:=h.decl s hs;rcases Da d s with g|⟨_,g,_⟩<;>omega)
 simpa using this
theorem Qf (h:Ac o s=false):∀x∈o,AK x s=false:=λx a=>by
 cases hh:AK x s with
 | false=>rfl
 | true=>exact absurd h (by rw[show Ac o s=true from aS.2 ⟨x,a,hh⟩];simp)
theorem tJ {d:List AJ} (h:bJ d o) (hs:0<=Ar d s):bJ d (KW o s):=by
 unfold KW;split
 .exact h
 rename_i e;have e:Ac o s=false:=by simpa using e
 refine⟨λx c=>?_,?_⟩
 .rcases IS.1 c with c|c
  .exact h.decl x c
  have:x=s:=by simpa using c
  rw[this];exact hs
 rw[ADv];refine⟨h.nd,sc,λa ha b f=>?_⟩;have:b=s:=by simpa using f
 rw[this];exact Qf e a ha
theorem gV {d:List AJ}:∀ {l o:List ByteArray},(∀s∈l,0<=Ar d s)->bJ d o->bJ d (l.foldl KW o)/\o.length<=(l.foldl KW o).length
 | [],o,_,h=>⟨h,Of _⟩
 | s :: l,o,a,h=>by
  obtain⟨b,c⟩:=gV (l:=l) (λx e=>a x (by simp[e])) (tJ h (a s sc));refine⟨b,iN ?_ c⟩;unfold KW;split<;>simp
theorem gW {d:List AJ} (b:Qd d) (s:ByteArray):∀x∈Mz d s,0<=Ar d x:=by
 intro x a;unfold Mz at a;by_cases h:(Ar d s).toNat<d.length
 .exact b _ (AG d d0 h) x a
 rw[AS,wS O1]at a;cases a
def nN:Ab:={ ins:=[FT,T9],pre:=λ(d,_,_)=>Qd d/\List.length d<=256,out:=λ(d,s,_)=>[.p CC (LL d s)] }
theorem A1Q:Ag Tryz.prog 152 nN:=by
 refine fK [0,1,4,5,6,7,8,9,10,14,20,36,45,56] Tryz.func152 Tryz.ntmps152 (AF Mv (AF HG (AF SH AH))) ?_;rintro w0 O0 ⟨d,s,u⟩ b ⟨⟨Q,G⟩,-⟩ ⟨O,z⟩;have z:d.length<=256:=z;simp only[nN,AL];repeat'(first|exact a6|apply eS rfl|refine rX b ?_ ?_|refine rC ?_ ?_<;>intro a<;>try(cases a;done))
 .have h1:LL d s=[]:=by unfold LL;rw[At a]
  exact fI b [.tmp 4] (by rw[h1];exact eR)
 have h1:LL d s=KX (Id d d.length 0 [s]):=by unfold LL;rw[As (ACA.2 a)]
 have F:bJ d [s]:=⟨λx y=>by
  have:x=s:=by simpa using y
  rw[this];exact a,sc⟩
 refine AI (ι:={x:Nat×List ByteArray//x.1<=x.2.length/\bJ d x.2/\Id d (d.length-x.1) x.1 x.2=Id d d.length 0 [s]}) (λx=>⟨[(0,.p FT d),(1,.p T9 s),(5,.sr 16 T9 0 x.1.2.length),(6,.p (.int .i64) (x.1.1:Int))],[(16,.arr 9 T9 x.1.2)]⟩) (λx=>d.length-x.1.1) ⟨(0,[s]),sc,F,rfl⟩ (eW [(16,.nm 16)]) (λx=>?_)
 obtain⟨⟨i,o⟩,hi,c,t⟩:=x;simp only at hi c t;have U:=c.len;simp only;repeat'(first|exact a6|apply eS rfl|refine rX b ?_ ?_|refine rC ?_ ?_<;>intro a<;>try(cases a;done))
 .have q:i<o.length:=by exact eV
  have A:=c.decl _ (AG o ByteArray.empty q);refine⟨a,A,?_⟩;rcases Da d (o.getD i ByteArray.empty) with g|⟨_,g,_⟩
  .omega
  exact g
 .have q:i<o.length:=by exact eV
  have A:=c.decl _ (AG o ByteArray.empty q);have K:=gW O (o.getD i ByteArray.empty);have C:Id d (d.length-(i+1)) (i+1) ((Mz d (o.getD i ByteArray.empty)).foldl KW o)=Id d d.length 0 [s]:=by
   rw[<-t];obtain⟨m,B⟩:∃m,d.length-i=m+1:=⟨d.length-i-1,O1⟩;have H:d.length-(i+1)=m:=by omega
   rw[B,H];show _=if i<o.length then Id d m (i+1) ((Mz d (o.getD i ByteArray.empty)).foldl KW o) else o
   rw[At q]
  have M:(Mz d (o.getD i ByteArray.empty)).length<=AP:=by
   rcases Da d (o.getD i ByteArray.empty) with g|⟨_,g,_⟩
   .omega
   exact(G _ (AG d d0 (k:=(Ar d (o.getD i ByteArray.empty)).toNat) O1)).2.1.1
  have N:(List.getD d (Ar d (o.getD i ByteArray.empty)).toNat (ByteArray.empty,[],[])).2.1=Mz d (o.getD i ByteArray.empty):=rfl;rw[N];generalize Mz d (o.getD i ByteArray.empty)=sup at *;simp only[AP]at M;refine AI (ι:={k:Nat//k<=sup.length}) (λk=>⟨[(0,.p FT d),(1,.p T9 s),(5,.sr 16 T9 0 ((sup.take k.1).foldl KW o).length),(6,.p (.int .i64) (i:Int)),(7,.p CC sup),(8,.p (.int .i64) (k.1:Int))],[(16,.arr 9 T9 ((sup.take k.1).foldl KW o))]⟩) (λk=>sup.length-k.1) ⟨0,DO _⟩ (AB [(16,.nm 16)] rfl rfl ?_ ?_) (λk=>?_)
  .refine eM ?_;rfl
  .refine eM ?_;rfl
  obtain⟨k,hk⟩:=k;have w:=gV (l:=sup.take k) (o:=o) (λx y=>K x (ABI y)) c;have S:=w.1.len;have E:=λh:k<sup.length=>E9 KW sup ByteArray.empty o h;simp only;generalize D:(sup.take k).foldl KW o=n at *;repeat'(first|exact a6|apply eS rfl|apply AD|refine rX b ?_ ?_|refine rC ?_ ?_<;>intro a<;>try(cases a;done))
  .exact a
  .refine⟨eV,?_⟩;simp only[AP];dsimp only[Ty.den]at *;omega
  .exact eV
  .have f:k<sup.length:=by exact eV
   have e:=E f;have r:KW n (sup.getD k ByteArray.empty)=n++[sup.getD k ByteArray.empty]:=by unfold KW;rw[As (by rw[a];simp)]
   rw[r]at e;refine⟨⟨k+1,O1⟩,a2,AB [(16,.nm 16)] rfl rfl ?_ ?_⟩
   .simp only[e];exact eN
   simp only[e];exact eN
  .exact eV
  .have f:k<sup.length:=by exact eV
   have e:=E f;have r:KW n (sup.getD k ByteArray.empty)=n:=by unfold KW;rw[At a]
   rw[r]at e;refine⟨⟨k+1,O1⟩,a2,AB [(16,.nm 16)] rfl rfl ?_ ?_⟩
   .simp only[e];exact eN
   simp only[e];exact eN
  .exact eV
  have f:sup.take k=sup:=BY eV;rw[f]at D;rw[D]at C;have J:=w.1;have T:=w.2;exact⟨⟨(i+1,n),a2,J,C⟩,a2,eW [(16,.nm 16)]⟩
 have I:o=Id d d.length 0 [s]:=by
  rw[<-t];cases B:d.length-i with
  | zero=>rfl
  | succ m =>
   show _=if i<o.length then _ else o
   rw[As eV]
 rw[<-I]at h1;refine AI (ι:={j:Nat//j<=o.length}) (λj=>⟨[(0,.p FT d),(5,.sr 16 T9 0 o.length),(9,.p CC ((o.take j.1).foldl D9 [])),(10,.p (.int .i64) (j.1:Int))],[(16,.arr 9 T9 o)]⟩) (λj=>o.length-j.1) ⟨0,DO _⟩ (AB [(16,.nm 16)] rfl rfl ?_ ?_) (λj=>?_)
 .exact eN
 .refine eM ?_;rfl
 obtain⟨j,R⟩:=j;have L:=λh:j<o.length=>E9 D9 o ByteArray.empty [] h;simp only;repeat'(first|exact a6|apply eS rfl|apply AD|refine rX b ?_ ?_|refine rC ?_ ?_<;>intro a<;>try(cases a;done))
 .refine⟨a,?_⟩;have:=Ym (o.take j);have P:=ACa j o;unfold KX at this;dsimp only[Ty.den]at *;omega
 .exact eV
 .have v:j<o.length:=by exact eV
  have e:=L v;refine⟨⟨j+1,O1⟩,a2,AB [(16,.nm 16)] rfl rfl ?_ ?_⟩
  .exact eN
  simp only[e];exact eN
 have v:o.take j=o:=BY eV;rw[v];exact fI b [.tmp 4] (by rw[h1];unfold KX;exact eR)
section
def FU (s:ByteArray) (o:List ByteArray) (x:AJ):List ByteArray:=if (Ac x.2.1 s&&!Ac o x.1)=true then o++[x.1] else o
def C0 (d:List AJ):Nat->Nat->List ByteArray->List ByteArray
 | 0,_,o=>o
 | n+1,i,o=>if i<o.length then C0 d n (i+1) (d.foldl (FU (o.getD i ByteArray.empty)) o) else o
def C1 (d:List AJ) (s:ByteArray):List ByteArray:=if Ar d s<0 then [] else KX (C0 d d.length 0 [s])
theorem PM (s:ByteArray):∀(l:List AJ) (k:Nat) (x:AJ),x∈l->AK x.1 s=true->0<=C9 s k l
 | y :: l,k,x,a,h=>by
  simp only[C9];split
  .omega
  rename_i b;rcases By.1 a with rfl|a
  .exact absurd h b
  exact PM s l (k+1) x a h
theorem Dk {d:List AJ} {x:AJ} (a:x∈d):0<=Ar d x.1:=PM x.1 d 0 x a (B5 _)
theorem A63 {d:List AJ} (h:bJ d o) (s:ByteArray) {x:AJ} (b:x∈d):bJ d (FU s o x):=by
 unfold FU;split
 .rename_i a;rw[An,lU]at a;have:=tJ h (Dk b);unfold KW at this
  rwa [As (by rw[a.2];simp)]at this
 exact h
theorem WB {d:List AJ} (s:ByteArray):∀ {l:List AJ} {o:List ByteArray},(∀x∈l,x∈d)->bJ d o->bJ d (l.foldl (FU s) o)/\o.length<=(l.foldl (FU s) o).length
 | [],o,_,h=>⟨h,Of _⟩
 | x :: l,o,a,h=>by
  obtain⟨b,c⟩:=WB s (l:=l) (λy e=>a y (by simp[e])) (A63 h s (a x sc));refine⟨b,iN ?_ c⟩;unfold FU;split<;>simp
theorem SL (s:ByteArray) {i:Nat}:∀ {l:List AJ} {o:List ByteArray},i<o.length->(l.foldl (FU s) o).getD i ByteArray.empty=o.getD i ByteArray.empty
 | [],_,_=>rfl
 | x :: l,o,h=>by
  have a:i<(FU s o x).length/\(FU s o x).getD i ByteArray.empty=o.getD i ByteArray.empty:=by
   unfold FU;split
   .refine⟨by rw[IF];omega,?_⟩;simp only[AS];rw[AAr h]
   exact⟨h,rfl⟩
  rw[ON,SL s a.1,a.2]
def bK:Ab:={ ins:=[FT,T9],pre:=λ(d,_,_)=>List.length d<=256,out:=λ(d,s,_)=>[.p CC (C1 d s)] }
attribute [go_sem] bK
theorem A1R:Ag Tryz.prog 126 bK:=by
 refine fK [0,1,4,5,6,7,8,9,13,19,25,47,59] Tryz.func126 Tryz.ntmps126 (AF Mv (AF HG (AF SH AH))) ?_;rintro w0 O0 ⟨d,s,u⟩ b-y;have y:d.length<=256:=y;simp only[bK,AL];repeat'(first|exact a6|apply eS rfl|refine rX b ?_ ?_|refine rC ?_ ?_<;>intro a<;>try(cases a;done))
 .have h1:C1 d s=[]:=by unfold C1;rw[At a]
  exact fI b [.tmp 4] (by rw[h1];exact eR)
 have h1:C1 d s=KX (C0 d d.length 0 [s]):=by unfold C1;rw[As (ACA.2 a)]
 have F:bJ d [s]:=⟨λx v=>by
  have:x=s:=by simpa using v
  rw[this];exact a,sc⟩
 refine AI (ι:={x:Nat×List ByteArray//x.1<=x.2.length/\bJ d x.2/\C0 d (d.length-x.1) x.1 x.2=C0 d d.length 0 [s]}) (λx=>⟨[(0,.p FT d),(5,.sr 15 T9 0 x.1.2.length),(6,.p (.int .i64) (x.1.1:Int))],[(15,.arr 9 T9 x.1.2)]⟩) (λx=>d.length-x.1.1) ⟨(0,[s]),sc,F,rfl⟩ (eW [(15,.nm 15)]) (λx=>?_)
 obtain⟨⟨i,o⟩,hi,q,r⟩:=x;simp only at hi q r;have P:=q.len;simp only;repeat'(first|exact a6|apply eS rfl|refine rX b ?_ ?_|refine rC ?_ ?_<;>intro a<;>try(cases a;done))
 .have z:i<o.length:=by exact eV
  have B:C0 d (d.length-(i+1)) (i+1) (d.foldl (FU (o.getD i ByteArray.empty)) o)=C0 d d.length 0 [s]:=by
   rw[<-r];obtain⟨m,A⟩:∃m,d.length-i=m+1:=⟨d.length-i-1,O1⟩;have G:d.length-(i+1)=m:=by omega
   rw[A,G];show _=if i<o.length then C0 d m (i+1) (d.foldl (FU (o.getD i ByteArray.empty)) o) else o
   rw[At z]
  refine AI (ι:={k:Nat//k<=d.length}) (λk=>⟨[(0,.p FT d),(5,.sr 15 T9 0 ((d.take k.1).foldl (FU (o.getD i ByteArray.empty)) o).length),(6,.p (.int .i64) (i:Int)),(7,.p (.int .i64) (k.1:Int))],[(15,.arr 9 T9 ((d.take k.1).foldl (FU (o.getD i ByteArray.empty)) o))]⟩) (λk=>d.length-k.1) ⟨0,DO _⟩ (AB [(15,.nm 15)] rfl rfl ?_ ?_) (λk=>?_)
  .refine eM ?_;rfl
  .refine eM ?_;rfl
  obtain⟨k,hk⟩:=k;have g:=WB (o.getD i ByteArray.empty) (l:=d.take k) (o:=o) (λx v=>ABI v) q;have N:=g.1.len;have E:=λh:k<d.length=>E9 (FU (o.getD i ByteArray.empty)) d d0 o h;have D:((d.take k).foldl (FU (o.getD i ByteArray.empty)) o).getD i ByteArray.empty=o.getD i ByteArray.empty:=SL _ z;simp only;generalize C:(d.take k).foldl (FU (o.getD i ByteArray.empty)) o=f at *;repeat'(first|exact a6|apply eS rfl|apply AD|refine rX b ?_ ?_|refine rC ?_ ?_<;>intro a<;>try(cases a;done))
  .have M:=g.2;refine⟨a,?_,λ_=>a⟩;dsimp only[Ty.den]at *;omega
  .refine⟨a4,?_⟩;simp only[AP];dsimp only[Ty.den]at *;omega
  .exact eV
  .have c:k<d.length:=by exact eV
   have e:=E c;rw[D]at a;have n:FU (o.getD i ByteArray.empty) f (d.getD k d0)=f++[(d.getD k d0).1]:=by
    unfold FU;rw[At (by rw[An,lU];exact a)]
   rw[n]at e;refine⟨⟨k+1,O1⟩,a2,AB [(15,.nm 15)] rfl rfl ?_ ?_⟩
   .simp only[e];exact eN
   simp only[e];exact eN
  .exact eV
  .have c:k<d.length:=by exact eV
   have e:=E c;rw[D]at a;have n:FU (o.getD i ByteArray.empty) f (d.getD k d0)=f:=by
    unfold FU;rw[As];rw[An,lU];rintro⟨h1,w⟩;rw[a h1]at w;cases w
   rw[n]at e;refine⟨⟨k+1,O1⟩,a2,AB [(15,.nm 15)] rfl rfl ?_ ?_⟩
   .simp only[e];exact eN
   simp only[e];exact eN
  .exact eV
  have c:d.take k=d:=BY eV;rw[c]at C;rw[C]at B;have I:=g.1;have O:=g.2;exact⟨⟨(i+1,f),a2,I,B⟩,a2,eW [(15,.nm 15)]⟩
 have H:o=C0 d d.length 0 [s]:=by
  rw[<-r];cases A:d.length-i with
  | zero=>rfl
  | succ m =>
   show _=if i<o.length then _ else o
   rw[As eV]
 rw[<-H]at h1;refine AI (ι:={j:Nat//j<=o.length}) (λj=>⟨[(0,.p FT d),(5,.sr 15 T9 0 o.length),(8,.p CC ((o.take j.1).foldl D9 [])),(9,.p (.int .i64) (j.1:Int))],[(15,.arr 9 T9 o)]⟩) (λj=>o.length-j.1) ⟨0,DO _⟩ (AB [(15,.nm 15)] rfl rfl ?_ ?_) (λj=>?_)
 .exact eN
 .refine eM ?_;rfl
 obtain⟨j,L⟩:=j;have J:=λh:j<o.length=>E9 D9 o ByteArray.empty [] h;simp only;repeat'(first|exact a6|apply eS rfl|apply AD|refine rX b ?_ ?_|refine rC ?_ ?_<;>intro a<;>try(cases a;done))
 .refine⟨a,?_⟩;have:=Ym (o.take j);have K:=ACa j o;unfold KX at this;dsimp only[Ty.den]at *;omega
 .exact eV
 .have t:j<o.length:=by exact eV
  have e:=J t;refine⟨⟨j+1,O1⟩,a2,AB [(15,.nm 15)] rfl rfl ?_ ?_⟩
  .exact eN
  simp only[e];exact eN
 have t:o.take j=o:=BY eV;rw[t];exact fI b [.tmp 4] (by rw[h1];unfold KX;exact eR)
end
section
attribute [go_sem] nN
def FW (d:List AJ) (o:List ByteArray) (x:ByteArray):List ByteArray:=if 0<=Ar d x then D9 o x else o
def Bq (d:List AJ) (l:List ByteArray):List ByteArray:=l.foldl (FW d) []
theorem J3 (d:List AJ) (l:List ByteArray):(Bq d l).length<=l.length:=by
 have key:∀(l o:List ByteArray),(l.foldl (FW d) o).length<=o.length+l.length:=by
  intro l;induction l with
  | nil=>intro o;simp
  | cons x l a =>
   intro o;have h1:=a (FW d o x);have b:(FW d o x).length<=o.length+1:=by
    unfold FW;split
    .exact My o x
    omega
   simp only[ON,If];omega
 have:=key l [];simpa[Bq] using this
def SM:Ab:={ ins:=[FT,CC],pre:=λ(_,l,_)=>List.length l<=100000,out:=λ(d,l,_)=>[.p CC (Bq d l)] }
attribute [go_sem] SM
theorem gX:Ag Tryz.prog 151 SM:=by
 refine fK [0,1,4,5,6,10,19] Tryz.func151 Tryz.ntmps151 (AF Mv (AF SH AH)) ?_;rintro w0 O0 ⟨d,l,u⟩ c-f;have f:l.length<=100000:=f;simp only[SM,AL];repeat'(first|exact a6|apply eS rfl|refine rX c ?_ ?_)
 refine AI (ι:={k:Nat//k<=l.length}) (λk=>⟨[(0,.p FT d),(1,.p CC l),(5,.p CC (Bq d (l.take k.1))),(6,.p (.int .i64) (k.1:Int))],[]⟩) (λk=>l.length-k.1) ⟨0,DO _⟩ (AB [] rfl rfl ?_ ?_) (λk=>?_)
 .exact eN
 .refine eM ?_;rfl
 obtain⟨k,hk⟩:=k;have hn:=J3 d (l.take k);have g:=ACa k l;have hs:=λh:k<l.length=>E9 (FW d) l ByteArray.empty [] h;simp only;repeat'(first|exact a6|apply eS rfl|apply AD|refine rX c ?_ ?_|refine rC ?_ ?_<;>intro b<;>try(cases b;done))
 .exact b
 .exact⟨a4,O1⟩
 .exact eV
 .have a:k<l.length:=by exact eV
  have e:Bq d (l.take (k+1))=FW d (Bq d (l.take k)) (l.getD k ByteArray.empty):=hs a;unfold FW at e;rw[At b]at e;refine⟨⟨k+1,O1⟩,a2,AB [] rfl rfl ?_ ?_⟩
  .exact eN
  simp only[e];exact eN
 .exact eV
 .have a:k<l.length:=by exact eV
  have e:Bq d (l.take (k+1))=FW d (Bq d (l.take k)) (l.getD k ByteArray.empty):=hs a;unfold FW at e;rw[As (AEl.2 b)]at e;refine⟨⟨k+1,O1⟩,a2,AB [] rfl rfl ?_ ?_⟩
  .exact eN
  simp only[e];exact eN
 have a:l.take k=l:=BY eV;rw[a];exact fI c [.tmp 4]
def tK (d:List AJ) (all:List ByteArray) (i:Nat) (k:Nat):Bool:=(k:Int)==(i:Int)||!Ac (LL d (all.getD i ByteArray.empty)) (all.getD k ByteArray.empty)
def Qg (d:List AJ) (all:List ByteArray) (i n:Nat):Bool:=(List.range n).all (tK d all i)
def Qh (d:List AJ) (all:List ByteArray) (n:Nat):List ByteArray:=((List.range n).filter λi=>Qg d all i all.length).map λi=>all.getD i ByteArray.empty
def BC (d:List AJ) (l:List ByteArray):List ByteArray:=Qh d (Bq d l) (Bq d l).length
theorem yD (d:List AJ) (all:List ByteArray) (n:Nat):Qh d all (n+1)=Qh d all n++if Qg d all n all.length=true then [all.getD n ByteArray.empty] else []:=by
 unfold Qh;rw[ABV,ADG,ABX]
 congr 1
 rw[AC7,AE0];split<;>rfl
theorem gY (d:List AJ) (all:List ByteArray) (n:Nat):(Qh d all n).length<=n:=by
 unfold Qh;rw[OR];exact iN (ADb _ _) sc
theorem nP (d:List AJ) (all:List ByteArray) (i n:Nat):Qg d all i (n+1)=(Qg d all i n&&tK d all i n):=by
 unfold Qg;rw[ABV,AE1];simp
def M0:Ab:={ ins:=[FT,CC],pre:=λ(d,l,_)=>Qd d/\List.length d<=256/\List.length l<=100000,out:=λ(d,l,_)=>[.p CC (BC d l)] }
attribute [go_sem] M0
theorem WC:Ag Tryz.prog 132 M0:=by
 refine fK [0,1,4,5,6,7,8,9,10,17,29,47] Tryz.func132 Tryz.ntmps132 (AF gX (AF A1Q (AF HG AH))) ?_;rintro w0 O0 ⟨d,l,u⟩ c-⟨n,f,g⟩;have f:d.length<=256:=f;have g:l.length<=100000:=g;have m:BC d l=Qh d (Bq d l) (Bq d l).length:=rfl;have o:=J3 d l;simp only[M0,AL];repeat'(first|exact a6|apply eS rfl|refine rX c ?_ ?_)
 .exact g
 rw[m];generalize Bq d l=all at *;refine AI (ι:={i:Nat//i<=all.length}) (λi=>⟨[(0,.p FT d),(5,.sr 54 T9 0 (Qh d all i.1).length),(6,.p CC all),(7,.p (.int .i64) (i.1:Int))],[(54,.arr 9 T9 (Qh d all i.1))]⟩) (λi=>all.length-i.1) ⟨0,DO _⟩ (AB [(54,.nil)] rfl rfl ?_ ?_) (λi=>?_)
 .refine eM ?_;rfl
 .refine eM ?_;rfl
 obtain⟨i,hi⟩:=i;have q:=gY d all i;have b:=yD d all i;simp only;repeat'(first|exact a6|apply eS rfl|refine rX c ?_ ?_|refine rC ?_ ?_<;>intro a<;>try(cases a;done))
 .exact⟨a,n,f⟩
 .have h:i<all.length:=by exact eV
  refine AI (ι:={k:Nat//k<=all.length}) (λk=>⟨[(0,.p FT d),(5,.sr 54 T9 0 (Qh d all i).length),(6,.p CC all),(7,.p (.int .i64) (i:Int)),(8,.p CC (LL d (all.getD i ByteArray.empty))),(9,.p .bool (Qg d all i k.1)),(10,.p (.int .i64) (k.1:Int))],[(54,.arr 9 T9 (Qh d all i))]⟩) (λk=>all.length-k.1) ⟨0,DO _⟩ (AB [(54,.nm 54)] rfl rfl ?_ ?_) (λk=>?_)
  .exact eN
  .refine eM ?_;rfl
  obtain⟨k,hk⟩:=k;have j:=nP d all i k;simp only;repeat'(first|exact a6|apply eS rfl|apply AD|refine rX c ?_ ?_|refine rC ?_ ?_<;>intro a<;>try(cases a;done))
  .exact λ_=>a
  .exact eV
  .have e:k<all.length:=by exact eV
   refine⟨⟨k+1,O1⟩,a2,AB [(54,.nm 54)] rfl rfl ?_ ?_⟩
   .exact eN
   simp only[j];unfold tK;exact eN
  .refine⟨a4,?_⟩;simp only[AP];omega
  .exact eV
  .have e:k=all.length:=by exact eV
   subst e;rw[a,At rfl]at b;refine⟨⟨i+1,O1⟩,a2,AB [(54,.nm 54)] rfl rfl ?_ ?_⟩
   .simp only[b];exact eN
   simp only[b];exact eN
  .exact eV
  have e:k=all.length:=by exact eV
  subst e;rw[a,As sc,AAW]at b;refine⟨⟨i+1,O1⟩,a2,AB [(54,.nm 54)] rfl rfl ?_ ?_⟩
  .simp only[b];exact eN
  simp only[b];exact eN
 have h:i=all.length:=by exact eV
 subst h;refine CO [54] ?_;exact fI c [.tmp 4]
end
def yE (b:List Int) (x:Int):List Int:=b.set (x.tdiv 64).toNat (C2 .or .u64 (b.getD (x.tdiv 64).toNat 0) (Z0 .u64 1 (x.tmod 64)))
def ofL (l:List Int):List Int:=l.foldl yE (List.replicate 64 0)
def okB (x:Int):Bool:=!(decide (x<0)||decide (4095<x))
def ofF (l:List Int):List Int×Int:=if l.all okB=true then (BZ (ofL l),0) else ([],2)
theorem Qi (l:List Int):(ofL l).length=64:=by
 have key:∀(l b:List Int),(l.foldl yE b).length=b.length:=by
  intro l;induction l with
  | nil=>intro b;rfl
  | cons x l a =>
   intro b;rw[ON,a];simp[yE]
 unfold ofL;rw[key];simp
def ofS:Ab:={ ins:=[DH],pre:=λ_=>True,out:=λ(l,_)=>[.p Ek (ofF l).1,.p DG (ofF l).2] }
theorem ABr:Ag Tryz.prog 128 ofS:=by
 refine fK [0,2,3,4,5,10,24] Tryz.func128 Tryz.ntmps128 (AF Ny AH) ?_;rintro w0 O0 ⟨l,u⟩ c ⟨⟨g,-⟩,-⟩ -;simp only[AP]at g;simp only[ofS,AL];repeat'(first|exact a6|apply eS rfl|refine rX c ?_ ?_)
 .simp only[AP];omega
 refine AI (ι:={k:Nat//k<=l.length/\(l.take k).all okB=true}) (λk=>⟨[(0,.p DH l),(4,.sr 6 SF 0 (ofL (l.take k.1)).length),(5,.p (.int .i64) (k.1:Int))],[(6,.arr 214 SF (ofL (l.take k.1)))]⟩) (λk=>l.length-k.1) ⟨0,DO _,rfl⟩ (AB [(6,.nm 6)] rfl rfl ?_ ?_) (λk=>?_)
 .refine eM ?_;rfl
 .refine eM ?_;rfl
 obtain⟨k,hk,hf⟩:=k;have i:=Qi (l.take k);have hs:∀h:k<l.length,ofL (l.take (k+1))=yE (ofL (l.take k)) (l.getD k 0):=λh=>E9 yE l 0 _ h;simp only;repeat'(first|exact a6|apply eS rfl|apply AD|refine rX c ?_ ?_|refine rC ?_ ?_<;>intro a<;>try(cases a;done))
 .exact⟨a,λ_=>a⟩
 .have b:k<l.length:=by exact eV
  have h1:ofF l=([],2):=by
   unfold ofF;rw[As];intro h;have:=OF.1 h _ (AG l 0 b);unfold okB at this;rw[lU,ABs,bY,bY]at this;rcases a with h|h
   .exact this.1 h
   exact this.2 h
  exact fI c [.tmp 2,.tmp 3] (by rw[h1];exact eR)
 .obtain⟨h0,h1⟩:=a;have d:Int.tdiv (l.getD k 0) 64=l.getD k 0 / 64:=AD7 h0;have f:Int.tmod (l.getD k 0) 64=l.getD k 0 % 64:=ADp h0;rw[d,f,i];refine⟨?_,⟨dg,?_,?_⟩,?_,⟨dg,?_,?_⟩,⟨?_,?_⟩,?_,⟨dg,?_,?_⟩,⟨?_,?_⟩,?_,?_,?_⟩<;>exact eV
 .exact eV
 .have b:k<l.length:=by exact eV
  have e:=hs b;refine⟨⟨k+1,O1,?_⟩,a2,AB [(6,.nm 6)] rfl rfl ?_ ?_⟩
  .rw[KV l 0 _ b,hf,ADD];unfold okB;rw[lU,ABs,bY,bY];exact⟨ACA.2 a.1,ACA.2 a.2⟩
  .simp only[e];refine eM ?_;rfl
  simp only[e];refine eM ?_;rw[<-e,Qi,Qi]
 have b:l.take k=l:=BY eV;rw[b]at hf ⊢;have h1:ofF l=(BZ (ofL l),0):=by unfold ofF;rw[At hf]
 have j:=Qi l;refine CO [6] ?_;repeat'(first|apply eS rfl|refine rX c ?_ ?_)
 .rw[j];decide
 exact fI c [.tmp 2,.tmp 3] (by rw[h1];exact eR)
section
attribute [go_sem] WA
def nQ (l:List (List Int)) (b:List Int):Bool:=l.any λx=>Hm x b
def A98:Ab:={ ins:=[UG,Ek],pre:=λ_=>True,out:=λ(l,b,_)=>[.p .bool (nQ l b)],lend:=true }
theorem A99:Ag Tryz.prog 129 A98:=by
 refine fK [0,1,4,5,9,17] Tryz.func129 Tryz.ntmps129 (AF tI AH) ?_;rintro w0 O0 ⟨l,n,u⟩ a ⟨⟨e,-⟩,-⟩ -;simp only[AP]at e;simp only[A98,AL];repeat'(first|exact a6|apply eS rfl|refine rX a ?_ ?_)
 refine AI (ι:={k:Nat//k<=l.length/\(l.take k).any (λx=>Hm x n)=false}) (λk=>⟨[(0,.p UG l),(1,.p Ek n),(5,.p (.int .i64) (k.1:Int))],[]⟩) (λk=>l.length-k.1) ⟨0,sc⟩ (eW []) (λk=>?_)
 obtain⟨k,hk,c⟩:=k;repeat'(first|exact a6|apply eS rfl|apply AD|refine rX a ?_ ?_|refine rC ?_ ?_<;>intro b<;>try(cases b;done))
 .exact eV
 .have d:k<l.length:=by exact eV
  have h1:nQ l n=true:=JU l [] _ d b;exact fI a [.tmp 4] (by rw[h1];exact eR)
 .exact eV
 .have d:k<l.length:=by exact eV
  refine⟨⟨k+1,eV,?_⟩,by simp only;exact eV,AB [] rfl rfl ?_ ?_⟩
  .rw[Nx l [] _ d,c];exact b
  .exact eN
  exact eN
 have hk:l.take k=l:=BY eV;rw[hk]at c;have h1:nQ l n=false:=c;exact fI a [.tmp 4] (by rw[h1];exact eR)
abbrev AU:=ByteArray×List Int
abbrev c0:AU:=(ByteArray.empty,[])
def Ly (l:List AU) (i j:Int):Bool:=E8 (l.getD j.toNat c0).2 (l.getD i.toNat c0).2
def tL:Ab:={ ins:=[KU,T3,T3],pre:=λ(l,i,j,_)=>((0:Int)<=i/\i<(List.length l:Int))/\((0:Int)<=j/\j<(List.length l:Int))/\(∀x∈(l:List AU),x.2.length<=100000),out:=λ(l,i,j,_)=>[.p .bool (Ly l i j)],lend:=true }
theorem tM:Ag Tryz.prog 85 tL:=by
 refine fK [0,1,2,6] Tryz.func85 Tryz.ntmps85 (AF SJ AH) ?_;rintro w0 O0 ⟨l,i,j,u⟩ a-⟨hi,b,c⟩;simp only[tL,AL];repeat'(first|exact a6|apply eS rfl|refine rX a ?_ ?_)
 .exact⟨b,hi,c _ (AG (l:List AU) c0 eV)⟩
 exact fI a [.tmp 6] (by unfold Ly;exact eR)
end
def LN (s:ByteArray):Nat->List AU->Int
 | _,[]=>-1
 | k,x :: l=>if AK x.1 s=true then (k:Int) else LN s (k+1) l
def BT (l:List AU) (s:ByteArray):Int:=LN s 0 l
theorem Yo (s:ByteArray) (l:List AU) (h:k<l.length):LN s k (l.drop k)=if AK (l.getD k c0).1 s=true then (k:Int) else LN s (k+1) (l.drop (k+1)):=by
 rw[OS h];have e:l.getD k c0=l[k]:=by simp[AS,h]
 rw[e];rfl
def Um:Ab:={ ins:=[KU,T9],pre:=λ_=>True,out:=λ(l,s,_)=>[.p T3 (BT l s)],lend:=true }
theorem Yp:Ag Tryz.prog 87 Um:=by
 refine fK [0,1,4,5,9,18] Tryz.func87 Tryz.ntmps87 AH ?_;rintro w0 O0 ⟨l,s,u⟩ c ⟨⟨d,-⟩,-⟩ -;simp only[AP]at d;simp only[Um,AL];repeat'(first|exact a6|apply eS rfl|refine rX c ?_ ?_)
 refine AI (ι:={k:Nat//k<=l.length/\LN s k (l.drop k)=BT l s}) (λk=>⟨[(0,.p KU l),(1,.p T9 s),(5,.p (.int .i64) (k.1:Int))],[]⟩) (λk=>l.length-k.1) ⟨0,DO _,rfl⟩ (eW []) (λk=>?_)
 obtain⟨k,hk,hf⟩:=k;simp only;repeat'(first|exact a6|apply eS rfl|apply AD|refine rX c ?_ ?_|refine rC ?_ ?_<;>intro b<;>try(cases b;done))
 .exact b
 .have a:k<l.length:=by exact eV
  rw[Yo s l a,At b]at hf;exact fI c [.tmp 4] (by rw[<-hf];exact eR)
 .exact eV
 .have a:k<l.length:=by exact eV
  rw[Yo s l a,As (by rw[b];simp)]at hf;exact⟨⟨k+1,O1,hf⟩,a2,eW []⟩
 have a:l.drop k=[]:=NO eV;rw[a]at hf;exact fI c [.tmp 4] (by rw[<-hf];first|exact eR|refine MJ ?_;rfl)
def Qj (s:List Int):Nat->List AU->Int
 | _,[]=>-1
 | k,x :: l=>if Hm x.2 s=true then (k:Int) else Qj s (k+1) l
def He (l:List AU) (b:List Int):Int:=Qj (BZ b) 0 l
theorem WD (s:List Int) (l:List AU) (h:k<l.length):Qj s k (l.drop k)=if Hm (l.getD k c0).2 s=true then (k:Int) else Qj s (k+1) (l.drop (k+1)):=by
 rw[OS h];have e:l.getD k c0=l[k]:=by simp[AS,h]
 rw[e];rfl
def nS:Ab:={ ins:=[KU,Ek],pre:=λ(_,b,_)=>List.length b<=100000,out:=λ(l,b,_)=>[.p T3 (He l b)],lend:=true }
theorem A1S:Ag Tryz.prog 78 nS:=by
 refine fK [0,1,4,5,6,12,21] Tryz.func78 Tryz.ntmps78 (AF Ny (AF tI AH)) ?_;rintro w0 O0 ⟨l,b,u⟩ d ⟨⟨g,-⟩,-⟩ e;simp only[AP]at g;simp only[nS,AL];repeat'(first|exact a6|apply eS rfl|refine rX d ?_ ?_)
 .exact e
 have f:He l b=Qj (BZ b) 0 l:=rfl;rw[f];generalize BZ b=s at *;refine AI (ι:={k:Nat//k<=l.length/\Qj s k (l.drop k)=Qj s 0 l}) (λk=>⟨[(0,.p KU l),(5,.p Ek s),(6,.p (.int .i64) (k.1:Int))],[]⟩) (λk=>l.length-k.1) ⟨0,DO _,rfl⟩ (eW []) (λk=>?_)
 obtain⟨k,hk,hf⟩:=k;simp only;repeat'(first|exact a6|apply eS rfl|apply AD|refine rX d ?_ ?_|refine rC ?_ ?_<;>intro c<;>try(cases c;done))
 .exact c
 .have a:k<l.length:=by exact eV
  rw[WD s l a,At c]at hf;exact fI d [.tmp 4] (by rw[<-hf];exact eR)
 .exact eV
 .have a:k<l.length:=by exact eV
  rw[WD s l a,As (by rw[c];simp)]at hf;exact⟨⟨k+1,O1,hf⟩,a2,eW []⟩
 have a:l.drop k=[]:=NO eV;rw[a]at hf;exact fI d [.tmp 4] (by rw[<-hf];first|exact eR|refine MJ ?_;rfl)
def gZ (s:ByteArray):List (ByteArray×ByteArray)->ByteArray×Bool
 | []=>(ByteArray.empty,false)
 | x :: l=>if AK x.1 s=true then (x.2,true) else gZ s l
def DJ (x:AJ) (s:ByteArray):ByteArray×Bool:=gZ s x.2.2
theorem Yq (s:ByteArray) (l:List (ByteArray×ByteArray)) (h:k<l.length):gZ s (l.drop k)=if AK (l.getD k (ByteArray.empty,ByteArray.empty)).1 s=true then ((l.getD k (ByteArray.empty,ByteArray.empty)).2,true) else gZ s (l.drop (k+1)):=by
 rw[OS h];have e:l.getD k (ByteArray.empty,ByteArray.empty)=l[k]:=by simp[AS,h]
 rw[e];rfl
def bL:Ab:={ ins:=[T54,T9],pre:=λ_=>True,out:=λ(x,s,_)=>[.p T9 (DJ x s).1,.p .bool (DJ x s).2],lend:=true }
theorem g8:Ag Tryz.prog 118 bL:=by
 refine fK [0,1,2,4,5,6,11,21] Tryz.func118 Tryz.ntmps118 AH ?_;rintro w0 O0 ⟨⟨nm,sup,a⟩,s,u⟩ d ⟨⟨-,-,e,-⟩,-⟩ -;simp only[AP]at e;simp only[bL,AL];repeat'(first|exact a6|apply eS rfl|refine rX d ?_ ?_)
 have hz:({ data:=#[] }:ByteArray).size<=AP:=by decide
 rw[At hz];refine AI (ι:={k:Nat//k<=a.length/\gZ s (a.drop k)=DJ (nm,sup,a) s}) (λk=>⟨[(1,.p T9 s),(2,.bp 2 [] 0),(6,.p (.int .i64) (k.1:Int))],[(2,.box 54 true [.p T9 nm,.p CC sup,.p T52 a])]⟩) (λk=>a.length-k.1) ⟨0,DO _,rfl⟩ (eW [(2,.nm 2)]) (λk=>?_)
 obtain⟨k,hk,hf⟩:=k;simp only;repeat'(first|exact a6|apply eS rfl|apply AD|refine rX d ?_ ?_|refine rC ?_ ?_<;>intro c<;>try(cases c;done))
 .exact c
 .assumption
 .have b:k<a.length:=by exact eV
  rw[Yq s a b,At c]at hf;exact fI d [.tmp 4,.tmp 5] (by rw[<-hf];exact eR)
 .exact eV
 .have b:k<a.length:=by exact eV
  rw[Yq s a b,As (by rw[c];simp)]at hf;exact⟨⟨k+1,O1,hf⟩,a2,eW [(2,.nm 2)]⟩
 have b:a.drop k=[]:=NO eV;rw[b]at hf;rw[At hz];exact fI d [.tmp 4,.tmp 5] (by rw[<-hf];first|exact eR|refine MJ ?_;exact⟨rfl,rfl⟩)
section
attribute [go_sem] nM
def GI (a b:AU):Bool:=decide (((IZ b.2).length:Int)<((IZ a.2).length:Int))||((IZ a.2).length:Int)==((IZ b.2).length:Int)&&CP a.1 b.1
def bM:Ab:={ ins:=[bA,bA],pre:=λ(a,b,_)=>List.length (a:AU).2<=100000/\List.length (b:AU).2<=100000,out:=λ(a,b,_)=>[.p .bool (GI a b)],lend:=true }
theorem yF:Ag Tryz.prog 84 bM:=by
 refine fK [0,1,2,3,4,5,6] Tryz.func84 Tryz.ntmps84 (AF A1M AH) ?_;rintro w0 O0 ⟨⟨c,ac⟩,⟨e,d⟩,u⟩ a-⟨ha,b⟩;simp only[bM,AL];repeat'(first|exact a6|apply eS rfl|refine rX a ?_ ?_)
 .exact ha
 .exact b
 exact fI a [.tmp 4] (by unfold GI;exact eR)
end
section
attribute [go_sem] ofS
def PN (low all:List ByteArray) (n:Nat):List Int:=((List.range n).filter λ(i:Nat)=>Ac low (all.getD i ByteArray.empty)).map λ(i:Nat)=>(i:Int)
theorem yG (low all:List ByteArray) (n:Nat):PN low all (n+1)=PN low all n++if Ac low (all.getD n ByteArray.empty)=true then [(n:Int)] else []:=by
 unfold PN;rw[ABV,ADG,ABX]
 congr 1
 rw[AC7,AE0];split<;>rfl
theorem A1T (low all:List ByteArray) (n:Nat):(PN low all n).length<=n:=by
 unfold PN;rw[OR];exact iN (ADb _ _) sc
def Ef (d:List AJ) (all:List ByteArray) (s:ByteArray):List Int:=(ofF (PN (C1 d s) all all.length)).1
def A1U:Ab:={ ins:=[FT,CC,T9],pre:=λ(d,l,_,_)=>List.length d<=256/\List.length l<=100000,out:=λ(d,l,s,_)=>[.p Ek (Ef d l s)] }
theorem A65:Ag Tryz.prog 81 A1U:=by
 refine fK [0,1,2,6,7,8,9,10,18,26] Tryz.func81 Tryz.ntmps81 (AF A1R (AF HG (AF ABr AH))) ?_;rintro w0 O0 ⟨d,l,s,u⟩ b-⟨g,e⟩;have e:l.length<=100000:=e;have f:Ef d l s=(ofF (PN (C1 d s) l l.length)).1:=rfl;simp only[A1U,AL];repeat'(first|exact a6|apply eS rfl|refine rX b ?_ ?_)
 .exact g
 rw[f];generalize C1 d s=low at *;refine AI (ι:={n:Nat//n<=l.length}) (λn=>⟨[(0,.p FT d),(1,.p CC l),(2,.p T9 s),(7,.p CC low),(8,.sr 30 T3 0 (PN low l n.1).length),(9,.p (.int .i64) (n.1:Int))],[(30,.arr 3 T3 (PN low l n.1))]⟩) (λn=>l.length-n.1) ⟨0,DO _⟩ (AB [(30,.nil)] rfl rfl ?_ ?_) (λn=>?_)
 .refine eM ?_;rfl
 .refine eM ?_;rfl
 obtain⟨n,hn⟩:=n;have hz:=A1T low l n;have hs:=yG low l n;simp only;repeat'(first|exact a6|apply eS rfl|apply AD|refine rX b ?_ ?_|refine rC ?_ ?_<;>intro a<;>try(cases a;done))
 .exact a
 .rw[a,At rfl]at hs;simp only[AP];dsimp only[Ty.den]at *;omega
 .exact eV
 .have c:n<l.length:=by exact eV
  rw[a,At rfl]at hs;refine⟨⟨n+1,O1⟩,a2,AB [(30,.nm 30)] rfl rfl ?_ ?_⟩
  .simp only[hs];exact eN
  simp only[hs];exact eN
 .exact eV
 .have c:n<l.length:=by exact eV
  rw[a,As sc,AAW]at hs;refine⟨⟨n+1,O1⟩,a2,AB [(30,.nm 30)] rfl rfl ?_ ?_⟩
  .simp only[hs];exact eN
  simp only[hs];exact eN
 have c:n=l.length:=by exact eV
 subst c;refine CO [30] ?_;repeat'(first|exact a6|apply eS rfl|refine rX b ?_ ?_)
 exact fI b [.tmp 6]
end
def KY (o:List ByteArray) (f:ByteArray×ByteArray):List ByteArray:=D9 o f.1
def J4 (o:List ByteArray) (x:AJ):List ByteArray:=x.2.2.foldl KY o
def BR (d:List AJ):List ByteArray:=d.foldl J4 []
theorem Yr (l:List (ByteArray×ByteArray)):∀o:List ByteArray,(l.foldl KY o).length<=o.length+l.length:=by
 induction l with
 | nil=>intro o;simp
 | cons x l a =>
  intro o;have h1:=a (KY o x);have b:(KY o x).length<=o.length+1:=My o x.1;simp only[ON,If];omega
theorem nT {d:List AJ} (h:∀x∈d,x.2.2.length<=256):∀(l:List AJ),(∀x∈l,x∈d)->∀o:List ByteArray,(l.foldl J4 o).length<=o.length+256*l.length:=by
 intro l;induction l with
 | nil=>intro _ o;simp
 | cons x l c =>
  intro a o;have h1:=c (λy b=>a y (by simp[b])) (J4 o x);have e:=Yr x.2.2 o;have f:=h x (a x sc);have g:(J4 o x).length=(x.2.2.foldl KY o).length:=rfl;simp only[ON,If];omega
def WE:Ab:={ ins:=[FT],pre:=λ(d,_)=>List.length d<=256/\(∀x∈(d:List AJ),x.2.2.length<=256),out:=λ(d,_)=>[.p CC (BR d)] }
theorem WF:Ag Tryz.prog 76 WE:=by
 refine fK [0,2,3,4,5,9,19] Tryz.func76 Tryz.ntmps76 (AF SH AH) ?_;rintro w0 O0 ⟨d,u⟩ c-⟨f,m⟩;have f:d.length<=256:=f;simp only[WE,AL];repeat'(first|exact a6|apply eS rfl|refine rX c ?_ ?_)
 refine AI (ι:={i:Nat//i<=d.length}) (λi=>⟨[(0,.p FT d),(3,.p CC (BR (d.take i.1))),(4,.p (.int .i64) (i.1:Int))],[]⟩) (λi=>d.length-i.1) ⟨0,DO _⟩ (AB [] rfl rfl ?_ ?_) (λi=>?_)
 .exact eN
 .refine eM ?_;rfl
 obtain⟨i,hi⟩:=i;have l:=nT m (d.take i) (λx h=>ABI h) [];have t:=ACa i d;have hs:=λh:i<d.length=>E9 J4 d d0 [] h;have g:∀e,BR e=e.foldl J4 []:=λ_=>rfl;simp only;repeat'(first|exact a6|apply eS rfl|refine rX c ?_ ?_|refine rC ?_ ?_<;>intro a<;>try(cases a;done))
 .have j:i<d.length:=by exact eV
  have v:=m _ (AG d d0 j);have hs:=hs j;rw[<-g,<-g]at hs;rw[<-g]at l;generalize BR (d.take i)=o at *;refine AI (ι:={k:Nat//k<=(d.getD i d0).2.2.length}) (λk=>⟨[(0,.p FT d),(3,.p CC (((d.getD i d0).2.2.take k.1).foldl KY o)),(4,.p (.int .i64) (i:Int)),(5,.p (.int .i64) (k.1:Int))],[]⟩) (λk=>(d.getD i d0).2.2.length-k.1) ⟨0,DO _⟩ (AB [] rfl rfl ?_ ?_) (λk=>?_)
  .exact eN
  .refine eM ?_;rfl
  obtain⟨k,hk⟩:=k;have r:k<=(d.getD i d0).2.2.length:=hk;have q:=Yr ((d.getD i d0).2.2.take k) o;have s:=ACa k (d.getD i d0).2.2;have n:=λh:k<(d.getD i d0).2.2.length=>E9 KY (d.getD i d0).2.2 (ByteArray.empty,ByteArray.empty) o h;simp only;repeat'(first|apply eS rfl|apply AD|refine rX c ?_ ?_|refine rC ?_ ?_<;>intro a<;>try(cases a;done))
  .assumption
  .refine⟨a4,a,?_⟩;simp only[ABv]at l;dsimp only[Ty.den]at *;omega
  .have h1:(k:Int)<((d.getD i d0).2.2.length:Int):=a;exact eV
  .have b:k<(d.getD i d0).2.2.length:=oN.1 a;have e:=n b;refine⟨⟨k+1,b⟩,a2,AB [] rfl rfl ?_ ?_⟩
   .exact eN
   simp only[e];unfold KY;exact eN
  .have:=f;exact eV
  have b:(d.getD i d0).2.2.take k=(d.getD i d0).2.2:=BY (AAw.1 a);have e:BR (d.take (i+1))=((d.getD i d0).2.2.take k).foldl KY o:=by rw[b];exact hs
  refine⟨⟨i+1,j⟩,a2,AB [] rfl rfl ?_ ?_⟩
  .exact eN
  simp only[e];exact eN
 have b:d.take i=d:=BY eV;rw[b];exact fI c [.tmp 2]
theorem Ys {d:List AJ} {l:List ByteArray}:∀ {r:List ByteArray} {k:Nat},UI d l k r=0->∀s∈r,0<=Ar d s
 | [],_,_,s,hs=>by cases hs
 | x :: r,k,h,s,hs=>by
  simp only[UI]at h;split at h
  .cases h
  rename_i h1;split at h
  .cases h
  rcases By.1 hs with rfl|hs
  .omega
  exact Ys h s hs
theorem Qk {d:List AJ}:∀ {l:List AJ},LJ d l=0->∀x∈l,∀s∈x.2.1,0<=Ar d s
 | [],_,x,a=>by cases a
 | y :: l,h,x,a=>by
  simp only[LJ]at h;split at h
  .rename_i h1;exact absurd h h1
  rename_i h1;rcases By.1 a with rfl|a
  .exact Ys (Do h1)
  exact Qk h x a
theorem A1V {d:List AJ} (h:LK d=0):Qd d:=Qk h
theorem A2 {d:List AJ} (h:BH d=0):Qd d/\d.length<=256/\Ic d=1/\Cj d=0/\d.length<=(Bw d).length:=by
 unfold BH at h;split at h
 .rename_i h1;exact absurd h h1
 rename_i h1;split at h
 .rename_i a;exact absurd h a
 rename_i a;split at h
 .rename_i b;exact absurd h b
 rename_i b;split at h
 .cases h
 rename_i c;split at h
 .cases h
 rename_i e;exact⟨A1V (Do b),Tf (Do h1),Do c,Do a,O1⟩
section
attribute [go_sem] A98 A1I
def Gp (l:List (List Int)) (i k:Nat):List (List Int) :=
 if (decide (0<((El (l.getD i []) (l.getD k [])).length:Int))&&!nQ l (El (l.getD i []) (l.getD k [])))=true then l++[El (l.getD i []) (l.getD k [])] else l
def Gq (i:Nat):Nat->Nat->List (List Int)->List (List Int)
 | 0,_,l=>l
 | n+1,k,l=>if l.length<=256 then Gq i n (k+1) (Gp l i k) else l
def Ie:Nat->Nat->List (List Int)->List (List Int)
 | 0,_,l=>l
 | n+1,i,l=>if i<l.length/\l.length<=256 then Ie n (i+1) (Gq i i 0 l) else l
def A4 (c:List (List Int)):List (List Int):=Ie 257 0 c
theorem g9 (a b:List Int):(El a b).length<=a.length:=by
 unfold El BZ;have:=Eu .and a b a.length;rw[On];omega
structure A8b (l:List (List Int)):Prop where
 len:l.length<=257
 wid:∀c∈l,c.length<=64
theorem M2 (h:∀c∈l,c.length<=64) (k:Nat):(l.getD k []).length<=64:=by
 rw[AS];cases hh:l[k]? with
 | none=>simp
 | some x=>exact h x (AC5 hh)
theorem hJ (h:∀c∈l,c.length<=64) (i k:Nat):∀c∈Gp l i k,c.length<=64:=by
 unfold Gp;split
 .intro c a;rcases IS.1 a with a|a
  .exact h c a
  have:c=El (l.getD i []) (l.getD k []):=by simpa using a
  rw[this];exact iN (g9 _ _) (M2 h i)
 exact h
theorem A1W (l:List (List Int)) (i k:Nat):l.length<=(Gp l i k).length/\(Gp l i k).length<=l.length+1:=by
 unfold Gp;split
 .simp
 exact⟨Of _,Nat.le_succ _⟩
def bN:Ab:={ ins:=[UG],pre:=λ(c,_)=>List.length c<=256/\∀x∈(c:List (List Int)),x.length<=64,out:=λ(c,_)=>[.p UG (A4 c)] }
theorem yH:Ag Tryz.prog 82 bN:=by
 refine fK [0,2,3,4,5,6,18,28,48] Tryz.func82 Tryz.ntmps82 (AF A1J (AF A99 AH)) ?_;rintro w0 O0 ⟨c,u⟩ d-⟨n,t⟩;have n:c.length<=256:=n;simp only[bN,AL];repeat'(first|exact a6|apply eS rfl|refine rX d ?_ ?_)
 .simp only[AP];dsimp only[Ty.den]at *;omega
 refine AI (ι:={x:Nat×List (List Int)//x.1<=256/\A8b x.2/\Ie (257-x.1) x.1 x.2=A4 c}) (λx=>⟨[(3,.sr 7 Ek 0 x.1.2.length),(4,.p (.int .i64) (x.1.1:Int))],[(7,.arr 83 Ek x.1.2)]⟩) (λx=>257-x.1.1) ⟨(0,c),sc,⟨a2,t⟩,rfl⟩ (eW [(7,.nm 7)]) (λx=>?_)
 obtain⟨⟨i,l⟩,hi,⟨q,s⟩,f⟩:=x;simp only at hi q s f;simp only;repeat'(first|exact a6|apply eS rfl|refine rX d ?_ ?_|refine rC ?_ ?_<;>intro a<;>try(cases a;done))
 .have w:i<l.length:=by omega
  have z:l.length<=256:=by omega
  have o:Ie (256-i) (i+1) (Gq i i 0 l)=A4 c:=by
   have e:257-i=(256-i)+1:=by omega
   rw[<-f,e];show _=if i<l.length/\l.length<=256 then Ie (256-i) (i+1) (Gq i i 0 l) else l
   rw[At ⟨w,z⟩]
  refine AI (ι:={y:Nat×List (List Int)//y.1<=i/\A8b y.2/\l.length<=y.2.length/\Gq i (i-y.1) y.1 y.2=Gq i i 0 l}) (λy=>⟨[(3,.sr 7 Ek 0 y.1.2.length),(4,.p (.int .i64) (i:Int)),(5,.p (.int .i64) (y.1.1:Int))],[(7,.arr 83 Ek y.1.2)]⟩) (λy=>i-y.1.1) ⟨(0,l),sc,⟨q,s⟩,Of _,rfl⟩ (eW [(7,.nm 7)]) (λy=>?_)
  obtain⟨⟨k,m⟩,hk,⟨g,b⟩,r,hf⟩:=y;simp only at hk g b r hf;simp only;repeat'(first|exact a6|apply eS rfl|apply AD|refine rX d ?_ ?_|refine rC ?_ ?_<;>intro a<;>try(cases a;done))
  .exact⟨eV,eV,iN (M2 b i) dg⟩
  .simp only[AP];omega
  .omega
  .have e:Gp m i k=m++[El (m.getD i []) (m.getD k [])]:=by
    unfold Gp;rw[At];rw[An,Is,lU];exact a
   have C:=hJ b i k;have D:=A1W m i k;refine⟨⟨(k+1,Gp m i k),a2,⟨a2,C⟩,a2,?_⟩,a2,AB [(7,.nm 7)] rfl rfl ?_ ?_⟩
   .simp only;rw[<-hf,show i-k=(i-(k+1))+1 by omega];show _=if m.length<=256 then Gq i (i-(k+1)) (k+1) (Gp m i k) else m
    rw[At O1]
   .simp only[e];exact eN
   simp only[e];exact eN
  .omega
  .have e:Gp m i k=m:=by
    unfold Gp;rw[As];rw[An,Is,lU];intro h;rw[a h.1]at h;exact absurd h.2 sc
   refine⟨⟨(k+1,m),a2,⟨g,b⟩,r,?_⟩,a2,AB [(7,.nm 7)] rfl rfl ?_ ?_⟩
   .simp only;rw[<-hf,show i-k=(i-(k+1))+1 by omega];show _=if m.length<=256 then Gq i (i-(k+1)) (k+1) (Gp m i k) else m
    rw[At O1,e]
   .exact eN
   exact eN
  .omega
  have B:m=Gq i i 0 l:=by
   rw[<-hf];cases A:i-k with
   | zero=>rfl
   | succ j =>
    show _=if m.length<=256 then _ else m
    rw[As O1]
  rw[<-B]at o;refine⟨⟨(i+1,m),a2,⟨g,b⟩,?_⟩,a2,AB [(7,.nm 7)] rfl rfl ?_ ?_⟩
  .simp only;rw[show 257-(i+1)=256-i by omega];exact o
  .exact eN
  exact eN
 have v:l=A4 c:=by
  rw[<-f];cases A:257-i with
  | zero=>rfl
  | succ m =>
   show _=if i<l.length/\l.length<=256 then _ else l
   rw[As O1]
 rw[<-v];refine CO [7] ?_;exact fI d [.tmp 2]
theorem I5 {α:Type} (x y:α):(if ({ data:=#[] }:ByteArray).size<=AP then x else y)=x:=At (by show 0<=AP;decide)
theorem Ig {α:Type} (a:UInt8) (x y:α):(if ({ data:=#[a] }:ByteArray).size<=AP then x else y)=x:=At (by show 1<=AP;decide)
theorem cs2 {α:Type} (a b:UInt8) (x y:α):(if ({ data:=#[a,b] }:ByteArray).size<=AP then x else y)=x:=At (by show 2<=AP;decide)
theorem MC {α:Type} (a b c:UInt8) (x y:α):(if ({ data:=#[a,b,c] }:ByteArray).size<=AP then x else y)=x:=At (by show 3<=AP;decide)
theorem JY {α:Type} (a b c d:UInt8) (x y:α):(if ({ data:=#[a,b,c,d] }:ByteArray).size<=AP then x else y)=x:=At (by show 4<=AP;decide)
theorem Ih {α:Type} (a b c d e:UInt8) (x y:α):(if ({ data:=#[a,b,c,d,e] }:ByteArray).size<=AP then x else y)=x:=At (by show 5<=AP;decide)
theorem MK {α:Type} (a b c d e f:UInt8) (x y:α):(if ({ data:=#[a,b,c,d,e,f] }:ByteArray).size<=AP then x else y)=x:=At (by show 6<=AP;decide)
theorem cs7 {α:Type} (a b c d e f g:UInt8) (x y:α):(if ({ data:=#[a,b,c,d,e,f,g] }:ByteArray).size<=AP then x else y)=x:=At (by show 7<=AP;decide)
theorem cs8 {α:Type} (a b c d e f g h:UInt8) (x y:α):(if ({ data:=#[a,b,c,d,e,f,g,h] }:ByteArray).size<=AP then x else y)=x:=At (by show 8<=AP;decide)
end
section
attribute [go_sem] Ig
abbrev PO:=ByteArray×Int
abbrev FX:=ByteArray×Int×List PO
abbrev MD:=Int×Int
abbrev A7:=Int×Int×List ByteArray×List FX×List MD
abbrev e0D:FX:=(ByteArray.empty,0,[])
theorem Nz {α:Type} (f:α->X) (l:List α) (d:α) (h:k<l.length):(l.take (k+1)).map f=(l.take k).map f++[f (l.getD k d)]:=by
 rw[Ap l d h];simp
theorem tk2 {α:Type} (A B:List α) (x y:α):(A++B++[x]).take (A.length+B.length+1)++[y]=A++(B++[x]++[y]):=by
 rw[BY (by simp only[IF,If,ABv];omega)];simp
def Ct (n:Int):Nat->List Int->Int
 | _,[]=>-1
 | k,x :: r=>if x=n then (k:Int) else Ct n (k+1) r
def EH (l:List Int) (n:Int):Int:=Ct n 0 l
theorem A1X (n:Int) (l:List Int) (h:k<l.length):Ct n k (l.drop k)=if l.getD k 0=n then (k:Int) else Ct n (k+1) (l.drop (k+1)):=by
 rw[OS h];have e:l.getD k 0=l[k]:=by simp[AS,h]
 rw[e];rfl
def GJ:Ab:={ ins:=[DH,T3],pre:=λ_=>True,out:=λ(l,n,_)=>[.p T3 (EH l n)],lend:=true }
attribute [go_sem] GJ
theorem Fh:Ag Tryz.prog 92 GJ:=by
 refine fK [0,1,4,5,9,17] Tryz.func92 Tryz.ntmps92 AH ?_;rintro w0 O0 ⟨l,n,u⟩ d ⟨⟨f,-⟩,-⟩ -;simp only[AP]at f;simp only[GJ,AL];repeat'(first|exact a6|apply eS rfl|refine rX d ?_ ?_)
 refine AI (ι:={k:Nat//k<=l.length/\Ct n k (l.drop k)=EH l n}) (λk=>⟨[(0,.p DH l),(1,.p T3 n),(5,.p (.int .i64) (k.1:Int))],[]⟩) (λk=>l.length-k.1) ⟨0,DO _,rfl⟩ (eW []) (λk=>?_)
 obtain⟨k,hk,a⟩:=k;have e:=λh:k<l.length=>A1X n l h;simp only;repeat'(first|exact a6|apply eS rfl|apply AD|refine rX d ?_ ?_|refine rC ?_ ?_<;>intro c<;>try(cases c;done))
 .exact c
 .have b:k<l.length:=by exact eV
  rw[e b,At c]at a;exact fI d [.tmp 4] (by rw[<-a];exact eR)
 .omega
 .have b:k<l.length:=by exact eV
  rw[e b,As c]at a;exact⟨⟨k+1,O1,a⟩,a2,eW []⟩
 have b:l.drop k=[]:=NO eV;rw[b]at a;exact fI d [.tmp 4] (by rw[<-a];first|exact eR|refine MJ ?_;rfl)
def PP (s:ByteArray):Bool:=AK s ⟨#[104]⟩||AK s ⟨#[101]⟩||AK s ⟨#[120]⟩||AK s ⟨#[105]⟩
def KZ:Ab:={ ins:=[T9],pre:=λ_=>True,out:=λ(s,_)=>[.p .bool (PP s)] }
attribute [go_sem] KZ
theorem Tg:Ag Tryz.prog 88 KZ:=by
 refine fK [0,2] Tryz.func88 Tryz.ntmps88 AH ?_;rintro w0 O0 ⟨s,u⟩ a - -;simp only[KZ,AL];repeat'(first|exact a6|apply eS rfl|refine rX a ?_ ?_)
 exact fI a [.tmp 2] (by first|exact eR|refine MJ ?_;rfl)
def GU (e:FX):List Int:=e.2.1 :: e.2.2.map (·.2)
def Dl (q:MD):List Int:=[q.1,q.2]
def Ay (m:A7):List Int:=[m.1,m.2.1]++m.2.2.2.1.flatMap GU++m.2.2.2.2.flatMap Dl
def M3 (m:A7):Prop:=True/\m.2.2.2.1.length<=200000/\(∀e∈m.2.2.2.1,e.2.2.length<=100000)/\m.2.2.2.2.length<=200000
theorem JZ {α b:Type} (f:α->List b) (B:Nat):∀l:List α,(∀e∈l,(f e).length<=B)->(l.flatMap f).length<=l.length*B
 | [],_=>by simp
 | x :: l,h=>by
  have h1:=h x TO;have c:=JZ f B l λe a=>h e (GO _ a);simp only[ADz,IF,If,AE6];omega
def A66:Ab:={ ins:=[LH],pre:=λ(m,_)=>M3 m,out:=λ(m,_)=>[.p DH (Ay m)] }
attribute [go_sem] A66
def lV (tp ix:Int) (a:List FX) (i:Nat):List Int:=[tp,ix]++(a.take i).flatMap GU
theorem A1Y (tp ix:Int) (a:List FX) {i:Nat} (h:i<a.length):lV tp ix a (i+1)=lV tp ix a i++[(a.getD i e0D).2.1]++(a.getD i e0D).2.2.map (·.2):=by
 unfold lV;rw[Ap a e0D h,ADm];simp[GU]
theorem tN {tp ix:Int} {a:List FX} (h1:a.length<=200000) (b:∀e∈a,e.2.2.length<=100000) (i:Nat):(lV tp ix a i).length<=20000200002:=by
 have:=JZ GU 100001 (a.take i) λe d=>by
  have:=b e (ABI d);simp only[GU,If,OR];omega
 have c:(a.take i).length<=200000:=by simp only[On];omega
 have f:=AAu 100001 c;simp only[lV,IF,If,ABv];omega
theorem A1Z:Ag Tryz.prog 90 A66:=by
 refine fK [0,1,2,3,4,5,6,16,36,56] Tryz.func90 Tryz.ntmps90 AH ?_;rintro w0 O0 ⟨⟨tp,ix,m,a,cs⟩,u⟩ d-⟨-,h1,f,n⟩;have h1:a.length<=200000:=h1;have f:∀e∈a,e.2.2.length<=100000:=f;have n:cs.length<=200000:=n;have v:=tN (tp:=tp) (ix:=ix) h1 f;simp only[A66,AL];repeat'(first|exact a6|apply eS rfl|refine rX d ?_ ?_)
 refine AI (ι:={i:Nat//i<=a.length}) (λi=>⟨[(1,.bp 1 [] 0),(3,.sr 11 T3 0 (lV tp ix a i.1).length),(4,.p (.int .i64) (i.1:Int))],[(11,.arr 3 T3 (lV tp ix a i.1)),(1,.box 27 true [.p T3 tp,.p T3 ix,.p CC m,.p G4 a,.p Hc cs])]⟩) (λi=>a.length-i.1) ⟨0,DO _⟩ (AB [(1,.nm 1),(11,.nm 11)] rfl rfl ?_ ?_) (λi=>?_)
 .refine eM ?_;rfl
 .refine eM ?_;rfl
 obtain⟨i,hi⟩:=i;have A:=v i;have l:=λh:i<a.length=>A1Y tp ix a h;simp only;repeat'(first|exact a6|apply eS rfl|refine rX d ?_ ?_|refine rC ?_ ?_<;>intro c<;>try(cases c;done))
 .refine⟨c,?_⟩;simp only[AP];omega
 .have g:i<a.length:=by exact eV
  have l:=l g;have y:(a.getD i (ByteArray.empty,0,[])).2.2.length<=100000:=f _ (AG a e0D g);refine AI (ι:={k:Nat//k<=(a.getD i (ByteArray.empty,0,[])).2.2.length}) (λk=>⟨[(1,.bp 1 [] 0),(3,.sr 11 T3 0 (lV tp ix a i++[(a.getD i (ByteArray.empty,0,[])).2.1]++((a.getD i (ByteArray.empty,0,[])).2.2.take k.1).map (·.2)).length),(4,.p (.int .i64) (i:Int)),(5,.p (.int .i64) (k.1:Int))],[(11,.arr 3 T3 (lV tp ix a i++[(a.getD i (ByteArray.empty,0,[])).2.1]++((a.getD i (ByteArray.empty,0,[])).2.2.take k.1).map (·.2))),(1,.box 27 true [.p T3 tp,.p T3 ix,.p CC m,.p G4 a,.p Hc cs])]⟩) (λk=>(a.getD i (ByteArray.empty,0,[])).2.2.length-k.1) ⟨0,DO _⟩ (eW [(1,.nm 1),(11,.nm 11)]) (λk=>?_)
  obtain⟨k,hk⟩:=k;simp only;repeat'(first|apply eS rfl|apply AD|refine rX d ?_ ?_|refine rC ?_ ?_<;>intro c<;>try(cases c;done))
  .omega
  .refine⟨oN.2 g,c,?_⟩;simp only[AP,OR,On];omega
  .omega
  .have q:k<(a.getD i (ByteArray.empty,0,[])).2.2.length:=by exact eV
   have b:=Nz (λx:PO=>x.2) (a.getD i (ByteArray.empty,0,[])).2.2 (ByteArray.empty,0) q;refine⟨⟨k+1,q⟩,a2,AB [(1,.nm 1),(11,.nm 11)] rfl rfl ?_ ?_⟩
   .simp only[b];refine eM ?_;rw[BY (by simp only[IF,If,ABv];omega)];simp only[AAp]
   simp only[b];refine eM ?_;rfl
  .omega
  have b:(a.getD i (ByteArray.empty,0,[])).2.2.take k=(a.getD i (ByteArray.empty,0,[])).2.2:=BY eV;refine⟨⟨i+1,g⟩,a2,AB [(1,.nm 1),(11,.nm 11)] rfl rfl ?_ ?_⟩
  .simp only[b,l];exact eN
  simp only[b,l];exact eN
 have t:lV tp ix a i=[tp,ix]++a.flatMap GU:=by
  have b:a.take i=a:=BY eV;unfold lV;rw[b]
 have s:=λj:Nat=>JZ Dl 2 (cs.take j) λ_ _=>Of 2;refine AI (ι:={j:Nat//j<=cs.length}) (λj=>⟨[(1,.bp 1 [] 0),(3,.sr 11 T3 0 (lV tp ix a i++(cs.take j.1).flatMap Dl).length),(6,.p (.int .i64) (j.1:Int))],[(11,.arr 3 T3 (lV tp ix a i++(cs.take j.1).flatMap Dl)),(1,.box 27 true [.p T3 tp,.p T3 ix,.p CC m,.p G4 a,.p Hc cs])]⟩) (λj=>cs.length-j.1) ⟨0,DO _⟩ (eW [(1,.nm 1),(11,.nm 11)]) (λj=>?_)
 obtain⟨j,z⟩:=j;have r:=s j;simp only[On]at r;simp only;repeat'(first|exact a6|apply eS rfl|apply AD|refine rX d ?_ ?_|refine rC ?_ ?_<;>intro c<;>try(cases c;done))
 .refine⟨c,?_⟩;simp only[AP];omega
 .refine⟨c,?_⟩;simp only[AP];omega
 .omega
 .have o:j<cs.length:=by exact eV
  have b:(cs.take (j+1)).flatMap Dl=(cs.take j).flatMap Dl++[(cs.getD j (0,0)).1]++[(cs.getD j (0,0)).2]:=by
   rw[Ap cs (0,0) o,ADm];simp[Dl]
  refine⟨⟨j+1,o⟩,a2,AB [(1,.nm 1),(11,.nm 11)] rfl rfl ?_ ?_⟩
  .simp only[b];refine eM ?_;exact tk2 _ _ _ _
  simp only[b];refine eM ?_;omega
 have b:cs.take j=cs:=BY eV;have w:Ay (tp,ix,m,a,cs)=lV tp ix a i++cs.flatMap Dl:=by rw[t];rfl
 simp only[b]at *;refine CO [11] ?_;exact fI d [.tmp 2] (by rw[w];exact eR)
def Ql (e:FX):List Int:=[e.2.1]
def HH (m:A7):List Int:=[m.1]++m.2.2.2.1.flatMap Ql++m.2.2.2.2.flatMap Dl
def A67:Ab:={ ins:=[LH],pre:=λ(m,_)=>M3 m,out:=λ(m,_)=>[.p DH (HH m)] }
attribute [go_sem] A67
theorem A9b:Ag Tryz.prog 91 A67:=by
 refine fK [0,1,2,3,4,5,13,29] Tryz.func91 Tryz.ntmps91 AH ?_;rintro w0 O0 ⟨⟨tp,ix,e,a,cs⟩,u⟩ d-⟨-,h1,s,f⟩;have h1:a.length<=200000:=h1;have f:cs.length<=200000:=f;have r:=λj:Nat=>JZ Ql 1 (a.take j) λ_ _=>Of 1;have m:=λj:Nat=>JZ Dl 2 (cs.take j) λ_ _=>Of 2;simp only[A67,AL];repeat'(first|exact a6|apply eS rfl|refine rX d ?_ ?_)
 refine AI (ι:={i:Nat//i<=a.length}) (λi=>⟨[(1,.bp 1 [] 0),(3,.sr 8 T3 0 ([tp]++(a.take i.1).flatMap Ql).length),(4,.p (.int .i64) (i.1:Int))],[(8,.arr 3 T3 ([tp]++(a.take i.1).flatMap Ql)),(1,.box 27 true [.p T3 tp,.p T3 ix,.p CC e,.p G4 a,.p Hc cs])]⟩) (λi=>a.length-i.1) ⟨0,DO _⟩ (eW [(1,.nm 1),(8,.nm 8)]) (λi=>?_)
 obtain⟨i,hi⟩:=i;have o:=r i;simp only[On]at o;simp only;repeat'(first|exact a6|apply eS rfl|apply AD|refine rX d ?_ ?_|refine rC ?_ ?_<;>intro c<;>try(cases c;done))
 .refine⟨c,?_⟩;simp only[AP];omega
 .omega
 .have g:i<a.length:=by exact eV
  have b:(a.take (i+1)).flatMap Ql=(a.take i).flatMap Ql++[(a.getD i (ByteArray.empty,0,[])).2.1]:=by
   rw[Ap a (ByteArray.empty,0,[]) g,ADm];simp[Ql]
  refine⟨⟨i+1,g⟩,a2,AB [(1,.nm 1),(8,.nm 8)] rfl rfl ?_ ?_⟩
  .simp only[b];exact eN
  simp only[b];exact eN
 have n:a.take i=a:=BY eV;simp only[n]at *;generalize k:a.flatMap Ql=A at *;refine AI (ι:={j:Nat//j<=cs.length}) (λj=>⟨[(1,.bp 1 [] 0),(3,.sr 8 T3 0 ([tp]++A++(cs.take j.1).flatMap Dl).length),(5,.p (.int .i64) (j.1:Int))],[(8,.arr 3 T3 ([tp]++A++(cs.take j.1).flatMap Dl)),(1,.box 27 true [.p T3 tp,.p T3 ix,.p CC e,.p G4 a,.p Hc cs])]⟩) (λj=>cs.length-j.1) ⟨0,DO _⟩ (eW [(1,.nm 1),(8,.nm 8)]) (λj=>?_)
 obtain⟨j,t⟩:=j;have l:=m j;simp only[On]at l;simp only;repeat'(first|exact a6|apply eS rfl|apply AD|refine rX d ?_ ?_|refine rC ?_ ?_<;>intro c<;>try(cases c;done))
 .refine⟨c,?_⟩;simp only[AP];omega
 .refine⟨c,?_⟩;simp only[AP];omega
 .omega
 .have h:j<cs.length:=by exact eV
  have b:(cs.take (j+1)).flatMap Dl=(cs.take j).flatMap Dl++[(cs.getD j (0,0)).1]++[(cs.getD j (0,0)).2]:=by
   rw[Ap cs (0,0) h,ADm];simp[Dl]
  refine⟨⟨j+1,h⟩,a2,AB [(1,.nm 1),(8,.nm 8)] rfl rfl ?_ ?_⟩
  .simp only[b];refine eM ?_;exact AC4 (tp :: ·) (tk2 A _ _ _)
  simp only[b];refine eM ?_;rfl
 have b:cs.take j=cs:=BY eV;have q:HH (tp,ix,e,a,cs)=[tp]++A++cs.flatMap Dl:=by rw[<-k];rfl
 simp only[b]at *;refine CO [8] ?_;exact fI d [.tmp 2] (by rw[q];exact eR)
def AX (out:List Int) (x:Int):List Int:=if EH out x<0 then out++[x] else out
def HW (l:List Int):List Int:=l.foldl AX []
def fsS:Ab:={ ins:=[LH],pre:=λ(m,_)=>M3 m,out:=λ(m,_)=>[.p DH (HW (Ay m))] }
attribute [go_sem] fsS
theorem bO {m:A7} (h:M3 m):(Ay m).length<=20000600002:=by
 obtain⟨-,h1,a,b⟩:=h;have e:Ay m=lV m.1 m.2.1 m.2.2.2.1 m.2.2.2.1.length++m.2.2.2.2.flatMap Dl:=by simp[Ay,lV]
 have c:=tN (tp:=m.1) (ix:=m.2.1) h1 a m.2.2.2.1.length;have d:=JZ Dl 2 m.2.2.2.2 λ_ _=>Of 2;rw[e,IF];omega
theorem iA {α:Type} (g:X->α->X) (l:List α) (d:α) (b:X) (h:k<l.length):(l.take (k+1)).foldl g b=g ((l.take k).foldl g b) (l.getD k d):=by
 rw[Ap l d h,AD0];rfl
theorem A20 (l:List Int):∀(out:List Int),(l.foldl AX out).length<=out.length+l.length:=by
 induction l with
 | nil=>intro out;simp
 | cons x l a =>
  intro out;have h1:=a (AX out x);have b:(AX out x).length<=out.length+1:=by
   unfold AX;split<;>simp
  simp only[ON,If];omega
theorem ABt:Ag Tryz.prog 46 fsS:=by
 refine fK [0,1,2,3,4,5,12,21] Tryz.func46 Tryz.ntmps46 (AF A1Z (AF Fh AH)) ?_;rintro w0 O0 ⟨m,u⟩ e-d;have d:M3 m:=d;have n:=bO d;simp only[fsS,AL];repeat'(first|exact a6|apply eS rfl|refine rX e ?_ ?_)
 .exact d
 have g:(m.1,m.2.1,m.2.2.1,m.2.2.2.1,m.2.2.2.2)=m:=rfl;simp only[g]at *;generalize Ay m=l at *;refine AI (ι:={i:Nat//i<=l.length}) (λi=>⟨[(3,.p DH l),(4,.sr 8 T3 0 ((l.take i.1).foldl AX []).length),(5,.p (.int .i64) (i.1:Int))],[(8,.arr 3 T3 ((l.take i.1).foldl AX []))]⟩) (λi=>l.length-i.1) ⟨0,DO _⟩ (AB [(8,.nm 8)] rfl rfl ?_ ?_) (λi=>?_)
 .refine eM ?_;rfl
 .refine eM ?_;rfl
 obtain⟨i,hi⟩:=i;have j:=A20 (l.take i) [];simp only[On,ABv]at j;have a:=λh:i<l.length=>iA AX l 0 [] h;generalize f:(l.take i).foldl AX []=A at *;simp only;repeat'(first|exact a6|apply eS rfl|apply AD|refine rX e ?_ ?_|refine rC ?_ ?_<;>intro c<;>try(cases c;done))
 .exact c
 .refine⟨a4,?_⟩;simp only[AP];omega
 .omega
 .have b:i<l.length:=by exact eV
  have a:=(a b).trans (At c);refine⟨⟨i+1,b⟩,a2,AB [(8,.nm 8)] rfl rfl ?_ ?_⟩
  .simp only[a];exact eN
  simp only[a];exact eN
 .omega
 .have b:i<l.length:=by exact eV
  have a:=(a b).trans (As (ACA.2 c));refine⟨⟨i+1,b⟩,a2,AB [(8,.nm 8)] rfl rfl ?_ ?_⟩
  .simp only[a];exact eN
  simp only[a];exact eN
 have k:HW l=A:=by rw[<-f,BY eV];rfl
 refine CO [8] ?_;exact fI e [.tmp 2] (by rw[k];exact eR)
end
section
attribute [go_sem] Qa Ih
def Au {β:Type} (g:Nat->Option β) (d:β):Nat->Nat->β
 | 0,_=>d
 | k+1,i=>match g i with
  | some r=>r
  | none=>Au g d k (i+1)
theorem Cn {a:Type} {g:Nat->Option a} {d r s:a} {n:Nat} (h:Au g d (n-i) i=s) (hi:i<n) (b:g i=some r):s=r:=by
 rw[show n-i=(n-(i+1))+1 by omega]at h;rw[<-h,Au,b]
theorem DP {a:Type} {g:Nat->Option a} {d s:a} {n:Nat} (h:Au g d (n-i) i=s) (hi:i<n) (b:g i=none):Au g d (n-(i+1)) (i+1)=s:=by
 rw[show n-i=(n-(i+1))+1 by omega]at h;rw[<-h,Au,b]
theorem EM {g:Nat->Option Z} {d s:Z} {n:Nat} (h:Au g d (n-i) i=s) (hi:n<=i):s=d:=by
 rw[show n-i=0 by omega]at h;exact h.symm
theorem DA {c:Type} {g:Nat->Option c} {d:c} (b:∀i r,g i=some r->r≠d):∀k i,Au g d k i=d->∀j,i<=j->j<i+k->g j=none
 | 0,i,_,j,h1,f=>by omega
 | k+1,i,h,j,h1,f=>by
  cases a:g i with
  | some r=>rw[Au,a]at h;exact absurd h (b i r a)
  | none =>
   rw[Au,a]at h;by_cases e:j=i
   .rw[e];exact a
   exact DA b k (i+1) h j O1 O1
theorem G5 {a:Type} {g:Nat->Option a} {d:a}:∀k i,(∀j,i<=j->j<i+k->g j=none)->Au g d k i=d
 | 0,_,_=>rfl
 | k+1,i,h=>by
  rw[Au,h i (Of _) O1];exact G5 k (i+1) λj h1 b=>h j O1 O1
def nU (xs:List PO) (i:Nat):Option Int :=
 if BK (xs.getD i (ByteArray.empty,0)).1 true=false\/AK (xs.getD i (ByteArray.empty,0)).1 ⟨#[76,65,66,69,76]⟩=true then some 1
 else if 0<(i:Int)/\(CP (xs.getD i (ByteArray.empty,0)).1 (xs.getD (i-1) (ByteArray.empty,0)).1=true\/AK (xs.getD i (ByteArray.empty,0)).1 (xs.getD (i-1) (ByteArray.empty,0)).1=true) then some 3 else none
def Qm (e:FX):Int:=if BK e.1 false=true then Au (nU e.2.2) 0 e.2.2.length 0 else 1
def A9c:Ab:={ ins:=[T46],pre:=λ_=>True,out:=λ(e,_)=>[.p DG (Qm e)],lend:=true }
attribute [go_sem] A9c
theorem A9d:Ag Tryz.prog 89 A9c:=by
 refine fK [0,1,2,3,7,12,31,49] Tryz.func89 Tryz.ntmps89 (AF tG (AF V8 AH)) ?_;rintro w0 O0 ⟨⟨e,f,xs⟩,u⟩ b ⟨⟨-,-,g,-⟩,-⟩ -;simp only[AP]at g;simp only[A9c,AL];repeat'(first|exact a6|apply eS rfl|refine rX b ?_ ?_|refine rC ?_ ?_<;>intro a<;>try(cases a;done))
 .have h:Qm (e,f,xs)=1:=As (by rw[a];simp);exact fI b [.tmp 2] (by rw[h];exact eR)
 have hn:BK e false=true:=a;refine AI (ι:={i:Nat//i<=xs.length/\Au (nU xs) 0 (xs.length-i) i=Qm (e,f,xs)}) (λi=>⟨[(1,.bp 1 [] 0),(3,.p (.int .i64) (i.1:Int))],[(1,.box 46 true [.p T9 e,.p T3 f,.p T44 xs])]⟩) (λi=>xs.length-i.1) ⟨0,DO _,(At hn).symm⟩ (eW [(1,.nm 1)]) (λi=>?_)
 obtain⟨i,hi,d⟩:=i;have h1:((i:Int)-1).toNat=i-1:=by omega
 simp only;repeat'(first|exact a6|apply eS rfl|apply AD|refine rX b ?_ ?_|refine rC ?_ ?_<;>intro a<;>try(cases a;done))
 all_goals try simp only[h1]at a
 .exact⟨a,λ_=>a⟩
 .rw[Cn d eV (At a)];exact fI b [.tmp 2]
 .exact⟨λ_=>by exact eV,λ_=>by exact eV,λ_=>by exact eV⟩
 .rename_i c;rw[Cn d eV ((As (by rw[c.1,c.2];simp)).trans (At a))];exact fI b [.tmp 2]
 .omega
 .rename_i c;refine⟨⟨i+1,eV,DP d eV ((As (by rw[c.1,c.2];simp)).trans (As λq=>?_))⟩,a2,AB [(1,.nm 1)] rfl rfl ?_ ?_⟩
  .obtain⟨j,k⟩:=a q.1;rw[j,k]at q;simp at q
  .exact eN
  exact eN
 rw[EM d eV];exact fI b [.tmp 2]
def iB (a:List ByteArray) (i:Nat):Option Int:=if PP (a.getD i ByteArray.empty)=true then none else some 1
def Xu (a:List FX) (i:Nat):Option Int:=if Qm (a.getD i (ByteArray.empty,0,[]))=0 then none else some (Qm (a.getD i (ByteArray.empty,0,[])))
def bP (n:Int) (l:List Int) (i:Nat):Option Int:=if l.getD i 0<0\/n<=l.getD i 0 then some 2 else none
def nV (a:List ByteArray) (l:List Int) (i:Nat):Option Int:=if AK (a.getD (l.getD i 0).toNat ByteArray.empty) ⟨#[104]⟩=true then none else some 2
def Ec (m:A7):Int :=
 if 16<(m.2.2.2.1.length:Int)\/16<(m.2.2.2.2.length:Int)\/256<(m.2.2.1.length:Int) then 7
 else if Au (iB m.2.2.1) 0 m.2.2.1.length 0≠0 then 1
 else if Au (Xu m.2.2.2.1) 0 m.2.2.2.1.length 0≠0 then Au (Xu m.2.2.2.1) 0 m.2.2.2.1.length 0
 else if Au (bP m.2.2.1.length (Ay m)) 0 (Ay m).length 0≠0 then 2
 else Au (nV m.2.2.1 (HH m)) 0 (HH m).length 0
def nW:Ab:={ ins:=[LH],pre:=λ(m,_)=>M3 m,out:=λ(m,_)=>[.p DG (Ec m)] }
theorem tP (m:A7):∀x∈HH m,x∈Ay m:=by
 intro x a;simp only[HH,Ay,IS,ABQ,By,Ql,GU]at a ⊢;rcases a with (a|⟨e,b,a⟩)|a
 .exact .inl (.inl (.inl (by simpa using a)))
 .exact .inl (.inr ⟨e,b,.inl (by simpa using a)⟩)
 exact .inr a
theorem tQ {l:List Int} (h:Au (bP n l) 0 l.length 0=0):∀x∈l,0<=x/\x<n:=by
 intro x c;obtain⟨j,b,rfl⟩:=AAq.1 c;have h1:=DA (λi r a=>by unfold bP at a;split at a<;>cases a;decide) _ 0 h j (DO _) O1;unfold bP at h1;split at h1
 .cases h1
 rename_i q;have e:l.getD j 0=l[j]:=by simp[AS,b]
 rw[e]at q;omega
theorem A21:Ag Tryz.prog 45 nW:=by
 refine fK [0,1,2,3,4,5,6,7,8,9,25,30,39,44,54,61,78,84,95] Tryz.func45 Tryz.ntmps45 (AF A1Z (AF A9b (AF Tg (AF A9d AH)))) ?_;rintro w0 O0 ⟨⟨tp,ix,a,b,cs⟩,u⟩ e ⟨⟨-,-,⟨h0,-⟩,-,-⟩,-⟩ g;have g:M3 (tp,ix,a,b,cs):=g;obtain⟨-,h1,A,m⟩:=id g;simp only[AP]at h0;have h1:b.length<=200000:=h1;have m:cs.length<=200000:=m;have k:Ec (tp,ix,a,b,cs)=if 16<(b.length:Int)\/16<(cs.length:Int)\/256<(a.length:Int) then 7 else if Au (iB a) 0 a.length 0≠0 then 1 else if Au (Xu b) 0 b.length 0≠0 then Au (Xu b) 0 b.length 0
  else if Au (bP a.length (Ay (tp,ix,a,b,cs))) 0 (Ay (tp,ix,a,b,cs)).length 0≠0 then 2 else Au (nV a (HH (tp,ix,a,b,cs))) 0 (HH (tp,ix,a,b,cs)).length 0:=rfl
 have F:=bO g;have B:(HH (tp,ix,a,b,cs)).length<=600001:=by
  have I:=JZ Ql 1 b λ_ _=>Of 1;have J:=JZ Dl 2 cs λ_ _=>Of 2;simp only[HH,IF,If,ABv];omega
 simp only[nW,AL];repeat'(first|exact a6|apply eS rfl|refine rX e ?_ ?_|refine rC ?_ ?_<;>intro c<;>try(cases c;done))
 .rw[k,At O1];exact fI e [.tmp 2]
 rw[k,As O1];clear k;generalize t:Au (iB a) 0 a.length 0=V;generalize s:Au (Xu b) 0 b.length 0=R;generalize r:Ay (tp,ix,a,b,cs)=ol at *;generalize o:HH (tp,ix,a,b,cs)=f at *;have y:∀x∈f,x∈ol:=by rw[<-r,<-o];exact tP _
 generalize h:Au (bP a.length ol) 0 ol.length 0=C;generalize v:Au (nV a f) 0 f.length 0=H;refine AI (ι:={i:Nat//i<=a.length/\Au (iB a) 0 (a.length-i) i=V}) (λi=>⟨[(1,.bp 1 [] 0),(3,.p (.int .i64) (i.1:Int))],[(1,.box 27 true [.p T3 tp,.p T3 ix,.p CC a,.p G4 b,.p Hc cs])]⟩) (λi=>a.length-i.1) ⟨0,DO _,t⟩ (eW [(1,.nm 1)]) (λi=>?_)
 obtain⟨i,hi,d⟩:=i;simp only;repeat'(first|exact a6|apply eS rfl|apply AD|refine rX e ?_ ?_|refine rC ?_ ?_<;>intro c<;>try(cases c;done))
 .exact c
 .rw[Cn d eV (As (by rw[c];simp)),At dg];exact fI e [.tmp 2]
 .omega
 .exact⟨⟨i+1,eV,DP d eV (At c)⟩,a2,eW [(1,.nm 1)]⟩
 rw[EM d eV,As dg];clear t d;refine AI (ι:={j:Nat//j<=b.length/\Au (Xu b) 0 (b.length-j) j=R}) (λj=>⟨[(1,.bp 1 [] 0),(4,.p (.int .i64) (j.1:Int))],[(1,.box 27 true [.p T3 tp,.p T3 ix,.p CC a,.p G4 b,.p Hc cs])]⟩) (λj=>b.length-j.1) ⟨0,DO _,s⟩ (eW [(1,.nm 1)]) (λj=>?_)
 obtain⟨j,D,d⟩:=j;simp only;repeat'(first|exact a6|apply eS rfl|apply AD|refine rX e ?_ ?_|refine rC ?_ ?_<;>intro c<;>try(cases c;done))
 .exact c
 .rw[Cn d eV (As c),At c];exact fI e [.tmp 2]
 .omega
 .exact⟨⟨j+1,eV,DP d eV (At (by simpa using c))⟩,a2,eW [(1,.nm 1)]⟩
 .exact g
 simp only[r]at *;rw[EM d eV,As dg];clear s d;refine AI (ι:={l:Nat//l<=ol.length/\Au (bP a.length ol) 0 (ol.length-l) l=C}) (λl=>⟨[(1,.bp 1 [] 0),(6,.p DH ol),(7,.p (.int .i64) (l.1:Int))],[(1,.box 27 true [.p T3 tp,.p T3 ix,.p CC a,.p G4 b,.p Hc cs])]⟩) (λl=>ol.length-l.1) ⟨0,DO _,h⟩ (eW [(1,.nm 1)]) (λl=>?_)
 obtain⟨l,E,d⟩:=l;simp only;repeat'(first|exact a6|apply eS rfl|apply AD|refine rX e ?_ ?_|refine rC ?_ ?_<;>intro c<;>try(cases c;done))
 .exact⟨c,λ_=>c⟩
 .rw[Cn d eV (At c),At dg];exact fI e [.tmp 2]
 .omega
 .exact⟨⟨l+1,eV,DP d eV (As O1)⟩,a2,eW [(1,.nm 1)]⟩
 .exact g
 have n:=EM d eV;rw[n,As dg];have w:∀x∈f,0<=x/\x<(a.length:Int):=λx z=>tQ (h.trans n) x (y x z);simp only[o]at *;clear d h;refine AI (ι:={q:Nat//q<=f.length/\Au (nV a f) 0 (f.length-q) q=H}) (λq=>⟨[(1,.bp 1 [] 0),(8,.p DH f),(9,.p (.int .i64) (q.1:Int))],[(1,.box 27 true [.p T3 tp,.p T3 ix,.p CC a,.p G4 b,.p Hc cs])]⟩) (λq=>f.length-q.1) ⟨0,DO _,v⟩ (eW [(1,.nm 1)]) (λq=>?_)
 obtain⟨q,G,d⟩:=q;simp only;repeat'(first|exact a6|apply eS rfl|apply AD|refine rX e ?_ ?_|refine rC ?_ ?_<;>intro c<;>try(cases c;done))
 .refine⟨c,w _ ?_⟩;exact AG f 0 eV
 .rw[Cn d eV (As (by rw[c];simp))];exact fI e [.tmp 2]
 .omega
 .exact⟨⟨q+1,eV,DP d eV (At c)⟩,a2,eW [(1,.nm 1)]⟩
 rw[EM d eV];exact fI e [.tmp 2]
end
section
attribute [go_sem] nW
def nX (l:List Int) (i:Nat):Option Int:=if l.getD i 0=i then none else some 3
def FK (m:A7):Int:=if Ec m≠0 then Ec m else if (HW (Ay m)).length≠m.2.2.1.length then 3 else Au (nX (HW (Ay m))) 0 (HW (Ay m)).length 0
def SN:Ab:={ ins:=[LH],pre:=λ(m,_)=>M3 m,out:=λ(m,_)=>[.p DG (FK m)] }
theorem iC:Ag Tryz.prog 17 SN:=by
 refine fK [0,1,2,3,4,5,9,18,22,30] Tryz.func17 Tryz.ntmps17 (AF A21 (AF ABt AH)) ?_;rintro w0 O0 ⟨m,u⟩ b-d;have d:M3 m:=d;have j:=bO d;have h:=A20 (Ay m) [];have e:FK m=if Ec m≠0 then Ec m else if (HW (Ay m)).length≠m.2.2.1.length then 3 else Au (nX (HW (Ay m))) 0 (HW (Ay m)).length 0:=rfl
 have c:(m.1,m.2.1,m.2.2.1,m.2.2.2.1,m.2.2.2.2)=m:=rfl;have g:(Ay m).foldl AX []=HW (Ay m):=rfl;simp only[g,ABv]at h;simp only[SN,AL];repeat'(first|exact a6|apply eS rfl|refine rX b ?_ ?_|refine rC ?_ ?_<;>intro a<;>try(cases a;done))
 all_goals try simp only[c]at *
 .exact d
 .rw[e,At a];exact fI b [.tmp 2]
 .exact d
 .rename_i hz;have hz:Ec m=0:=by simpa using hz
  rw[e,As (by rw[hz];simp),At eV];exact fI b [.tmp 2]
 rename_i hz;have hz:Ec m=0:=by simpa using hz
 have hn:((HW (Ay m)).length:Int)=(m.2.2.1.length:Int):=by simpa using a
 rw[e,As (by rw[hz];simp),As O1];clear e;generalize HW (Ay m)=l at *;generalize f:Au (nX l) 0 l.length 0=S;refine AI (ι:={i:Nat//i<=l.length/\Au (nX l) 0 (l.length-i) i=S}) (λi=>⟨[(4,.p DH l),(5,.p (.int .i64) (i.1:Int))],[]⟩) (λi=>l.length-i.1) ⟨0,DO _,f⟩ (eW []) (λi=>?_)
 obtain⟨i,hi,c⟩:=i;simp only;repeat'(first|exact a6|apply eS rfl|apply AD|refine rX b ?_ ?_|refine rC ?_ ?_<;>intro a<;>try(cases a;done))
 .exact a
 .rw[Cn c eV (As a)];exact fI b [.tmp 2]
 .omega
 .exact⟨⟨i+1,eV,DP c eV (At (by simpa using a))⟩,a2,eW []⟩
 rw[EM c eV];exact fI b [.tmp 2]
def tR (f:List Int) (e:FX):FX:=(e.1,EH f e.2.1,e.2.2.map λa=>(a.1,EH f a.2))
def rnQ (f:List Int) (q:MD):MD:=(EH f q.1,EH f q.2)
def Db (m:A7):A7:=(EH (HW (Ay m)) m.1,EH (HW (Ay m)) m.2.1,(HW (Ay m)).map (λi=>m.2.2.1.getD i.toNat ByteArray.empty),m.2.2.2.1.map (tR (HW (Ay m))),m.2.2.2.2.map (rnQ (HW (Ay m))))
theorem nY (l:List Int):∀(out:List Int),∀x∈l.foldl AX out,x∈out\/x∈l:=by
 induction l with
 | nil=>intro out x a;exact .inl a
 | cons y l b =>
  intro out x a;rcases b (AX out y) x a with h|h
  .unfold AX at h;split at h
   .rcases IS.1 h with h|h
    .exact .inl h
    exact .inr (By.2 (.inl (oF.1 h)))
   exact .inl h
  exact .inr (GO _ h)
end
def BO (b:List Int) (i:Nat):Bool:=(b.getD (i / 64) 0).toNat.testBit (i % 64)
def U64 (x:Int):Prop:=0<=x/\x<18446744073709551616
theorem Fy {x:Int} (h:U64 x):(BitVec.ofInt 64 x).toNat=x.toNat:=by
 rw[BitVec.toNat_ofInt];have h1:=h.1;have a:=h.2;rw[Int.emod_eq_of_lt h1 (by simpa using a)]
theorem Qn {n:Nat} (h:n<18446744073709551616):IntKind.u64.wrap (n:Int)=n:=K7 (by rw[JP];omega)
theorem A68 {x:Int} (a:U64 x) (b:U64 y):C2 .or .u64 x y=((x.toNat ||| y.toNat:Nat):Int):=by
 have h1:(BitVec.ofInt IntKind.u64.bits x ||| BitVec.ofInt IntKind.u64.bits y).toNat=x.toNat ||| y.toNat:=by
  rw[BitVec.toNat_or];show (BitVec.ofInt 64 x).toNat ||| (BitVec.ofInt 64 y).toNat=_
  rw[Fy a,Fy b]
 unfold C2;simp only;rw[h1];have e:(18446744073709551616:Nat)=2 ^ 64:=by decide
 refine Qn ?_;rw[e];refine Nat.or_lt_two_pow ?_ ?_
 .have:=a.2;have:=a.1;omega
 have:=b.2;have:=b.1;omega
theorem Ii {x:Int} (a:U64 x) (b:U64 y):C2 .and .u64 x y=((x.toNat &&& y.toNat:Nat):Int):=by
 have h1:(BitVec.ofInt IntKind.u64.bits x &&& BitVec.ofInt IntKind.u64.bits y).toNat=x.toNat &&& y.toNat:=by
  rw[BitVec.toNat_and];show (BitVec.ofInt 64 x).toNat &&& (BitVec.ofInt 64 y).toNat=_;rw[Fy a,Fy b]
 unfold C2;simp only;rw[h1];refine Qn (AEq AEm ?_);have:=a.2;have:=a.1;omega
theorem SP {x:Int}:C2 .andNot .u64 x y=((BitVec.ofInt 64 x &&& ~~~BitVec.ofInt 64 y).toNat:Int):=by
 show IntKind.u64.wrap ((BitVec.ofInt 64 x &&& ~~~BitVec.ofInt 64 y).toNat:Int)=_;exact Qn (BitVec.isLt _)
theorem Th {x:Int} (d:U64 x) (e:U64 y) (h:C2 .andNot .u64 x y=0) {r:Nat} (c:r<64) (b:x.toNat.testBit r=true):y.toNat.testBit r=true:=by
 rw[SP]at h;have h1:(BitVec.ofInt 64 x &&& ~~~BitVec.ofInt 64 y).toNat=0:=by omega
 have a:(BitVec.ofInt 64 x &&& ~~~BitVec.ofInt 64 y).toNat.testBit r=false:=by rw[h1];exact Nat.zero_testBit r
 rw[ADy,BitVec.getLsbD_and,BitVec.getLsbD_not,<-ADy,<-ADy,Fy d,Fy e,b]at a;simpa[c] using a
theorem Ti {x:Int}:C2 .andNot .u64 x x=0:=by
 rw[SP];simp
theorem PQ {b:List Int}:∀ {n:Nat},∀k,Cs b n<=k->k<n->b.getD k 0=0
 | 0,k,_,h=>by omega
 | n+1,k,h1,a=>by
  unfold Cs at h1;split at h1
  .rename_i hz;by_cases hk:k=n
   .rw[hk];exact hz
   exact PQ k h1 O1
  omega
theorem Qo (b:List Int) (k:Nat):(BZ b).getD k 0=b.getD k 0:=by
 unfold BZ;by_cases h:k<Cs b b.length
 .simp[AS,AAA,h]
 have h1:(List.take (Cs b b.length) b).getD k 0=0:=by
  rw[AS,AAA,As h];rfl
 rw[h1];by_cases a:k<b.length
 .exact(PQ k O1 a).symm
 rw[AS,wS O1];rfl
theorem PR (b:List Int) (i:Nat):BO (BZ b) i=BO b i:=by unfold BO;rw[Qo]
def Ij (b:List Int):Prop:=∀x∈b,U64 x
theorem BV {b:List Int} (h:Ij b) (k:Nat):U64 (b.getD k 0):=by
 rw[AS];cases hh:b[k]? with
 | none=>exact⟨sc,sc⟩
 | some x=>exact h x (AC5 hh)
theorem PS {b:List Int} (h:Ij b):Ij (BZ b):=λx a=>h x (ABI a)
theorem H8 (b:List Int) (k:Nat):Ga b (k:Int)=b.getD k 0:=by
 unfold Ga;split
 .simp
 rename_i h;rw[AS,wS O1];rfl
theorem N0 (op:BinOp) (a b:List Int) {n k:Nat} (h:k<n):(Gn op a b n).getD k 0=C2 op .u64 (a.getD k 0) (b.getD k 0):=by
 unfold Gn;rw[AS,ABL,ACC h];show C2 op .u64 (a.getD k 0) (Ga b (k:Int))=_;rw[H8]
theorem bQ (h:E8 a b=true) (hk:k<a.length):C2 .andNot .u64 (a.getD k 0) (b.getD k 0)=0:=by
 unfold E8 SI BZ at h;have h1:(List.take (Cs (Gn .andNot a b a.length) (Gn .andNot a b a.length).length) (Gn .andNot a b a.length)).length=0:=by
  have:=AAv.1 h;omega
 rw[On,Eu]at h1;have d:=V9 (Gn .andNot a b a.length) a.length;have c:=PQ (b:=Gn .andNot a b a.length) (n:=a.length) k O1 hk;rw[N0 _ _ _ hk]at c;exact c
theorem M4 (ha:Ij a) (c:Ij b) (h:E8 a b=true) {i:Nat} (hi:BO a i=true):BO b i=true:=by
 by_cases hk:i / 64<a.length
 .exact Th (BV ha _) (BV c _) (bQ h hk) (AER _ dg) hi
 exfalso;unfold BO at hi;rw[AS,wS O1]at hi;simp at hi
theorem SQ {b:List Int}:∀ {n:Nat},(∀k,k<n->b.getD k 0=0)->Cs b n=0
 | 0,_=>rfl
 | n+1,h=>by
  unfold Cs;rw[At (h n O1)];exact SQ λk hk=>h k O1
theorem iD (a:List Int):E8 a a=true:=by
 unfold E8 SI BZ;have h1:Cs (Gn .andNot a a a.length) (Gn .andNot a a a.length).length=0:=by
  rw[Eu];exact SQ λk hk=>by rw[N0 _ _ _ hk];exact Ti
 rw[h1];rfl
theorem iE (a:List Int):DZ a a=true:=by unfold DZ;rw[iD];rfl
theorem A69 {b:List Int} (j:Ij b) (l:b.length=64) {x:Int} (h0:0<=x) (h1:x<=4095) (i:Nat):BO (yE b x) i=(BO b i||decide (x=(i:Int))):=by
 have d:Int.tdiv x 64=x / 64:=AD7 h0;have e:Int.tmod x 64=x % 64:=ADp h0;obtain⟨n,rfl⟩:∃n:Nat,x=(n:Int):=⟨x.toNat,O1⟩;have hs:Z0 .u64 1 ((n:Int) % 64)=((2 ^ (n % 64):Nat):Int):=by
  unfold Z0;have f:min ((n:Int) % 64).toNat IntKind.u64.bits=n % 64:=by
   have:((n:Int) % 64).toNat=n % 64:=by omega
   rw[this];have:IntKind.u64.bits=64:=rfl;omega
  rw[f,Int.one_mul];have:(2:Int) ^ (n % 64)=((2 ^ (n % 64):Nat):Int):=by simp
  rw[this];refine Qn ?_;have a:(2:Nat) ^ (n % 64)<2 ^ 64:=Nat.pow_lt_pow_right dg (AER _ dg);exact a
 have hu:U64 (Z0 .u64 1 ((n:Int) % 64)):=by
  rw[hs];have a:(2:Nat) ^ (n % 64)<2 ^ 64:=Nat.pow_lt_pow_right dg (AER _ dg);have g:(2:Nat) ^ 64=18446744073709551616:=by decide
  refine⟨AC8 _,?_⟩;rw[g]at a;exact oN.2 a
 have hn:((n:Int) / 64).toNat=n / 64:=by omega
 unfold yE BO;rw[d,e,hn];by_cases c:i / 64=n / 64
 .have k:n / 64<b.length:=by omega
  rw[c];have:(b.set (n / 64) (C2 .or .u64 (b.getD (n / 64) 0) (Z0 .u64 1 ((n:Int) % 64)))).getD (n / 64) 0=C2 .or .u64 (b.getD (n / 64) 0) (Z0 .u64 1 ((n:Int) % 64)):=by
   simp[AS,k]
  rw[this,A68 (BV j _) hu,hs];simp only[S8,Nat.testBit_or,Nat.testBit_two_pow]
  congr 1
  rw[AEf];omega
 have:(b.set (n / 64) (C2 .or .u64 (b.getD (n / 64) 0) (Z0 .u64 1 ((n:Int) % 64)))).getD (i / 64) 0=b.getD (i / 64) 0:=by
  simp[AS,ACs,Ne.symm c]
 rw[this];have:decide ((n:Int)=(i:Int))=false:=by
  rw[bY];intro h;exact c O1
 rw[this,AE2]
theorem A6a {b:List Int} (c:Ij b) (x:Int):Ij (yE b x):=by
 intro y a;unfold yE at a;rcases ACV a with h|h
 .exact c y h
 rw[h];have:=Nf .u64 ((BitVec.ofInt IntKind.u64.bits (b.getD (x.tdiv 64).toNat 0) ||| BitVec.ofInt IntKind.u64.bits (Z0 .u64 1 (x.tmod 64))).toNat:Int);rw[JP]at this;exact⟨this.1,by have:=this.2;show _<_;exact AEy this dg⟩
theorem A6b {l:List Int} (h:l.all okB=true) (i:Nat):BO (ofL l) i=decide ((i:Int)∈l)/\Ij (ofL l):=by
 have key:∀(l b:List Int),l.all okB=true->Ij b->b.length=64->BO (l.foldl yE b) i=(BO b i||decide ((i:Int)∈l))/\Ij (l.foldl yE b):=by
  intro l;induction l with
  | nil=>intro b _ a _;simp[a]
  | cons x l m =>
   intro b c a d;rw[ADh,An]at c;have e:=c.1;unfold okB at e;rw[lU,ABs,bY,bY]at e;obtain⟨f,g⟩:=m (yE b x) c.2 (A6a a x) (by simp[yE,d]);rw[ON];refine⟨?_,g⟩;rw[f,A69 a d O1 O1,Bool.or_assoc]
   congr 1
   rw[<-Bool.decide_or,AEf,By,eq_comm]
 have j:Ij (List.replicate 64 (0:Int)):=by
  intro y k;rw[(List.mem_replicate.1 k).2];exact⟨dg,dg⟩
 have h1:=key l (List.replicate 64 0) h j sc;refine⟨?_,h1.2⟩;unfold ofL;rw[h1.1];have:BO (List.replicate 64 (0:Int)) i=false:=by
  unfold BO;have:(List.replicate 64 (0:Int)).getD (i / 64) 0=0:=by
   rw[AS,ADg];split<;>rfl
  rw[this];simp
 rw[this,Bool.false_or]
theorem A23 {low all:List ByteArray} {n:Nat}:((i:Int)∈PN low all n)↔i<n/\Ac low (all.getD i ByteArray.empty)=true:=by
 unfold PN;rw[IN];constructor
 .rintro⟨j,a,e⟩;have:j=i:=by omega
  subst this;rw[ACB,AAn]at a;exact a
 rintro⟨h1,b⟩;exact⟨i,by rw[ACB,AAn];exact⟨h1,b⟩,rfl⟩
theorem A6c {low all:List ByteArray} {n:Nat} (hn:n<=4096):(PN low all n).all okB=true:=by
 rw[OF];intro x a;unfold PN at a;obtain⟨j,b,rfl⟩:=IN.1 a;rw[ACB,AAn]at b;unfold okB;rw[lU,ABs,bY,bY];exact⟨O1,O1⟩
theorem Bm {d:List AJ} {all:List ByteArray} (c:all.length<=4096) (s:ByteArray) (i:Nat):(BO (Ef d all s) i=true↔i<all.length/\Ac (C1 d s) (all.getD i ByteArray.empty)=true)/\Ij (Ef d all s)/\(Ef d all s).length<=64:=by
 have h1:=A6c (low:=C1 d s) (all:=all) c;have b:=A6b h1 i;have a:Ef d all s=BZ (ofL (PN (C1 d s) all all.length)):=by
  unfold Ef ofF;rw[At h1]
 refine⟨?_,?_,?_⟩
 .rw[a,PR,b.1,Is,A23]
 .rw[a];exact PS b.2
 rw[a];unfold BZ;have:=Qi (PN (C1 d s) all all.length);rw[On];omega
theorem Ja (d:List AJ) {t:ByteArray} (h:AK s t=true):Ar d s=Ar d t:=by
 have key:∀(l:List AJ) (k:Nat),C9 s k l=C9 t k l:=by
  intro l;induction l with
  | nil=>intro k;rfl
  | cons x l a =>
   intro k;simp only[C9];have:AK x.1 s=AK x.1 t:=by grind [AK,BQ,Bt]
   rw[this,a]
 exact key d 0
theorem Ad {α:Type} {l:List α} {d:α} (h:k<l.length):l.getD k d∈l:=by grind
theorem CJ {α:Type} {l:List α} (d:α) {x:α} (h:x∈l):∃k,k<l.length/\l.getD k d=x:=by
 obtain⟨k,hk,e⟩:=AAq.1 h;exact⟨k,hk,by rw[AS,AT hk];exact e⟩
theorem Jb {d:List AJ}:∀ {r:List AJ} {k:Nat},PJ d k r=0->∀j,j<r.length->¬Ar d (r.getD j d0).1<((k+j:Nat):Int)/\BK (r.getD j d0).1 false=true
 | [],_,_,j,a=>by simp at a
 | x :: r,k,h,j,a=>by
  simp only[PJ]at h;split at h
  .cases h
  rename_i h1;split at h
  .cases h
  rename_i b;cases j with
  | zero=>exact⟨b,by simpa using h1⟩
  | succ j =>
   have:=Jb h j (by simpa using a);have e:k+(j+1)=k+1+j:=by omega
   rw[e];exact this
theorem Qp (s:ByteArray):∀(l:List AJ) (k j:Nat),j<l.length->AK (l.getD j d0).1 s=true->C9 s k l<=((k+j:Nat):Int)
 | [],_,j,h,_=>by simp at h
 | x :: l,k,j,h,e=>by
  simp only[C9];split
  .omega
  rename_i h1;cases j with
  | zero=>exact absurd e h1
  | succ j =>
   have:=Qp s l (k+1) j (by simpa using h) e;omega
theorem M5 {d:List AJ} (h:Cj d=0) {j:Nat} (b:j<d.length):Ar d (d.getD j d0).1=(j:Int):=by
 have h1:=(Jb h j b).1;have a:=Qp (d.getD j d0).1 d 0 j b (B5 _);rw[ACf]at h1 a;have a:Ar d (d.getD j d0).1<=(j:Int):=a;omega
theorem M6 {d:List AJ} (h:Cj d=0) {x y:AJ} (a:x∈d) (b:y∈d) (e:AK x.1 y.1=true):x=y:=by
 obtain⟨i,hi,rfl⟩:=CJ d0 a;obtain⟨j,c,rfl⟩:=CJ d0 b;grind [M5,Ja]
theorem nZ (d:List AJ) (out:List ByteArray) (h:(Ia d out).1=true):∃x∈d,x.1=(Ia d out).2/\Ac out x.1=false/\J2 x out=true:=by
 have key:∀(l:List AJ) (s:Bool×ByteArray),(∀x∈l,x∈d)->(s.1=true->∃x∈d,x.1=s.2/\Ac out x.1=false/\J2 x out=true)->(l.foldl (JV out) s).1=true ->
   ∃x∈d,x.1=(l.foldl (JV out) s).2/\Ac out x.1=false/\J2 x out=true:=by
  intro l;induction l with
  | nil=>intro s _ hs h;exact hs h
  | cons y l e =>
   intro s a hs h;rw[ON]at h ⊢;refine e _ (λx c=>a x (by simp[c])) (λb=>?_) h;unfold JV at b ⊢;split
   .grind
   grind
 exact key d _ (λ_ h=>h) (λh=>by cases h) h
def PL (d:List AJ) (o:List ByteArray):Prop:=∀j,j<o.length->∃x∈d,x.1=o.getD j ByteArray.empty/\Ac (o.take j) x.1=false/\J2 x (o.take j)=true
theorem PL.snoc {d:List AJ} (h:PL d o) {x:AJ} (i:x∈d) (h1:Ac o x.1=false) (f:J2 x o=true):PL d (o++[x.1]):=by
 intro j g;by_cases a:j<o.length
 .obtain⟨y,k,b,c,e⟩:=h j a;grind
 grind
theorem WG {d:List AJ}:∀ {n:Nat} {o:List ByteArray},PL d o->PL d (JW d n o)
 | 0,_,h=>h
 | n+1,o,h=>by
  unfold JW;split
  .rename_i b;obtain⟨x,c,e,h1,a⟩:=nZ d o b;rw[<-e];exact WG (h.snoc c h1 a)
  exact h
theorem Yt (d:List AJ):PL d (Bw d):=WG λj a=>by simp at a
theorem PL.ok {d:List AJ} (h:PL d o):bJ d o:=by
 refine⟨λs hs=>?_,?_⟩
 .obtain⟨j,a,rfl⟩:=CJ ByteArray.empty hs;obtain⟨x,b,e,-⟩:=h j a;rw[<-e];exact Dk b
 rw[oS];intro i j hi a f;obtain⟨x,b,e,h1,-⟩:=h j a;have c:=Qf h1 o[i] (by rw[ADt];exact⟨i,O1,rfl⟩);grind
theorem n4 {n:Nat} {l:List Nat} (h:l.Nodup) (c:∀j∈l,j<n) (hn:n<=l.length) {k:Nat} (hk:k<n):k∈l:=by
 refine Do λb=>?_;have:=Dw n (k :: l) (AC2.2 ⟨b,h⟩) (λj a=>by
  rcases By.1 a with rfl|a
  .exact hk
  exact c j a)
 simp at this;omega
theorem n5 {d:List AJ} (f:d.length<=(Bw d).length) {x:AJ} (h:x∈d):∃s∈Bw d,AK s x.1=true:=by
 have a:=(Yt d).ok;have h1:=LM d a;have h0:=Dk h;have l:=Da d x.1;have b:=n4 (n:=d.length) h1 (λj c=>by
  obtain⟨s,hs,rfl⟩:=IN.1 c;have h1:=a.decl s hs;rcases Da d s with g|⟨_,g,_⟩<;>omega) (by simpa using f) (k:=(Ar d x.1).toNat) O1
 obtain⟨s,hs,e⟩:=IN.1 b;refine⟨s,hs,?_⟩;rcases Da d s with g|⟨_,_,i⟩
 .have:=a.decl s hs;omega
 grind [BQ,Bt]
def Gb (d:List AJ) (s:ByteArray):Nat:=(Bw d).findIdx λx=>AK x s
theorem Ik (d:List AJ) {t:ByteArray} (h:AK s t=true):Gb d s=Gb d t:=by grind [Gb,AK,BQ,Bt]
theorem LO {d:List AJ} (hn:Cj d=0) (o:d.length<=(Bw d).length) {x:AJ} (g:x∈d) (hs:Ac x.2.1 s=true):Gb d s<Gb d x.1:=by
 obtain⟨t,q,e⟩:=n5 o g;have c:Gb d x.1<(Bw d).length:=List.findIdx_lt_length_of_exists ⟨t,q,e⟩;have heq:AK ((Bw d)[Gb d x.1]) x.1=true:=List.findIdx_getElem (w:=c);obtain⟨y,r,a,-,j⟩:=Yt d (Gb d x.1) c;rw[AS,AT c]at a;have a:y.1=(Bw d)[Gb d x.1]:=a;rw[<-a]at heq;have z:=M6 hn r g heq;subst z;obtain⟨u,hu,h⟩:=aS.1 hs;have k:Ac ((Bw d).take (Gb d y.1)) u=true:=OF.1 j u hu;obtain⟨v,f,ev⟩:=aS.1 k;rw[ADt]at f;obtain⟨i,hi,rfl⟩:=f;have n:i<Gb d y.1:=by omega
 refine AEq ?_ n;refine Do λm=>?_;have b:=List.not_of_lt_findIdx (p:=λx=>AK x s) (xs:=Bw d) (i:=i) (by unfold Gb at m;omega);have l:AK ((Bw d)[i]) s=true:=BQ ev h;try simp only at b
 rw[l]at b;exact absurd b sc
def Xv (d:List AJ) (s x:ByteArray):Prop:=AK s x=true\/Gb d s<Gb d x
theorem yI {d:List AJ} (hn:Cj d=0) (f:d.length<=(Bw d).length) {c:ByteArray} (b:Xv d s c) (e:∀x∈o,Xv d s x) {x:AJ} (g:x∈d):∀y∈FU c o x,Xv d s y:=by
 intro y a;unfold FU at a;split at a
 .rename_i h;rw[An]at h;rcases IS.1 a with a|a
  .exact e y a
  have:y=x.1:=by simpa using a
  subst this;have h1:=LO hn f g h.1;right;rcases b with b|b
  .rw[Ik d b];exact h1
  omega
 exact e y a
theorem WH {d:List AJ} (hn:Cj d=0) (e:d.length<=(Bw d).length) {s c:ByteArray} (b:Xv d s c):∀ {l:List AJ} {o:List ByteArray},(∀x∈l,x∈d)->(∀x∈o,Xv d s x)->∀y∈l.foldl (FU c) o,Xv d s y
 | [],_,_,a=>a
 | x :: l,o,f,a=>by
  rw[ON];exact WH hn e b (λy g=>f y (by simp[g])) (yI hn e b a (f x sc))
theorem Tj {d:List AJ} (hn:Cj d=0) (b:d.length<=(Bw d).length) {s:ByteArray}:∀ {n i:Nat} {o:List ByteArray},(∀x∈o,Xv d s x)->∀y∈C0 d n i o,Xv d s y
 | 0,_,_,a=>a
 | n+1,i,o,a=>by
  unfold C0;split
  .rename_i hi;exact Tj hn b (WH hn b (a _ (Ad hi)) (λ_ h=>h) a)
  exact a
theorem A24 {c:ByteArray} {x:AJ} {y:ByteArray} (h:y∈o):y∈FU c o x:=by grind [FU]
theorem N1 {c:ByteArray} {y:ByteArray}:∀ {l:List AJ} {o:List ByteArray},y∈o->y∈l.foldl (FU c) o
 | [],_,h=>h
 | x :: l,o,h=>by rw[ON];exact N1 (A24 h)
theorem LP {d:List AJ} {y:ByteArray}:∀ {n i:Nat} {o:List ByteArray},y∈o->y∈C0 d n i o
 | 0,_,_,h=>h
 | n+1,i,o,h=>by
  unfold C0;split
  .exact LP (N1 h)
  exact h
theorem GK {l:List ByteArray} (h:x∈D9 l s):x∈l\/x=s:=by grind [D9]
theorem Ka {l:List ByteArray} (h:x∈l):x∈D9 l s:=by
 unfold D9;split
 .exact h
 have a:x∈l.take (Xi l s)\/x∈l.drop (Xi l s):=IS.1 (by rw[ADr];exact h);grind
theorem M7 {l:List ByteArray}:Ac (D9 l s) s=true:=by
 unfold D9;grind [JU,Xi,AK,Ac,B5]
theorem Fz {l:List ByteArray} (h:s∈l):Ac l s=true:=aS.2 ⟨s,h,B5 s⟩
theorem H9 {l:List ByteArray} (hs:∀x∈l,x∈m) (h:Ac l s=true):Ac m s=true:=by
 obtain⟨x,a,e⟩:=aS.1 h;exact aS.2 ⟨x,hs x a,e⟩
theorem WI:∀ {l o:List ByteArray} {x:ByteArray},x∈l.foldl D9 o->x∈o\/x∈l
 | [],_,_,h=>.inl h
 | y :: l,o,x,h=>by
  rw[ON]at h;rcases WI h with h|h
  .grind [GK]
  grind
theorem Yu:∀ {l o:List ByteArray} {x:ByteArray},x∈o->x∈l.foldl D9 o
 | [],_,_,h=>h
 | y :: l,o,x,h=>by rw[ON];exact Yu (Ka h)
theorem Qq:∀ {l o:List ByteArray} {x:ByteArray},x∈l->Ac (l.foldl D9 o) x=true
 | [],_,_,h=>by cases h
 | y :: l,o,x,h=>by
  rw[ON];rcases By.1 h with rfl|h
  .grind [H9,Yu,M7]
  exact Qq h
theorem PT {d:List AJ} (h:0<=Ar d s):Ac (C1 d s) s=true:=by
 unfold C1;rw[As O1];exact Qq (LP sc)
theorem WJ {d:List AJ} (hn:Cj d=0) (c:d.length<=(Bw d).length) (h:Ac (C1 d s) x=true):Xv d s x:=by
 obtain⟨y,a,e⟩:=aS.1 h;have b:Xv d s y:=by
  unfold C1 at a;split at a
  .cases a
  rcases WI a with a|a
  .cases a
  refine Tj hn c (λz hz=>?_) y a;have:z=s:=by simpa using hz
  rw[this];exact .inl (B5 s)
 rcases b with b|b
 .exact .inl (BQ b e)
 rw[Ik d e]at b;exact .inr b
theorem Dm {d:List AJ} (h:s∈AN d):∃x∈d,x.1=s:=by
 have key:∀(l:List AJ) (o:List ByteArray),s∈l.foldl (λo x=>D9 o x.1) o->s∈o\/∃x∈l,x.1=s:=by
  intro l;induction l with
  | nil=>intro o h;exact .inl h
  | cons x l a =>
   intro o h;rw[ON]at h;rcases a _ h with h|⟨y,b,e⟩
   .grind [GK]
   grind
 rcases key d [] h with h|h
 .cases h
 exact h
theorem PU {d:List AJ} {x:AJ} (h:x∈d):Ac (AN d) x.1=true:=by
 have b:∀(l:List AJ) (o:List ByteArray),∀y∈o,y∈l.foldl (λo x=>D9 o x.1) o:=by
  intro l;induction l with
  | nil=>intro o y h;exact h
  | cons x l a=>intro o y h;rw[ON];exact a _ y (Ka h)
 have key:∀(l:List AJ) (o:List ByteArray),x∈l->Ac (l.foldl (λo x=>D9 o x.1) o) x.1=true:=by
  intro l;induction l with
  | nil=>intro o h;cases h
  | cons y l a =>
   intro o h;rw[ON];rcases By.1 h with rfl|h
   .grind [H9,M7]
   exact a _ h
 exact key d [] h
theorem iG {d:List AJ} (hn:Cj d=0) (g:d.length<=(Bw d).length) (r:d.length<=256) {i j:Nat} (hi:i<(AN d).length) (f:j<(AN d).length)
  (h:DZ (Ef d (AN d) ((AN d).getD i ByteArray.empty)) (Ef d (AN d) ((AN d).getD j ByteArray.empty))=true):AK ((AN d).getD i ByteArray.empty) ((AN d).getD j ByteArray.empty)=true:=by
 have o:=EA d d.length;rw[tO]at o;have a:(AN d).length<=4096:=by omega
 generalize hs:(AN d).getD i ByteArray.empty=s at *;generalize b:(AN d).getD j ByteArray.empty=t at *;have p:0<=Ar d s:=by
  obtain⟨x,c,e⟩:=Dm (s:=s) (by rw[<-hs];exact Ad hi);rw[<-e];exact Dk c
 have q:0<=Ar d t:=by
  obtain⟨x,c,e⟩:=Dm (s:=t) (by rw[<-b];exact Ad f);rw[<-e];exact Dk c
 obtain⟨c1,k,-⟩:=Bm (d:=d) a s i;obtain⟨c2,l,-⟩:=Bm (d:=d) a t i;obtain⟨m,-,-⟩:=Bm (d:=d) a s j;obtain⟨n,-,-⟩:=Bm (d:=d) a t j;unfold DZ at h;rw[An]at h;have b1:=WJ hn g (c2.1 (M4 k l h.1 (c1.2 ⟨hi,by rw[hs];exact PT p⟩))).2;have b2:=WJ hn g (m.1 (M4 l k h.2 (n.2 ⟨f,by rw[b];exact PT q⟩))).2;rw[hs]at b1;rw[b]at b2;rcases b1 with b1|b1
 .exact Bt b1
 rcases b2 with b2|b2
 .exact b2
 omega
section
attribute [go_sem] bD I5
def tS (d:List AJ) (all:List ByteArray) (codes:List (List Int)) (b:List Int):Nat->Nat->List ByteArray->ByteArray ⊕ List ByteArray
 | 0,_,l=>.inr l
 | n+1,i,l=>if DZ (codes.getD i []) b=true then .inl (all.getD i ByteArray.empty) else tS d all codes b n (i+1) (if UH b (i:Int)=true then l++[all.getD i ByteArray.empty] else l)
def Yv (l:List ByteArray) (s:ByteArray) (i:Nat):ByteArray:=(if 0<(i:Int) then s++ByteArray.mk #[38] else s)++l.getD i ByteArray.empty
def iH (l:List ByteArray):ByteArray:=(List.range l.length).foldl (Yv l) ByteArray.empty
def HI (d:List AJ) (all:List ByteArray) (codes:List (List Int)) (b:List Int):ByteArray :=
 match tS d all codes b all.length 0 [] with
 | .inl s=>s
 | .inr l=>iH (BC d l)
theorem OY {d:List AJ} {x:ByteArray}:∀ {l o:List ByteArray},x∈l.foldl (FW d) o->x∈o\/x∈l
 | [],_,h=>.inl h
 | y :: l,o,h=>by
  rw[ON]at h;rcases OY h with h|h
  .unfold FW at h;split at h
   .rcases GK h with h|h
    .exact .inl h
    exact .inr (by simp[h])
   exact .inl h
  exact .inr (by simp[h])
theorem Hx {d:List AJ} {l:List ByteArray} {x:ByteArray} (h:x∈BC d l):x∈l:=by
 unfold BC Qh at h;obtain⟨i,hi,rfl⟩:=IN.1 h;rw[ACB,AAn]at hi;rcases OY (Ad (d:=ByteArray.empty) hi.1) with h|h
 .cases h
 exact h
theorem bR (d:List AJ) (l:List ByteArray):(BC d l).length<=l.length:=iN (gY _ _ _) (J3 d l)
theorem n6 {l:List ByteArray} (h:∀s∈l,s.size<=32) (k:Nat):(l.getD k ByteArray.empty).size<=32:=by
 rw[AS];cases hh:l[k]? with
 | none=>simp
 | some x=>exact h x (AC5 hh)
def Qr (l:List ByteArray) (n:Nat):ByteArray:=(List.range n).foldl (Yv l) ByteArray.empty
theorem PW (l:List ByteArray) (n:Nat):Qr l (n+1)=Yv l (Qr l n) n:=by
 unfold Qr;rw[ABV,AD0];rfl
theorem WK {l:List ByteArray} (h:∀s∈l,s.size<=32):∀n,(Qr l n).size<=33*n
 | 0=>by simp[Qr]
 | n+1=>by
  have h1:=WK h n;have a:=n6 h n;rw[PW];unfold Yv;split
  .rw[ADs,ADs];have:(ByteArray.mk #[38]).size=1:=rfl;omega
  rw[ADs];omega
def bS:Ab:={ ins:=[FT,CC,UG,Ek],pre:=λ(d,all,codes,b,_)=>Qd d/\List.length d<=256/\List.length all<=256/\List.length codes=List.length all/\(∀s∈(all:List ByteArray),s.size<=32)/\(∀x∈(codes:List (List Int)),x.length<=64)/\List.length b<=64,out:=λ(d,all,codes,b,_)=>[.p T9 (HI d all codes b)] }
theorem yJ:Ag Tryz.prog 83 bS:=by
 refine fK [0,1,2,3,8,9,10,11,12,16,24,31,45,49] Tryz.func83 Tryz.ntmps83 (AF x6 (AF A1H (AF WC AH))) ?_;rintro w0 O0 ⟨d,all,codes,b,u⟩ e-⟨hs,z,t,q,C,y,w⟩;have t:all.length<=256:=t;have q:codes.length=all.length:=q;simp only[bS,AL];repeat'(first|exact a6|apply eS rfl|refine rX e ?_ ?_)
 refine AI (ι:={x:Nat×List ByteArray//x.1<=all.length/\x.2.length<=x.1/\(∀s∈x.2,s.size<=32)/\tS d all codes b (all.length-x.1) x.1 x.2=tS d all codes b all.length 0 []}) (λx=>⟨[(0,.p FT d),(1,.p CC all),(2,.p UG codes),(3,.p Ek b),(9,.sr 38 T9 0 x.1.2.length),(10,.p (.int .i64) (x.1.1:Int))],[(38,.arr 9 T9 x.1.2)]⟩) (λx=>all.length-x.1.1) ⟨(0,[]),sc,sc,sc,rfl⟩ (eW [(38,.nil)]) (λx=>?_)
 obtain⟨⟨i,l⟩,hi,B,o,f⟩:=x;simp only at hi B o f;have r:i<all.length->tS d all codes b (all.length-i) i l=if DZ (codes.getD i []) b=true then .inl (all.getD i ByteArray.empty) else tS d all codes b (all.length-(i+1)) (i+1) (if UH b (i:Int)=true then l++[all.getD i ByteArray.empty] else l):=by
  intro h;rw[show all.length-i=(all.length-(i+1))+1 by omega];rfl
 simp only;repeat'(first|exact a6|apply eS rfl|apply AD|refine rX e ?_ ?_|refine rC ?_ ?_<;>intro a<;>try(cases a;done))
 .exact⟨by rw[q];exact a,iN (M2 y i) dg,iN w dg⟩
 .assumption
 .have c:i<all.length:=by exact eV
  have j:HI d all codes b=all.getD i ByteArray.empty:=by
   unfold HI;rw[<-f,r c,At a]
  exact fI e [.tmp 8] (by rw[j];exact eR)
 .have c:i<all.length:=by exact eV
  exact⟨oN.2 c,by simp only[AP];omega⟩
 .exact eV
 .have c:i<all.length:=by exact eV
  have hn:=r c;rw[As (by rw[‹DZ _ _=false›];simp),At a]at hn;refine⟨⟨(i+1,l++[all.getD i ByteArray.empty]),a2,by simp only[IF,oR];omega,?_,hn.symm.trans f⟩,a2,AB [(38,.nm 38)] rfl rfl ?_ ?_⟩
  .intro s hs;rcases IS.1 hs with hs|hs
   .exact o s hs
   have:s=all.getD i ByteArray.empty:=by simpa using hs
   rw[this];exact n6 C i
  .exact eN
  exact eN
 .exact eV
 .have c:i<all.length:=by exact eV
  have hn:=r c;rw[As (by rw[‹DZ _ _=false›];simp),As (by rw[a];simp)]at hn;exact⟨⟨(i+1,l),a2,a2,o,hn.symm.trans f⟩,a2,eW [(38,.nm 38)]⟩
 have j:HI d all codes b=iH (BC d l):=by
  unfold HI;rw[<-f];have:all.length-i=0:=by exact eV
  rw[this];rfl
 refine CO [38] ?_;repeat'(first|exact a6|apply eS rfl|refine rX e ?_ ?_)
 .exact⟨hs,z,O1⟩
 have v:∀s∈BC d l,s.size<=32:=λs h=>o s (Hx h);have E:=bR d l;have A:iH (BC d l)=Qr (BC d l) (BC d l).length:=rfl;rw[A]at j;generalize BC d l=m at *;refine AI (ι:={k:Nat//k<=m.length}) (λk=>⟨[(9,.p CC m),(11,.p T9 (Qr m k.1)),(12,.p (.int .i64) (k.1:Int))],[]⟩) (λk=>m.length-k.1) ⟨0,DO _⟩ (AB [] rfl rfl ?_ ?_) (λk=>?_)
 .exact eN
 .refine eM ?_;rfl
 obtain⟨k,hk⟩:=k;have hk:k<=m.length:=hk;have D:=WK v k;have n:=PW m k;have F:=n6 v k;unfold Yv at n;simp only;repeat'(first|exact a6|apply eS rfl|apply AD|refine rX e ?_ ?_|refine rC ?_ ?_<;>intro a<;>try(cases a;done))
 .have h1:(ByteArray.mk #[38]).size=1:=rfl;rw[h1];simp only[AP];exact eV
 .refine⟨a4,?_⟩;have h1:(ByteArray.mk #[38]).size=1:=rfl;rw[ADs,h1];simp only[AP];exact eV
 .exact eV
 .have g:k<m.length:=by exact eV
  rw[At a]at n;refine⟨⟨k+1,g⟩,a2,AB [] rfl rfl ?_ ?_⟩
  .exact eN
  simp only[n];exact eN
 .refine⟨a4,?_⟩;simp only[AP];exact eV
 .exact eV
 .have g:k<m.length:=by exact eV
  rw[As (ACA.2 a)]at n;refine⟨⟨k+1,g⟩,a2,AB [] rfl rfl ?_ ?_⟩
  .exact eN
  simp only[n];exact eN
 have g:k=m.length:=by exact eV
 rw[<-g]at j;exact fI e [.tmp 8] (by rw[j];exact eR)
end
section
attribute [go_sem] A1U bN bS bM
def F0 (x:AU) (out:List AU):Nat->Nat
 | 0=>0
 | n+1=>if GI x (out.getD n c0)=true then F0 x out n else n+1
def bT (out:List AU) (x:AU):List AU:=out.take (F0 x out out.length)++[x]++out.drop (F0 x out out.length)
def AZ (d:List AJ):List (List Int):=(AN d).map λs=>Ef d (AN d) s
def Gr (d:List AJ) (all:List ByteArray) (codes:List (List Int)) (out:List AU) (b:List Int):List AU:=bT out (HI d all codes b,b)
def SR (d:List AJ):List AU->List Int->List AU:=Gr d (AN d) (AZ d)
theorem PX (d:List AJ) (all:List ByteArray) (codes:List (List Int)):∀(l:List (List Int)) (o:List AU),(l.foldl (Gr d all codes) o).length=o.length+l.length
 | [],o=>by simp
 | b :: l,o=>by
  rw[ON,PX d all codes l];unfold Gr bT;simp only[IF,On,AD5,If,ABv];omega
theorem WL {d:List AJ} {all:List ByteArray} {codes:List (List Int)}:∀ {l:List (List Int)} {o:List AU},(∀c∈l,c.length<=64)->(∀y∈o,y.2.length<=64)->∀y∈l.foldl (Gr d all codes) o,y.2.length<=64
 | [],_,_,e=>e
 | b :: l,o,f,e=>by
  rw[ON];refine WL (λc g=>f c (by simp[g])) (λy a=>?_);unfold Gr bT at a;simp only[IS,oF]at a;rcases a with (a|a)|a
  .exact e y (ABI a)
  .rw[a];exact f b sc
  exact e y (ADf a)
theorem iI (x:AU) (out:List AU):∀n,F0 x out n<=n
 | 0=>Of _
 | n+1=>by
  unfold F0;split
  .exact Nat.le_succ_of_le (iI x out n)
  exact Of _
def AM (d:List AJ):List AU:=(A4 (AZ d)).foldl (SR d) []
def CK (d:List AJ):List AU×Int :=
 if BH d≠0 then ([],BH d) else if 256<(A4 (AZ d)).length then ([],7) else (AM d,0)
theorem n7 {b:Bool} (h:BK s b=true):s.size<=32:=by
 unfold BK at h;rw[An]at h;have h1:=h.1;unfold PH at h1;simp only[lU,ABs,bY]at h1;have:=h1.1.1.2;omega
theorem iJ {d:List AJ} (hn:Cj d=0):∀s∈AN d,s.size<=32:=by
 intro s hs;obtain⟨x,b,rfl⟩:=Dm hs;obtain⟨j,a,rfl⟩:=CJ d0 b;exact n7 (Jb hn j a).2
def LQ (d:List AJ) (n:Nat):List (List Int):=((AN d).take n).map λs=>Ef d (AN d) s
theorem n8 {d:List AJ} {n:Nat} (h:n<=(AN d).length):(LQ d n).length=n:=by simp[LQ,h]
theorem iK {d:List AJ} {n:Nat} (h:n<(AN d).length):LQ d (n+1)=LQ d n++[Ef d (AN d) ((AN d).getD n ByteArray.empty)]:=by
 unfold LQ;rw[Ap _ ByteArray.empty h,ABX];rfl
theorem n9 (d:List AJ):LQ d (AN d).length=AZ d:=by simp[LQ,AZ]
theorem oA (d:List AJ):(AZ d).length=(AN d).length:=by simp[AZ]
theorem PY {d:List AJ} (h:d.length<=256):∀c∈AZ d,c.length<=64:=by
 intro c a;unfold AZ at a;obtain⟨s,-,rfl⟩:=IN.1 a;have b:=EA d d.length;rw[tO]at b;exact(Bm (d:=d) (all:=AN d) O1 s 0).2.2
theorem iL {i:Nat}:∀ {n k:Nat} {l:List (List Int)},(∀c∈l,c.length<=64)->∀c∈Gq i n k l,c.length<=64
 | 0,_,_,h=>h
 | n+1,k,l,h=>by
  unfold Gq;split
  .exact iL (hJ h i k)
  exact h
theorem Qs:∀ {n i:Nat} {l:List (List Int)},(∀c∈l,c.length<=64)->∀c∈Ie n i l,c.length<=64
 | 0,_,_,h=>h
 | n+1,i,l,h=>by
  unfold Ie;split
  .exact Qs (iL h)
  exact h
theorem iM {out:List AU} {x y:AU}:y∈bT out x↔y=x\/y∈out:=by
 unfold bT;rw[IS,IS,oF];have h:=IS (a:=y) (s:=out.take (F0 x out out.length)) (t:=out.drop (F0 x out out.length));rw[ADr]at h;rw[h];constructor
 .rintro ((h|h)|h)
  .exact .inr (.inl h)
  .exact .inl h
  exact .inr (.inr h)
 rintro (h|h|h)
 .exact .inl (.inr h)
 .exact .inl (.inl h)
 exact .inr h
def ST:Ab:={ ins:=[FT],pre:=λ_=>True,out:=λ(d,_)=>[.p KU (CK d).1,.p DG (CK d).2] }
theorem Qt:Ag Tryz.prog 41 ST:=by
 refine fK [0,2,3,4,5,6,7,8,9,10,11,12,13,17,24,41,45,73] Tryz.func41 Tryz.ntmps41 (AF yC (AF Yl (AF A65 (AF yH (AF yJ (AF yF AH)))))) ?_;rintro w0 O0 ⟨d,u⟩ g - -;simp only[ST,AL];repeat'(first|exact a6|apply eS rfl|refine rX g ?_ ?_|refine rC ?_ ?_<;>intro a<;>try(cases a;done))
 .have h1:CK d=([],BH d):=by unfold CK;rw[At a]
  exact fI g [.tmp 2,.tmp 3] (by rw[h1];exact eR)
 .have i:BH d=0:=by simpa using a
  obtain⟨-,E,-⟩:=A2 i;exact iN E dg
 have i:BH d=0:=by simpa using a
 obtain⟨M,s,-,hn,-⟩:=A2 i;have F:=EA d d.length;rw[tO]at F;have N:=iJ hn;refine AI (ι:={n:Nat//n<=(AN d).length}) (λn=>⟨[(0,.p FT d),(5,.p CC (AN d)),(6,.sr 36 Ek 0 (LQ d n.1).length),(7,.p (.int .i64) (n.1:Int))],[(36,.arr 83 Ek (LQ d n.1))]⟩) (λn=>(AN d).length-n.1) ⟨0,DO _⟩ (AB [(36,.nil)] rfl rfl ?_ ?_) (λn=>?_)
 .refine eM ?_;rfl
 .refine eM ?_;rfl
 obtain⟨n,I⟩:=n;have Q:=n8 I;have hs:=λh=>iK (d:=d) (n:=n) h;simp only;repeat'(first|exact a6|apply eS rfl|apply AD|refine rX g ?_ ?_|refine rC ?_ ?_<;>intro a<;>try(cases a;done))
 .refine⟨a,⟨s,by dsimp only[Ty.den]at *;omega⟩,?_⟩;simp only[AP];dsimp only[Ty.den]at *;omega
 .exact eV
 .have w:n<(AN d).length:=by exact eV
  have e:=hs w;refine⟨⟨n+1,O1⟩,a2,AB [(36,.nm 36)] rfl rfl ?_ ?_⟩
  .simp only[e];exact eN
  simp only[e];exact eN
 have w:n=(AN d).length:=by exact eV
 subst w;rw[n9];have H:=oA d;have x:=PY s;have t:∀c∈A4 (AZ d),c.length<=64:=Qs x;refine CO [36] ?_;repeat'(first|exact a6|apply eS rfl|refine rX g ?_ ?_|refine rC ?_ ?_<;>intro a<;>try(cases a;done))
 .exact⟨O1,x⟩
 .have h1:CK d=([],7):=by
   unfold CK;rw[As (by rw[i];simp),At O1]
  exact fI g [.tmp 2,.tmp 3] (by rw[h1];exact eR)
 have D:CK d=((A4 (AZ d)).foldl (Gr d (AN d) (AZ d)) [],0):=by
  unfold CK;rw[As (by rw[i];simp),As O1];rfl
 generalize A4 (AZ d)=f at *;generalize AZ d=codes at *;generalize AN d=all at *;refine AI (ι:={k:Nat//k<=f.length}) (λk=>⟨[(0,.p FT d),(5,.p CC all),(6,.p UG codes),(8,.p UG f),(9,.sr 9 bA 0 ((f.take k.1).foldl (Gr d all codes) []).length),(10,.p (.int .i64) (k.1:Int))],[(9,.arr 112 bA ((f.take k.1).foldl (Gr d all codes) []))]⟩) (λk=>f.length-k.1) ⟨0,DO _⟩ (AB [(9,.nil)] rfl rfl ?_ ?_) (λk=>?_)
 .refine eM ?_;rfl
 .refine eM ?_;rfl
 obtain⟨k,hk⟩:=k;have C:=PX d all codes (f.take k) [];have O:(f.take k).length=k:=by rw[On];exact ADl hk
 have J:=WL (d:=d) (all:=all) (codes:=codes) (l:=f.take k) (o:=[]) (λc g=>t c (ABI g)) sc;have L:=λh:k<f.length=>E9 (Gr d all codes) f [] [] h;rw[O]at C;simp only[ABv,ACf]at C;generalize B:(f.take k).foldl (Gr d all codes) []=out at *;simp only;repeat'(first|exact a6|apply eS rfl|refine rX g ?_ ?_|refine rC ?_ ?_<;>intro a<;>try(cases a;done))
 .exact⟨a,⟨M,s,O1,H,N,x,M2 t k⟩,a⟩
 .have v:k<f.length:=by exact eV
  have e:=L v;have G:=M2 t k;generalize f.getD k []=b at *;unfold Gr at e;generalize HI d all codes b=nm at *;refine AI (ι:={q:Nat//q<=out.length/\F0 (nm,b) out q=F0 (nm,b) out out.length}) (λq=>⟨[(0,.p FT d),(5,.p CC all),(6,.p UG codes),(8,.p UG f),(9,.sr 9 bA 0 out.length),(10,.p (.int .i64) (k:Int)),(11,.bp 11 [] 0),(12,.p (.int .i64) (q.1:Int))],[(9,.arr 112 bA out),(11,.box 112 true [.p T9 nm,.p Ek b])]⟩) (λq=>q.1) ⟨out.length,Of _,rfl⟩ (eW [(9,.nm 9),(11,.nm 11)]) (λq=>?_)
  obtain⟨q,j,A⟩:=q;have j:q<=out.length:=j;simp only;repeat'(first|exact a6|apply eS rfl|apply AD|refine rX g ?_ ?_|refine rC ?_ ?_<;>intro a<;>try(cases a;done))
  .refine⟨λh=>by omega,λh=>by exact eV,λh=>⟨iN G dg,iN (J _ (AG out c0 (k:=((q:Int)-1).toNat) O1)) dg⟩⟩
  .omega
  .obtain⟨P,z⟩:=a;obtain⟨q,rfl⟩:∃r,q=r+1:=⟨q-1,O1⟩;have m:((q+1:Nat):Int)-1=(q:Int):=by omega
   refine⟨⟨q,O1,?_⟩,ACW q,AB [(9,.nm 9),(11,.nm 11)] rfl rfl ?_ ?_⟩
   .rw[<-A];rw[m,S8]at z;show _=if GI (nm,b) (out.getD q c0)=true then F0 (nm,b) out q else q+1
    rw[At z]
   .exact eN
   refine eM ?_;show (q:Int)+1-1=q;omega
  .refine⟨AAw.2 j,?_⟩;rw[On];simp only[AP];omega
  .rw[On];simp only[AP];omega
  .refine⟨AAw.2 j,?_⟩;rw[On,AD5];simp only[AP];omega
  .omega
  have K:F0 (nm,b) out q=q:=by
   cases q with
   | zero=>rfl
   | succ q =>
    have m:((q+1:Nat):Int)-1=(q:Int):=by omega
    have:=a O1;rw[m,S8]at this;show (if GI (nm,b) (out.getD q c0)=true then F0 (nm,b) out q else q+1)=q+1;rw[As (by rw[this];simp)]
  unfold bT at e;rw[<-A,K]at e;refine⟨⟨k+1,O1⟩,a2,AB [(9,.nm 80)] rfl rfl ?_ ?_⟩
  .refine eM ?_;exact e.symm
  refine eM ?_;have y:=AC4 List.length e;rw[IF,IF]at y;exact y.symm
 have v:k=f.length:=by exact eV
 rw[v,tO]at B;rw[B]at D;refine CO [9] ?_;exact fI g [.tmp 2,.tmp 3] (by rw[D];exact eR)
end
theorem Yw {d:List AJ}:∀ {l:List (List Int)} {o:List AU} {y:AU},y∈l.foldl (SR d) o↔y∈o\/∃b∈l,y=(HI d (AN d) (AZ d) b,b)
 | [],o,y=>by simp
 | b :: l,o,y=>by
  rw[ON,Yw];unfold SR Gr;rw[iM];simp only[By];constructor
  .rintro ((h|h)|⟨c,a,e⟩)
   .exact .inr ⟨b,.inl rfl,h⟩
   .exact .inl h
   exact .inr ⟨c,.inr a,e⟩
  rintro (h|⟨c,rfl|a,e⟩)
  .exact .inl (.inr h)
  .exact .inl (.inl e)
  exact .inr ⟨c,a,e⟩
theorem Dn {d:List AJ} {y:AU}:y∈AM d↔∃b∈A4 (AZ d),y=(HI d (AN d) (AZ d) b,b):=by
 unfold AM;rw[Yw];simp
theorem Il (d:List AJ):(AM d).length=(A4 (AZ d)).length:=by
 have h:=PX d (AN d) (AZ d) (A4 (AZ d)) [];rw[ABv,ACf]at h;exact h
theorem A25 {i k:Nat} {c:List Int} (h:c∈l):c∈Gp l i k:=by
 unfold Gp;split
 .exact IS.2 (.inl h)
 exact h
theorem iO {i:Nat} {c:List Int}:∀ {n k:Nat} {l:List (List Int)},c∈l->c∈Gq i n k l
 | 0,_,_,h=>h
 | n+1,k,l,h=>by
  unfold Gq;split
  .exact iO (A25 h)
  exact h
theorem iP {c:List Int}:∀ {n i:Nat} {l:List (List Int)},c∈l->c∈Ie n i l
 | 0,_,_,h=>h
 | n+1,i,l,h=>by
  unfold Ie;split
  .exact iP (iO h)
  exact h
theorem Jc (d:List AJ) {i:Nat} (h:i<(AN d).length):(AZ d).getD i []=Ef d (AN d) ((AN d).getD i ByteArray.empty):=by
 unfold AZ;simp[AS,h]
theorem tT {d:List AJ} (hn:Cj d=0) (f:d.length<=(Bw d).length) (c:d.length<=256) {j:Nat} (b:j<(AN d).length):∀(m i:Nat) (l:List ByteArray),i+m=(AN d).length->i<=j ->
  ∃s,tS d (AN d) (AZ d) ((AZ d).getD j []) m i l=.inl s/\AK s ((AN d).getD j ByteArray.empty)=true
 | 0,i,l,h,g=>by omega
 | m+1,i,l,h,g=>by
  unfold tS;split
  .rename_i a;refine⟨_,rfl,?_⟩;rw[Jc d O1,Jc d b]at a;exact iG hn f c O1 b a
  rename_i a;have k:i≠j:=by
   intro e;subst e;exact a (iE _)
  exact tT hn f c b m (i+1) _ O1 O1
theorem tU (s:ByteArray):∀(l:List AU) (k:Nat),LN s k l<((k+l.length:Nat):Int)
 | [],k=>by simp only[LN];omega
 | x :: l,k=>by
  simp only[LN];split
  .simp only[If];omega
  have:=tU s l (k+1);simp only[If];omega
theorem tV (s:ByteArray):∀(l:List AU) (k:Nat) (x:AU),x∈l->AK x.1 s=true->0<=LN s k l
 | [],_,_,h,_=>by cases h
 | y :: l,k,x,h,e=>by
  simp only[LN];split
  .omega
  rename_i a;rcases By.1 h with rfl|h
  .exact absurd e a
  exact tV s l (k+1) x h e
theorem Im (l:List AU) (s:ByteArray):BT l s<(l.length:Int):=by
 have:=tU s l 0;rw[ACf]at this;exact this
theorem HJ {d:List AJ} (h:BH d=0) (hs:Ac (AN d) s=true):0<=BT (AM d) s:=by
 obtain⟨-,b,-,hn,f⟩:=A2 h;obtain⟨t,g,e⟩:=aS.1 hs;obtain⟨j,c,rfl⟩:=CJ ByteArray.empty g;obtain⟨u,hu,a⟩:=tT hn f b c (AN d).length 0 [] O1 O1;have i:(AZ d).length=(AN d).length:=by simp[AZ]
 refine tV s (AM d) 0 (u,(AZ d).getD j []) ?_ (BQ a e);rw[Dn];refine⟨(AZ d).getD j [],iP (Ad O1),?_⟩;unfold HI;rw[hu]
theorem Jd {d:List AJ} (h:BH d=0) {x:AJ} (a:x∈d):0<=BT (AM d) x.1:=HJ h (PU a)
theorem Bd {d:List AJ} (h:(CK d).2=0):BH d=0/\(A4 (AZ d)).length<=256/\(CK d).1=AM d:=by
 unfold CK at h ⊢;split at h
 .rename_i h1;exact absurd h h1
 rename_i h1;split at h
 .cases h
 rename_i a;exact⟨Do h1,O1,by rw[As h1,As a]⟩
theorem tW {d:List AJ} (h:BH d=0):0<(AM d).length:=by
 obtain⟨-,-,a,-,-⟩:=A2 h;cases d with
 | nil=>cases a
 | cons x d =>
  have:=Jd h (x:=x) sc;have b:=Im (AM (x :: d)) x.1;omega
section
attribute [go_sem] tL
def A9e (l:List AU) (i k:Int) (m:Nat):Bool:=(m:Int)==i||(m:Int)==k||!Ly l k (m:Int)||!Ly l (m:Int) i
def yK (l:List AU) (i k:Int) (n:Nat):Bool:=(List.range n).all (A9e l i k)
def yL (l:List AU) (i:Int) (k:Nat):Bool:=!((k:Int)==i||!Ly l (k:Int) i)&&yK l i (k:Int) l.length
def OZ (l:List AU) (i:Int) (n:Nat):List Int:=((List.range n).filter λ(k:Nat)=>yL l i k).map λ(k:Nat)=>(k:Int)
def Yx (l:List AU) (i:Int):List Int:=OZ l i l.length
theorem oB (l:List AU) (i:Int) (n:Nat):OZ l i (n+1)=OZ l i n++if yL l i n=true then [(n:Int)] else []:=by
 unfold OZ;rw[ABV,ADG,ABX]
 congr 1
 rw[AC7,AE0];split<;>rfl
theorem yM (l:List AU) (i:Int) (n:Nat):(OZ l i n).length<=n:=by
 unfold OZ;rw[OR];exact iN (ADb _ _) sc
theorem yN (l:List AU) (i k:Int) (n:Nat):yK l i k (n+1)=(yK l i k n&&A9e l i k n):=by
 unfold yK;rw[ABV,AE1];simp
def A26:Ab:={ ins:=[KU,T3],pre:=λ(l,i,_)=>((0:Int)<=i/\i<(List.length l:Int))/\List.length l<=256/\(∀x∈(l:List AU),x.2.length<=64),out:=λ(l,i,_)=>[.p DH (Yx l i)] }
theorem A6d:Ag Tryz.prog 42 A26:=by
 refine fK [0,1,4,5,6,7,8,12,24,28,56] Tryz.func42 Tryz.ntmps42 (AF tM AH) ?_;rintro w0 O0 ⟨l,i,u⟩ c-⟨hi,g,o⟩;have g:l.length<=256:=g;have f:∀x∈(l:List AU),x.2.length<=100000:=λx h=>iN (o x h) dg;simp only[A26,AL];repeat'(first|exact a6|apply eS rfl|refine rX c ?_ ?_)
 refine AI (ι:={k:Nat//k<=l.length}) (λk=>⟨[(0,.p KU l),(1,.p T3 i),(5,.sr 60 T3 0 (OZ l i k.1).length),(6,.p (.int .i64) (k.1:Int))],[(60,.arr 3 T3 (OZ l i k.1))]⟩) (λk=>l.length-k.1) ⟨0,DO _⟩ (AB [(60,.nil)] rfl rfl ?_ ?_) (λk=>?_)
 .refine eM ?_;rfl
 .refine eM ?_;rfl
 obtain⟨k,hk⟩:=k;have hk:k<=l.length:=hk;have hz:=yM l i k;have hs:=oB l i k;simp only;repeat'(first|exact a6|apply eS rfl|apply AD|refine rX c ?_ ?_|refine rC ?_ ?_<;>intro a<;>try(cases a;done))
 .intro h;exact⟨a4,hi,f⟩
 .exact eV
 .have e:k<l.length:=by exact eV
  have b:yL l i k=false:=by
   unfold yL;rw[ACj];left;rw[ADH,AAo,AAv,lU];exact a
  rw[b,As sc,AAW]at hs;refine⟨⟨k+1,O1⟩,a2,AB [(60,.nm 60)] rfl rfl ?_ ?_⟩
  .simp only[hs];exact eN
  simp only[hs];exact eN
 .have e:k<l.length:=by exact eV
  have b:yL l i k=yK l i (k:Int) l.length:=by
   unfold yL;rw[show ((k:Int)==i||!Ly l (k:Int) i)=false by
    rw[ABs,ACX,ADH];exact a]
   rfl
  refine AI (ι:={m:Nat//m<=l.length}) (λm=>⟨[(0,.p KU l),(1,.p T3 i),(5,.sr 60 T3 0 (OZ l i k).length),(6,.p (.int .i64) (k:Int)),(7,.p .bool (yK l i (k:Int) m.1)),(8,.p (.int .i64) (m.1:Int))],[(60,.arr 3 T3 (OZ l i k))]⟩) (λm=>l.length-m.1) ⟨0,DO _⟩ (AB [(60,.nm 60)] rfl rfl ?_ ?_) (λm=>?_)
  .exact eN
  .refine eM ?_;rfl
  obtain⟨m,j⟩:=m;have j:m<=l.length:=j;have n:=yN l i (k:Int) m;simp only;repeat'(first|exact a6|apply eS rfl|apply AD|refine rX c ?_ ?_|refine rC ?_ ?_<;>intro a<;>try(cases a;done))
  .exact⟨λh=>⟨a4,a,f⟩,λh=>⟨a,hi,f⟩⟩
  .exact eV
  .have d:m<l.length:=by exact eV
   refine⟨⟨m+1,O1⟩,a2,AB [(60,.nm 60)] rfl rfl ?_ ?_⟩
   .exact eN
   simp only[n];unfold A9e;exact eN
  .simp only[AP];dsimp only[Ty.den]at *;omega
  .exact eV
  .have d:m=l.length:=by exact eV
   subst d;rw[b,At a]at hs;refine⟨⟨k+1,O1⟩,a2,AB [(60,.nm 60)] rfl rfl ?_ ?_⟩
   .simp only[hs];exact eN
   simp only[hs];exact eN
  .exact eV
  have d:m=l.length:=by exact eV
  subst d;rw[b,As (by rw[a];simp),AAW]at hs;refine⟨⟨k+1,O1⟩,a2,AB [(60,.nm 60)] rfl rfl ?_ ?_⟩
  .simp only[hs];exact eN
  simp only[hs];exact eN
 have e:k=l.length:=by exact eV
 subst e;refine CO [60] ?_;exact fI c [.tmp 4] (by unfold Yx;exact eR)
end
abbrev FV:=ByteArray×ByteArray
abbrev f0V:FV:=(ByteArray.empty,ByteArray.empty)
def tX (all:List ByteArray) (l:List FV):Nat->List FV->Int
 | _,[]=>0
 | k,x :: r=>if BK x.1 true=false then 1 else if ((l.take k).any λy=>AK y.1 x.1)=true then 4 else if Ac all x.2=false then 5 else tX all l (k+1) r
def WM (all:List ByteArray):List AJ->Int
 | []=>0
 | x :: l=>if tX all x.2.2 0 x.2.2≠0 then tX all x.2.2 0 x.2.2 else WM all l
def LR (d:List AJ):Int:=WM (AN d) d
theorem A27 (all:List ByteArray) (l:List FV) (h:k<l.length):tX all l k (l.drop k)=if BK (l.getD k f0V).1 true=false then 1 else if ((l.take k).any λy=>AK y.1 (l.getD k f0V).1)=true then 4 else if Ac all (l.getD k f0V).2=false then 5 else tX all l (k+1) (l.drop (k+1)):=by
 rw[OS h];have e:l.getD k f0V=l[k]:=by simp[AS,h]
 rw[e];rfl
theorem yO (all:List ByteArray) (l:List AJ) (h:k<l.length):WM all (l.drop k)=if tX all (l.getD k d0).2.2 0 (l.getD k d0).2.2≠0 then tX all (l.getD k d0).2.2 0 (l.getD k d0).2.2 else WM all (l.drop (k+1)):=by
 rw[OS h];have e:l.getD k d0=l[k]:=by simp[AS,h]
 rw[e];rfl
def oC:Ab:={ ins:=[FT],pre:=λ(d,_)=>List.length d<=256,out:=λ(d,_)=>[.p DG (LR d)] }
theorem A28:Ag Tryz.prog 116 oC:=by
 refine fK [0,2,3,4,5,6,7,13,24,33,36,49,57] Tryz.func116 Tryz.ntmps116 (AF Yl (AF V8 (AF HG AH))) ?_;rintro w0 O0 ⟨d,u⟩ c ⟨⟨x,v⟩,-⟩ j;have j:d.length<=256:=j;simp only[oC,AL];repeat'(first|exact a6|apply eS rfl|refine rX c ?_ ?_)
 .exact iN j dg
 have w:LR d=WM (AN d) d:=rfl;rw[w];generalize AN d=all at *;refine AI (ι:={i:Nat//i<=d.length/\WM all (d.drop i)=WM all d}) (λi=>⟨[(0,.p FT d),(3,.p CC all),(4,.p (.int .i64) (i.1:Int))],[]⟩) (λi=>d.length-i.1) ⟨0,DO _,rfl⟩ (eW []) (λi=>?_)
 obtain⟨i,hi,hf⟩:=i;simp only;repeat'(first|exact a6|apply eS rfl|refine rX c ?_ ?_|refine rC ?_ ?_<;>intro a<;>try(cases a;done))
 .exact a
 .have o:i<d.length:=by exact eV
  rw[yO all d o]at hf;have A:(d.getD i d0).2.2.length<=AP:=(v _ (AG d d0 o)).2.2.1;have z:(List.getD d i (ByteArray.empty,[],[])).2.2=(d.getD i d0).2.2:=rfl;rw[z];generalize (d.getD i d0).2.2=l at *;simp only[AP]at A;refine AI (ι:={k:Nat//k<=l.length/\tX all l k (l.drop k)=tX all l 0 l}) (λk=>⟨[(0,.p FT d),(3,.p CC all),(4,.p (.int .i64) (i:Int)),(5,.p T52 l),(6,.p (.int .i64) (k.1:Int))],[]⟩) (λk=>l.length-k.1) ⟨0,DO _,rfl⟩ (eW []) (λk=>?_)
  obtain⟨k,hk,b⟩:=k;have r:=λh:k<l.length=>A27 all l h;simp only;repeat'(first|exact a6|apply eS rfl|apply AD|refine rX c ?_ ?_|refine rC ?_ ?_<;>intro a<;>try(cases a;done))
  .exact a
  .have e:k<l.length:=by exact eV
   rw[r e,At a]at b;rw[<-b,At dg]at hf;exact fI c [.tmp 2] (by rw[<-hf];exact eR)
  .have e:k<l.length:=by exact eV
   have q:(k:Int)<(l.length:Int):=oN.2 e;rw[r e,As (by rw[a];simp)]at b;refine AI (ι:={m:Nat//m<=k/\((l.take m).any λy=>AK y.1 (l.getD k f0V).1)=false}) (λm=>⟨[(0,.p FT d),(3,.p CC all),(4,.p (.int .i64) (i:Int)),(5,.p T52 l),(6,.p (.int .i64) (k:Int)),(7,.p (.int .i64) (m.1:Int))],[]⟩) (λm=>k-m.1) ⟨0,DO _,rfl⟩ (eW []) (λm=>?_)
   obtain⟨m,B,g⟩:=m;have s:=λh:m<l.length=>Nx l f0V (λy=>AK y.1 (l.getD k f0V).1) h;simp only;repeat'(first|exact a6|apply eS rfl|apply AD|refine rX c ?_ ?_|refine rC ?_ ?_<;>intro a<;>try(cases a;done))
   .have h1:(m:Int)<(k:Int):=a;exact⟨eV,q⟩
   .have f:m<k:=oN.1 a4;have n:=s O1;have t:((l.take k).any λy=>AK y.1 (l.getD k f0V).1)=true:=by
     rw[aS];exact⟨l.getD m f0V,by
      rw[ADt];refine⟨m,O1,?_⟩;simp[AS,show m<l.length by omega],a⟩
    rw[At t]at b;rw[<-b,At dg]at hf;exact fI c [.tmp 2] (by rw[<-hf];exact eR)
   .omega
   .have f:m<k:=oN.1 a4;have n:=s O1;refine⟨⟨m+1,O1,?_⟩,a2,AB [] rfl rfl ?_ ?_⟩
    .rw[n,g];exact a
    .exact eN
    exact eN
   .exact q
   .have f:m=k:=by omega
    subst f;rw[As (by rw[g];simp),At a]at b;rw[<-b,At dg]at hf;exact fI c [.tmp 2] (by rw[<-hf];exact eR)
   .have:=x;simp only[AP]at this;omega
   have f:m=k:=by omega
   subst f;rw[As (by rw[g];simp),As (by rw[a];simp)]at b;exact⟨⟨m+1,O1,b⟩,a2,eW []⟩
  .omega
  have e:l.drop k=[]:=NO (AAw.1 a);rw[e]at b;rw[<-b,As (by simp[tX])]at hf;exact⟨⟨i+1,O1,hf⟩,a2,eW []⟩
 have e:d.drop i=[]:=NO eV;rw[e]at hf;exact fI c [.tmp 2] (by rw[<-hf];first|exact eR|refine MJ ?_;rfl)
section
attribute [go_sem] bL
def Hn (s:ByteArray) (o:List ByteArray) (x:AJ):List ByteArray:=if (DJ x s).2=true then D9 o x.1 else o
def Fi (d:List AJ) (s:ByteArray):List ByteArray:=d.foldl (Hn s) []
theorem oD (s:ByteArray) (d:List AJ) (k:Nat):(Fi (d.take k) s).length<=k:=by
 have key:∀(l:List AJ) (o:List ByteArray),(l.foldl (Hn s) o).length<=o.length+l.length:=by
  intro l;induction l with
  | nil=>intro o;simp
  | cons x l b =>
   intro o;have h1:=b (Hn s o x);have a:(Hn s o x).length<=o.length+1:=by
    unfold Hn;split
    .exact My o x.1
    omega
   simp only[ON,If];omega
 have h1:=key (d.take k) [];have a:=ACa k d;unfold Fi;simp only[ABv]at h1;omega
def Dp (d:List AJ) (s:ByteArray):ByteArray×Bool:=if (BC d (Fi d s)).length=1 then ((BC d (Fi d s)).getD 0 ByteArray.empty,true) else (ByteArray.empty,false)
def bU:Ab:={ ins:=[FT,T9],pre:=λ(d,_,_)=>Qd d/\List.length d<=256,out:=λ(d,s,_)=>[.p T9 (Dp d s).1,.p .bool (Dp d s).2] }
theorem iQ:Ag Tryz.prog 86 bU:=by
 refine fK [0,1,4,5,6,7,9,10,14,26,39] Tryz.func86 Tryz.ntmps86 (AF g8 (AF SH (AF WC AH))) ?_;rintro w0 O0 ⟨d,s,u⟩ c-⟨l,f⟩;have f:d.length<=256:=f;simp only[bU,AL];repeat'(first|exact a6|apply eS rfl|refine rX c ?_ ?_)
 refine AI (ι:={i:Nat//i<=d.length}) (λi=>⟨[(0,.p FT d),(1,.p T9 s),(6,.p CC (Fi (d.take i.1) s)),(7,.p (.int .i64) (i.1:Int))],[]⟩) (λi=>d.length-i.1) ⟨0,DO _⟩ (AB [] rfl rfl ?_ ?_) (λi=>?_)
 .exact eN
 .refine eM ?_;rfl
 obtain⟨i,hi⟩:=i;have hi:i<=d.length:=hi;have hn:=oD s d i;have hs:=λh:i<d.length=>E9 (Hn s) d d0 [] h;have j:∀e,Fi e s=e.foldl (Hn s) []:=λ_=>rfl;rw[<-j,<-j]at hs;unfold Hn at hs;simp only;repeat'(first|exact a6|apply eS rfl|apply AD|refine rX c ?_ ?_|refine rC ?_ ?_<;>intro a<;>try(cases a;done))
 .exact a
 .exact⟨a4,O1⟩
 .exact eV
 .have b:i<d.length:=by exact eV
  have e:=hs b;rw[At a]at e;refine⟨⟨i+1,O1⟩,a2,AB [] rfl rfl ?_ ?_⟩
  .exact eN
  simp only[e];exact eN
 .exact eV
 .have b:i<d.length:=by exact eV
  have e:=hs b;rw[As (by rw[a];simp)]at e;refine⟨⟨i+1,O1⟩,a2,AB [] rfl rfl ?_ ?_⟩
  .exact eN
  simp only[e];exact eN
 .exact⟨l,f,O1⟩
 .have b:d.take i=d:=BY eV;rw[b]at a ⊢;have h1:Dp d s=(ByteArray.empty,false):=by
   unfold Dp;rw[As O1]
  exact fI c [.tmp 4,.tmp 5] (by rw[h1];first|exact eR|refine MJ ?_;first|rfl|exact⟨rfl,rfl⟩)
 .have g:((BC d (Fi (d.take i) s)).length:Int)=1:=by simpa using a
  have k:(0:Int)<((BC d (Fi (d.take i) s)).length:Int):=by rw[g];decide
  exact k
 have b:d.take i=d:=BY eV;rw[b]at a ⊢;have g:((BC d (Fi d s)).length:Int)=1:=by simpa using a
 have h1:Dp d s=((BC d (Fi d s)).getD 0 ByteArray.empty,true):=by
  unfold Dp;rw[At O1]
 exact fI c [.tmp 4,.tmp 5] (by rw[h1];exact eR)
end
section
attribute [go_sem] Um
def Kb (l:List AU) (t:Int) (s:ByteArray) (o:List Int×Bool) (x:AJ):List Int×Bool :=
 if (!(DJ x s).2||!Ly l (BT l x.1) t)=true then o else (El o.1 (l.getD (BT l (DJ x s).1).toNat c0).2,true)
def Fj (d:List AJ) (l:List AU) (t:Int) (s:ByteArray):List Int×Bool:=d.foldl (Kb l t s) ((l.getD 0 c0).2,false)
def oE (d:List AJ) (l:List AU):Prop:=(∀x∈d,0<=BT l x.1)/\∀x∈d,∀y∈x.2.2,0<=BT l y.2
theorem iR (s:ByteArray):∀(l:List (ByteArray×ByteArray)),(gZ s l).2=true->∃y∈l,y.2=(gZ s l).1
 | [],h=>by cases h
 | x :: l,h=>by
  simp only[gZ]at h ⊢;split at h
  .rename_i h1;rw[At h1];exact⟨x,sc,rfl⟩
  rename_i h1;rw[As h1];obtain⟨y,a,e⟩:=iR s l h;exact⟨y,by simp[a],e⟩
theorem oE.value {d:List AJ} {l:List AU} (h:oE d l) {x:AJ} (b:x∈d) (a:(DJ x s).2=true):0<=BT l (DJ x s).1:=by
 obtain⟨y,c,e⟩:=iR s x.2.2 a;have:=h.2 x b y c;rw[e]at this;exact this
theorem A29 {l:List AU} (t:Int) (s:ByteArray) (x:AJ) {o:List Int×Bool} (h:o.1.length<=64):(Kb l t s o x).1.length<=64:=by
 unfold Kb;split
 .exact h
 exact iN (g9 _ _) h
theorem WN {l:List AU} (t:Int) (s:ByteArray):∀(d:List AJ) {o:List Int×Bool},o.1.length<=64->(d.foldl (Kb l t s) o).1.length<=64
 | [],_,h=>h
 | x :: d,_,h=>by rw[ON];exact WN t s d (A29 t s x h)
theorem iT (s:ByteArray):∀(l:List AU) (k:Nat),LN s k l<((k+l.length:Nat):Int)
 | [],k=>by simp only[LN];omega
 | x :: l,k=>by
  simp only[LN];split
  .simp only[If];omega
  have:=iT s l (k+1);simp only[If];omega
theorem Tk (l:List AU) (s:ByteArray):BT l s<(l.length:Int):=by
 have:=iT s l 0;rw[ACf]at this;exact this
def A6f:Ab:={ ins:=[FT,KU,T3,T9],pre:=λ(d,l,t,_,_)=>oE d l/\((0:Int)<=t/\t<(List.length l:Int))/\List.length l<=256/\(∀x∈(l:List AU),x.2.length<=64),out:=λ(d,l,t,s,_)=>[.p Ek (Fj d l t s).1,.p .bool (Fj d l t s).2] }
theorem A2a:Ag Tryz.prog 77 A6f:=by
 refine fK [0,1,2,3,8,9,10,11,12,13,14,22,48] Tryz.func77 Tryz.ntmps77 (AF g8 (AF Yp (AF tM (AF A1J AH)))) ?_;rintro w0 O0 ⟨d,l,t,s,u⟩ f ⟨⟨A,G⟩,-⟩ ⟨r,j,n,w⟩;have n:l.length<=256:=n;have F:∀x∈(l:List AU),x.2.length<=100000:=λx h=>iN (w x h) dg;have q:0<List.length l:=oN.1 (AEy j.1 j.2);simp only[AP]at A;simp only[A6f,AL];repeat'(first|exact a6|apply eS rfl|refine rX f ?_ ?_)
 .exact oN.2 q
 have m:Fj d l t s=d.foldl (Kb l t s) ((l.getD 0 c0).2,false):=rfl;have y:(l.getD 0 c0).2.length<=64:=w _ (AG l c0 q);have z:(List.getD l 0 (ByteArray.empty,[])).2=(l.getD 0 c0).2:=rfl;rw[z];generalize (l.getD 0 c0).2=c at *;refine AI (ι:={i:Nat//i<=d.length}) (λi=>⟨[(0,.p FT d),(1,.p KU l),(2,.p T3 t),(3,.p T9 s),(10,.p .bool ((d.take i.1).foldl (Kb l t s) (c,false)).2),(11,.p Ek ((d.take i.1).foldl (Kb l t s) (c,false)).1),(12,.p (.int .i64) (i.1:Int))],[]⟩) (λi=>d.length-i.1) ⟨0,DO _⟩ (AB [] rfl rfl ?_ ?_) (λi=>?_)
 .exact eN
 .refine eM ?_;exact⟨rfl,rfl⟩
 obtain⟨i,hi⟩:=i;have hi:i<=d.length:=hi;have B:=WN (l:=l) t s (d.take i) (o:=(c,false)) y;have hs:=λh:i<d.length=>E9 (Kb l t s) d d0 (c,false) h;have E:=λh:i<d.length=>r.1 _ (AG d d0 h);have D:=λ(h:i<d.length) (g:(DJ (d.getD i d0) s).2=true)=>r.value (AG d d0 h) g;have k:∀o x,Kb l t s o x=(if (!(DJ x s).2||!Ly l (BT l x.1) t)=true then o else (El o.1 (l.getD (BT l (DJ x s).1).toNat c0).2,true)):=λ_ _=>rfl;generalize v:(d.take i).foldl (Kb l t s) (c,false)=o at *;simp only;repeat'(first|exact a6|apply eS rfl|apply AD|refine rX f ?_ ?_|refine rC ?_ ?_<;>intro a<;>try(cases a;done))
 .exact a
 .have b:i<d.length:=oN.1 a;exact⟨λ_=>a,λ_=>⟨⟨E b,Tk _ _⟩,j,F⟩⟩
 .exact eV
 .have b:i<d.length:=oN.1 a4;have e:=hs b;rw[k,At (by rw[AAo,lU,lU];exact a)]at e;refine⟨⟨i+1,O1⟩,a2,AB [] rfl rfl ?_ ?_⟩
  .exact eN
  refine eM ?_;rw[e];exact⟨rfl,rfl⟩
 .have b:i<d.length:=oN.1 a4;exact⟨⟨D b a.1,Tk _ _⟩,iN B dg⟩
 .exact eV
 .have b:i<d.length:=oN.1 a4;have e:=hs b;have C:¬(!(DJ (d.getD i d0) s).2||!Ly l (BT l (d.getD i d0).1) t)=true:=by
   rw[AAo,lU,lU];rintro (h|h)
   .rw[show (DJ (d.getD i d0) s).2=true from a.1]at h;cases h
   rw[show Ly l (BT l (d.getD i d0).1) t=true from a.2]at h;cases h
  rw[k,As C]at e;refine⟨⟨i+1,O1⟩,a2,AB [] rfl rfl ?_ ?_⟩
  .exact eN
  refine eM ?_;rw[e];exact⟨rfl,rfl⟩
 have b:d.take i=d:=BY (AAw.1 a);rw[b]at v;rw[v]at m;exact fI f [.tmp 8,.tmp 9] (by rw[m];exact eR)
end
theorem Tl:∀ {l:List AJ},Mw l=0->∀x∈l,x.2.1.length<=256/\x.2.2.length<=256
 | [],_,x,a=>by cases a
 | y :: l,h,x,a=>by
  simp only[Mw]at h;split at h
  .cases h
  rename_i h1;rcases By.1 a with rfl|a
  .exact⟨O1,O1⟩
  exact Tl h x a
theorem LS {d:List AJ} (h:BH d=0):∀x∈d,x.2.1.length<=256/\x.2.2.length<=256:=by
 have h1:FJ d=0:=by
  unfold BH at h;split at h
  .rename_i h1;exact absurd h h1
  rename_i h1;exact Do h1
 unfold FJ at h1;split at h1
 .cases h1
 exact Tl h1
theorem PZ {d:List AJ} (h:BH d=0):∀x∈AM d,x.2.length<=64:=by
 intro x e;obtain⟨-,a,-⟩:=A2 h;obtain⟨b,c,rfl⟩:=Dn.1 e;exact Qs (PY a) b c
theorem iU {all:List ByteArray} {l:List FV}:∀ {r:List FV} {k:Nat},tX all l k r=0->∀y∈r,Ac all y.2=true
 | [],_,_,y,a=>by cases a
 | x :: r,k,h,y,a=>by
  simp only[tX]at h;split at h
  .cases h
  split at h
  .cases h
  split at h
  .cases h
  rename_i b;rcases By.1 a with rfl|a
  .simpa using b
  exact iU h y a
theorem Yy {all:List ByteArray}:∀ {l:List AJ},WM all l=0->∀x∈l,∀y∈x.2.2,Ac all y.2=true
 | [],_,x,a=>by cases a
 | z :: l,h,x,a=>by
  simp only[WM]at h;split at h
  .rename_i h1;exact absurd h h1
  rename_i h1;rcases By.1 a with rfl|a
  .exact iU (Do h1)
  exact Yy h x a
theorem Qu {d:List AJ} (h:BH d=0) (b:LR d=0):oE d (AM d) :=
 ⟨λx a=>Jd h a,λx a y c=>HJ h (Yy b x a y c)⟩
section
attribute [go_sem] ST WE oC bU A6f
def LT (d:List AJ) (l:List AU) (t:Nat) (s:ByteArray):Bool:=(Fj d l (t:Int) s).2&&((Fj d l (t:Int) s).1.length:Int)==0
def bV (d:List AJ) (l:List AU) (f:List ByteArray) (t:Nat):Bool:=f.any (LT d l t)
def Io (d:List AJ) (l:List AU) (f:List ByteArray) (n:Nat):Bool:=(List.range n).any (bV d l f)
theorem iV (d:List AJ) (l:List AU) (f:List ByteArray) (n:Nat):Io d l f (n+1)=(Io d l f n||bV d l f n):=by
 unfold Io;rw[ABV,ADK];simp
def Ax (d:List AJ):Int :=
 if (CK d).2≠0 then (CK d).2 else if 64<(BR d).length then 7 else if LR d≠0 then LR d else
 if ((BR d).all λs=>(Dp d s).2)=false then 10 else if Io d (CK d).1 (BR d) (CK d).1.length=true then 11 else 0
def Un:Ab:={ ins:=[FT],pre:=λ_=>True,out:=λ(d,_)=>[.p DG (Ax d)] }
theorem Yz:Ag Tryz.prog 75 Un:=by
 refine fK [0,2,3,4,5,6,7,9,10,11,12,13,20,26,30,35,48,52,58,77] Tryz.func75 Tryz.ntmps75 (AF Qt (AF WF (AF A28 (AF iQ (AF A2a AH))))) ?_;rintro w0 O0 ⟨d,u⟩ b - -;simp only[Un,AL];repeat'(first|exact a6|apply eS rfl|refine rX b ?_ ?_|refine rC ?_ ?_<;>intro a<;>try(cases a;done))
 .have h1:Ax d=(CK d).2:=by unfold Ax;rw[At a]
  exact fI b [.tmp 2] (by rw[h1];exact eR)
 .have hz:(CK d).2=0:=by simpa using a
  obtain⟨c,-,-⟩:=Bd hz;obtain⟨-,q,-⟩:=A2 c;exact⟨q,λx K=>(LS c x K).2⟩
 .have hz:(CK d).2=0:=by simpa using ‹((CK d).2 != 0)=false›
  have h1:Ax d=7:=by
   unfold Ax;rw[As (by rw[hz];simp),At O1]
  exact fI b [.tmp 2] (by rw[h1];exact eR)
 .have hz:(CK d).2=0:=by simpa using ‹((CK d).2 != 0)=false›
  obtain⟨c,-,-⟩:=Bd hz;exact(A2 c).2.1
 .have hz:(CK d).2=0:=by simpa using ‹((CK d).2 != 0)=false›
  have h1:Ax d=LR d:=by
   unfold Ax;rw[As (by rw[hz];simp),As O1,At a]
  exact fI b [.tmp 2] (by rw[h1];exact eR)
 have hz:(CK d).2=0:=by simpa using ‹((CK d).2 != 0)=false›
 have r:LR d=0:=by simpa using a
 obtain⟨c,B,A⟩:=Bd hz;obtain⟨G,q,-⟩:=A2 c;have D:=Qu c r;have J:=PZ c;have L:=tW c;have C:(AM d).length<=256:=by rw[Il];exact B
 have e:Ax d=if ((BR d).all λs=>(Dp d s).2)=false then 10 else if Io d (CK d).1 (BR d) (CK d).1.length=true then 11 else 0:=by
  unfold Ax;rw[As (by rw[hz];simp),As O1,As (by rw[r];simp)]
 rw[A]at e ⊢;generalize AM d=l at *;generalize BR d=f at *;refine AI (ι:={i:Nat//i<=f.length/\((f.take i).all λs=>(Dp d s).2)=true}) (λi=>⟨[(0,.p FT d),(3,.p KU l),(5,.p CC f),(7,.p (.int .i64) (i.1:Int))],[]⟩) (λi=>f.length-i.1) ⟨0,DO _,rfl⟩ (eW []) (λi=>?_)
 obtain⟨i,hi,m⟩:=i;have F:=λh:i<f.length=>KV f ByteArray.empty (λs=>(Dp d s).2) h;simp only;repeat'(first|exact a6|apply eS rfl|apply AD|refine rX b ?_ ?_|refine rC ?_ ?_<;>intro a<;>try(cases a;done))
 .exact⟨a,G,q⟩
 .have g:i<f.length:=oN.1 a4;have y:(f.all λs=>(Dp d s).2)=false:=by
   rw[ADj];intro h;have:=OF.1 h _ (AG f ByteArray.empty g);rw[show (Dp d (f.getD i ByteArray.empty)).2=false from a]at this;cases this
  rw[At y]at e;exact fI b [.tmp 2] (by rw[e];exact eR)
 .omega
 .have g:i<f.length:=oN.1 a4;refine⟨⟨i+1,g,?_⟩,a2,AB [] rfl rfl ?_ ?_⟩
  .rw[F g,m];exact a
  .exact eN
  exact eN
 have g:f.take i=f:=BY (AAw.1 a);rw[g]at m;rw[As (by rw[m];simp)]at e;refine AI (ι:={t:Nat//t<=l.length/\Io d l f t=false}) (λt=>⟨[(0,.p FT d),(3,.p KU l),(5,.p CC f),(10,.p (.int .i64) (t.1:Int))],[]⟩) (λt=>l.length-t.1) ⟨0,DO _,rfl⟩ (eW []) (λt=>?_)
 obtain⟨t,M,w⟩:=t;have I:=iV d l f t;simp only;repeat'(first|exact a6|apply eS rfl|refine rX b ?_ ?_|refine rC ?_ ?_<;>intro a<;>try(cases a;done))
 .have v:t<l.length:=oN.1 a;refine AI (ι:={k:Nat//k<=f.length/\(f.take k).any (LT d l t)=false}) (λk=>⟨[(0,.p FT d),(3,.p KU l),(5,.p CC f),(10,.p (.int .i64) (t:Int)),(11,.p (.int .i64) (k.1:Int))],[]⟩) (λk=>f.length-k.1) ⟨0,DO _,rfl⟩ (eW []) (λk=>?_)
  obtain⟨k,hk,n⟩:=k;have E:=λh:k<f.length=>Nx f ByteArray.empty (LT d l t) h;simp only;repeat'(first|exact a6|apply eS rfl|apply AD|refine rX b ?_ ?_|refine rC ?_ ?_<;>intro a<;>try(cases a;done))
  .exact⟨a,D,a4,C,J⟩
  .have j:k<f.length:=oN.1 a4;have o:LT d l t (f.getD k ByteArray.empty)=true:=by
    unfold LT;rw[An,AAv];exact a
   have z:Io d l f l.length=true:=by
    unfold Io;rw[aS];exact⟨t,AAn.2 v,JU f ByteArray.empty _ j o⟩
   rw[At z]at e;exact fI b [.tmp 2] (by rw[e];exact eR)
  .omega
  .have j:k<f.length:=oN.1 a4;have o:LT d l t (f.getD k ByteArray.empty)=false:=by
    rw[ADj];unfold LT;intro h;rw[An,AAv]at h;exact a h.1 h.2
   refine⟨⟨k+1,j,?_⟩,a2,AB [] rfl rfl ?_ ?_⟩
   .rw[E j,n,o];rfl
   .exact eN
   exact eN
  .omega
  have j:f.take k=f:=BY (AAw.1 a);rw[j]at n;refine⟨⟨t+1,v,?_⟩,a2,AB [] rfl rfl ?_ ?_⟩
  .rw[I,w];exact n
  .exact eN
  exact eN
 have H:t=l.length:=by exact eV
 subst H;rw[As (by rw[w];simp)]at e;exact fI b [.tmp 2] (by rw[e];exact eR)
end
section
attribute [go_sem] Un
abbrev Tm:=ByteArray×Int
theorem B8 {d:List AJ} (h:Ax d=0):(CK d).2=0/\(BR d).length<=64/\LR d=0:=by
 unfold Ax at h;split at h
 .rename_i h1;exact absurd h h1
 rename_i h1;split at h
 .cases h
 rename_i b;split at h
 .rename_i a;exact absurd h a
 rename_i a;exact⟨Do h1,O1,Do a⟩
def M8 (d:List AJ) (s:ByteArray):Tm:=(s,BT (AM d) (Dp d s).1)
def DQ (d:List AJ):List Tm×Int:=if Ax d≠0 then ([],Ax d) else ((BR d).map (M8 d),0)
theorem Xw {α:Type} (f:α->X) (l:List α) (d:α) (h:k<l.length):(l.take (k+1)).map f=(l.take k).map f++[f (l.getD k d)]:=by
 rw[Ap l d h,ABX];rfl
theorem bW {α:Type} (f:α->X) (l:List α) (h:k<=l.length):((l.take k).map f).length=k:=by simp[h]
def SU:Ab:={ ins:=[FT],pre:=λ_=>True,out:=λ(d,_)=>[.p Rl (DQ d).1,.p DG (DQ d).2] }
theorem iW:Ag Tryz.prog 43 SU:=by
 refine fK [0,2,3,4,5,7,8,9,10,15,27] Tryz.func43 Tryz.ntmps43 (AF Yz (AF Qt (AF WF (AF iQ (AF Yp AH))))) ?_;rintro w0 O0 ⟨d,u⟩ g - -;simp only[SU,AL];repeat'(first|exact a6|apply eS rfl|refine rX g ?_ ?_|refine rC ?_ ?_<;>intro a<;>try(cases a;done))
 .have h1:DQ d=([],Ax d):=by unfold DQ;rw[At a]
  exact fI g [.tmp 2,.tmp 3] (by rw[h1];exact eR)
 .have c:Ax d=0:=by simpa using a
  obtain⟨hz,-,-⟩:=B8 c;obtain⟨b,-,-⟩:=Bd hz;exact⟨(A2 b).2.1,λx q=>(LS b x q).2⟩
 have c:Ax d=0:=by simpa using a
 obtain⟨hz,r,-⟩:=B8 c;obtain⟨b,-,l⟩:=Bd hz;obtain⟨o,k,-⟩:=A2 b;have n:DQ d=((BR d).map (M8 d),0):=by unfold DQ;rw[As (by rw[c];simp)]
 rw[l];generalize BR d=f at *;refine AI (ι:={i:Nat//i<=f.length}) (λi=>⟨[(0,.p FT d),(5,.p KU (AM d)),(7,.p CC f),(8,.sr 49 A1u 0 ((f.take i.1).map (M8 d)).length),(9,.p (.int .i64) (i.1:Int))],[(49,.arr 165 A1u ((f.take i.1).map (M8 d)))]⟩) (λi=>f.length-i.1) ⟨0,DO _⟩ (eW [(49,.nil)]) (λi=>?_)
 obtain⟨i,hi⟩:=i;have m:=bW (M8 d) f hi;have hs:=λh:i<f.length=>Xw (M8 d) f ByteArray.empty h;simp only;repeat'(first|exact a6|apply eS rfl|apply AD|refine rX g ?_ ?_|refine rC ?_ ?_<;>intro a<;>try(cases a;done))
 .exact⟨a,o,k⟩
 .refine⟨a,?_⟩;rw[m];simp only[AP];omega
 .omega
 .have j:i<f.length:=oN.1 a;have e:=hs j;refine⟨⟨i+1,j⟩,a2,AB [(49,.nm 49)] rfl rfl ?_ ?_⟩
  .simp only[e];refine eM ?_;rfl
  simp only[e];exact eN
 have j:f.take i=f:=BY (AAw.1 a);rw[j];refine CO [49] ?_;exact fI g [.tmp 2,.tmp 3] (by rw[n];exact eR)
end
section
attribute [go_sem] nS
def UJ (d:List AJ) (l:List AU) (f:List ByteArray) (t:Nat) (n:Nat):List (Int×Int) :=
 ((List.range n).filter λ(i:Nat)=>(Fj d l (t:Int) (f.getD i ByteArray.empty)).2).map λ(i:Nat)=>((i:Int),He l (Fj d l (t:Int) (f.getD i ByteArray.empty)).1)
def Kd (d:List AJ) (l:List AU) (f:List ByteArray) (n:Nat):List (List (Int×Int)):=(List.range n).map λt=>UJ d l f t f.length
def BD (d:List AJ):List (List (Int×Int))×Int:=if Ax d≠0 then ([],Ax d) else (Kd d (AM d) (BR d) (AM d).length,0)
theorem Y0 (d:List AJ) (l:List AU) (f:List ByteArray) (t n:Nat):UJ d l f t (n+1)=UJ d l f t n++if (Fj d l (t:Int) (f.getD n ByteArray.empty)).2=true then [((n:Int),He l (Fj d l (t:Int) (f.getD n ByteArray.empty)).1)] else []:=by
 unfold UJ;rw[ABV,ADG,ABX]
 congr 1
 rw[AC7,AE0];split<;>rfl
theorem A2b (d:List AJ) (l:List AU) (f:List ByteArray) (t n:Nat):(UJ d l f t n).length<=n:=by
 unfold UJ;rw[OR];exact iN (ADb _ _) sc
theorem oG (d:List AJ) (l:List AU) (f:List ByteArray) (n:Nat):Kd d l f (n+1)=Kd d l f n++[UJ d l f n f.length]:=by simp[Kd,ABV]
theorem Y2 (d:List AJ) (l:List AU) (f:List ByteArray) (n:Nat):(Kd d l f n).length=n:=by simp[Kd]
theorem A2c {d:List AJ} {l:List AU} (h:∀x∈l,x.2.length<=64) (t:Int) (s:ByteArray):(Fj d l t s).1.length<=64:=by
 unfold Fj;refine WN t s d ?_;rw[AS];cases hh:l[0]? with
 | none=>simp
 | some x=>exact h x (AC5 hh)
def WO:Ab:={ ins:=[FT],pre:=λ_=>True,out:=λ(d,_)=>[.p A5u (BD d).1,.p DG (BD d).2] }
theorem oH:Ag Tryz.prog 40 WO:=by
 refine fK [0,2,3,4,5,7,8,9,10,11,12,13,17,29,35,49] Tryz.func40 Tryz.ntmps40 (AF Yz (AF Qt (AF WF (AF A2a (AF A1S AH))))) ?_;rintro w0 O0 ⟨d,u⟩ e - -;simp only[WO,AL];repeat'(first|exact a6|apply eS rfl|refine rX e ?_ ?_|refine rC ?_ ?_<;>intro a<;>try(cases a;done))
 .have h1:BD d=([],Ax d):=by unfold BD;rw[At a]
  exact fI e [.tmp 2,.tmp 3] (by rw[h1];exact eR)
 .have h:Ax d=0:=by simpa using a
  obtain⟨hz,-,-⟩:=B8 h;obtain⟨b,-,-⟩:=Bd hz;exact⟨(A2 b).2.1,λx y=>(LS b x y).2⟩
 have h:Ax d=0:=by simpa using a
 obtain⟨hz,A,n⟩:=B8 h;obtain⟨b,j,q⟩:=Bd hz;obtain⟨C,z,-⟩:=A2 b;have w:BD d=(Kd d (AM d) (BR d) (AM d).length,0):=by unfold BD;rw[As (by rw[h];simp)]
 have v:=Qu b n;have m:=PZ b;have r:(AM d).length<=256:=by rw[Il];exact j
 rw[q];generalize AM d=l at *;generalize BR d=f at *;have o:=λt s=>A2c (d:=d) m t s;refine AI (ι:={t:Nat//t<=l.length}) (λt=>⟨[(0,.p FT d),(5,.p KU l),(7,.p CC f),(8,.sr 61 T84 0 (Kd d l f t.1).length),(9,.p (.int .i64) (t.1:Int))],[(61,.arr 84 T84 (Kd d l f t.1))]⟩) (λt=>l.length-t.1) ⟨0,DO _⟩ (AB [(61,.nil)] rfl rfl ?_ ?_) (λt=>?_)
 .refine eM ?_;rfl
 .refine eM ?_;rfl
 obtain⟨t,D⟩:=t;have j:=Y2 d l f t;have hs:=oG d l f t;simp only;repeat'(first|exact a6|apply eS rfl|refine rX e ?_ ?_|refine rC ?_ ?_<;>intro a<;>try(cases a;done))
 .refine AI (ι:={i:Nat//i<=f.length}) (λi=>⟨[(0,.p FT d),(5,.p KU l),(7,.p CC f),(8,.sr 61 T84 0 (Kd d l f t).length),(9,.p (.int .i64) (t:Int)),(10,.sr 57 A1t 0 (UJ d l f t i.1).length),(11,.p (.int .i64) (i.1:Int))],[(61,.arr 84 T84 (Kd d l f t)),(57,.arr 134 A1t (UJ d l f t i.1))]⟩) (λi=>f.length-i.1) ⟨0,DO _⟩ (AB [(61,.nm 61),(57,.nil)] rfl rfl ?_ ?_) (λi=>?_)
  .refine eM ?_;rfl
  .refine eM ?_;rfl
  obtain⟨i,hi⟩:=i;have B:=A2b d l f t i;have c:=Y0 d l f t i;simp only;repeat'(first|exact a6|apply eS rfl|apply AD|refine rX e ?_ ?_|refine rC ?_ ?_<;>intro a<;>try(cases a;done))
  .exact⟨a,v,a4,r,m⟩
  .refine⟨iN (o _ _) dg,?_⟩;simp only[AP];omega
  .omega
  .have g:i<f.length:=oN.1 a4;rw[At a]at c;refine⟨⟨i+1,g⟩,a2,AB [(61,.nm 61),(57,.nm 57)] rfl rfl ?_ ?_⟩
   .simp only[c];exact eN
   simp only[c];exact eN
  .omega
  .have g:i<f.length:=oN.1 a4;rw[As (by rw[a];simp),AAW]at c;refine⟨⟨i+1,g⟩,a2,AB [(61,.nm 61),(57,.nm 57)] rfl rfl ?_ ?_⟩
   .simp only[c];exact eN
   simp only[c];exact eN
  .rw[j];simp only[AP];omega
  .omega
  have k:t<l.length:=oN.1 a4;have g:i=f.length:=by omega
  subst g;refine⟨⟨t+1,k⟩,a2,AB [(61,.nm 61)] rfl rfl ?_ ?_⟩
  .simp only[hs];exact eN
  simp only[hs];exact eN
 have k:t=l.length:=by omega
 subst k;refine CO [61] ?_;exact fI e [.tmp 2,.tmp 3] (by rw[w];exact eR)
end
def Lz (l:List ByteArray) (n:Nat):List FV:=(List.range n).map λk=>(l.getD (2*k) ByteArray.empty,l.getD (2*k+1) ByteArray.empty)
theorem WP (l:List ByteArray) (n:Nat):Lz l (n+1)=Lz l n++[(l.getD (2*n) ByteArray.empty,l.getD (2*n+1) ByteArray.empty)]:=by simp[Lz,ABV]
theorem Y3 (l:List ByteArray) (n:Nat):(Lz l n).length=n:=by simp[Lz]
def bX (s:ByteArray):List ByteArray:=if AK s ByteArray.empty=true then [] else [s]
def Gc (n s:ByteArray) (l:List ByteArray):AJ:=(n,bX s,Lz l (l.length / 2))
def tY:Ab:={ ins:=[T9,T9,CC],pre:=λ(_,_,l,_)=>List.length l<=1000,out:=λ(n,s,l,_)=>[.p T54 (Gc n s l)] }
theorem tZ:Ag Tryz.prog 44 tY:=by
 refine fK [0,1,2,6,7,8,12,20] Tryz.func44 Tryz.ntmps44 AH ?_;rintro w0 O0 ⟨n,s,l,u⟩ b-i;have i:l.length<=1000:=i;simp only[tY,AL];repeat'(first|exact a6|apply eS rfl|apply AD|refine rX b ?_ ?_|refine rC ?_ ?_<;>intro a<;>try(cases a;done))
 .have f:=a;refine CO [14] ?_;refine AI (ι:={k:Nat//2*k<=l.length}) (λk=>⟨[(2,.p CC l),(6,.bp 6 [] 0),(7,.bp 7 [] 0),(8,.p (.int .i64) ((2*k.1:Nat):Int))],[(6,.box 54 true [.p T9 ByteArray.empty,.raw (.slice none 0 0),.raw (.slice none 0 0)]),(7,.box 54 true [.p T9 n,.p CC [s],.sr 36 nF 0 (Lz l k.1).length]),(36,.arr 167 nF (Lz l k.1))]⟩) (λk=>l.length-2*k.1) ⟨0,DO _⟩ (AB [(6,.nm 6),(7,.nm 7),(36,.nil)] rfl rfl ?_ ?_) (λk=>?_)
  .first|exact eN|refine eM ?_
   exact⟨rfl,rfl⟩
  .first|exact eN|refine eM ?_
  obtain⟨k,hk⟩:=k;have g:=Y3 l k;have d:=WP l k;simp only;repeat'(first|exact a6|apply eS rfl|apply AD|refine rX b ?_ ?_|refine rC ?_ ?_<;>intro a<;>try(cases a;done))
  .exact eV
  .refine⟨eV,⟨eV,eV⟩,⟨eV,eV⟩,?_⟩;rw[g];simp only[AP];exact eV
  .exact eV
  .have c:2*k+1<l.length:=by exact eV
   have e:((2*k:Nat):Int)+1=((2*k+1:Nat):Int):=by omega
   refine⟨⟨k+1,O1⟩,a2,AB [(6,.nm 6),(7,.nm 7),(36,.nm 36)] rfl rfl ?_ ?_⟩
   .simp only[d];first|exact eN|refine eM ?_
    rw[e];rfl
   simp only[d];first|exact eN|refine eM ?_
   show ((2*k:Nat):Int)+2=((2*(k+1):Nat):Int);omega
  have c:k=l.length / 2:=by exact eV
  refine CO [36] ?_;have h:Gc n s l=(n,[s],Lz l k):=by
   unfold Gc bX;rw[<-c,As (by rw[show AK s ByteArray.empty=false from f];simp)]
  exact fI b [.cell 6 54] (by rw[h];exact eR)
 have f:=a;refine AI (ι:={k:Nat//2*k<=l.length}) (λk=>⟨[(2,.p CC l),(6,.bp 6 [] 0),(7,.bp 7 [] 0),(8,.p (.int .i64) ((2*k.1:Nat):Int))],[(6,.box 54 true [.p T9 ByteArray.empty,.raw (.slice none 0 0),.raw (.slice none 0 0)]),(7,.box 54 true [.p T9 n,.p CC ([]:List ByteArray),.sr 36 nF 0 (Lz l k.1).length]),(36,.arr 167 nF (Lz l k.1))]⟩) (λk=>l.length-2*k.1) ⟨0,DO _⟩ (AB [(6,.nm 6),(7,.nm 7),(36,.nil)] rfl rfl ?_ ?_) (λk=>?_)
 .first|exact eN|refine eM ?_
  exact⟨rfl,rfl⟩
 .first|exact eN|refine eM ?_
 obtain⟨k,hk⟩:=k;have g:=Y3 l k;have d:=WP l k;simp only;repeat'(first|exact a6|apply eS rfl|apply AD|refine rX b ?_ ?_|refine rC ?_ ?_<;>intro a<;>try(cases a;done))
 .exact eV
 .refine⟨eV,⟨eV,eV⟩,⟨eV,eV⟩,?_⟩;rw[g];simp only[AP];exact eV
 .exact eV
 .have c:2*k+1<l.length:=by exact eV
  have e:((2*k:Nat):Int)+1=((2*k+1:Nat):Int):=by omega
  refine⟨⟨k+1,O1⟩,a2,AB [(6,.nm 6),(7,.nm 7),(36,.nm 36)] rfl rfl ?_ ?_⟩
  .simp only[d];first|exact eN|refine eM ?_
   rw[e];rfl
  simp only[d];first|exact eN|refine eM ?_
  show ((2*k:Nat):Int)+2=((2*(k+1):Nat):Int);omega
 have c:k=l.length / 2:=by exact eV
 refine CO [36] ?_;have h:Gc n s l=(n,([]:List ByteArray),Lz l k):=by
  unfold Gc bX;rw[<-c,At (show AK s ByteArray.empty=true from f)]
 exact fI b [.cell 6 54] (by rw[h];exact eR)
section
attribute [go_sem] tY cs2 MC JY MK cs7 cs8
def BE:List AJ:=[
 Gc { data:=#[116,111,112] } { data:=#[] } [],
 Gc { data:=#[108,105,115,116] } { data:=#[116,111,112] } [],
 Gc { data:=#[99,111,110,115] } { data:=#[108,105,115,116] } [{ data:=#[70,73,82,83,84] },{ data:=#[116,111,112] },{ data:=#[82,69,83,84] },{ data:=#[108,105,115,116] }],
 Gc { data:=#[110,117,108,108] } { data:=#[108,105,115,116] } [],
 Gc { data:=#[100,108,105,115,116] } { data:=#[116,111,112] } [{ data:=#[76,73,83,84] },{ data:=#[108,105,115,116] },{ data:=#[76,65,83,84] },{ data:=#[108,105,115,116] }],
 Gc { data:=#[105,110,100,101,120] } { data:=#[116,111,112] } [],
 Gc { data:=#[104,97,110,100,108,101] } { data:=#[105,110,100,101,120] } [],
 Gc { data:=#[101,118,101,110,116] } { data:=#[105,110,100,101,120] } [],
 Gc { data:=#[101,110,116,105,116,121] } { data:=#[105,110,100,101,120] } [],
 Gc { data:=#[114,101,108] } { data:=#[116,111,112] } [{ data:=#[76,65,66,69,76] },{ data:=#[104,97,110,100,108,101] }],
 Gc { data:=#[113,101,113] } { data:=#[116,111,112] } [{ data:=#[72,73,71,72] },{ data:=#[104,97,110,100,108,101] },{ data:=#[76,79,87] },{ data:=#[104,97,110,100,108,101] }],
 Gc { data:=#[115,101,109] } { data:=#[116,111,112] } [{ data:=#[84,79,80] },{ data:=#[104,97,110,100,108,101] },{ data:=#[73,78,68,69,88] },{ data:=#[105,110,100,101,120] },{ data:=#[82,69,76,83] },{ data:=#[100,108,105,115,116] },{ data:=#[67,79,78,83] },{ data:=#[100,108,105,115,116] }],
 Gc { data:=#[115,105,103,110] } { data:=#[116,111,112] } [{ data:=#[83,69,77] },{ data:=#[115,101,109] },{ data:=#[65,82,71,83] },{ data:=#[108,105,115,116] }]]
def Ip:Ab:={ ins:=[],pre:=λ_=>True,out:=λ_=>[.p FT BE] }
theorem oI:Ag Tryz.prog 15 Ip:=by
 refine fKP [0] [3,6,12,14,16,18,20] [] Tryz.func15 Tryz.ntmps15 (AF tZ AH) ?_;rintro w0 O0 u a - -;simp only[Ip,AL];repeat'(first|exact a6|apply eS rfl|refine rX a ?_ ?_)
 exact fI a [.tmp 0] (by unfold BE;exact eR)
end
section
attribute [go_sem] WO A26 SU
abbrev F1:=ByteArray×List Int×List Int×List (Int×Int)
abbrev AE:=List F1×List Tm
def Eg (l:List AU) (v:List (List (Int×Int))) (n:Nat):List F1:=(List.range n).map λi=>((l.getD i c0).1,(l.getD i c0).2,Yx l (i:Int),v.getD i [])
theorem oJ (l:List AU) (v:List (List (Int×Int))) (n:Nat):Eg l v (n+1)=Eg l v n++[((l.getD n c0).1,(l.getD n c0).2,Yx l (n:Int),v.getD n [])]:=by simp[Eg,ABV]
theorem Ke (l:List AU) (v:List (List (Int×Int))) (n:Nat):(Eg l v n).length=n:=by simp[Eg]
def BW (d:List AJ):AE:=(Eg (AM d) (BD d).1 (AM d).length,(DQ d).1)
def Ah (d:List AJ):AE×Int:=if (BD d).2≠0 then (([],[]),(BD d).2) else (BW d,0)
def GL:Ab:={ ins:=[FT],pre:=λ_=>True,out:=λ(d,_)=>[.p GT (Ah d).1,.p DG (Ah d).2] }
theorem WQ:Ag Tryz.prog 14 GL:=by
 refine fK [0,2,3,4,5,6,8,9,10,18,29] Tryz.func14 Tryz.ntmps14 (AF oH (AF Qt (AF A6d (AF iW AH)))) ?_;rintro w0 O0 ⟨d,u⟩ b - -;simp only[GL,AL];repeat'(first|exact a6|apply eS rfl|refine rX b ?_ ?_|refine rC ?_ ?_<;>intro a<;>try(cases a;done))
 .have h1:Ah d=(([],[]),(BD d).2):=by unfold Ah;rw[At a]
  exact fI b [.cell 2 31,.tmp 3] (by rw[h1];exact eR)
 have c:(BD d).2=0:=by simpa using a
 have f:Ax d=0:=by
  unfold BD at c;split at c
  .rename_i h;exact absurd c h
  rename_i h;exact Do h
 obtain⟨hz,w,t⟩:=B8 f;obtain⟨j,m,k⟩:=Bd hz;have g:Ah d=(BW d,0):=by unfold Ah;rw[As (by rw[c];simp)]
 have r:(BD d).1.length=(AM d).length:=by
  unfold BD;rw[As (by rw[f];simp)];exact Y2 _ _ _ _
 have s:=PZ j;have o:(AM d).length<=256:=by rw[Il];exact m
 unfold BW at g;rw[k];generalize AM d=l at *;generalize (BD d).1=v at *;refine AI (ι:={n:Nat//n<=l.length}) (λn=>⟨[(0,.p FT d),(2,.bp 2 [] 0),(4,.p A5u v),(6,.p KU l),(8,.bp 8 [] 0),(9,.p (.int .i64) (n.1:Int))],[(2,.box 31 true [.raw (.slice none 0 0),.raw (.slice none 0 0)]),(8,.box 31 true [.sr 53 T86 0 (Eg l v n.1).length,.raw (.slice none 0 0)]),(53,.arr 86 T86 (Eg l v n.1))]⟩) (λn=>l.length-n.1) ⟨0,DO _⟩ (AB [(2,.nm 2),(8,.nm 8),(53,.nil)] rfl rfl ?_ ?_) (λn=>?_)
 .refine eM ?_;exact⟨rfl,rfl⟩
 .exact eN
 obtain⟨n,hn⟩:=n;have q:=Ke l v n;have i:=oJ l v n;simp only;repeat'(first|exact a6|apply eS rfl|apply AD|refine rX b ?_ ?_|refine rC ?_ ?_<;>intro a<;>try(cases a;done))
 .refine⟨a,a,⟨a,o,s⟩,by rw[r];exact a,?_⟩;rw[q];simp only[AP];omega
 .omega
 .have e:n<l.length:=oN.1 a;refine⟨⟨n+1,e⟩,a2,AB [(2,.nm 2),(8,.nm 8),(53,.nm 53)] rfl rfl ?_ ?_⟩
  .simp only[i];exact eN
  simp only[i];exact eN
 have e:n=l.length:=by omega
 subst e;refine CO [53] ?_;exact fI b [.cell 2 31,.tmp 3] (by rw[g];exact eR)
end
section
def oK:Ab:={ ins:=[Ek,T3],pre:=λ(_,i,_)=>(0:Int)<=i,out:=λ(b,i,_)=>[.p SF (Ga b i)],lend:=true }
attribute [go_sem] oK
theorem A2d:Ag Tryz.prog 137 oK:=by
 refine fK [0,1,4,8] Tryz.func137 Tryz.ntmps137 AH ?_;rintro w0 O0 ⟨b,i,u⟩ c-hi;simp only[oK,AL];repeat'(first|exact a6|apply eS rfl|refine rX c ?_ ?_|refine rC ?_ ?_<;>intro a<;>try(cases a;done))
 .exact⟨hi,a⟩
 .have h1:Ga b i=b.getD i.toNat 0:=by unfold Ga;rw[At a]
  exact fI c [.tmp 4] (by rw[h1];exact eR)
 have h1:Ga b i=0:=by unfold Ga;rw[As (ACA.2 a)]
 exact fI c [.tmp 4] (by rw[h1];exact eR)
def M9 (a b:List Int):Bool:=(List.range a.length).all λi=>C2 .andNot .u64 (a.getD i 0) (Ga b (i:Int))==0
def iX (a b:List Int) (n:Nat):Bool:=(List.range n).all λi=>C2 .andNot .u64 (a.getD i 0) (Ga b (i:Int))==0
theorem oL (a b:List Int) (n:Nat):iX a b (n+1)=(iX a b n&&C2 .andNot .u64 (a.getD n 0) (Ga b (n:Int))==0):=by
 unfold iX;rw[ABV,AE1];simp
def Qv:Ab:={ ins:=[Ek,Ek],pre:=λ_=>True,out:=λ(a,b,_)=>[.p .bool (M9 a b)],lend:=true }
attribute [go_sem] Qv
theorem WR:Ag Tryz.prog 98 Qv:=by
 refine fK [0,1,4,5,6,7,8,9,10,19] Tryz.func98 Tryz.ntmps98 (AF A2d AH) ?_;rintro w0 O0 ⟨a,b,u⟩ e ⟨⟨g,-⟩,-⟩ -;simp only[AP]at g;simp only[Qv,AL];repeat'(first|exact a6|apply eS rfl|refine rX e ?_ ?_)
 have h:M9 a b=iX a b a.length:=rfl;refine AI (ι:={n:Nat//n<=a.length/\iX a b n=true}) (λn=>⟨[(1,.p Ek b),(7,.p Ek a),(8,.p (.int .i64) (a.length:Int)),(9,.p (.int .i64) (n.1:Int))],[]⟩) (λn=>a.length-n.1) ⟨0,DO _,rfl⟩ (eW []) (λn=>?_)
 obtain⟨n,hn,f⟩:=n;have hs:=oL a b n;simp only;repeat'(first|exact a6|apply eS rfl|apply AD|refine rX e ?_ ?_|refine rC ?_ ?_<;>intro d<;>try(cases d;done))
 .exact d
 .have c:n<a.length:=by exact eV
  have h1:M9 a b=false:=by
   unfold M9;rw[ADM];exact⟨n,AAn.2 c,by simpa using d⟩
  exact fI e [.tmp 4] (by rw[h1];exact eR)
 .exact eV
 .have c:n<a.length:=by exact eV
  refine⟨⟨n+1,c,?_⟩,a2,AB [] rfl rfl ?_ ?_⟩
  .rw[hs,f];simpa using d
  .exact eN
  exact eN
 have c:n=a.length:=by exact eV
 subst c;exact fI e [.tmp 4] (by rw[h,f];exact eR)
abbrev Rm:F1:=(ByteArray.empty,[],[],[])
def Af (h:AE) (a b:Int):Bool:=M9 (h.1.getD b.toNat Rm).2.1 (h.1.getD a.toNat Rm).2.1
def Oa:Ab:={ ins:=[GT,T3,T3],pre:=λ(h,a,b,_)=>((0:Int)<=a/\a<(List.length (h:AE).1:Int))/\((0:Int)<=b/\b<(List.length (h:AE).1:Int)),out:=λ(h,a,b,_)=>[.p .bool (Af h a b)],lend:=true }
theorem Qw:Ag Tryz.prog 53 Oa:=by
 refine fK [0,1,2,3,6] Tryz.func53 Tryz.ntmps53 (AF WR AH) ?_;rintro w0 O0 ⟨⟨e,hf⟩,a,b,u⟩ c-⟨ha,d⟩;simp only[Oa,AL];repeat'(first|exact a6|apply eS rfl|refine rX c ?_ ?_)
 .exact⟨d,ha⟩
 exact fI c [.tmp 6] (by unfold Af;exact eR)
end
section
def WT:Ab:={ ins:=[Ek],pre:=λ(b,_)=>List.length b<=100000,out:=λ(b,_)=>[.p Ek (BZ b)] }
attribute [go_sem] WT
theorem oM:Ag Tryz.prog 175 WT:=by
 refine fK [0,2,3,15] Tryz.func175 Tryz.ntmps175 AH ?_;rintro w0 O0 ⟨b,u⟩ d-f;have f:b.length<=100000:=f;simp only[WT,AL];repeat'(first|exact a6|apply eS rfl|refine rX d ?_ ?_)
 refine AI (ι:={n:Nat//n<=b.length/\Cs b n=Cs b b.length}) (λn=>⟨[(0,.p Ek b),(3,.p (.int .i64) (n.1:Int))],[]⟩) (λn=>n.1) ⟨b.length,Of _,rfl⟩ (eW []) (λn=>?_)
 obtain⟨n,hn,g⟩:=n;simp only;repeat'(first|apply eS rfl|apply AD|refine rX d ?_ ?_|refine rC ?_ ?_<;>intro c<;>try(cases c;done))
 .constructor
  .exact eV
  intro h;refine⟨?_,?_⟩<;>exact eV
 .exact eV
 .obtain⟨h1,a⟩:=c;obtain⟨m,rfl⟩:∃m,n=m+1:=⟨n-1,O1⟩;have e:(((m+1:Nat):Int)-1)=(m:Int):=by omega
  rw[e]at a;have a:b.getD m 0=0:=a;have j:Cs b m=Cs b b.length:=by
   rw[<-g];show _=if b.getD m 0=0 then Cs b m else m+1
   rw[At a]
  refine⟨⟨m,O1,j⟩,sc,AB [] rfl rfl ?_ ?_⟩
  .exact eN
  simp only[e];exact eN
 .exact AAw.2 hn
 have i:Cs b n=n:=by
  cases n with
  | zero=>rfl
  | succ m =>
   have e:(((m+1:Nat):Int)-1)=(m:Int):=by omega
   rw[e]at c;have a:=c O1;have a:¬b.getD m 0=0:=a;show (if b.getD m 0=0 then Cs b m else m+1)=m+1;rw[As a]
 have h1:BZ b=b.take n:=by unfold BZ;rw[<-g,i]
 rw[<-h1];exact fI d [.tmp 2]
def HK (g:Nat->Int) (n i:Nat):List Int:=(List.range n).map λj=>if j<i then g j else 0
theorem Y4 (g:Nat->Int) (n i:Nat):(HK g n i).length=n:=by simp[HK]
theorem oO (g:Nat->Int) (n:Nat):HK g n 0=List.replicate n 0:=by
 apply AAy
 .simp[HK]
 intro j h1 a;simp[HK]
theorem yP (g:Nat->Int) (n i:Nat):(HK g n i).set i (g i)=HK g n (i+1):=by
 apply AAy
 .simp[HK]
 intro j h1 b;simp only[HK,List.getElem_set,ADe,ADZ];split
 .rename_i e;rw[At O1,e]
 rename_i e;by_cases a:j<i
 .rw[At a,At O1]
 rw[As a,As O1]
def bZ (a b:List Int) (i:Nat):Int:=C2 .and .u64 (a.getD i 0) (b.getD i 0)
def GM (a b:List Int):List Int:=BZ (HK (bZ a b) (min a.length b.length) (min a.length b.length))
def A2e:Ab:={ ins:=[Ek,Ek],pre:=λ(a,_,_)=>List.length a<=100000,out:=λ(a,b,_)=>[.p Ek (GM a b)] }
attribute [go_sem] A2e
theorem A6g:Ag Tryz.prog 159 A2e:=by
 refine fK [0,1,4,5,6,14,15,16] Tryz.func159 Tryz.ntmps159 (AF oM AH) ?_;rintro w0 O0 ⟨a,b,u⟩ d-ha;have ha:a.length<=100000:=ha;simp only[A2e,AL];repeat'(first|exact a6|apply eS rfl|refine rX d ?_ ?_)
 .split<;>simp only[AP]<;>dsimp only[Ty.den]at *<;>omega
 have h:Int.toNat (if ((List.length b:Nat):Int)<((List.length a:Nat):Int) then ((List.length b:Nat):Int) else ((List.length a:Nat):Int))=min (List.length a) (List.length b):=by split<;>omega
 rw[h];have j:GM a b=BZ (HK (bZ a b) (min a.length b.length) (min a.length b.length)):=rfl;have k:min a.length b.length<=a.length:=Nat.min_le_left _ _;have l:min a.length b.length<=b.length:=Nat.min_le_right _ _;generalize min a.length b.length=n at *;refine AI (ι:={i:Nat//i<=n}) (λi=>⟨[(0,.p Ek a),(1,.p Ek b),(5,.sr 12 SF 0 n),(14,.p (.int .i64) (n:Int)),(15,.p (.int .i64) (i.1:Int))],[(12,.arr 214 SF (HK (bZ a b) n i.1))]⟩) (λi=>n-i.1) ⟨0,DO _⟩ (AB [(12,.nm 12)] rfl rfl ?_ ?_) (λi=>?_)
 .refine eM ?_;rw[oO]
 .exact eN
 obtain⟨i,hi⟩:=i;have f:=Y4 (bZ a b) n i;simp only;repeat'(first|exact a6|apply eS rfl|apply AD|refine rX d ?_ ?_|refine rC ?_ ?_<;>intro c<;>try(cases c;done))
 .have e:i<n:=oN.1 c;exact⟨eV,eV,c⟩
 .exact eV
 .have e:i<n:=oN.1 c;refine⟨⟨i+1,e⟩,a2,AB [(12,.nm 12)] rfl rfl ?_ ?_⟩
  .simp only[<-yP];refine eM ?_;rfl
  exact eN
 have e:i=n:=by omega
 subst e;have g:(HK (bZ a b) i i).take i=HK (bZ a b) i i:=BY (by rw[f];exact Of _);refine CO [12] ?_;repeat'(first|apply eS rfl|refine rX d ?_ ?_)
 .rw[g,f];dsimp only[Ty.den]at *;omega
 rw[g];exact fI d [.tmp 4] (by rw[j];exact eR)
def EB (a b:List Int):Bool:=M9 a b&&M9 b a
def b4:Ab:={ ins:=[Ek,Ek],pre:=λ_=>True,out:=λ(a,b,_)=>[.p .bool (EB a b)],lend:=true }
attribute [go_sem] b4
theorem yQ:Ag Tryz.prog 161 b4:=by
 refine fK [0,1,4] Tryz.func161 Tryz.ntmps161 (AF WR AH) ?_;rintro w0 O0 ⟨a,b,u⟩ c - -;simp only[b4,AL];repeat'(first|exact a6|apply eS rfl|refine rX c ?_ ?_)
 exact fI c [.tmp 4] (by unfold EB;exact eR)
def FF (c:List Int):Nat->List F1->Int
 | _,[]=>-1
 | k,t :: l=>if EB t.2.1 c=true then (k:Int) else FF c (k+1) l
theorem oP (c:List Int) (l:List F1) (h:k<l.length):FF c k (l.drop k)=if EB (l.getD k Rm).2.1 c=true then (k:Int) else FF c (k+1) (l.drop (k+1)):=by
 rw[OS h];have e:l.getD k Rm=l[k]:=by simp[AS,h]
 rw[e];rfl
theorem A2f (c:List Int) (t:F1):BB Tryz.prog 160 [.p T86 t,.bp 1 [] 0] [(1,.box 83 false [.p Ek c])] [1] (λres b=>res=.p .bool (EB t.2.1 c)/\b=[(1,.box 83 false [.p Ek c])]):=by
 refine JT [0,1,2,3] [] [] Tryz.func160 Tryz.ntmps160 (AF yQ AH) ?_;intro w0 K O0 ρ0 a d e;simp only[Aq];repeat'(first|exact a6|apply eS rfl|refine rX a ?_ ?_)
 refine Ev.ent (σ':=⟨[(3,.p .bool (EB t.2.1 c))],[(1,.box 83 false [.p Ek c])]⟩) ?_ (AB [(1,.nm 1)] rfl rfl ?_ ?_)
 .exact fM a [.tmp 3] (.p .bool (EB t.2.1 c)) eT ⟨rfl,rfl⟩
 .exact eN
 exact eN
theorem yR (l:List F1) (c:List Int) (i:l.length<=100000):BB Tryz.prog 99 [.p Px l,.clo 160 [1]] [(1,.box 83 false [.p Ek c])] [1] (λres g=>res=.p T3 (FF c 0 l)/\g=[(1,.box 83 false [.p Ek c])]):=by
 refine JT [0,1,4,5,7,8,9,16] [] [] Tryz.func99 Tryz.ntmps99 AH ?_;intro w0 K O0 ρ0 b j m;simp only[Aq];repeat'(first|exact a6|apply eS rfl|refine rX b ?_ ?_)
 refine AI (ι:={k:Nat//k<=l.length/\FF c k (l.drop k)=FF c 0 l}) (λk=>⟨[(0,.p Px l),(1,.clo 160 [1]),(7,.p (.int .i64) (l.length:Int)),(8,.p (.int .i64) (k.1:Int))],[(1,.box 83 false [.p Ek c])]⟩) (λk=>l.length-k.1) ⟨0,DO _,rfl⟩ (eW [(1,.nm 1)]) (λk=>?_)
 obtain⟨k,hk,hf⟩:=k;have f:=λh:k<l.length=>oP c l h;simp only;repeat'(first|exact a6|apply eS rfl|refine rX b ?_ ?_|refine rC ?_ ?_<;>intro a<;>try(cases a;done))
 .have d:k<l.length:=oN.1 a;have e:=f d;refine cP 5 b ?_ ?_
  .exact a
  refine rW b (A2f c (l.getD k Rm)) [(1,.nm 1)] [] [(1,.nm 1)] (.p .bool (EB (l.getD k Rm).2.1 c)) ([(1,.box 83 false [.p Ek c])]) (E7 ?_)
  repeat'(first|exact a6|apply eS rfl|apply AD|refine rX b ?_ ?_|refine rC ?_ ?_<;>intro a<;>try(cases a;done))
  .have a:EB (l.getD k Rm).2.1 c=true:=a;rw[At a,hf]at e;refine Ev.ent (σ':=⟨[(4,.p (.int .i64) (k:Int))],[(1,.box 83 false [.p Ek c])]⟩) ?_ (AB [(1,.nm 1)] rfl rfl ?_ ?_)
   .exact fM b [.tmp 4] (.p T3 (k:Int)) eT ⟨by rw[e],rfl⟩
   .exact eN
   exact eN
  .omega
  have a:EB (l.getD k Rm).2.1 c=false:=a;rw[As (by rw[a];simp)]at e;exact⟨⟨k+1,d,e.symm.trans hf⟩,a2,eW [(1,.nm 1)]⟩
 have d:l.drop k=[]:=NO (AAw.1 a);rw[d]at hf;have hf:(-1:Int)=FF c 0 l:=hf;refine Ev.ent (σ':=⟨[(4,.p (.int .i64) (-1))],[(1,.box 83 false [.p Ek c])]⟩) ?_ (AB [(1,.nm 1)] rfl rfl ?_ ?_)
 .exact fM b [.tmp 4] (.p T3 (-1)) eT ⟨by rw[hf],rfl⟩
 .exact eN
 exact eN
def Bn (h:AE) (t:Int):List Int:=(h.1.getD t.toNat Rm).2.1
def C4 (h:AE) (a b:Int):Int×Bool :=
 if (GM (Bn h a) (Bn h b)).length=0 then (0,false) else if FF (GM (Bn h a) (Bn h b)) 0 h.1<0 then (0,false) else (FF (GM (Bn h a) (Bn h b)) 0 h.1,true)
def t4:Ab:={ ins:=[GT,T3,T3],pre:=λ(h,a,b,_)=>((0:Int)<=a/\a<(List.length (h:AE).1:Int))/\((0:Int)<=b/\b<(List.length (h:AE).1:Int))/\List.length (h:AE).1<=100000/\(∀x∈(h:AE).1,x.2.1.length<=100000),out:=λ(h,a,b,_)=>[.p T3 (C4 h a b).1,.p .bool (C4 h a b).2],lend:=true }
theorem A6h:Ag Tryz.prog 143 t4:=by
 refine fK [0,1,2,3,6,7,8,9,25,31] Tryz.func143 Tryz.ntmps143 (AF A6g AH) ?_;rintro w0 O0 ⟨⟨d,hf⟩,a,b,u⟩ e-⟨ha,i,k,n⟩;simp only[t4,AL];refine Ev.ent (σ':=⟨[(0,.p GT (d,hf)),(1,.p T3 a),(2,.p T3 b)],[]⟩) ?_ (AB [] rfl rfl ?_ ?_)
 .repeat'(first|exact a6|apply eS rfl|refine rX e ?_ ?_|refine rC ?_ ?_<;>intro f<;>try(cases f;done))
  .refine⟨ha,i,?_⟩;have h1:Int.toNat a<List.length d:=(AEx ha.1).2 ha.2;exact n _ (AG (d:List F1) Rm h1)
  .have l:C4 (d,hf) a b=(0,false):=by
    unfold C4;rw[At (by unfold Bn;exact Int.ofNat.inj f)]
   exact fI e [.tmp 6,.tmp 7] (by rw[l];exact eR)
  have j:∀c,c=GM (List.getD d (Int.toNat a) (ByteArray.empty,[],[],[])).2.1 (List.getD d (Int.toNat b) (ByteArray.empty,[],[],[])).2.1->c=GM (Bn (d,hf) a) (Bn (d,hf) b):=λc h=>h;have g:C4 (d,hf) a b=if FF (GM (Bn (d,hf) a) (Bn (d,hf) b)) 0 d<0 then (0,false) else (FF (GM (Bn (d,hf) a) (Bn (d,hf) b)) 0 d,true):=by
   unfold C4;rw[As (λh=>f (by unfold Bn at h;exact AC4 Int.ofNat h))]
  generalize o:GM (List.getD d (Int.toNat a) (ByteArray.empty,[],[],[])).2.1 (List.getD d (Int.toNat b) (ByteArray.empty,[],[],[])).2.1=c at *;rw[<-j c rfl]at g;refine cP 3 e ?_ ?_
  .trivial
  refine rW e (yR d c k) [(1,.nm 8)] [] [(8,.nm 1)] (.p T3 (FF c 0 d)) ([(8,.box 83 false [.p Ek c])]) ?_
  generalize FF c 0 d=m at *;refine rL e ?_ ?_
  .trivial
  repeat'(first|exact a6|apply eS rfl|refine rX e ?_ ?_|refine rC ?_ ?_<;>intro f<;>try(cases f;done))
  .rw[At f]at g;exact fI e [.tmp 6,.tmp 7] (by rw[g];exact eR)
  rw[As (ACA.2 f)]at g;exact fI e [.tmp 6,.tmp 7] (by rw[g];exact eR)
 .exact eN
 exact eN
end
theorem WU (l:List (List Int)) (i k:Nat):l <+: Gp l i k:=by
 unfold Gp;split
 .exact AEu _ _
 exact AD4 _
theorem WV (i:Nat):∀(n k:Nat) (l:List (List Int)),l <+: Gq i n k l
 | 0,_,l=>AD4 l
 | n+1,k,l=>by
  unfold Gq;split
  .exact(WU l i k).trans (WV i n (k+1) _)
  exact AD4 l
theorem Qx:∀(n i:Nat) (l:List (List Int)),l <+: Ie n i l
 | 0,_,l=>AD4 l
 | n+1,i,l=>by
  unfold Ie;split
  .exact(WV i i 0 l).trans (Qx n (i+1) _)
  exact AD4 l
theorem Qy {m:List (List Int)} (h:l <+: m) (hk:k<l.length):m.getD k []=l.getD k []:=by
 obtain⟨t,rfl⟩:=h;simp only[AS];rw[AAr hk]
def L1 (l:List (List Int)) (q p:Nat):Prop:=El (l.getD q []) (l.getD p [])=[]\/El (l.getD q []) (l.getD p [])∈l
theorem L1.pre {m:List (List Int)} (h:l <+: m) {q p:Nat} (c:q<l.length) (b:p<l.length) (a:L1 l q p):L1 m q p:=by
 unfold L1 at a ⊢;rw[Qy h c,Qy h b];rcases a with a|a
 .exact .inl a
 exact .inr (h.subset a)
theorem A6i {b:List Int} (h:nQ l b=true):b∈l:=by
 obtain⟨x,a,e⟩:=aS.1 h;have:x=b:=by simpa[Hm] using e
 rw[<-this];exact a
theorem oQ {i k:Nat} (hi:i<l.length) (hk:k<l.length):L1 (Gp l i k) i k:=by
 have b:=WU l i k;unfold L1;rw[Qy b hi,Qy b hk];unfold Gp;split
 .right;simp
 rename_i a;rw[An,Is,lU]at a;by_cases h0:0<((El (l.getD i []) (l.getD k [])).length:Int)
 .right;cases hh:nQ l (El (l.getD i []) (l.getD k [])) with
  | true=>exact A6i hh
  | false=>exact absurd ⟨h0,hh⟩ a
 left;exact AAs O1
theorem WW {i:Nat}:∀ {n k:Nat} {l:List (List Int)},n+k=i->i<l.length->(Gq i n k l).length<=256->(∀p,p<k->L1 l i p)->∀p,p<i->L1 (Gq i n k l) i p
 | 0,k,l,hn,hi,a,h=>λp c=>h p O1
 | n+1,k,l,hn,hi,a,h=>by
  unfold Gq at a ⊢;split at a
  .rename_i b;rw[At b];have c:=WU l i k;refine WW O1 (ACb hi c.length_le) a λp d=>?_;by_cases e:p=k
   .subst e;exact oQ hi O1
   exact(h p O1).pre c hi O1
  rename_i b;exact absurd (by omega:l.length<=256) b
theorem WX:∀ {n i:Nat} {l:List (List Int)},257<=n+i->(Ie n i l).length<=256->i<=l.length->(∀q p,p<q->q<i->L1 l q p)->∀q p,p<q->q<(Ie n i l).length->L1 (Ie n i l) q p
 | 0,i,l,hn,a,g,h=>λq p c f=>by
  have k:l.length<=256:=a;omega
 | n+1,i,l,hn,a,g,h=>by
  unfold Ie at a ⊢;split at a
  .rename_i b;rw[At b];have d:=WV i i 0 l;have m:=d.length_le;have j:=(Qx n (i+1) (Gq i i 0 l)).length_le;refine WX O1 a O1 λq p c f=>?_;by_cases e:q=i
   .subst e;exact WW O1 b.1 O1 (λp d=>by omega) p c
   exact(h q p c O1).pre d O1 O1
  rename_i b;rw[As b];intro q p c f;exact h q p c (by
   refine Do λhh=>b ⟨O1,a⟩)
theorem b5 {c:List (List Int)} (a:(A4 c).length<=256):∀q p,p<q->q<(A4 c).length->L1 (A4 c) q p :=
 WX O1 a (DO _) (λq p _ h=>by omega)
theorem A2g (a b:List Int) (k:Nat):(El a b).getD k 0=if k<a.length then C2 .and .u64 (a.getD k 0) (b.getD k 0) else 0:=by
 unfold El;rw[Qo];split
 .rename_i h;exact N0 .and a b h
 rename_i h;rw[AS,wS (by rw[Eu];omega)];rfl
theorem HL {b:List Int} (h:¬k<b.length):b.getD k 0=0:=by
 rw[AS,wS O1];rfl
theorem Qz (ha:Ij a) (c:Ij b) (i:Nat):BO (El a b) i=(BO a i&&BO b i):=by
 unfold BO;rw[A2g];split
 .rw[Ii (BV ha _) (BV c _),S8,Nat.testBit_and]
 rename_i h;rw[HL h];simp
theorem Q0 (ha:Ij a) (d:Ij b):Ij (El a b):=by
 refine PS λx c=>?_;unfold Gn at c;obtain⟨i,-,rfl⟩:=IN.1 c;rw[H8,Ii (BV ha _) (BV d _)];have h1:=BV ha i;have e:(a.getD i 0).toNat &&& (b.getD i 0).toNat<=(a.getD i 0).toNat:=AEm;have f:=h1.1;have g:=h1.2;exact⟨AC8 _,O1⟩
theorem SV (b:List Int):∀n,Cs b n=0\/b.getD (Cs b n-1) 0≠0
 | 0=>.inl rfl
 | n+1=>by
  unfold Cs;split
  .exact SV b n
  rename_i h;right;simpa using h
theorem A6j {n:Nat} (h0:n≠0) (h1:n<18446744073709551616):∃r,r<64/\n.testBit r=true:=by
 refine Do λb=>h0 ?_;refine Nat.eq_of_testBit_eq λr=>?_;rw[Nat.zero_testBit];by_cases c:r<64
 .cases a:n.testBit r with
  | false=>rfl
  | true=>exact absurd ⟨r,c,a⟩ b
 have e:(18446744073709551616:Nat)=2 ^ 64:=by decide
 rw[e]at h1;exact Nat.testBit_lt_two_pow (ACb h1 (Nat.pow_le_pow_right dg O1))
theorem iY {b:List Int} (a:Ij b) (h:b.getD k 0≠0):∃i,BO b i=true:=by
 have hu:=BV a k;have h1:=hu.1;have d:=hu.2;obtain⟨r,e,c⟩:=A6j (n:=(b.getD k 0).toNat) O1 O1;refine⟨64*k+r,?_⟩;unfold BO;rw[show (64*k+r) / 64=k by omega,show (64*k+r) % 64=r by omega];exact c
theorem oT {b:List Int} (a:Ij b) (h:BZ b≠[]):∃i,BO b i=true:=by
 rcases SV b b.length with h1|h1
 .exact absurd (by unfold BZ;rw[h1];rfl) h
 exact iY a h1
theorem Y5 (ha:Ij a) (c:Ij b) (h:∀i,BO a i=true->BO b i=true) (k:Nat):C2 .andNot .u64 (a.getD k 0) (b.getD k 0)=0:=by
 rw[SP];have:(BitVec.ofInt 64 (a.getD k 0) &&& ~~~BitVec.ofInt 64 (b.getD k 0))=0#64:=by
  apply BitVec.eq_of_getLsbD_eq;intro r e;rw[BitVec.getLsbD_and,BitVec.getLsbD_not,<-ADy,<-ADy,Fy (BV ha k),Fy (BV c k)];have hk:=h (64*k+r);unfold BO at hk;rw[show (64*k+r) / 64=k by omega,show (64*k+r) % 64=r by omega]at hk;cases d:(a.getD k 0).toNat.testBit r with
  | false=>simp
  | true=>rw[hk d];simp
 rw[this];rfl
theorem Ew (ha:Ij a) (c:Ij b):E8 a b=true↔∀i,BO a i=true->BO b i=true:=by
 constructor
 .exact λh i hi=>M4 ha c h hi
 intro h;unfold E8 SI BZ;have h1:Cs (Gn .andNot a b a.length) (Gn .andNot a b a.length).length=0:=by
  rw[Eu];exact SQ λk hk=>by rw[N0 _ _ _ hk];exact Y5 ha c h k
 rw[h1];rfl
structure Hy (l:List (List Int)):Prop where
 wds:∀c∈l,Ij c
 some:∀c∈l,∃i,BO c i=true
 wid:∀c∈l,c.length<=64
 meet:∀a∈l,∀b∈l,(∃i,BO a i=true/\BO b i=true)->∃t∈l,∀i,BO t i=(BO a i&&BO b i)
structure Bs (l:List (List Int)):Prop where
 wds:∀c∈l,Ij c
 some:∀c∈l,∃i,BO c i=true
theorem SW (h:¬k<l.length):l.getD k []=[]:=by
 rw[AS,wS O1];rfl
theorem Bs.get (h:Bs l) (k:Nat):Ij (l.getD k []):=by
 by_cases hk:k<l.length
 .exact h.wds _ (Ad hk)
 rw[SW hk];intro x a;cases a
theorem A6k (h:Bs l) (i k:Nat):Bs (Gp l i k):=by
 unfold Gp;split
 .rename_i b;rw[An,Is]at b;refine⟨λc a=>?_,λc a=>?_⟩
  .rcases IS.1 a with a|a
   .exact h.wds c a
   have:c=El (l.getD i []) (l.getD k []):=by simpa using a
   rw[this];exact Q0 (h.get i) (h.get k)
  rcases IS.1 a with a|a
  .exact h.some c a
  have:c=El (l.getD i []) (l.getD k []):=by simpa using a
  rw[this];have g:El (l.getD i []) (l.getD k [])≠[]:=by
   intro e;rw[e]at b;exact absurd b.1 sc
  have hz:Ij (Gn .and (l.getD i []) (l.getD k []) (l.getD i []).length):=by
   intro x d;unfold Gn at d;obtain⟨j,-,rfl⟩:=IN.1 d;rw[H8,Ii (BV (h.get i) _) (BV (h.get k) _)];have h1:=BV (h.get i) j;have m:((l.getD i []).getD j 0).toNat &&& ((l.getD k []).getD j 0).toNat<=((l.getD i []).getD j 0).toNat:=AEm;have n:=h1.1;have o:=h1.2;exact⟨AC8 _,O1⟩
  obtain⟨j,f⟩:=oT hz g;exact⟨j,by unfold El;rw[PR];exact f⟩
 exact h
theorem t5 {i:Nat}:∀ {n k:Nat} {l:List (List Int)},Bs l->Bs (Gq i n k l)
 | 0,_,_,h=>h
 | n+1,k,l,h=>by
  unfold Gq;split
  .exact t5 (A6k h i k)
  exact h
theorem t6:∀ {n i:Nat} {l:List (List Int)},Bs l->Bs (Ie n i l)
 | 0,_,_,h=>h
 | n+1,i,l,h=>by
  unfold Ie;split
  .exact t6 (t5 h)
  exact h
theorem yS {d:List AJ} (f:BH d=0):Bs (AZ d):=by
 obtain⟨-,l,-⟩:=A2 f;have h:=EA d d.length;rw[tO]at h;have b:(AN d).length<=4096:=by omega
 refine⟨λc a=>?_,λc a=>?_⟩
 .unfold AZ at a;obtain⟨s,-,rfl⟩:=IN.1 a;exact(Bm (d:=d) b s 0).2.1
 unfold AZ at a;obtain⟨s,hs,rfl⟩:=IN.1 a;obtain⟨j,g,e⟩:=CJ ByteArray.empty hs;have i:0<=Ar d s:=by
  obtain⟨x,k,e⟩:=Dm hs;rw[<-e];exact Dk k
 exact⟨j,(Bm (d:=d) b s j).1.2 ⟨g,by rw[e];exact PT i⟩⟩
theorem Pa {d:List AJ} (m:BH d=0) (u:(A4 (AZ d)).length<=256):Hy (A4 (AZ d)):=by
 obtain⟨-,r,-⟩:=A2 m;have g:Bs (A4 (AZ d)):=t6 (yS m);have o:=b5 u;refine⟨g.wds,g.some,Qs (PY r),λa ha b s hi=>?_⟩;obtain⟨q,f,rfl⟩:=CJ [] ha;obtain⟨p,j,rfl⟩:=CJ [] s;have key:∀q p,q<(A4 (AZ d)).length->p<(A4 (AZ d)).length->L1 (A4 (AZ d)) q p->(∃i,BO ((A4 (AZ d)).getD q []) i=true/\BO ((A4 (AZ d)).getD p []) i=true) ->
   ∃t∈A4 (AZ d),∀i,BO t i=(BO ((A4 (AZ d)).getD q []) i&&BO ((A4 (AZ d)).getD p []) i):=by
  intro q p f j c hi;have n:=Qz (g.get q) (g.get p);rcases c with c|c
  .obtain⟨i,k,l⟩:=hi;have:=n i;rw[c,k,l]at this;unfold BO at this;simp at this
  exact⟨_,c,n⟩
 rcases AE5 p q with h|h|h
 .exact key q p f j (o q p h f) hi
 .subst h;exact⟨_,Ad f,λi=>by rw[Bool.and_self]⟩
 obtain⟨t,v,e⟩:=key p q j f (o p q h j) (by obtain⟨i,k,l⟩:=hi;exact⟨i,l,k⟩);exact⟨t,v,λi=>by rw[e i,Bool.and_comm]⟩
def Gt (h:AE):Prop:=Hy (h.1.map λt=>t.2.1)/\h.1.length<=256
theorem HN (d:List AJ):Gt (Ah d).1:=by
 unfold Ah;split
 .exact⟨⟨λc h=>(by cases h),λc h=>(by cases h),λc h=>(by cases h),λc h=>(by cases h)⟩,sc⟩
 rename_i g;have g:(BD d).2=0:=Do g;have m:Ax d=0:=by
  unfold BD at g;split at g
  .rename_i h;exact absurd g h
  rename_i h;exact Do h
 obtain⟨hz,-,-⟩:=B8 m;obtain⟨l,k,-⟩:=Bd hz;have hf:=Pa l k;have f:∀c,c∈((BW d).1.map λt=>t.2.1)↔c∈A4 (AZ d):=by
  intro c;have e:((BW d).1.map λt=>t.2.1)=(AM d).map λx=>x.2:=by
   show ((Eg _ _ _).map λt=>t.2.1)=_;unfold Eg;rw[AC0];apply AAy
   .simp
   intro i h1 p;simp[AS,show i<(AM d).length by simpa using h1]
  rw[e];constructor
  .intro h;obtain⟨x,o,rfl⟩:=IN.1 h;obtain⟨b,j,rfl⟩:=Dn.1 o;exact j
  intro h;exact IN.2 ⟨_,Dn.2 ⟨c,h,rfl⟩,rfl⟩
 refine⟨⟨λc h=>hf.wds c ((f c).1 h),λc h=>hf.some c ((f c).1 h),λc h=>hf.wid c ((f c).1 h),λa ha b j hi=>?_⟩,?_⟩
 .obtain⟨t,n,e⟩:=hf.meet a ((f a).1 ha) b ((f b).1 j) hi;exact⟨t,(f t).2 n,e⟩
 show (Eg _ _ _).length<=256;rw[Ke,Il];exact k
theorem Ck {h:AE} {t:Int} (a:0<=t) (b:t<(h.1.length:Int)):Bn h t∈h.1.map λt=>t.2.1 :=
 IN.2 ⟨_,AG h.1 Rm (k:=t.toNat) O1,rfl⟩
theorem WY (ha:Ij a) (c:Ij b):M9 a b=true↔∀i,BO a i=true->BO b i=true:=by
 constructor
 .intro h i hi;by_cases hk:i / 64<a.length
  .have h1:=OF.1 h (i / 64) (AAn.2 hk);rw[AAv,H8]at h1;exact Th (BV ha _) (BV c _) h1 (AER _ dg) hi
  exfalso;unfold BO at hi;rw[HL hk]at hi;simp at hi
 intro h;unfold M9;rw[OF];intro k _;rw[AAv,H8];exact Y5 ha c h k
theorem A2h (ha:Ij a) (c:Ij b) (i:Nat):BO (GM a b) i=(BO a i&&BO b i):=by
 unfold GM;rw[PR];unfold BO;have:(HK (bZ a b) (min a.length b.length) (min a.length b.length)).getD (i / 64) 0=C2 .and .u64 (a.getD (i / 64) 0) (b.getD (i / 64) 0):=by
  by_cases h:i / 64<min a.length b.length
  .unfold HK;rw[AS,ABL,ACC h];show (if i / 64<min a.length b.length then bZ a b (i / 64) else 0)=_;rw[At h];rfl
  rw[HL (by rw[Y4];exact h),Ii (BV ha _) (BV c _)];by_cases h1:i / 64<a.length
  .rw[HL (b:=b) O1];simp
  rw[HL (b:=a) h1];simp
 rw[this,Ii (BV ha _) (BV c _),S8,Nat.testBit_and]
theorem A2i (ha:Ij a) (d:Ij b):Ij (GM a b):=by
 refine PS λx c=>?_;unfold HK at c;obtain⟨j,-,rfl⟩:=IN.1 c;split
 .unfold bZ;rw[Ii (BV ha _) (BV d _)];have h1:=BV ha j;have e:(a.getD j 0).toNat &&& (b.getD j 0).toNat<=(a.getD j 0).toNat:=AEm;have f:=h1.1;have g:=h1.2;exact⟨AC8 _,O1⟩
 exact⟨dg,dg⟩
theorem WZ (c:List Int):∀(l:List F1) (k:Nat),(FF c k l=-1/\∀t∈l,EB t.2.1 c=false)\/((k:Int)<=FF c k l/\FF c k l<(k:Int)+l.length/\EB (l.getD ((FF c k l).toNat-k) Rm).2.1 c=true)
 | [],k=>.inl ⟨rfl,λt a=>by cases a⟩
 | x :: l,k=>by
  simp only[FF];split
  .rename_i h;right;refine⟨O1,by simp only[If];omega,?_⟩;rw[show ((k:Int).toNat-k)=0 by omega];exact h
  rename_i h;have h:EB x.2.1 c=false:=by simpa using h
  rcases WZ c l (k+1) with ⟨h1,b⟩|⟨h1,b,d⟩
  .left;refine⟨h1,λt a=>?_⟩;rcases By.1 a with rfl|a
   .exact h
   exact b t a
  right;refine⟨O1,by simp only[If];omega,?_⟩;rw[show ((FF c (k+1) l).toNat-k)=((FF c (k+1) l).toNat-(k+1))+1 by omega];exact d
def Tb2 (h:AE) (t:Int) (i:Nat):Bool:=BO (Bn h t) i
theorem B9 {h:AE} (hk:Gt h) {a b:Int} (c:0<=a) (d:a<(h.1.length:Int)) (e:0<=b) (b1:b<(h.1.length:Int)):Af h a b=true↔∀i,Tb2 h b i=true->Tb2 h a i=true :=
 WY (hk.1.wds _ (Ck e b1)) (hk.1.wds _ (Ck c d))
theorem A2k {h:AE} (hk:Gt h) {a b:Int} (f:0<=a) (g:a<(h.1.length:Int)) (j:0<=b) (b1:b<(h.1.length:Int)) :
  ((C4 h a b).2=true->0<=(C4 h a b).1/\(C4 h a b).1<(h.1.length:Int)/\∀i,Tb2 h (C4 h a b).1 i=(Tb2 h a i&&Tb2 h b i))/\((∃i,Tb2 h a i=true/\Tb2 h b i=true)->(C4 h a b).2=true):=by
 have r:=hk.1.wds _ (Ck f g);have s:=hk.1.wds _ (Ck j b1);have c:=A2h r s;have n:=A2i r s;have heq:∀t∈h.1,EB t.2.1 (GM (Bn h a) (Bn h b))=true↔∀i,BO t.2.1 i=BO (GM (Bn h a) (Bn h b)) i:=by
  intro t d;have wt:=hk.1.wds t.2.1 (IN.2 ⟨t,d,rfl⟩);unfold EB;rw[An,WY wt n,WY n wt];constructor
  .rintro⟨u,v⟩ i;rw[ADn];exact⟨u i,v i⟩
  intro e;exact⟨λi hi=>by rw[<-e i];exact hi,λi hi=>by rw[e i];exact hi⟩
 unfold C4;by_cases hz:(GM (Bn h a) (Bn h b)).length=0
 .rw[At hz];refine⟨λe=>(by cases e),?_⟩;rintro⟨i,p,q⟩;exfalso;have:=c i;rw[AAs hz]at this;unfold Tb2 at p q;rw[p,q]at this;unfold BO at this;simp at this
 rw[As hz];rcases WZ (GM (Bn h a) (Bn h b)) h.1 0 with ⟨h1,l⟩|⟨h1,l,m⟩
 .rw[At O1];refine⟨λe=>(by cases e),λhi=>?_⟩;exfalso;obtain⟨t,d,e⟩:=hk.1.meet _ (Ck f g) _ (Ck j b1) hi;obtain⟨x,o,rfl⟩:=IN.1 d;have:=(heq x o).2 (λi=>by rw[c i];exact e i);rw[l x o]at this;cases this
 have h1:0<=FF (GM (Bn h a) (Bn h b)) 0 h.1:=by omega
 rw[As O1];refine⟨λ_=>⟨h1,a2,λi=>?_⟩,λ_=>rfl⟩;rw[Nat.sub_zero]at m;have w:=AG h.1 Rm (k:=(FF (GM (Bn h a) (Bn h b)) 0 h.1).toNat) O1;have:=(heq _ w).1 m i;rw[c i]at this;exact this
theorem NA {h:AE} (hk:Gt h) {a b:Int} (l:0<=a) (m:a<(h.1.length:Int)) (n:0<=b) (b1:b<(h.1.length:Int)) :
  ((C4 h a b).2=true->0<=(C4 h a b).1/\(C4 h a b).1<(h.1.length:Int)/\Af h a (C4 h a b).1=true/\Af h b (C4 h a b).1=true) /\
  ∀x,0<=x->x<(h.1.length:Int)->Af h a x=true->Af h b x=true->(C4 h a b).2=true/\Af h (C4 h a b).1 x=true:=by
 obtain⟨r,u⟩:=A2k hk l m n b1;refine⟨λe=>?_,λx g k s t=>?_⟩
 .obtain⟨c,d,f⟩:=r e;refine⟨c,d,(B9 hk l m c d).2 λi hi=>?_,(B9 hk n b1 c d).2 λi hi=>?_⟩
  .rw[f i,An]at hi;exact hi.1
  rw[f i,An]at hi;exact hi.2
 have o:=(B9 hk l m g k).1 s;have p:=(B9 hk n b1 g k).1 t;obtain⟨i,hi⟩:=hk.1.some _ (Ck g k);have e:=u ⟨i,o i hi,p i hi⟩;obtain⟨c,d,f⟩:=r e;refine⟨e,(B9 hk c d g k).2 λj q=>?_⟩;rw[f j,An];exact⟨o j q,p j q⟩
def Nrm (c:List Int):Prop:=c.length=0\/c.getD (c.length-1) 0≠0
theorem Pb (b:List Int):Nrm (BZ b):=by
 unfold Nrm BZ;have a:=V9 b b.length;rw[On,ADl a];rcases SV b b.length with h|h
 .exact .inl h
 by_cases h0:Cs b b.length=0
 .exact .inl h0
 right;rw[AS,List.getElem?_take_of_lt O1,<-AS];exact h
theorem A6l (ha:Ij a) (f:Ij b) (h:∀i,BO a i=BO b i) (k:Nat):a.getD k 0=b.getD k 0:=by
 have c:=BV ha k;have d:=BV f k;have j:=c.1;have l:=c.2;have m:=d.1;have o:=d.2;have e:(a.getD k 0).toNat=(b.getD k 0).toNat:=by
  refine Nat.eq_of_testBit_eq λr=>?_;by_cases g:r<64
  .have:=h (64*k+r);unfold BO at this;rw[show (64*k+r) / 64=k by omega,show (64*k+r) % 64=r by omega]at this;exact this
  have big:∀n:Nat,n<18446744073709551616->n.testBit r=false:=λn hn=>by
   have e:(18446744073709551616:Nat)=2 ^ 64:=by decide
   rw[e]at hn;exact Nat.testBit_lt_two_pow (ACb hn (Nat.pow_le_pow_right dg O1))
  rw[big _ O1,big _ O1]
 omega
theorem t7 (d:∀k,a.getD k 0=b.getD k 0) (c:Nrm b):b.length<=a.length:=by
 rcases c with h|h
 .omega
 refine Do λe=>h ?_;rw[<-d];exact HL O1
theorem oU (ha:Ij a) (e:Ij b) (g:Nrm a) (j:Nrm b) (h:∀i,BO a i=BO b i):a=b:=by
 have c:=A6l ha e h;have f:a.length=b.length:=ADY (t7 (λk=>(c k).symm) g) (t7 c j);refine AAy f λi h1 d=>?_;have:=c i;simpa[AS,h1,d] using this
theorem iZ {α:Type} (l:List α) (x:α) (n:Nat):List.Perm (l.take n++[x]++l.drop n) (x :: l):=by
 have h:l.take n++[x]++l.drop n=l.take n++x :: l.drop n:=by simp
 rw[h];refine AEK.trans ?_;rw[ADr]
def t8 (l:List ByteArray):Prop:=l.Pairwise λa b=>AK a b=false
theorem Je {a b:ByteArray} (h:AK a b=false):AK b a=false:=by
 cases hh:AK b a with
 | false=>rfl
 | true=>rw[Bt hh]at h;cases h
theorem Wa {l:List ByteArray} (h:t8 l) (hs:∀x∈l,AK x s=false):t8 (D9 l s):=by
 unfold D9;split
 .exact h
 refine(List.Perm.pairwise_iff (λb=>Je b) (iZ l s _)).2 ?_;exact AB3.2 ⟨λx a=>Je (hs x a),h⟩
theorem Wb {d:List AJ} (hn:Cj d=0):t8 (AN d):=by
 have key:∀k,k<=d.length->t8 (AN (d.take k))/\∀s∈AN (d.take k),∃i,i<k/\(d.getD i d0).1=s:=by
  intro k;induction k with
  | zero =>
   intro _;exact⟨.nil,λs hs=>by cases hs⟩
  | succ k c =>
   intro hk;obtain⟨h1,a⟩:=c O1;have e:AN (d.take (k+1))=D9 (AN (d.take k)) (d.getD k d0).1:=by
    have:d.take (k+1)=d.take k++[d.getD k d0]:=Ap d d0 O1;rw[this];unfold AN;rw[AD0];rfl
   rw[e];refine⟨Wa h1 λx b=>?_,λs hs=>?_⟩
   .obtain⟨i,hi,rfl⟩:=a x b;cases hh:AK (d.getD i d0).1 (d.getD k d0).1 with
    | false=>rfl
    | true =>
     have g:=Ja d hh;rw[M5 hn (j:=i) O1,M5 hn (j:=k) O1]at g;omega
   rcases GK hs with hs|hs
   .obtain⟨i,hi,e⟩:=a s hs;exact⟨i,O1,e⟩
   exact⟨k,O1,hs.symm⟩
 have:=(key d.length (Of _)).1
 rwa [tO]at this
structure Nd (l:List (List Int)):Prop where
 nd:l.Nodup
 nrm:∀c∈l,Nrm c
theorem A6m {c:List Int} (h:Nd l) (b:c∉l) (hn:Nrm c):Nd (l++[c]):=by
 refine⟨?_,λx a=>?_⟩
 .rw[ACr];refine⟨h.nd,sc,λx a y d e=>b ?_⟩;have:y=c:=by simpa using d
  rw[<-this,<-e];exact a
 rcases IS.1 a with a|a
 .exact h.nrm x a
 have:x=c:=by simpa using a
 rw[this];exact hn
theorem A6n (h:Nd l) (i k:Nat):Nd (Gp l i k):=by
 unfold Gp;split
 .rename_i a;rw[An,lU]at a;refine A6m h (λb=>?_) (Pb _);have:nQ l (El (l.getD i []) (l.getD k []))=true:=aS.2 ⟨_,b,by unfold Hm;exact ACd rfl⟩;rw[this]at a;cases a.2
 exact h
theorem t9 {i:Nat}:∀ {n k:Nat} {l:List (List Int)},Nd l->Nd (Gq i n k l)
 | 0,_,_,h=>h
 | n+1,k,l,h=>by
  unfold Gq;split
  .exact t9 (A6n h i k)
  exact h
theorem Uo:∀ {n i:Nat} {l:List (List Int)},Nd l->Nd (Ie n i l)
 | 0,_,_,h=>h
 | n+1,i,l,h=>by
  unfold Ie;split
  .exact Uo (t9 h)
  exact h
theorem SX {d:List AJ} (m:BH d=0):Nd (AZ d):=by
 obtain⟨-,l,-,hn,p⟩:=A2 m;have q:=EA d d.length;rw[tO]at q;have hap:=Wb hn;refine⟨?_,λc n=>?_⟩
 .unfold AZ List.Nodup;rw[AC6,oS];intro i j hi a o e;have h1:=(oS.1 hap) i j hi a o;have g:∀k,(hk:k<(AN d).length)->(AN d).getD k ByteArray.empty=(AN d)[k]:=λk hk=>by simp[AS,hk]
  have f:=(Bm (d:=d) (all:=AN d) O1 (AN d)[j] 0).2.1;have b:=iG hn p l hi a (by
   rw[g i hi,g j a,e];unfold DZ;have:=(Ew f f).2 λ_ h=>h;rw[this];rfl)
  rw[g i hi,g j a,h1]at b;cases b
 obtain⟨s,hs,rfl⟩:=IN.1 n;unfold Ef ofF;split
 .exact Pb _
 exact .inl rfl
theorem NB {d:List AJ}:∀ {l:List (List Int)} {o:List AU},(o.map (·.2)++l).Nodup->((l.foldl (SR d) o).map (·.2)).Nodup
 | [],o,h=>by simpa using h
 | b :: l,o,h=>by
  rw[ON];refine NB ?_;unfold SR Gr bT;have c:=(iZ o (HI d (AN d) (AZ d) b,b) (F0 (HI d (AN d) (AZ d) b,b) o o.length)).map (λx:AU=>x.2);have e:List.Perm ((o.take (F0 (HI d (AN d) (AZ d) b,b) o o.length)++[(HI d (AN d) (AZ d) b,b)]++o.drop (F0 (HI d (AN d) (AZ d) b,b) o o.length)).map (λx:AU=>x.2)++l) (o.map (·.2)++b :: l) :=
   (c.append_right l).trans (AEK (a:=b)).symm
  exact e.nodup_iff.2 h
def J5 (h:AE):Prop:=∀a b,0<=a->a<(h.1.length:Int)->0<=b->b<(h.1.length:Int)->Af h a b=true->Af h b a=true->a=b
theorem A9f {h:AE} (hk:Gt h) (hn:Nd (h.1.map λt=>t.2.1)):J5 h:=by
 intro a b c d f b1 h1 l;have n:=hk.1.wds _ (Ck c d);have o:=hk.1.wds _ (Ck f b1);have e:Bn h a=Bn h b:=oU n o (hn.nrm _ (Ck c d)) (hn.nrm _ (Ck f b1)) λi=>by
  rw[ADn];exact⟨(B9 hk f b1 c d).1 l i,(B9 hk c d f b1).1 h1 i⟩
 have j:=oS.1 hn.nd;have g:∀k:Int,0<=k->(hk:k<(h.1.length:Int))->Bn h k=(h.1.map λt=>t.2.1)[k.toNat]'(by rw[OR];omega):=λk p q=>by
  unfold Bn;simp[AS,show k.toNat<h.1.length by omega]
 rw[g a c d,g b f b1]at e;rcases Int.lt_trichotomy a b with m|heq|m
 .exact absurd e (j a.toNat b.toNat (by rw[OR];omega) (by rw[OR];omega) O1)
 .exact heq
 exact absurd e.symm (j b.toNat a.toNat (by rw[OR];omega) (by rw[OR];omega) O1)
theorem Tn (d:List AJ):J5 (Ah d).1:=by
 refine A9f (HN d) ?_;unfold Ah;split
 .exact⟨.nil,λc h=>(by cases h)⟩
 rename_i a;have a:(BD d).2=0:=Do a;have g:Ax d=0:=by
  unfold BD at a;split at a
  .rename_i h;exact absurd a h
  rename_i h;exact Do h
 obtain⟨hz,-,-⟩:=B8 g;obtain⟨f,n,-⟩:=Bd hz;have hf:Nd (A4 (AZ d)):=Uo (SX f);have e:((BW d).1.map λt=>t.2.1)=(AM d).map λx=>x.2:=by
  show ((Eg _ _ _).map λt=>t.2.1)=_;unfold Eg;rw[AC0];apply AAy
  .simp
  intro i h1 m;simp[AS,show i<(AM d).length by simpa using h1]
 show Nd ((BW d).1.map λt=>t.2.1);rw[e];refine⟨NB (by simpa using hf.nd),λc k=>?_⟩;obtain⟨x,l,rfl⟩:=IN.1 k;obtain⟨b,j,rfl⟩:=Dn.1 l;exact hf.nrm b j
section
attribute [go_sem] t4
def EO (f:Int):List (Int×Int)->Int×Bool
 | []=>(0,false)
 | x :: l=>if x.1=f then (x.2,true) else EO f l
theorem Wc (f:Int) (l:List (Int×Int)) (h:k<l.length):EO f (l.drop k)=if (l.getD k (0,0)).1=f then ((l.getD k (0,0)).2,true) else EO f (l.drop (k+1)):=by
 rw[OS h];have e:l.getD k (0,0)=l[k]:=by simp[AS,h]
 rw[e];rfl
def b6 (h:AE) (t:Int):List (Int×Int):=(h.1.getD t.toNat Rm).2.2.2
def CR (h:AE) (t f:Int):Int×Bool:=EO f (b6 h t)
def Ob:Ab:={ ins:=[GT,T3,T3],pre:=λ(h,t,_,_)=>(0:Int)<=t/\t<(List.length (h:AE).1:Int),out:=λ(h,t,f,_)=>[.p T3 (CR h t f).1,.p .bool (CR h t f).2],lend:=true }
attribute [go_sem] Ob
theorem A6o:Ag Tryz.prog 110 Ob:=by
 refine fK [0,1,2,3,6,7,9,15,16,17,18,26] Tryz.func110 Tryz.ntmps110 AH ?_;rintro w0 O0 ⟨⟨d,hf⟩,t,f,u⟩ a q ⟨j,m⟩;simp only[Ob,AL];refine Ev.ent (σ':=⟨[(0,.p GT (d,hf)),(1,.p T3 t),(2,.p T3 f)],[]⟩) ?_ (AB [] rfl rfl ?_ ?_)
 .repeat'(first|exact a6|apply eS rfl|refine rX a ?_ ?_)
  .exact⟨j,m⟩
  have o:∀l,l=(List.getD d (Int.toNat t) (ByteArray.empty,[],[],[])).2.2.2->CR (d,hf) t f=EO f l:=λl e=>by rw[e];rfl
  have r:List.length (List.getD d (Int.toNat t) (ByteArray.empty,[],[],[])).2.2.2<=140737488355328:=(q.1.1.2 _ (AG (d:List F1) Rm ((AEx j).2 m))).2.2.2.1;generalize (List.getD d (Int.toNat t) (ByteArray.empty,[],[],[])).2.2.2=l at *;rw[o l rfl];refine AI (ι:={k:Nat//k<=List.length l/\EO f l=EO f (l.drop k)}) (λk=>⟨[(2,.p T3 f),(15,.p T84 l),(16,.p (.int .i64) (List.length l:Int)),(17,.p (.int .i64) (k.1:Int))],[]⟩) (λk=>List.length l-k.1) ⟨0,DO _,rfl⟩ (eW []) (λk=>?_)
  obtain⟨k,hk,b⟩:=k;have i:=λh:k<List.length l=>Wc f l h;simp only;repeat'(first|exact a6|apply eS rfl|refine rX a ?_ ?_|refine rC ?_ ?_<;>intro c<;>try(cases c;done))
  .exact c
  .refine cP 5 a ?_ ?_
   .trivial
   refine ACv a ?_;refine rL a ?_ ?_
   .trivial
   repeat'(first|exact a6|apply eS rfl|apply AD|refine rX a ?_ ?_|refine rC ?_ ?_<;>intro c<;>try(cases c;done))
   .have g:k<List.length l:=by exact eV
    rw[i g,At c]at b;exact fI a [.tmp 6,.tmp 7] (by rw[b];exact eR)
   .omega
   have g:k<List.length l:=by exact eV
   rw[i g,As c]at b;exact⟨⟨k+1,g,b⟩,a2,eW []⟩
  have n:List.drop k (l:List (Int×Int))=[]:=NO eV;rw[n]at b;have b:EO f l=(0,false):=b;exact fI a [.tmp 6,.tmp 7] (by rw[b];exact eR)
 .exact eN
 exact eN
abbrev Ed:=List Int×List Int
def DK (h:AE) (s:Ed) (n t:Int):Option Ed :=
 if (C4 h (s.1.getD n.toNat 0) t).2=true then some (if (C4 h (s.1.getD n.toNat 0) t).1=s.1.getD n.toNat 0 then s else (s.1.set n.toNat (C4 h (s.1.getD n.toNat 0) t).1,s.2++[n])) else none
def EC (h:AE) (s:Ed):List (Nat×Obj):=[(1,.box 139 true [.p GT h,.sr 2 T3 0 s.1.length,.p DH s.2]),(2,.arr 3 T3 s.1)]
theorem i5 (h:AE) (hk:Gt h) (s:Ed) {t:Int} (n0:0<=n) (n1:n<(s.1.length:Int)) (f:0<=s.1.getD n.toNat 0) (ty1:s.1.getD n.toNat 0<(h.1.length:Int)) (k:0<=t) (l:t<(h.1.length:Int)) (i:s.2.length<=1000000000) :
  BB Tryz.prog 109 [.bp 1 [] 0,.p T3 n,.p T3 t] (EC h s) [1]
  (λres d=>(DK h s n t=none/\res=.p .bool false/\d=EC h s)\/∃e,DK h s n t=some e/\res=.p .bool true/\d=EC h e):=by
 obtain⟨ty,w⟩:=s;simp only at n1 f ty1 i;have hh:h.1.length<=100000:=iN hk.2 O1;have g:∀x∈h.1,x.2.1.length<=100000:=λx j=>iN (hk.1.wid x.2.1 (IN.2 ⟨x,j,rfl⟩)) O1;refine JT [0,1,2,6,7,8,26,35] [] [] Tryz.func109 Tryz.ntmps109 (AF A6h AH) ?_;intro w0 K O0 ρ0 c o q;simp only[EC,Aq];repeat'(first|exact a6|apply eS rfl|refine rX c ?_ ?_|refine rC ?_ ?_<;>intro b<;>try(cases b;done))
 .exact⟨⟨n0,n1⟩,⟨f,ty1⟩,⟨k,l⟩,hh,g⟩
 .have a:DK h (ty,w) n t=none:=by unfold DK;rw[As (by simp only;rw[b];simp)]
  refine Ev.ent (σ':=⟨[(6,.p .bool false)],EC h (ty,w)⟩) ?_ (AB [(1,.nm 1),(2,.nm 2)] rfl rfl ?_ ?_)
  .exact fM c [.tmp 6] (.p .bool false) eT (.inl ⟨a,rfl,rfl⟩)
  .unfold EC;exact eN
  exact eN
 .exact⟨n0,n1⟩
 .exact⟨n0,n1⟩
 .simp only[AP];omega
 .have a:DK h (ty,w) n t=some (ty.set n.toNat (C4 h (ty.getD n.toNat 0) t).1,w++[n]):=by unfold DK;rw[At a4,As b]
  generalize (C4 h (ty.getD n.toNat 0) t).1=m at *;have r:(w++[n]).take (w.length+1)=w++[n]:=BY sc;refine CO [61] ?_;refine Ev.ent (σ':=⟨[(6,.p .bool true)],EC h (ty.set n.toNat m,w++[n])⟩) ?_ (AB [(1,.nm 1),(2,.nm 2)] rfl rfl ?_ ?_)
  .exact fM c [.tmp 6] (.p .bool true) eT (.inr ⟨_,a,rfl,rfl⟩)
  .unfold EC;simp only[AAx];exact eN
  exact eN
 have a:DK h (ty,w) n t=some (ty,w):=by unfold DK;rw[At a4,At (by simpa using b)]
 refine Ev.ent (σ':=⟨[(6,.p .bool true)],EC h (ty,w)⟩) ?_ (AB [(1,.nm 1),(2,.nm 2)] rfl rfl ?_ ?_)
 .exact fM c [.tmp 6] (.p .bool true) eT (.inr ⟨_,a,rfl,rfl⟩)
 .unfold EC;exact eN
 exact eN
end
section
variable {α:Type}
structure SO (o:α->α->Int):Prop where
 anti:∀a b,o b a=- o a b
 trans:∀ {a b c},o a b<0->o b c<0->o a c<0
variable {o:α->α->Int} {d:α}
def i6 (d:α) (l:List α) (i j:Nat):List α:=(l.set i (l.getD j d)).set j (l.getD i d)
theorem i7 {l:List α} {i j:Nat} (hi:i<l.length) (c:j<l.length) (k:Nat):(i6 d l i j).getD k d=if k=j then l.getD i d else if k=i then l.getD j d else l.getD k d:=by
 unfold i6;simp only[AS,ACs,AAx];by_cases a:j=k
 .rw[At a,At O1,At a.symm];rfl
 rw[As a,As (show ¬k=j by omega)];by_cases b:i=k
 .rw[At b,At O1,At b.symm];rfl
 rw[As b,As (show ¬k=i by omega)]
theorem yT {l:List α} {i j:Nat} (hi:i<l.length) (a:j<l.length):(i6 d l i j).Perm l:=by
 have b:l.getD i d=l[i]:=by rw[AS,AT hi];rfl
 have c:l.getD j d=l[j]:=by rw[AS,AT a];rfl
 unfold i6;rw[b,c];exact List.set_set_perm hi a
structure Y6 (d:α) (a b:Nat) (l r:List α):Prop where
 perm:r.Perm l
 out:∀k,k<a\/b<=k->r.getD k d=l.getD k d
 inn:∀i,a<=i->i<b->∃j,a<=j/\j<b/\r.getD i d=l.getD j d
theorem Y6.len {a b:Nat} {l r:List α} (h:Y6 d a b l r):r.length=l.length:=h.perm.length_eq
theorem Y6.refl (a b:Nat) (l:List α):Y6 d a b l l:=⟨List.Perm.refl _,λ_ _=>rfl,λi h1 c=>⟨i,h1,c,rfl⟩⟩
theorem Y6.trans {a b:Nat} {l r s:List α} (h:Y6 d a b l r) (c:Y6 d a b r s):Y6 d a b l s:=⟨c.perm.trans h.perm,λk hk=>(c.out k hk).trans (h.out k hk),λi h1 g=>by
 obtain⟨j,m,n,e⟩:=c.inn i h1 g;obtain⟨k,o,p,f⟩:=h.inn j m n;exact⟨k,o,p,e.trans f⟩⟩
theorem Y6.mono {a b:Nat} {l r:List α} (h:Y6 d a b l r) (ha:c<=a) (m:b<=f):Y6 d c f l r:=⟨h.perm,λk hk=>h.out k O1,λi h1 g=>by
 by_cases hi:a<=i/\i<b
 .obtain⟨j,n,o,e⟩:=h.inn i hi.1 hi.2;exact⟨j,O1,O1,e⟩
 exact⟨i,h1,g,h.out i O1⟩⟩
theorem Y6.swap {a b:Nat} (l:List α) {i j:Nat} (g:a<=i) (h:i<b) (m:a<=j) (n:j<b) (q:b<=l.length):Y6 d a b l (i6 d l i j):=by
 have f:=i7 (d:=d) (l:=l) (i:=i) (j:=j) O1 O1;refine⟨yT O1 O1,λk hk=>?_,λk o p=>?_⟩
 .rw[f k,As O1,As O1]
 rw[f k];by_cases c:k=j
 .rw[At c];exact⟨i,g,h,rfl⟩
 rw[As c];by_cases e:k=i
 .rw[At e];exact⟨j,m,n,rfl⟩
 rw[As e];exact⟨k,o,p,rfl⟩
def Dst (o:α->α->Int) (d:α) (l:List α):Prop:=∀i j,i<l.length->j<l.length->i≠j->o (l.getD i d) (l.getD j d)≠0
theorem uA (so:SO o) (l:List α):Dst o d l↔l.Pairwise λa b=>o a b≠0:=by
 have e:∀i (h:i<l.length),l.getD i d=l[i]:=λi h=>by rw[AS,AT h];rfl
 rw[oS];constructor
 .intro h i j hi c f;have:=h i j hi c O1
  rwa [e i hi,e j c]at this
 intro h i j hi c f;rw[e i hi,e j c];rcases Nat.lt_or_gt_of_ne f with h1|h1
 .exact h i j hi c h1
 have g:=h j i c hi h1;rw[so.anti];omega
theorem Dst.perm (so:SO o) {l r:List α} (h:Dst o d l) (c:r.Perm l):Dst o d r:=by
 rw[uA so]at h ⊢;refine(c.symm.pairwise_iff ?_).1 h;intro a b e;rw[so.anti];omega
theorem Dst.lt (so:SO o) {l:List α} (h:Dst o d l) {i j:Nat} (hi:i<l.length) (b:j<l.length) (a:i≠j) (hn:¬o (l.getD i d) (l.getD j d)<0):o (l.getD j d) (l.getD i d)<0:=by
 have h1:=h i j hi b a;rw[so.anti];omega
def uB (o:α->α->Int) (d:α) (a b:Nat) (l:List α):Prop:=∀i j,a<=i->i<j->j<b->o (l.getD i d) (l.getD j d)<0
theorem A6p (a:Nat) (l:List α):uB o d a (a+1) l:=λi j h1 b c=>by omega
theorem Y7 {a b:Nat} {l r:List α} (h:uB o d a b l) (e:∀k,a<=k->k<b->r.getD k d=l.getD k d):uB o d a b r:=λi j h1 f c=>by
 rw[e i h1 O1,e j O1 c];exact h i j h1 f c
def A2l (o:α->α->Int) (d:α) (a i j:Nat) (m:List α):Prop:=(∀x y,a<=x->x<y->y<=i->x≠j->y≠j->o (m.getD x d) (m.getD y d)<0)/\∀y,j<y->y<=i->o (m.getD j d) (m.getD y d)<0
theorem oV {a:Nat} {m:List α} (h:uB o d a i m):A2l o d a i i m:=⟨λx y h0 h1 b c e=>h x y h0 h1 O1,λy h1 b=>by omega⟩
theorem A2m (so:SO o) {a j:Nat} {m:List α} (h:A2l o d a i j m) (k:a<=j) (l:j<=i) (b:j=a\/o (m.getD (j-1) d) (m.getD j d)<0):uB o d a (i+1) m:=by
 intro x y h0 h1 g;by_cases c:x=j
 .subst c;exact h.2 y h1 O1
 by_cases e:y=j
 .subst e;rcases b with b|b
  .omega
  by_cases f:x=y-1
  .subst f;exact b
  exact so.trans (h.1 x (y-1) h0 O1 O1 c O1) b
 exact h.1 x y h0 h1 O1 c e
theorem yU {a j:Nat} {m:List α} (h:A2l o d a i j m) (h0:a<j) (q:j<=i) (hi:i<m.length) (p:o (m.getD j d) (m.getD (j-1) d)<0):A2l o d a i (j-1) (i6 d m j (j-1)):=by
 have f:=i7 (d:=d) (l:=m) (i:=j) (j:=j-1) O1 O1;refine⟨λx y g h1 e k n=>?_,λy h1 e=>?_⟩
 .rw[f x,f y,As k,As n];by_cases c:x=j
  .subst c;rw[At rfl,As O1];exact h.1 (x-1) y O1 O1 e O1 O1
  rw[As c];by_cases b:y=j
  .rw[At b];exact h.1 x (j-1) g O1 O1 c O1
  rw[As b];exact h.1 x y g h1 e c b
 rw[f (j-1),f y,At rfl,As O1];by_cases b:y=j
 .rw[At b];exact p
 rw[As b];exact h.2 y O1 e
structure PtE (o:α->α->Int) (d:α) (a b p:Nat) (m:List α):Prop where
 l:a<=p
 r:p<b
 lo:∀x,a<=x->x<p->o (m.getD x d) (m.getD p d)<0
 hi:∀x,p<x->x<b->o (m.getD p d) (m.getD x d)<0
structure Cut (o:α->α->Int) (d:α) (a0 b0 a b:Nat) (m:List α):Prop where
 s1:uB o d a0 a m
 s2:uB o d b b0 m
 c1:∀x y,a0<=x->x<a->a<=y->y<b0->o (m.getD x d) (m.getD y d)<0
 c2:∀x y,a0<=x->x<b->b<=y->y<b0->o (m.getD x d) (m.getD y d)<0
 ab:a0<=a/\a<=b/\b<=b0
theorem Cut.pin {n p a b:Nat} {m r:List α} (h:Cut o d n p a b m) (g:Y6 d a b m r):Cut o d n p a b r:=by
 obtain⟨A,C,B⟩:=h.ab;have key:∀(P:α->Prop) (lo hi:Nat),lo<=a->b<=hi->(∀y,lo<=y->y<hi->P (m.getD y d))->∀y,lo<=y->y<hi->P (r.getD y d):=λP lo hi h1 q s y c f=>by
  obtain⟨j,t,u,e⟩:=(g.mono h1 q).inn y c f;rw[e];exact s j t u
 refine⟨Y7 h.s1 λk v w=>g.out k O1,Y7 h.s2 λk v w=>g.out k O1,λx y i l c f=>?_,λx y i l c f=>?_,h.ab⟩
 .rw[g.out x O1];exact key (λz=>o (m.getD x d) z<0) a p (Of _) B (λy c f=>h.c1 x y i l c f) y c f
 rw[g.out y O1];exact key (λz=>o z (m.getD y d)<0) n b A (Of _) (λx i l=>h.c2 x y i l c f) x i l
theorem Cut.done {g k a b:Nat} {m:List α} (h:Cut o d g k a b m) (hs:uB o d a b m):uB o d g k m:=by
 obtain⟨n,p,q⟩:=h.ab;intro i j h1 c e;by_cases hi:i<a
 .by_cases f:j<a
  .exact h.s1 i j h1 c f
  exact h.c1 i j h1 hi O1 e
 by_cases f:j<b
 .exact hs i j O1 c f
 by_cases l:i<b
 .exact h.c2 i j h1 l O1 e
 exact h.s2 i j O1 c e
theorem Cut.left (so:SO o) {f g a b p:Nat} {m:List α} (h:Cut o d f g a b m) (c:PtE o d a b p m) (hs:uB o d a p m):Cut o d f g (p+1) b m:=by
 obtain⟨A,B,C⟩:=h.ab;have w:=c.l;have z:=c.r;refine⟨λi j h1 k v=>?_,h.s2,λx y q D E s=>?_,h.c2,O1⟩
 .by_cases hi:i<a
  .by_cases e:j<a
   .exact h.s1 i j h1 k e
   exact h.c1 i j h1 hi O1 O1
  by_cases e:j=p
  .rw[e];exact c.lo i O1 O1
  exact hs i j O1 k O1
 by_cases t:x<a
 .exact h.c1 x y q t O1 s
 by_cases n:y<b
 .by_cases u:x=p
  .rw[u];exact c.hi y O1 n
  exact so.trans (c.lo x O1 O1) (c.hi y O1 n)
 exact h.c2 x y q O1 O1 s
theorem Cut.right (so:SO o) {n a b p:Nat} {m:List α} (h:Cut o d k n a b m) (c:PtE o d a b p m) (hs:uB o d (p+1) b m):Cut o d k n a p m:=by
 obtain⟨C,D,E⟩:=h.ab;have A:=c.l;have B:=c.r;refine⟨h.s1,λi j h1 q s=>?_,λx y e f u g=>h.c1 x y e f u g,λx y e f u g=>?_,O1⟩
 .by_cases t:j<b
  .by_cases hi:i=p
   .rw[hi];exact c.hi j O1 t
   exact hs i j O1 q t
  by_cases v:i<b
  .exact h.c2 i j O1 v O1 s
  exact h.s2 i j O1 q s
 by_cases z:y<b
 .by_cases w:x<a
  .exact h.c1 x y e w O1 g
  by_cases hyp:y=p
  .rw[hyp];exact c.lo x O1 f
  exact so.trans (c.lo x O1 f) (c.hi y O1 z)
 exact h.c2 x y e O1 O1 g
def Bf (o:α->α->Int) (d:α) (a b:Nat) (m:List α):Prop:=a=0\/∀y,a<=y->y<b->o (m.getD (a-1) d) (m.getD y d)<0
theorem Bf.pin {a b:Nat} {m r:List α} (h:Bf o d a b m) (c:Y6 d a b m r):Bf o d a b r:=by
 rcases h with h|h
 .exact .inl h
 by_cases h0:a=0
 .exact .inl h0
 right;intro y i k;rw[c.out (a-1) O1];obtain⟨j,f,g,e⟩:=c.inn y i k;rw[e];exact h j f g
theorem Bf.sub {a b:Nat} {m:List α} (h:Bf o d a b m) (f:c<=b):Bf o d a c m:=h.imp id λh y e g=>h y e O1
end
section
def oW:Ab:={ ins:=[T3],pre:=λ_=>True,out:=λ_=>[.p .bool false] }
attribute [go_sem] oW
def Q1 (a b:Int):Int:=if a<b then -1 else if b<a then 1 else 0
def HO:Ab:={ ins:=[T3,T3],pre:=λ_=>True,out:=λ(a,b,_)=>[.p T3 (Q1 a b)] }
attribute [go_sem] HO
def Iq:Ab:={ ins:=[DN,DN],pre:=λ_=>True,out:=λ(a,b,_)=>[.p T3 (Q1 (Prod.fst a) (Prod.fst b))] }
attribute [go_sem] Iq
theorem A2o:Ag Tryz.prog 158 oW:=by
 refine fK [0,2] Tryz.func158 Tryz.ntmps158 AH ?_;rintro w0 O0 ⟨x,u⟩ a - -;simp only[oW,AL];repeat'(first|exact a6|apply eS rfl|refine rX a ?_ ?_)
 exact fI a [.tmp 2]
theorem Xx:Ag Tryz.prog 142 HO:=by
 refine fK [0,1,4,5,6,11,12,13,16,19] Tryz.func142 Tryz.ntmps142 (AF A2o AH) ?_;rintro w0 O0 ⟨a,b,u⟩ c - -;simp only[HO,AL];repeat'(first|exact a6|apply eS rfl|refine rX c ?_ ?_|refine rC ?_ ?_<;>intro d<;>try(cases d;done))
 .have e:Q1 a b=-1:=At d;exact fI c [.tmp 4] (by rw[e];exact eR)
 .have e:Q1 a b=1:=by unfold Q1;rw[As O1,At d]
  exact fI c [.tmp 4] (by rw[e];exact eR)
 have e:Q1 a b=0:=by unfold Q1;rw[As O1,As O1]
 exact fI c [.tmp 4] (by rw[e];exact eR)
theorem LU:Ag Tryz.prog 108 Iq:=by
 refine fK [0,1,2,3,4] Tryz.func108 Tryz.ntmps108 (AF Xx AH) ?_;rintro w0 O0 ⟨a,b,u⟩ c - -;simp only[Iq,AL];repeat'(first|exact a6|apply eS rfl|refine rX c ?_ ?_)
 exact fI c [.tmp 4]
def OC (l:List (Int×Int)):Prop:=∀i,i+1<l.length->(l.getD i (0,0)).1<(l.getD (i+1) (0,0)).1
end
def SY (a b:Int×Int):Int:=Q1 a.1 b.1
theorem uC:SO SY:=⟨λa b=>by unfold SY Q1;(repeat' split)<;>omega,λ{a b c} h1 d=>by
 unfold SY Q1 at *
 (repeat' split at h1)<;>(repeat' split at d)<;>(repeat' split)<;>omega⟩
theorem A6q (l:List (Int×Int)) (N:l.length<=100000) (z:Dst SY (0,0) l) (a b:Nat) (I:a<=100000) (J:b<=l.length):BB Tryz.prog 165 [.sr 1000000 DN 0 l.length,.p T3 (a:Int),.p T3 (b:Int),.fn 108] [(1000000,.arr 68 DN l)] [1000000] (λres G=>res=.raw (.tuple #[])/\∃r,G=[(1000000,.arr 68 DN r)]/\Y6 (0,0) a b l r/\uB SY (0,0) a b r):=by
 refine JT [0,1,2,3,8,9,14,34] [] [] Tryz.func165 Tryz.ntmps165 (AF LU AH) ?_;intro w0 K O0 ρ0 d P Q;simp only[Aq];repeat'(first|exact a6|apply eS rfl|apply AD|refine rX d ?_ ?_|refine rC ?_ ?_<;>intro e<;>try(cases e;done))
 .omega
 refine AI (ι:={s:Nat×List (Int×Int)//a+1<=s.1/\(s.1=a+1\/s.1<=b)/\Y6 (0,0) a b l s.2/\uB SY (0,0) a s.1 s.2}) (λs=>⟨[(0,.sr 1000000 DN 0 l.length),(1,.p T3 (a:Int)),(2,.p T3 (b:Int)),(3,.fn 108),(8,.p (.int .i64) (s.1.1:Int))],[(1000000,.arr 68 DN s.1.2)]⟩) (λs=>b-s.1.1) ⟨(a+1,l),Of _,.inl rfl,Y6.refl a b l,A6p a l⟩ (AB [(1000000,.nm 1000000)] rfl rfl ?_ ?_) (λs=>?_)
 .first|exact eN|refine eM ?_
 .first|exact eN|refine eM ?_
 obtain⟨⟨i,m⟩,C,D,n,hs⟩:=s;simp only at C D n hs ⊢;have O:=n.len;repeat'(first|exact a6|apply eS rfl|apply AD|refine rX d ?_ ?_|refine rC ?_ ?_<;>intro e<;>try(cases e;done))
 .have E:i<b:=by exact eV
  refine AI (ι:={t:Nat×List (Int×Int)//a<=t.1/\t.1<=i/\Y6 (0,0) a b l t.2/\A2l SY (0,0) a i t.1 t.2}) (λt=>⟨[(0,.sr 1000000 DN 0 l.length),(1,.p T3 (a:Int)),(2,.p T3 (b:Int)),(3,.fn 108),(8,.p (.int .i64) (i:Int)),(9,.p (.int .i64) (t.1.1:Int))],[(1000000,.arr 68 DN t.1.2)]⟩) (λt=>t.1.1) ⟨(i,m),O1,Of i,n,oV hs⟩ (AB [(1000000,.nm 1000000)] rfl rfl ?_ ?_) (λt=>?_)
  .first|exact eN|refine eM ?_
  .first|exact eN|refine eM ?_
  obtain⟨⟨j,c⟩,ha,u,g,q⟩:=t;simp only at ha u g q ⊢;have L:=g.len;have A:=z.perm uC g.perm;repeat'(first|exact a6|apply eS rfl|apply AD|refine rX d ?_ ?_)
  .dsimp only[Ty.den]at *;exact⟨λ_=>by omega,λ_=>⟨O1,O1⟩,λ_=>⟨O1,O1⟩⟩
  have o:a<j->((j:Int)-1).toNat=j-1:=λ_=>by omega
  refine VX a1 ?_ ?_
  .intro f;simp only[An,Is]at f;have k:a<j:=by omega
   have v:SY (c.getD j (0,0)) (c.getD ((j:Int)-1).toNat (0,0))<0:=f.2;rw[o k]at v;have F:i6 (0,0) c j (j-1)=(c.set j (c.getD (j-1) (0,0))).set (j-1) (c.getD j (0,0)):=rfl;repeat'(first|exact a6|apply eS rfl|apply AD|refine rP d ?_ ?_|fail)
   (refine Gl drawsAny d 16 [([0,1,5,6,7,8,9,10,11,12,13,14],15)] [2,3,4] a5 (xV ?_ ?_);(next=>exact nA);refine mxL d [] ?_ ?_;(next=>exact nA);refine xW d ?_ ?_ ?_;(next=>exact nA);(next=>exact nA))
   rw[o k];repeat'(first|exact a6|apply eS rfl|apply AD|refine rX d ?_ ?_|refine rC ?_ ?_<;>intro e<;>try(cases e;done))
   .dsimp only[Ty.den]at *;omega
   refine⟨⟨(j-1,i6 (0,0) c j (j-1)),a2,a2,g.trans (Y6.swap c O1 O1 O1 O1 O1),yU q k u O1 v⟩,a2,AB [(1000000,.nm 1000000)] rfl rfl ?_ ?_⟩
   .simp only;rw[F];first|exact eN|refine eM ?_
   simp only;rw[show ((j-1:Nat):Int)=(j:Int)-1 by omega];first|exact eN|refine eM ?_
  intro f;have B:j=a\/SY (c.getD (j-1) (0,0)) (c.getD j (0,0))<0:=by
   by_cases k:j=a
   .exact .inl k
   right;simp only[ACj,bY]at f;rw[o O1]at f;rcases f with h|h
   .omega
   exact A.lt uC O1 O1 O1 h
  repeat'(first|exact a6|apply eS rfl|apply AD|refine rX d ?_ ?_|refine rC ?_ ?_<;>intro e<;>try(cases e;done))
  .exact eV
  refine⟨⟨(i+1,c),a2,.inr E,g,A2m uC q ha u B⟩,a2,AB [(1000000,.nm 1000000)] rfl rfl ?_ ?_⟩
  .first|exact eN|refine eM ?_
  first|exact eN|refine eM ?_
 have M:b<=i:=by exact eV
 exact fM d [] (.raw (.tuple #[])) rfl ⟨rfl,m,rfl,n,λx y h1 w H=>hs x y h1 w O1⟩
def Kg (x:Int×Int) (s:List (Int×Int)):Nat->Nat
 | 0=>0
 | n+1=>if x.1<(s.getD n (0,0)).1 then Kg x s n else n+1
def ME (s:List (Int×Int)) (x:Int×Int):List (Int×Int):=s.take (Kg x s s.length)++[x]++s.drop (Kg x s s.length)
def AQ (l:List (Int×Int)):List (Int×Int):=l.foldl ME []
theorem b7 (x:Int×Int) (s:List (Int×Int)):∀n,Kg x s n<=n
 | 0=>Of _
 | n+1=>by
  unfold Kg;have:=b7 x s n;split<;>omega
theorem A2p (s:List (Int×Int)) (x:Int×Int):(ME s x).length=s.length+1:=by
 have:=b7 x s s.length;simp[ME];omega
theorem LV (l:List (Int×Int)) (x:Int×Int):AQ (l++[x])=ME (AQ l) x:=by simp[AQ]
theorem NC:∀(l s:List (Int×Int)),(l.foldl ME s).length=s.length+l.length
 | [],s=>by simp
 | x :: l,s=>by simp[NC l,A2p];omega
theorem Cl (l:List (Int×Int)):(AQ l).length=l.length:=by simp[AQ,NC]
theorem A9g {P:Program} {f:FuncId} {sp:Ab} {p:Jl sp.ins->Prop} (h:Ag P f sp) (e:∀d,p d->sp.pre d):Ag P f { sp with pre:=p }:=⟨h.1,λw O g ds a b c d=>h.2 w O g ds a b c (e ds d)⟩
def Q2:Ab:={ ins:=[Nw],pre:=λ(l,_)=>l.length<=8796093022207,out:=λ(l,_)=>[.own 68 DN (AQ l)] }
theorem Y8:Ag Tryz.prog 103 Q2:=by
 refine fK [0,2,3,4,5,6,10,30] Tryz.func103 Tryz.ntmps103 AH ?_;rintro w0 O0 ⟨l,u⟩ c t m;simp only[Q2]at m;simp only[Q2,AL];repeat'(first|exact a6|apply eS rfl|refine rX c ?_ ?_)
 refine AI (ι:={p:Nat//p<=l.length}) (λk=>⟨[(0,.p Nw l),(3,.sr 10 DN 0 (AQ (l.take k.1)).length),(4,.p (.int .i64) (k.1:Int))],[(10,.arr 68 DN (AQ (l.take k.1)))]⟩) (λk=>l.length-k.1) ⟨0,O1⟩ (AB [(10,.nil)] rfl rfl ?_ ?_) (λk=>?_)
 .refine eM ?_;rfl
 .refine eM ?_;rfl
 obtain⟨k,h⟩:=k;have s:(AQ (l.take k)).length=k:=by rw[Cl,On];exact ADl h
 repeat'(first|exact a6|apply eS rfl|refine rX c ?_ ?_|refine rC ?_ ?_<;>intro b<;>try(cases b;done))
 .refine AI (ι:={q:Nat//q<=(AQ (l.take k)).length/\Kg (l.getD k (0,0)) (AQ (l.take k)) q=Kg (l.getD k (0,0)) (AQ (l.take k)) (AQ (l.take k)).length}) (λq=>⟨[(0,.p Nw l),(3,.sr 10 DN 0 (AQ (l.take k)).length),(4,.p (.int .i64) (k:Int)),(5,.p (.int .i64) (q.1:Int))],[(10,.arr 68 DN (AQ (l.take k)))]⟩) (λq=>q.1) ⟨(AQ (l.take k)).length,sc⟩ (eW [(10,.nm 10)]) (λq=>?_)
  obtain⟨q,n,g⟩:=q;have i:k<l.length:=by omega
  have o:=l.length_take_le k;have d:(List.take q (AQ (List.take k l))).length=q:=by rw[On];exact ADl n
  repeat'(first|exact a6|apply eS rfl|apply AD|refine rX c ?_ ?_|refine rC ?_ ?_<;>intro b<;>try(cases b;done))
  .exact eV
  .exact eV
  .obtain⟨h1,a⟩:=b;obtain⟨q,rfl⟩:∃r,q=r+1:=⟨q-1,O1⟩;have e:((q+1:Nat):Int)-1=(q:Int):=by omega
   refine⟨⟨q,O1,?_⟩,ACW q,AB [(10,.nm 10)] rfl rfl ?_ ?_⟩
   .rw[<-g];simp only[Kg];rw[e,S8]at a;rw[At a]
   .exact eN
   refine eM ?_;show (q:Int)+1-1=q;omega
  .refine⟨eV,?_⟩;rw[d];unfold AP;omega
  .refine⟨eV,?_⟩;rw[d];simp only[AP];omega
  .refine⟨eV,?_⟩;rw[d];simp only[AP,AD5];omega
  .exact eV
  have j:Kg (l.getD k (0,0)) (AQ (l.take k)) q=q:=by
   cases q with
   | zero=>rfl
   | succ q =>
    have e:((q+1:Nat):Int)-1=(q:Int):=by omega
    have:=b O1;rw[e,S8]at this;simp only[Kg];rw[As O1]
  have h1:=Ap l (0,0) i;have a:AQ (l.take (k+1))=_:=(AC4 AQ h1).trans (LV _ _);unfold ME at a;rw[<-g,j]at a;refine⟨⟨k+1,eV⟩,by simp only;exact eV,AB [(10,.nm 37)] rfl rfl ?_ ?_⟩
  .refine eM ?_;exact a.symm
  refine eM ?_;have f:=AC4 List.length a;rw[IF,IF]at f;exact f.symm
 have hk:l.take k=l:=BY eV;refine O4 c (.inl rfl) (rv:=.tmp 2) rfl ?_;simp only[Lv,Jw,Hl,go_sem,Nat.reduceEqDiff,reduceCtorEq,Nat.reduceAdd,Nat.reduceSub,Nat.reduceMul,Nat.reduceLeDiff,Nat.reduceLT,Int.reduceLE,Int.reduceToNat,Int.reduceNeg,↓reduceIte];rw[hk];first|rfl|exact⟨rfl,rfl⟩|exact⟨rfl,rfl,rfl⟩
section
attribute [go_sem] Q2
abbrev AC:=Int×List (Int×Int)
def ED (f:List AC):Nat->List Int×List Int->Int->List Int×List Int
 | 0,s,_=>s
 | k+1,s,n=>(AQ (f.getD n.toNat (0,[])).2).foldl (λs a=>if s.1.getD a.2.toNat 0<0 then ED f k s a.2 else s) (s.1.set n.toNat (s.2.length:Int),s.2++[n])
def MF (l:List Int):Nat:=l.countP (λx=>decide (x<0))
def Ae (f:List AC):Prop:=f.length<=100000/\∀x∈f,x.2.length<=100000/\∀a∈x.2,0<=a.2/\a.2<(f.length:Int)
def Q3 (f:List AC):Prop:=f.length<=100000/\∀x∈f,x.2.length<=8796093022207/\∀a∈x.2,0<=a.2/\a.2<(f.length:Int)
theorem Ae.big {f:List AC} (h:Ae f):Q3 f:=⟨h.1,λx a=>⟨iN (h.2 x a).1 dg,(h.2 x a).2⟩⟩
def SZ (f:List AC) (s:List Int×List Int):Prop:=s.1.length=f.length/\s.2.length+MF s.1<=f.length
theorem A2q {l:List Int} {n:Nat} {v:Int} (hn:n<l.length) (a:l.getD n 0<0) (d:0<=v):MF (l.set n v)+1=MF l:=by
 induction l generalizing n with
 | nil=>simp at hn
 | cons x r c =>
  cases n with
  | zero =>
   have b:x<0:=by simpa using a
   have:¬v<0:=by omega
   simp[MF,ADq,b,this]
  | succ n =>
   have h1:=c (n:=n) (by simpa using hn) (by simpa using a);simp only[MF,AEt,ADq]at h1 ⊢;omega
theorem oX {f:List AC} {s:List Int×List Int} (h:SZ f s) (d:0<=n) (hn:n<f.length) (b:s.1.getD n.toNat 0<0) :
  SZ f (s.1.set n.toNat (s.2.length:Int),s.2++[n])/\MF (s.1.set n.toNat (s.2.length:Int))+1=MF s.1:=by
 obtain⟨h1,c⟩:=h;have a:=A2q (l:=s.1) (n:=n.toNat) (v:=(s.2.length:Int)) O1 b O1;refine⟨⟨by simpa using h1,?_⟩,a⟩;simp only[IF,oR];omega
theorem yV (s:List (Int×Int)) (x:Int×Int):(ME s x).Perm (x :: s):=by
 unfold ME;refine(List.perm_append_comm.append_right _).trans ?_;simp
theorem L2:∀(l s:List (Int×Int)),(l.foldl ME s).Perm (l++s)
 | [],s=>List.Perm.refl _
 | x :: l,s=>by
  refine(L2 l (ME s x)).trans ?_;refine(List.Perm.append_left l (yV s x)).trans ?_;exact AEK
theorem Dd (l:List (Int×Int)):(AQ l).Perm l:=by
 have:=L2 l [];simpa[AQ] using this
theorem A2r {f:List AC} (hf:Ae f) (n:Int):List.length (f.getD n.toNat (0,[])).2<=100000:=by
 by_cases h:n.toNat<f.length
 .have a:f.getD n.toNat (0,[])∈f:=by
   rw[AS,AT h];exact AAt h
  exact(hf.2 _ a).1
 rw[AS,wS O1];simp
theorem N2 {f:List AC} (hf:Q3 f) (n:Int):List.length (f.getD n.toNat (0,[])).2<=8796093022207:=by
 by_cases h:n.toNat<f.length
 .have a:f.getD n.toNat (0,[])∈f:=by
   rw[AS,AT h];exact AAt h
  exact(hf.2 _ a).1
 rw[AS,wS O1];simp
theorem Q4 {f:List AC} (hf:Q3 f) {a:Int×Int} (ha:a∈AQ (f.getD n.toNat (0,[])).2):0<=a.2/\a.2<f.length:=by
 have ha:=(Dd _).mem_iff.1 ha;by_cases h:n.toNat<f.length
 .have b:f.getD n.toNat (0,[])∈f:=by
   rw[AS,AT h];exact AAt h
  exact(hf.2 _ b).2 a ha
 rw[AS,wS O1]at ha;simp at ha
def Eh (f:List AC) (k:Nat) (s:List Int×List Int) (a:Int×Int):List Int×List Int:=if s.1.getD a.2.toNat 0<0 then ED f k s a.2 else s
theorem F2 (f:List AC) (k:Nat) (s:List Int×List Int) (n:Int):ED f (k+1) s n=(AQ (f.getD n.toNat (0,[])).2).foldl (Eh f k) (s.1.set n.toNat (s.2.length:Int),s.2++[n]):=rfl
theorem Uq {f:List AC} {k:Nat} (i:∀(s:List Int×List Int) (n:Int),SZ f s->0<=n->n<f.length->s.1.getD n.toNat 0<0->SZ f (ED f k s n)/\MF (ED f k s n).1<=MF s.1) :
  ∀(l:List (Int×Int)) (t:List Int×List Int),(∀a∈l,0<=a.2/\a.2<(f.length:Int))->SZ f t->SZ f (l.foldl (Eh f k) t)/\MF (l.foldl (Eh f k) t).1<=MF t.1
 | [],t,_,d=>⟨d,Of _⟩
 | a :: l,t,c,d=>by
  simp only[ON];by_cases h:t.1.getD a.2.toNat 0<0
  .obtain⟨j,m⟩:=i t a.2 d (c a sc).1 (c a sc).2 h;have e:Eh f k t a=ED f k t a.2:=At h;rw[e];obtain⟨o,p⟩:=Uq i l _ (λb g=>c b (by simp[g])) j;exact⟨o,iN p m⟩
  have e:Eh f k t a=t:=As h;rw[e];exact Uq i l t (λb g=>c b (by simp[g])) d
theorem Sa {f:List AC} (hf:Q3 f):∀(k:Nat) (s:List Int×List Int) (n:Int),SZ f s->0<=n->n<f.length->s.1.getD n.toNat 0<0->SZ f (ED f k s n)/\MF (ED f k s n).1<=MF s.1
 | 0,s,n,h,_,_,_=>⟨h,Of _⟩
 | k+1,s,n,h,h0,h1,d=>by
  obtain⟨e,g⟩:=oX h h0 h1 d;obtain⟨b,c⟩:=Uq (Sa hf k) _ _ (λa ha=>Q4 hf ha) e;rw[F2];exact⟨b,by simp only at c g;omega⟩
theorem Sb {α:Type} (g:X->α->X) (l:List α) (d:α) (t:X) {i:Nat} (hi:i<l.length):(l.take (i+1)).foldl g t=g ((l.take i).foldl g t) (l.getD i d):=by
 rw[Ap l d hi,AD0];rfl
def L3 (f:List AC) (s:List Int×List Int):List (Nat×Obj):=[(1,.box 184 true [.p GZ f,.sr 2 T3 0 s.1.length,.sr 3 T3 0 s.2.length]),(2,.arr 3 T3 s.1),(3,.arr 3 T3 s.2)]
theorem yW (f:List AC) (hf:Q3 f):∀(k:Nat) (s:List Int×List Int) (n:Int),SZ f s->0<=n->n<f.length->s.1.getD n.toNat 0<0->MF s.1<=k ->
  BB Tryz.prog 102 [.bp 1 [] 0,.p T3 n] (L3 f s) [1] (λres M=>res=.raw (.tuple #[])/\M=L3 f (ED f k s n)):=by
 intro k;induction k with
 | zero =>
  intro s n h0 h1 u B N;obtain⟨_,O⟩:=oX h0 h1 u B;omega
 | succ k J =>
  intro s n A w m x hk;obtain⟨num,g⟩:=s;obtain⟨t,v⟩:=oX A w m x;obtain⟨G,H⟩:=A;simp only at G H x t v hk;refine JT [0,1,4,5,40,54] [] [] Tryz.func102 Tryz.ntmps102 (AF Y8 AH) ?_;intro w0 K O0 ρ0 c Q R;simp only[L3,Aq];repeat'(first|exact a6|apply eS rfl|refine rX c ?_ ?_)
  .exact eV
  .have:=hf.1;simp only[AP];omega
  .have I:=N2 hf n;exact⟨⟨w,m⟩,iN I O1⟩
  have l:=λa (ha:a∈AQ (f.getD n.toNat (0,[])).2)=>Q4 hf ha;have D:(AQ (f.getD n.toNat (0,[])).2).length<=8796093022207:=by rw[Cl];exact N2 hf n
  generalize C:AQ (f.getD n.toNat (0,[])).2=L at l D;generalize o:(num.set n.toNat (g.length:Int),g++[n])=s1 at t;have F:∀i,SZ f ((L.take i).foldl (Eh f k) s1)/\MF ((L.take i).foldl (Eh f k) s1).1<=MF s1.1:=λi=>Uq (Sa hf k) _ _ (λa ha=>l a (ABI ha)) t;have m:num.set n.toNat (g.length:Int)=s1.1:=by rw[<-o]
  have P:g++[n]=s1.2:=by rw[<-o]
  rw[m]at v;refine AI (ι:={i:Nat//i<=L.length}) (λi=>⟨[(0,.bp 1 [] 0),(1,.p T3 n),(4,.p Nw L),(5,.p (.int .i64) (i.1:Int))],L3 f ((L.take i.1).foldl (Eh f k) s1)⟩) (λi=>L.length-i.1) ⟨0,O1⟩ (AAY [36] (AB [(1,.nm 1),(2,.nm 2),(3,.nm 3)] rfl rfl ?_ ?_)) (λi=>?_)
  .simp only[L3];refine eM ?_;simp only[AEB];rw[<-o];simp
  .exact eN
  obtain⟨i,hi⟩:=i;obtain⟨r,E⟩:=F i;have q:=λ(h:i<L.length)=>Sb (Eh f k) L (0,0) s1 h;generalize z:(L.take i).foldl (Eh f k) s1=b at r E q;simp only[L3];repeat'(first|exact a6|apply eS rfl|apply AD|refine rX c ?_ ?_|refine rC ?_ ?_<;>intro j<;>try(cases j;done))
  .have d:i<L.length:=by exact eV
   have:=l _ (AG L (0,0) d);obtain⟨h1,u⟩:=r;refine⟨eV,this.1,?_⟩;rw[h1];exact this.2
  .have d:i<L.length:=by exact eV
   have y:=l _ (AG L (0,0) d);refine cP 6 c ?_ ?_
   .exact eV
   refine rM c (J b (L.getD i (0,0)).2 r y.1 y.2 (by simpa using j) O1) [(1,.nm 1),(2,.nm 2),(3,.nm 3)] [2,3] ?_ ?_ ?_
   .exact eN
   .simp only[L3];exact eN
   rintro _ _ ⟨rfl,rfl⟩;refine⟨[(1,.nm 1),(2,.nm 2),(3,.nm 3)],.raw (.tuple #[]),L3 f (ED f k b (L.getD i (0,0)).2),rfl,rfl,?_,?_,rfl,rfl,E7 ?_⟩
   .simp only[L3];exact eN
   .exact eN
   repeat'(first|apply eS rfl|apply AD|refine rX c ?_ ?_)
   .exact eV
   have e:Eh f k b (L.getD i (0,0))=ED f k b (L.getD i (0,0)).2:=At (by simpa using j);refine⟨⟨i+1,O1⟩,a2,AB [(1,.nm 1),(2,.nm 2),(3,.nm 3)] rfl rfl ?_ ?_⟩
   .simp only[L3,q d,e];exact eN
   exact eN
  .exact eV
  .have d:i<L.length:=by exact eV
   have e:Eh f k b (L.getD i (0,0))=b:=As (by simpa using j);refine⟨⟨i+1,O1⟩,a2,AB [(1,.nm 1),(2,.nm 2),(3,.nm 3)] rfl rfl ?_ ?_⟩
   .simp only[q d,e];exact eN
   exact eN
  have hk:L.take i=L:=BY eV;rw[hk]at z;have h1:ED f (k+1) (num,g) n=b:=by rw[F2,C,<-z,<-o]
  rw[h1];exact fM c [] (.raw (.tuple #[])) rfl ⟨rfl,rfl⟩
end
def Y9 (f:List AC) (s:List Int×List Int):Prop:=∀n∈s.2,0<=n/\n<(f.length:Int)
theorem Wd {f:List AC} (hf:Q3 f):∀(k:Nat) (s:List Int×List Int) (n:Int),Y9 f s->0<=n->n<f.length->Y9 f (ED f k s n)
 | 0,s,n,h,_,_=>h
 | k+1,s,n,h,h0,h1=>by
  rw[F2];have key:∀(l:List (Int×Int)) (t:List Int×List Int),(∀a∈l,0<=a.2/\a.2<(f.length:Int))->Y9 f t->Y9 f (l.foldl (Eh f k) t):=by
   intro l;induction l with
   | nil=>intro t _ d;exact d
   | cons a l i =>
    intro t e d;simp only[ON];refine i _ (λb g=>e b (by simp[g])) ?_;unfold Eh;split
    .exact Wd hf k t a.2 d (e a sc).1 (e a sc).2
    exact d
  refine key _ _ (λa ha=>Q4 hf ha) ?_;intro m c;simp only[IS,oF]at c;rcases c with c|rfl
  .exact h m c
  exact⟨h0,h1⟩
def F3 (f:List AC) (root:Int):List Int×List Int:=ED f f.length (List.replicate f.length (-1),[]) root
def Xy (num:List Int) (a:Int×Int):Int×Int:=(a.1,num.getD a.2.toNat 0)
def Oc (f:List AC) (num:List Int) (n:Int):AC:=((f.getD n.toNat (0,[])).1,(AQ (f.getD n.toNat (0,[])).2).map (Xy num))
def L4 (f:List AC) (root:Int):List AC:=(F3 f root).2.map (Oc f (F3 f root).1)
theorem i8 (m:Nat):MF (List.replicate m (-1))=m:=by
 induction m with
 | zero=>rfl
 | succ m a=>simp only[MF,List.replicate_succ,ADq]at a ⊢;simp[a]
theorem tr0 (f:List AC):SZ f (List.replicate f.length (-1),[]):=⟨sc,by simp[i8]⟩
theorem uD {f:List AC} (h0:0<=n) (h1:n<f.length):(List.replicate f.length (-1:Int)).getD n.toNat 0<0:=by
 have:n.toNat<f.length:=by omega
 simp[AS,ADg,this]
theorem i9 {f:List AC} (hf:Q3 f) (h0:0<=n) (h1:n<f.length):SZ f (F3 f n)/\Y9 f (F3 f n) :=
 ⟨(Sa hf _ _ n (tr0 f) h0 h1 (uD h0 h1)).1,Wd hf _ _ n (λm a=>by simp at a) h0 h1⟩
theorem A6r {f:List AC} (hf:Ae f) (h0:0<=n) (h1:n<f.length):SZ f (F3 f n)/\Y9 f (F3 f n):=i9 hf.big h0 h1
theorem We {α b:Type} (g:α->b) (h:b->α) (L:List α) (d:α) (hk:k<L.length) (u:α->α):((L.take k).map u++L.drop k).set k (u (L.getD k d))=(L.take (k+1)).map u++L.drop (k+1)/\((L.take k).map u++L.drop k).getD k d=L.getD k d:=by
 have h1:((L.take k).map u).length=k:=by simp;omega
 have a:L.drop k=L.getD k d :: L.drop (k+1):=by
  rw[OS hk,AS,AT hk];rfl
 constructor
 .rw[Ap L d hk,AEc _ _ O1,h1,AD9,a];simp
 rw[AS,AAd O1,h1,AD9,a];rfl
def oY:Ab:={ ins:=[GZ,T3],pre:=λ(f,n,_)=>Q3 f/\0<=n/\n<(List.length f:Int),out:=λ(f,n,_)=>[.p GZ (L4 f n)] }
theorem A2s:Ag Tryz.prog 58 oY:=by
 refine fK [0,1,2,4,5,6,7,8,9,10,11,19,40,60] Tryz.func58 Tryz.ntmps58 (AF Y8 AH) ?_;rintro w0 O0 ⟨f,root,u⟩ d-⟨hf,l,m⟩;simp only[oY,AL];have G:=hf.1;repeat'(first|exact a6|apply eS rfl|refine rX d ?_ ?_)
 refine AI (ι:={i:Nat//i<=f.length}) (λi=>⟨[(1,.p T3 root),(2,.bp 2 [] 0),(4,.bp 4 [] 0),(5,.bp 14 [] 0),(6,.p (.int .i64) (i.1:Int))],[(2,.box 38 true [.p KT f]),(4,.box 38 true [.raw (.slice none 0 0)]),(14,.box 184 true [.p GZ f,.sr 10 T3 0 i.1,.raw (.slice none 0 0)]),(10,.arr 3 T3 (List.replicate i.1 (-1)))]⟩) (λi=>f.length-i.1) ⟨0,O1⟩ (AB [(2,.nm 2),(4,.nm 4),(14,.nm 14),(10,.nil)] rfl rfl ?_ ?_) (λi=>?_)
 .refine eM ?_;rfl
 .exact eN
 obtain⟨i,hi⟩:=i;repeat'(first|exact a6|apply eS rfl|apply AD|refine rX d ?_ ?_|refine rC ?_ ?_<;>intro h<;>try(cases h;done))
 .simp only[AP];omega
 .exact eV
 .have hi:i<List.length f:=by exact eV
  refine⟨⟨i+1,O1⟩,a2,AB [(2,.nm 2),(4,.nm 4),(14,.nm 14),(10,.nm 10)] rfl rfl ?_ ?_⟩
  .refine eM ?_;rw[List.replicate_succ'];simp
  exact eN
 have A:i=List.length f:=by exact eV
 subst A;have w:=i9 hf l m;refine cP 2 d ?_ ?_
 .trivial
 refine rM d (yW f hf (List.length f) (List.replicate (List.length f) (-1),[]) root (tr0 f) l m (uD l m) (by rw[i8];exact Of _)) [(1,.nm 14),(2,.nm 10),(3,.nil)] [10] ?_ ?_ ?_
 .exact eN
 .simp only[L3];refine eM ?_;simp
 rintro _ _ ⟨rfl,rfl⟩;refine⟨[(14,.nm 1),(101,.nm 2),(102,.nm 3)],.raw (.tuple #[]),[(14,.box 184 true [.p GZ f,.sr 101 T3 0 (F3 f root).1.length,.sr 102 T3 0 (F3 f root).2.length]),(101,.arr 3 T3 (F3 f root).1),(102,.arr 3 T3 (F3 f root).2)],rfl,rfl,?_,?_,rfl,rfl,E7 ?_⟩
 .simp only[L3,F3];exact eN
 .exact eN
 have z:L4 f root=(F3 f root).2.map (Oc f (F3 f root).1):=rfl;rw[z];generalize F3 f root=s at w;obtain⟨num,c⟩:=s;obtain⟨⟨r,t⟩,j⟩:=w;simp only at r t;have j:∀n∈c,0<=n/\n<(List.length f:Int):=j;repeat'(first|exact a6|apply eS rfl|refine rX d ?_ ?_)
 refine AI (ι:={i:Nat//i<=c.length}) (λi=>⟨[(2,.bp 2 [] 0),(4,.bp 4 [] 0),(5,.bp 14 [] 0),(7,.bp 7 [] 0),(8,.p (.int .i64) (i.1:Int))],[(2,.box 38 true [.p KT f]),(4,.box 38 true [.raw (.slice none 0 0)]),(14,.box 184 true [.p GZ f,.sr 101 T3 0 num.length,.sr 102 T3 0 c.length]),(101,.arr 3 T3 num),(102,.arr 3 T3 c),(7,.box 38 true [.sr 200 Uj 0 i.1]),(200,.arr 66 Uj ((c.take i.1).map (Oc f num)))]⟩) (λi=>c.length-i.1) ⟨0,O1⟩ (eW [(2,.nm 2),(4,.nm 4),(14,.nm 14),(101,.nm 101),(102,.nm 102),(7,.nm 7),(200,.nil)]) (λi=>?_)
 obtain⟨i,hi⟩:=i;repeat'(first|exact a6|apply eS rfl|refine rX d ?_ ?_|refine rC ?_ ?_<;>intro h<;>try(cases h;done))
 .have hi:i<c.length:=by exact eV
  exact⟨eV,j _ (AG c 0 hi)⟩
 .exact iN (N2 hf _) O1
 .have hi:i<c.length:=by exact eV
  have q:=λa (ha:a∈AQ (f.getD (Int.toNat (c.getD i 0)) (0,[])).2)=>Q4 hf ha;have v:Oc f num (c.getD i 0)=((f.getD (Int.toNat (c.getD i 0)) (0,[])).1,(AQ (f.getD (Int.toNat (c.getD i 0)) (0,[])).2).map (Xy num)):=rfl;have B:=N2 hf (c.getD i 0);generalize List.getD f (Int.toNat (c.getD i 0)) (0,[])=x at *;obtain⟨E,o⟩:=x;simp only at q v B;have F:=Cl o;generalize AQ o=L at *;refine AI (ι:={k:Nat//k<=L.length}) (λk=>⟨[(2,.bp 2 [] 0),(4,.bp 4 [] 0),(5,.bp 14 [] 0),(7,.bp 7 [] 0),(8,.p (.int .i64) (i:Int)),(9,.bp 9 [] 0),(10,.sr 56 DN 0 L.length),(11,.p (.int .i64) (k.1:Int))],[(56,.arr 68 DN ((L.take k.1).map (Xy num)++L.drop k.1)),(9,.box 66 true [.p T3 E,.p Nw o]),(2,.box 38 true [.p KT f]),(4,.box 38 true [.raw (.slice none 0 0)]),(14,.box 184 true [.p GZ f,.sr 101 T3 0 num.length,.sr 102 T3 0 c.length]),(101,.arr 3 T3 num),(102,.arr 3 T3 c),(7,.box 38 true [.sr 200 Uj 0 i]),(200,.arr 66 Uj ((c.take i).map (Oc f num)))]⟩) (λk=>L.length-k.1) ⟨0,O1⟩ (eW [(2,.nm 2),(4,.nm 4),(14,.nm 14),(101,.nm 101),(102,.nm 102),(7,.nm 7),(200,.nm 200),(9,.nm 9),(56,.nm 56)]) (λk=>?_)
  obtain⟨k,hk⟩:=k;repeat'(first|exact a6|apply eS rfl|apply AD|refine rX d ?_ ?_|refine rC ?_ ?_<;>intro h<;>try(cases h;done))
  .have g:k<L.length:=by exact eV
   have e:=(We (Xy num) (λb=>b) L (0,0) g (Xy num)).2;rw[e];have:=q _ (AG L (0,0) g);rw[r];exact⟨eV,this,eV⟩
  .exact eV
  .have g:k<L.length:=by exact eV
   have e:=We (Xy num) (λb=>b) L (0,0) g (Xy num);refine⟨⟨k+1,O1⟩,a2,AB [(2,.nm 2),(4,.nm 4),(14,.nm 14),(101,.nm 101),(102,.nm 102),(7,.nm 7),(200,.nm 200),(9,.nm 9),(56,.nm 56)] rfl rfl ?_ ?_⟩
   .refine eM ?_;rw[e.2];exact e.1
   exact eN
  .simp only[AP];have:=t;omega
  .exact eV
  have g:L.take k=L:=BY eV;have y:L.drop k=[]:=NO eV;refine⟨⟨i+1,O1⟩,a2,AB [(2,.nm 2),(4,.nm 4),(14,.nm 14),(101,.nm 101),(102,.nm 102),(7,.nm 7),(200,.nm 200)] rfl rfl ?_ ?_⟩
  .refine eM ?_;rw[g,y,AAW,Ap c 0 hi,ABX,gO,ACS,v];have C:List.take i ((c.take i).map (Oc f num))=(c.take i).map (Oc f num):=BY (by rw[OR,On];omega);have D:List.take L.length (L.map (Xy num))=L.map (Xy num):=BY (by rw[OR];omega);rw[C,D]
  exact eN
 have hk:c.take i=c:=BY eV;rw[hk];refine fI d [.cell 4 38] (by first|exact eR|refine MJ ?_;exact BY (by rw[OR];exact eV))
def Dy (f:List AC):Nat->List Int->Int->List Int
 | 0,o,_=>o
 | k+1,o,n=>(f.getD n.toNat (0,[])).2.foldl (λo a=>if a.2∈o then o else Dy f k o a.2) (o++[n])
def BF (f:List AC) (k:Nat) (o:List Int) (a:Int×Int):List Int:=if a.2∈o then o else Dy f k o a.2
theorem Cu (f:List AC) (k:Nat) (o:List Int) (n:Int):Dy f (k+1) o n=(f.getD n.toNat (0,[])).2.foldl (BF f k) (o++[n]):=rfl
structure ML (f:List AC) (o:List Int):Prop where
 nd:o.Nodup
 rng:∀x∈o,0<=x/\x<(f.length:Int)
theorem ML.len {f:List AC} {o:List Int} (h:ML f o):o.length<=f.length:=by
 have h1:(o.map Int.toNat).Nodup:=by
  rw[List.Nodup,AC6];refine h.nd.imp_of_mem λ{a b} ha c g e=>g ?_;have:=h.rng a ha;have:=h.rng b c;omega
 have:=Dw f.length (o.map Int.toNat) h1 (λj d=>by
  obtain⟨x,i,rfl⟩:=IN.1 d;have:=h.rng x i;omega)
 simpa using this
theorem ML.snoc {f:List AC} {o:List Int} (h:ML f o) (h0:0<=n) (h1:n<f.length) (hn:n∉o):ML f (o++[n]):=by
 refine⟨?_,λx c=>?_⟩
 .rw[ACr];refine⟨h.nd,sc,λa ha b d=>?_⟩;grind
 rcases IS.1 c with c|c
 .exact h.rng x c
 grind
theorem Ir {f:List AC} {k:Nat} (j:∀(o:List Int) (n:Int),ML f o->0<=n->n<f.length->n∉o->ML f (Dy f k o n)/\o <+: Dy f k o n) :
  ∀(l:List (Int×Int)) (o:List Int),(∀a∈l,0<=a.2/\a.2<(f.length:Int))->ML f o->ML f (l.foldl (BF f k) o)/\o <+: l.foldl (BF f k) o
 | [],o,_,h=>⟨h,AD4 _⟩
 | a :: l,o,i,h=>by
  simp only[ON];have c:ML f (BF f k o a)/\o <+: BF f k o a:=by grind [BF]
  obtain⟨d,e⟩:=Ir j l _ (λb g=>i b (by simp[g])) c.1;exact⟨d,c.2.trans e⟩
theorem CS {f:List AC} (hf:Ae f) {a:Int×Int} (ha:a∈(f.getD n.toNat (0,[])).2):0<=a.2/\a.2<f.length:=by
 by_cases h:n.toNat<f.length
 .have b:f.getD n.toNat (0,[])∈f:=by
   rw[AS,AT h];exact AAt h
  exact(hf.2 _ b).2 a ha
 grind
theorem Gu {f:List AC} (hf:Ae f):∀(k:Nat) (o:List Int) (n:Int),ML f o->0<=n->n<f.length->n∉o->ML f (Dy f k o n)/\o <+: Dy f k o n
 | 0,o,n,h,_,_,_=>⟨h,AD4 _⟩
 | k+1,o,n,h,h0,h1,d=>by
  obtain⟨b,c⟩:=Ir (Gu hf k) _ _ (λa ha=>CS hf ha) (h.snoc h0 h1 d);rw[Cu];exact⟨b,(AEu o [n]).trans c⟩
theorem Pc {f:List AC} (hf:Ae f):∀(k:Nat) (o:List Int) (n:Int),ML f o->0<=n->n<f.length->n∉o->f.length-o.length<=k ->
  n∈Dy f k o n/\∀x∈Dy f k o n,x∈o\/∀a∈(f.getD x.toNat (0,[])).2,a.2∈Dy f k o n
 | 0,o,n,h,h0,h1,i,hk=>by
  have:=(h.snoc h0 h1 i).len;grind
 | k+1,o,n,h,h0,h1,i,hk=>by
  have key:∀(l:List (Int×Int)) (t:List Int),(∀a∈l,0<=a.2/\a.2<(f.length:Int))->ML f t->f.length-t.length<=k ->
    (∀a∈l,a.2∈l.foldl (BF f k) t)/\∀x∈l.foldl (BF f k) t,x∈t\/∀a∈(f.getD x.toNat (0,[])).2,a.2∈l.foldl (BF f k) t:=by
   intro l;induction l with
   | nil=>exact λt _ _ _=>⟨λa ha=>(by cases ha),λx m=>.inl m⟩
   | cons a l v =>
    intro t j r s;simp only[ON];have u:ML f (BF f k t a)/\t <+: BF f k t a/\a.2∈BF f k t a/\∀x∈BF f k t a,x∈t\/∀b∈(f.getD x.toNat (0,[])).2,b.2∈BF f k t a:=by
     unfold BF;split
     .grind
     rename_i hn;have q:=j a sc;obtain⟨c,d⟩:=Gu hf k t a.2 r q.1 q.2 hn;obtain⟨e,p⟩:=Pc hf k t a.2 r q.1 q.2 hn s;exact⟨c,d,e,p⟩
    obtain⟨c,d,e,p⟩:=u;have w:=d.length_le;obtain⟨y,z⟩:=v (BF f k t a) (λb g=>j b (by simp[g])) c O1;obtain⟨_,A⟩:=Ir (Gu hf k) l (BF f k t a) (λb g=>j b (by simp[g])) c;refine⟨λb g=>?_,λx m=>?_⟩
    .grind
    grind
  have hs:=h.snoc h0 h1 i;obtain⟨c,d⟩:=key (f.getD n.toNat (0,[])).2 (o++[n]) (λa ha=>CS hf ha) hs (by simp only[IF,oR];omega);obtain⟨_,e⟩:=Ir (Gu hf k) (f.getD n.toNat (0,[])).2 (o++[n]) (λa ha=>CS hf ha) hs;rw[Cu];refine⟨e.subset sc,λx m=>?_⟩;grind
def EP (o:List Int) (x:Int):Int:=if x∈o then (o.idxOf x:Int) else 0
def MG (o:List Int) (a:Int×Int):Int×Int:=(a.1,EP o a.2)
def Ho (f:List AC) (o:List Int) (n:Int):AC:=((f.getD n.toNat (0,[])).1,(f.getD n.toNat (0,[])).2.map (MG o))
def AO (f:List AC) (root:Int):List AC:=(Dy f f.length [] root).map (Ho f (Dy f f.length [] root))
def Wf (f:List AC):Prop:=∀x∈f,OC x.2/\x.2.length<=200
theorem oZ {f:List AC} (hf:Wf f) (n:Int):OC (f.getD n.toNat (0,[])).2/\(f.getD n.toNat (0,[])).2.length<=200:=by
 by_cases h:n.toNat<f.length
 .have a:f.getD n.toNat (0,[])∈f:=by
   rw[AS,AT h];exact AAt h
  exact hf _ a
 rw[AS,wS O1];exact⟨λi hi=>by simp at hi,sc⟩
theorem Jf {l:List (Int×Int)} (h:OC l):AQ l=l:=by
 have key:∀i,i<=l.length->AQ (l.take i)=l.take i:=by
  intro i;induction i with
  | zero=>intro _;rfl
  | succ i d =>
   intro hi;rw[Ap l (0,0) O1,LV,d O1];have b:(l.take i).length=i:=by rw[On];omega
   have c:Kg (l.getD i (0,0)) (l.take i) (l.take i).length=(l.take i).length:=by
    rw[b];cases i with
    | zero=>rfl
    | succ i =>
     have h1:=h i O1;have a:(l.take (i+1)).getD i (0,0)=l.getD i (0,0):=by grind
     simp only[Kg];rw[a,As O1]
   unfold ME;rw[c,tO,AEM,AAW]
 have:=key l.length (Of _)
 rwa [tO]at this
structure L5 (f:List AC) (num o:List Int):Prop where
 len:num.length=f.length
 get:∀j,j<f.length->num.getD j 0=if (j:Int)∈o then (o.idxOf (j:Int):Int) else -1
theorem L5.neg {f:List AC} {num o:List Int} (h:L5 f num o) (h0:0<=n) (h1:n<f.length):num.getD n.toNat 0<0↔n∉o:=by
 have:=h.get n.toNat O1;grind
theorem yX {o:List Int} (h:n∉o):(o++[n]).idxOf n=o.length:=by rw[List.idxOf_append,As h];simp
theorem L5.snoc {f:List AC} {num o:List Int} (h:L5 f num o) (h0:0<=n) (h1:n<f.length) (hn:n∉o):L5 f (num.set n.toNat (o.length:Int)) (o++[n]):=by
 refine⟨by simpa using h.len,λj a=>?_⟩;have c:j<num.length:=by rw[h.len];exact a
 by_cases e:j=n.toNat
 .grind
 have en:¬(j:Int)=n:=by omega
 simp only[AS];rw[ADw (λb=>e b.symm)];have:=h.get j a;grind
theorem Wg {f:List AC} (hf:Ae f) (hs:Wf f):∀(k:Nat) (s:List Int×List Int) (n:Int),L5 f s.1 s.2->ML f s.2->0<=n->n<f.length->n∉s.2->(ED f k s n).2=Dy f k s.2 n/\L5 f (ED f k s n).1 (ED f k s n).2
 | 0,s,n,h,_,_,_,_=>⟨rfl,h⟩
 | k+1,s,n,h,u,h0,h1,i=>by
  have key:∀(l:List (Int×Int)) (t:List Int×List Int),(∀a∈l,0<=a.2/\a.2<(f.length:Int))->L5 f t.1 t.2->ML f t.2->(l.foldl (Eh f k) t).2=l.foldl (BF f k) t.2/\L5 f (l.foldl (Eh f k) t).1 (l.foldl (Eh f k) t).2:=by
   intro l;induction l with
   | nil=>exact λt _ e _=>⟨rfl,e⟩
   | cons a l y =>
    intro t j e m;simp only[ON];have q:=j a sc;have v:=e.neg q.1 q.2;have w:(Eh f k t a).2=BF f k t.2 a/\L5 f (Eh f k t a).1 (Eh f k t a).2/\ML f (Eh f k t a).2:=by
     unfold Eh BF;by_cases d:a.2∈t.2
     .grind
     rw[As d,At (by rw[v];exact d)];obtain⟨c,g⟩:=Wg hf hs k t a.2 e m q.1 q.2 d;exact⟨c,g,by rw[c];exact(Gu hf k t.2 a.2 m q.1 q.2 d).1⟩
    obtain⟨c,g,p⟩:=w;obtain⟨o,x⟩:=y (Eh f k t a) (λb r=>j b (by simp[r])) g p;rw[c]at o;exact⟨o,x⟩
  rw[F2,Cu,Jf (oZ hs n).1];exact key _ (s.1.set n.toNat (s.2.length:Int),s.2++[n]) (λa ha=>CS hf ha) (h.snoc h0 h1 i) (u.snoc h0 h1 i)
theorem Wh {f:List AC} (hf:Ae f) (hs:Wf f) {root:Int} (h0:0<=root) (h1:root<f.length):L4 f root=AO f root:=by
 have i:L5 f (List.replicate f.length (-1)) []:=⟨sc,λj h=>by simp[AS,ADg,h]⟩;have d:ML f []:=⟨sc,λx g=>by cases g⟩;obtain⟨c,b⟩:=Wg hf hs f.length (List.replicate f.length (-1),[]) root i d h0 h1 sc;have c:(F3 f root).2=Dy f f.length [] root:=c;have b:L5 f (F3 f root).1 (F3 f root).2:=b;have k:=(Pc hf f.length [] root d h0 h1 sc sc).2;have l:=(Gu hf f.length [] root d h0 h1 sc).1;unfold L4 AO;rw[c]at b ⊢;generalize Dy f f.length [] root=o at *;refine iF λx g=>?_;unfold Oc Ho;rw[Jf (oZ hs x).1];refine AC4 _ (iF λa ha=>?_);unfold Xy MG EP;have e:a.2∈o:=by grind
 have m:=CS hf ha;have:=b.get a.2.toNat O1;rw[show ((a.2.toNat:Nat):Int)=a.2 by omega]at this;rw[this,At e,At e]
def mOf (o:List Int):List (Int×Int):=(List.range o.length).map λi=>(o.getD i 0,(i:Int))
theorem jA (o:List Int) (n:Int):mOf (o++[n])=mOf o++[(n,(o.length:Int))]:=by
 unfold mOf;rw[IF,oR,ABV,ABX]
 congr 1
 .refine iF λi hi=>?_;grind
 simp[AS]
theorem yY (k:Int) (a b:List (Int×Int)):Bc T3 T3 k (a++b)=(Bc T3 T3 k a).or (Bc T3 T3 k b):=by
 induction a with
 | nil=>rfl
 | cons x a c =>
  simp only[To,Bc];split
  .rfl
  exact c
theorem G6 {α:Type} {p:List α->Prop} (h0:p []) (h1:∀l a,p l->p (l++[a])) (l:List α):p l:=by
 have:∀n (l:List α),l.length=n->p l:=by
  intro n;induction n with
  | zero=>intro l b;rw[List.length_eq_zero_iff.1 b];exact h0
  | succ n d =>
   intro l b;have c:l≠[]:=by intro e;subst e;simp at b
   rw[<-List.dropLast_concat_getLast c];exact h1 _ _ (d _ (by simp[b]))
 exact this _ l rfl
theorem Sc (o:List Int) (x:Int):Bc T3 T3 x (mOf o)=if x∈o then some (o.idxOf x:Int) else none:=by
 induction o using G6 with
 | h0=>rfl
 | h1 o n a =>
  rw[jA,yY,a];by_cases b:x∈o
  .grind
  grind [yX,Bc,Ht]
theorem yZ (k v:Int) (l:List (Int×Int)) (h:Bc T3 T3 k l=none):Fd T3 T3 k v l=l++[(k,v)]:=by
 induction l with
 | nil=>rfl
 | cons x l a =>
  simp only[Bc]at h;simp only[Fd,To];split at h
  .cases h
  grind
theorem A2t {o:List Int} (hn:n∉o):Fd T3 T3 n (o.length:Int) (mOf o)=mOf (o++[n]):=by grind [yZ,Sc,jA]
theorem A6s (o:List Int) (x:Int):(Bc T3 T3 x (mOf o)).getD 0=EP o x:=by grind [Sc,EP]
theorem Wi (o:List Int) (x:Int):(Bc T3 T3 x (mOf o)).isSome=decide (x∈o):=by
 rw[Sc];split<;>simp[*]
def Wj (l:List (Int×Int)):Prop:=l.Pairwise λa b=>a.1≠b.1
def LtA (l:List (Int×Int)):Prop:=l.Pairwise λa b=>a.1<b.1
theorem ZA (x:Int×Int) (s:List (Int×Int)):∀n,(∀j,Kg x s n<=j->j<n->x.1<(s.getD j (0,0)).1)/\(Kg x s n=0\/¬x.1<(s.getD (Kg x s n-1) (0,0)).1)
 | 0=>⟨λj h1 a=>by omega,.inl rfl⟩
 | n+1=>by
  obtain⟨h1,a⟩:=ZA x s n;unfold Kg;split
  .rename_i h;refine⟨λj b c=>?_,a⟩;by_cases e:j=n
   .rw[e];exact h
   exact h1 j b O1
  rename_i h;exact⟨λj b c=>by omega,.inr (by simpa using h)⟩
theorem A6t {s:List (Int×Int)} (hs:LtA s) {x:Int×Int} (m:∀a∈s,a.1≠x.1):LtA (ME s x):=by
 obtain⟨h1,c⟩:=ZA x s s.length;have n:=b7 x s s.length;unfold ME;generalize Kg x s s.length=p at *;have d:=hs;unfold LtA at d;rw[<-ADr p s,ADv]at d;have j:∀i (h:i<s.length),s.getD i (0,0)=s[i]:=λi h=>by rw[AS,AT h];rfl
 have l:∀a∈s.take p,a.1<x.1:=by
  intro a ha;rcases c with c|c
  .subst c;simp at ha
  obtain⟨i,hi,rfl⟩:=AAq.1 ha;rw[On]at hi;rw[List.getElem_take];by_cases q:p=0
  .omega
  have g:p-1<s.length:=by omega
  rw[j (p-1) g]at c;have o:=m s[p-1] (AAt g);by_cases e:i=p-1
  .subst e;omega
  have:=(oS.1 hs) i (p-1) O1 g O1;omega
 have k:∀a∈s.drop p,x.1<a.1:=by
  intro a ha;obtain⟨i,hi,rfl⟩:=AAq.1 ha;rw[AD5]at hi;rw[List.getElem_drop,<-j (p+i) O1];exact h1 (p+i) O1 O1
 unfold LtA;rw[AAp,ADv];refine⟨d.1,?_,λa ha b f=>?_⟩
 .rw[ADa,AB3];exact⟨k,d.2.1⟩
 rcases By.1 (by simpa using f:b∈x :: s.drop p) with rfl|f
 .exact l a ha
 exact d.2.2 a ha b f
theorem Gv {l:List (Int×Int)} (h:Wj l):LtA (AQ l):=by
 induction l using G6 with
 | h0=>exact List.Pairwise.nil
 | h1 l a d =>
  unfold Wj at h;rw[ADv]at h;rw[LV];exact A6t (d h.1) λb c=>h.2.2 b ((Dd l).mem_iff.1 c) a sc
theorem y3 {l:List (Int×Int)} (d:r.Perm l) (h1:LtA r) (c:LtA l):r=l :=
 List.Perm.eq_of_pairwise (le:=λa b:Int×Int=>a.1<b.1) (λa b _ _ e f=>by omega) h1 c d
theorem uE {l:List (Int×Int)} (h:LtA l):OC l:=by
 intro i hi;have a:∀i (h:i<l.length),l.getD i (0,0)=l[i]:=λi h=>by rw[AS,AT h];rfl
 rw[a i O1,a (i+1) hi];exact(oS.1 h) i (i+1) O1 hi O1
theorem A9h {l:List (Int×Int)} (h:Wj l):Dst SY (0,0) l:=by
 rw[uA uC];refine h.imp λ{a b} g e=>g ?_;unfold SY Q1 at e;split at e
 .omega
 split at e<;>omega
theorem o0 {l:List (Int×Int)} (h:Wj l) (c:r.Perm l) (hs:uB SY (0,0) 0 l.length r):r=AQ l:=by
 refine y3 (c.trans (Dd l).symm) (oS.2 λi j hi b d=>?_) (Gv h);have a:∀i (h:i<r.length),r.getD i (0,0)=r[i]:=λi h=>by rw[AS,AT h];rfl
 have:=hs i j (DO _) d (by rw[<-c.length_eq];exact b);rw[a i hi,a j b]at this;unfold SY Q1 at this;split at this
 .assumption
 split at this<;>omega
theorem ND {l:List (Int×Int)} (h:Wj l):AQ (AQ l)=AQ l:=Jf (uE (Gv h))
def SS (l:List (Int×Int)):Prop:=l.length<=200/\(l.length<=12\/OC l)
def NdF (f:List AC):Prop:=∀x∈f,Wj x.2/\SS x.2
def Bo (f:List AC):List AC:=f.map λx=>(x.1,AQ x.2)
theorem B0 (f:List AC):(Bo f).length=f.length:=OR _
theorem ER (f:List AC) (n:Nat):(Bo f).getD n (0,[])=((f.getD n (0,[])).1,AQ (f.getD n (0,[])).2):=by
 unfold Bo;simp only[AS,ABL];cases f[n]?<;>rfl
theorem Gw {f:List AC} (h:Ae f):Ae (Bo f):=by
 refine⟨by rw[B0];exact h.1,λx d=>?_⟩;obtain⟨y,e,rfl⟩:=IN.1 d;obtain⟨b,c⟩:=h.2 y e;refine⟨by simp only[Cl];exact b,λa ha=>?_⟩;rw[B0];exact c a ((Dd _).mem_iff.1 ha)
theorem A2u {f:List AC} (h:NdF f):Wf (Bo f):=by
 intro x c;obtain⟨y,d,rfl⟩:=IN.1 c;obtain⟨a,b⟩:=h y d;exact⟨uE (Gv a),by simp only[Cl];exact b.1⟩
theorem uF {f:List AC} (hf:NdF f) (n:Int):Wj (f.getD n.toNat (0,[])).2/\SS (f.getD n.toNat (0,[])).2:=by
 by_cases h:n.toNat<f.length
 .have a:f.getD n.toNat (0,[])∈f:=by
   rw[AS,AT h];exact AAt h
  exact hf _ a
 rw[AS,wS O1];exact⟨List.Pairwise.nil,sc,.inl sc⟩
theorem Tp {f:List AC} (h:NdF f):∀(k:Nat) (s:List Int×List Int) (n:Int),ED (Bo f) k s n=ED f k s n
 | 0,_,_=>rfl
 | k+1,s,n=>by
  rw[F2,F2,ER];simp only;rw[ND (uF h n).1];refine AC4 (λg=>List.foldl g _ _) ?_;funext s a;unfold Eh;rw[Tp h k s a.2]
theorem y4 {f:List AC} (h:NdF f) (r:Int):L4 (Bo f) r=L4 f r:=by
 have a:F3 (Bo f) r=F3 f r:=by
  unfold F3;rw[B0,Tp h]
 unfold L4;rw[a];refine iF λn _=>?_;unfold Oc;rw[ER];simp only;rw[ND (uF h n).1]
theorem Jg {f:List AC} (hf:Ae f) (hn:NdF f) {root:Int} (h0:0<=root) (h1:root<f.length):L4 f root=AO (Bo f) root:=by
 rw[<-y4 hn];exact Wh (Gw hf) (A2u hn) h0 (by rw[B0];exact h1)
theorem A2v {l:List (Int×Int)} (h:OC l) {i j:Nat} (c:i<j) (a:j<l.length):(l.getD i (0,0)).1<(l.getD j (0,0)).1:=by
 induction j with
 | zero=>omega
 | succ j b =>
  have h1:=h j a;by_cases e:i=j
  .rw[e];exact h1
  exact Int.lt_trans (b O1 O1) h1
theorem o5 {x:Int} (h:y<x) (a:Q1 x y<0):False:=by
 unfold Q1 at a
 (repeat' split at a)<;>omega
def Gx (l:List (Int×Int)) (s:Nat):List (Nat×Obj):=[(1000000,.arr 68 DN l),(70,.box 3 false [.p T3 (s:Int)])]
theorem Wk (l:List (Int×Int)) (so:OC l) (a b s:Nat) (ab:a<b) (f:b<l.length) (hs:s<=1000):BB Tryz.prog 186 [.sr 1000000 DN 0 l.length,.p T3 (a:Int),.p T3 (b:Int),.bp 70 [] 0,.fn 108] (Gx l s) [1000000,70] (λres g=>res=.tup [.p T3 (a:Int),.p T3 (b:Int)]/\g=Gx l s):=by
 refine JT [0,1,2,3,4,10,11,22] [] [] Tryz.func186 Tryz.ntmps186 (AF LU AH) ?_;intro w0 K O0 ρ0 d i j;simp only[Aq,Gx];have h:a<l.length:=by omega
 have e:=A2v so ab f;repeat'(first|exact a6|apply eS rfl|refine rX d ?_ ?_|refine rC ?_ ?_<;>intro c<;>try(cases c;done))
 .exact nA
 .exact(o5 e c).elim
 .exact(o5 e c).elim
 exact fM d [.tmp 10,.tmp 11] (.tup [.p T3 (a:Int),.p T3 (b:Int)]) eT ⟨rfl,rfl⟩
theorem b8 (l:List (Int×Int)) (so:OC l) (a b c s:Nat) (ab:a<b) (e:b<c) (cl:c<l.length) (hs:s<=900):BB Tryz.prog 184 [.sr 1000000 DN 0 l.length,.p T3 (a:Int),.p T3 (b:Int),.p T3 (c:Int),.bp 70 [] 0,.fn 108] (Gx l s) [1000000,70] (λres f=>res=.p T3 (b:Int)/\f=Gx l s):=by
 refine JT [0,1,2,3,4,5,12] [] [] Tryz.func184 Tryz.ntmps184 AH ?_;intro w0 K O0 ρ0 d g h;simp only[Aq,Gx];repeat'(first|exact a6|apply eS rfl|refine rX d ?_ ?_)
 refine cP 5 d ?_ ?_
 .trivial
 refine rM d (Wk l so a b s ab O1 O1) [(1000000,.nm 1000000),(70,.nm 70)] [] ?_ ?_ ?_
 .exact eN
 .simp only[Gx];exact eN
 rintro _ _ ⟨rfl,rfl⟩;refine⟨[(1000000,.nm 1000000),(70,.nm 70)],.tup [.p T3 (a:Int),.p T3 (b:Int)],[(1000000,.arr 68 DN l),(70,.box 3 false [.p T3 (s:Int)])],rfl,rfl,?_,?_,rfl,rfl,?_⟩
 .simp only[Gx];exact eN
 .exact eN
 refine rL d ?_ ?_
 .trivial
 repeat' apply eS rfl
 refine cP 5 d ?_ ?_
 .trivial
 refine rM d (Wk l so b c s e cl O1) [(1000000,.nm 1000000),(70,.nm 70)] [] ?_ ?_ ?_
 .exact eN
 .simp only[Gx];exact eN
 rintro _ _ ⟨rfl,rfl⟩;refine⟨[(1000000,.nm 1000000),(70,.nm 70)],.tup [.p T3 (b:Int),.p T3 (c:Int)],[(1000000,.arr 68 DN l),(70,.box 3 false [.p T3 (s:Int)])],rfl,rfl,?_,?_,rfl,rfl,?_⟩
 .simp only[Gx];exact eN
 .exact eN
 refine rL d ?_ ?_
 .trivial
 repeat' apply eS rfl
 refine cP 5 d ?_ ?_
 .trivial
 refine rM d (Wk l so a b s ab O1 O1) [(1000000,.nm 1000000),(70,.nm 70)] [] ?_ ?_ ?_
 .exact eN
 .simp only[Gx];exact eN
 rintro _ _ ⟨rfl,rfl⟩;refine⟨[(1000000,.nm 1000000),(70,.nm 70)],.tup [.p T3 (a:Int),.p T3 (b:Int)],[(1000000,.arr 68 DN l),(70,.box 3 false [.p T3 (s:Int)])],rfl,rfl,?_,?_,rfl,rfl,?_⟩
 .simp only[Gx];exact eN
 .exact eN
 refine rL d ?_ ?_
 .trivial
 repeat'(first|exact a6|apply eS rfl|refine rX d ?_ ?_)
 exact fM d [.tmp 12] (.p T3 (b:Int)) eT ⟨rfl,rfl⟩
theorem b9 (l:List (Int×Int)) (so:OC l) (b s:Nat) (e:1<=b) (c:b+1<l.length) (f:l.length<=100000) (hs:s<=900):BB Tryz.prog 183 [.sr 1000000 DN 0 l.length,.p T3 (b:Int),.bp 70 [] 0,.fn 108] (Gx l s) [1000000,70] (λres d=>res=.p T3 (b:Int)/\d=Gx l s):=by
 refine JT [0,1,2,3,8] [] [] Tryz.func183 Tryz.ntmps183 AH ?_;intro w0 K O0 ρ0 a g h;simp only[Aq,Gx];have key:=b8 l so (b-1) b (b+1) s O1 O1 c hs;rw[show ((b-1:Nat):Int)=(b:Int)-1 by omega,show ((b+1:Nat):Int)=(b:Int)+1 by omega]at key;repeat'(first|exact a6|apply eS rfl|refine rX a ?_ ?_)
 refine cP 8 a ?_ ?_
 .exact nA
 refine rM a (key) [(1000000,.nm 1000000),(70,.nm 70)] [] ?_ ?_ ?_
 .exact eN
 .simp only[Gx];exact eN
 rintro _ _ ⟨rfl,rfl⟩;refine⟨[(1000000,.nm 1000000),(70,.nm 70)],.p T3 (b:Int),[(1000000,.arr 68 DN l),(70,.box 3 false [.p T3 (s:Int)])],rfl,rfl,?_,?_,rfl,rfl,?_⟩
 .simp only[Gx];exact eN
 .exact eN
 refine rL a ?_ ?_
 .trivial
 repeat' apply eS rfl
 exact fM a [.tmp 8] (.p T3 (b:Int)) eT ⟨rfl,rfl⟩
theorem A6u (l:List (Int×Int)) (d:l.length<=100000) (so:OC l) (a b:Nat) (i:a+13<=b) (k:b<=l.length):BB Tryz.prog 168 [.sr 1000000 DN 0 l.length,.p T3 (a:Int),.p T3 (b:Int),.fn 108] [(1000000,.arr 68 DN l)] [1000000] (λres h=>(∃j:Nat,res=.tup [.p T3 (j:Int),.p T3 (1:Int)])/\h=[(1000000,.arr 68 DN l)]):=by
 refine JT [0,1,2,3,8,9,10,11,12,13,14,34,36,55,57,60] [] [] Tryz.func168 Tryz.ntmps168 AH ?_;intro w0 K O0 ρ0 c m n;simp only[Aq];obtain⟨t,g⟩:∃t,t=(b-a) / 4:=⟨_,rfl⟩;have et:((b:Int)-(a:Int)).tdiv 4=(t:Int):=by
  rw[AD7 O1];omega
 have o:4*t<=b-a:=by omega
 have q:3<=t:=by omega
 clear g
 (apply eS rfl;refine rX c ?_ ?_;(next=>first|exact a6|exact nA))
 (apply eS rfl;refine rX c ?_ ?_;(next=>first|exact a6|exact nA))
 (apply eS rfl;refine rX c ?_ ?_;(next=>first|exact a6|exact nA))
 (apply eS rfl;refine rX c ?_ ?_;(next=>first|exact a6|exact nA|(rw[et];refine⟨⟨dg,?_⟩,?_,?_⟩<;>omega)))
 (apply eS rfl;refine rX c ?_ ?_;(next=>first|exact a6|exact nA|(rw[et];refine⟨⟨dg,?_⟩,?_,?_⟩<;>omega)))
 (apply eS rfl;refine rX c ?_ ?_;(next=>first|exact a6|exact nA|(rw[et];refine⟨⟨dg,?_⟩,?_,?_⟩<;>omega)))
 rw[et,show (a:Int)+(t:Int)*1=((a+t:Nat):Int) by omega,show (a:Int)+(t:Int)*2=((a+t*2:Nat):Int) by omega,show (a:Int)+(t:Int)*3=((a+t*3:Nat):Int) by omega];refine VV ?_;refine A5b (ι:=Unit) (λ_=>⟨[(11,.bp 11 [] 0),(13,.p T3 ((a+t*2:Nat):Int))],[(1000000,.arr 68 DN l),(11,.box 3 false [.p T3 (0:Int)])]⟩) ?_ (λx=>?_)
 .repeat'(first|exact a6|apply eS rfl|apply AD|refine rX c ?_ ?_)
  refine rC ?_ ?_<;>intro e
  .repeat'(first|exact a6|apply eS rfl|apply AD|refine rX c ?_ ?_)
   refine rC (λf=>?_) (λf=>?_)
   .repeat' apply eS rfl
    refine cP 3 c ?_ ?_
    .trivial
    refine rM c (b9 l so (a+t) 0 O1 O1 d O1) [(1000000,.nm 1000000),(70,.nm 11)] [] ?_ ?_ ?_
    .exact eN
    .simp only[Gx];exact eN
    rintro _ _ ⟨rfl,rfl⟩;refine⟨[(1000000,.nm 1000000),(11,.nm 70)],.p T3 ((a+t:Nat):Int),[(1000000,.arr 68 DN l),(11,.box 3 false [.p T3 (0:Int)])],rfl,rfl,?_,?_,rfl,rfl,?_⟩
    .simp only[Gx];exact eN
    .exact eN
    refine rL c ?_ ?_
    .trivial
    repeat'(first|exact a6|apply eS rfl|apply AD|refine rX c ?_ ?_)
    refine cP 3 c ?_ ?_
    .trivial
    refine rM c (b9 l so (a+t*2) 0 O1 O1 d O1) [(1000000,.nm 1000000),(70,.nm 11)] [] ?_ ?_ ?_
    .exact eN
    .simp only[Gx];exact eN
    rintro _ _ ⟨rfl,rfl⟩;refine⟨[(1000000,.nm 1000000),(11,.nm 70)],.p T3 ((a+t*2:Nat):Int),[(1000000,.arr 68 DN l),(11,.box 3 false [.p T3 (0:Int)])],rfl,rfl,?_,?_,rfl,rfl,?_⟩
    .simp only[Gx];exact eN
    .exact eN
    refine rL c ?_ ?_
    .trivial
    repeat'(first|exact a6|apply eS rfl|apply AD|refine rX c ?_ ?_)
    refine cP 3 c ?_ ?_
    .trivial
    refine rM c (b9 l so (a+t*3) 0 O1 O1 d O1) [(1000000,.nm 1000000),(70,.nm 11)] [] ?_ ?_ ?_
    .exact eN
    .simp only[Gx];exact eN
    rintro _ _ ⟨rfl,rfl⟩;refine⟨[(1000000,.nm 1000000),(11,.nm 70)],.p T3 ((a+t*3:Nat):Int),[(1000000,.arr 68 DN l),(11,.box 3 false [.p T3 (0:Int)])],rfl,rfl,?_,?_,rfl,rfl,?_⟩
    .simp only[Gx];exact eN
    .exact eN
    refine rL c ?_ ?_
    .trivial
    repeat'(first|exact a6|apply eS rfl|apply AD|refine rX c ?_ ?_)
    refine cP 5 c ?_ ?_
    .trivial
    refine rM c (b8 l so (a+t) (a+t*2) (a+t*3) 0 O1 O1 O1 O1) [(1000000,.nm 1000000),(70,.nm 11)] [] ?_ ?_ ?_
    .exact eN
    .simp only[Gx];exact eN
    rintro _ _ ⟨rfl,rfl⟩;refine⟨[(1000000,.nm 1000000),(11,.nm 70)],.p T3 ((a+t*2:Nat):Int),[(1000000,.arr 68 DN l),(11,.box 3 false [.p T3 (0:Int)])],rfl,rfl,?_,?_,rfl,rfl,?_⟩
    .simp only[Gx];exact eN
    .exact eN
    refine rL c ?_ ?_
    .trivial
    repeat'(first|exact a6|apply eS rfl|apply AD|refine rX c ?_ ?_)
    exact⟨(),eW [(1000000,.nm 1000000),(11,.nm 11)]⟩
   repeat' apply eS rfl
   refine cP 5 c ?_ ?_
   .trivial
   refine rM c (b8 l so (a+t) (a+t*2) (a+t*3) 0 O1 O1 O1 O1) [(1000000,.nm 1000000),(70,.nm 11)] [] ?_ ?_ ?_
   .exact eN
   .simp only[Gx];exact eN
   rintro _ _ ⟨rfl,rfl⟩;refine⟨[(1000000,.nm 1000000),(11,.nm 70)],.p T3 ((a+t*2:Nat):Int),[(1000000,.arr 68 DN l),(11,.box 3 false [.p T3 (0:Int)])],rfl,rfl,?_,?_,rfl,rfl,?_⟩
   .simp only[Gx];exact eN
   .exact eN
   refine rL c ?_ ?_
   .trivial
   repeat'(first|exact a6|apply eS rfl|apply AD|refine rX c ?_ ?_)
   exact⟨(),eW [(1000000,.nm 1000000),(11,.nm 11)]⟩
  exfalso;omega
 repeat'(first|exact a6|apply eS rfl|refine rX c ?_ ?_|refine rC ?_ ?_<;>intro e<;>try(cases e;done))
 refine Ev.ent (σ':=⟨[(8,.p T3 ((a+t*2:Nat):Int)),(9,.p T3 (1:Int))],[(1000000,.arr 68 DN l)]⟩) ?_ (AB [(1000000,.nm 1000000)] rfl rfl ?_ ?_)
 .exact fM c [.tmp 8,.tmp 9] (.tup [.p T3 ((a+t*2:Nat):Int),.p T3 (1:Int)]) eT ⟨⟨_,rfl⟩,rfl⟩
 .exact eN
 exact eN
theorem A6v (l:List (Int×Int)) (q:l.length<=100000) (so:OC l) (n0:0<l.length):BB Tryz.prog 170 [.sr 1000000 DN 0 l.length,.p T3 (0:Int),.p T3 (l.length:Int),.fn 108] [(1000000,.arr 68 DN l)] [1000000] (λres n=>res=.p .bool true/\n=[(1000000,.arr 68 DN l)]):=by
 refine JT [0,1,2,3,8,9,10,11,12,16,36,41,45,65,69,84,104,109,124] [] [] Tryz.func170 Tryz.ntmps170 (AF LU AH) ?_;intro w0 K O0 ρ0 a r t;simp only[Aq];repeat'(first|exact a6|apply eS rfl|refine rX a ?_ ?_)
 .exact nA
 refine AI (ι:=Unit) (λs=>⟨[(0,.sr 1000000 DN 0 l.length),(1,.p T3 (0:Int)),(2,.p T3 (l.length:Int)),(3,.fn 108),(9,.p (.int .i64) (1:Int)),(10,.p (.int .i64) (0:Int))],[(1000000,.arr 68 DN l)]⟩) (λs=>0) () (AB [(1000000,.nm 1000000)] rfl rfl ?_ ?_) (λs=>?_)
 .exact eN
 .refine eM ?_;rfl
 repeat'(first|exact a6|apply eS rfl|apply AD|refine rX a ?_ ?_)
 refine rC ?_ ?_<;>intro c
 .repeat'(first|exact a6|apply eS rfl|apply AD|refine rX a ?_ ?_)
  refine AI (ι:={k:Nat//1<=k/\k<=l.length}) (λs=>⟨[(0,.sr 1000000 DN 0 l.length),(1,.p T3 (0:Int)),(2,.p T3 (l.length:Int)),(3,.fn 108),(9,.p (.int .i64) (s.1:Int)),(10,.p (.int .i64) (0:Int))],[(1000000,.arr 68 DN l)]⟩) (λs=>l.length-s.1) ⟨1,Of _,n0⟩ (AB [(1000000,.nm 1000000)] rfl rfl ?_ ?_) (λs=>?_)
  .exact eN
  .refine eM ?_;rfl
  obtain⟨k,e,f⟩:=s;simp only at e f ⊢;have d:((k:Int)-1).toNat=k-1:=by omega
  repeat'(first|exact a6|apply eS rfl|apply AD|refine rX a ?_ ?_)
  .dsimp only[Ty.den];exact⟨λ_=>by omega,λ_=>by omega,λ_=>by omega⟩
  refine VX a1 ?_ ?_
  .intro b;simp only[An,Is,lU,bY]at b;obtain⟨h1,o⟩:=b;repeat'(first|exact a6|apply eS rfl|apply AD|refine rX a ?_ ?_)
   .exact nA
   exact⟨⟨k+1,O1,O1⟩,a2,eW [(1000000,.nm 1000000)]⟩
  intro b;rw[d]at b;have g:k=l.length:=by
   refine Do λhn=>?_;have m:=A2v so (i:=k-1) (j:=k) O1 O1;simp only[ACj,bY,ADH,Is]at b;rcases b with h|h
   .omega
   exact o5 m h
  subst g;clear b;repeat'(first|exact a6|apply eS rfl|refine rX a ?_ ?_|refine rC ?_ ?_<;>intro c<;>try(cases c;done))
  exact fM a [.tmp 8] (.p .bool true) eT ⟨rfl,rfl⟩
 exfalso;simp at c
theorem A6w (l:List (Int×Int)) (u:l.length<=200) (nd:Wj l) (so:l.length<=12\/OC l) (b:Int) (m:13<=l.length->b≠0):BB Tryz.prog 156 [.sr 1000000 DN 0 l.length,.p T3 (0:Int),.p T3 (l.length:Int),.p T3 b,.fn 108] [(1000000,.arr 68 DN l)] [1000000] (λres t=>res=.raw (.tuple #[])/\t=[(1000000,.arr 68 DN (AQ l))]):=by
 refine JT [0,1,2,3,4,10,11,12,13,14,15,16,17,18,19,20,25,32,39,56,75,80,97,125] [] [] Tryz.func156 Tryz.ntmps156 AH ?_;intro w0 K O0 ρ0 a v w;simp only[Aq];repeat'(first|exact a6|apply eS rfl|apply AD|refine rX a ?_ ?_)
 refine AI (ι:=Unit) (λs=>⟨[(0,.sr 1000000 DN 0 l.length),(1,.p T3 (0:Int)),(2,.p T3 (l.length:Int)),(3,.p T3 b),(4,.fn 108),(10,.p .bool true),(11,.p .bool true)],[(1000000,.arr 68 DN l)]⟩) (λs=>0) () (eW [(1000000,.nm 1000000)]) (λs=>?_)
 repeat'(first|exact a6|apply eS rfl|apply AD|refine rX a ?_ ?_)
 .exact nA
 refine rC ?_ ?_<;>intro c
 .have key:=A6q l O1 (A9h nd) 0 l.length O1 (Of _);rw[show ((0:Nat):Int)=0 from rfl]at key;repeat'(first|exact a6|apply eS rfl|apply AD|refine rX a ?_ ?_)
  refine cP 4 a ?_ ?_
  .trivial
  refine QZ a (key) [(1000000,.nm 1000000)] [] ?_
  rintro _ _ ⟨rfl,r,rfl,n,o⟩;have h:=o0 nd n.perm o;subst h;have x:=Cl l;refine⟨[(1000000,.nm 1000000)],.raw (.tuple #[]),[(1000000,.arr 68 DN (AQ l))],rfl,rfl,?_,?_,rfl,rfl,E7 ?_⟩
  .exact eN
  .exact eN
  repeat' apply eS rfl
  exact fM a [] (.raw (.tuple #[])) rfl ⟨rfl,rfl⟩
 have i:13<=l.length:=by omega
 have hs:OC l:=so.resolve_left O1;have k:=m i;rw[Jf hs];repeat'(first|exact a6|apply eS rfl|apply AD|refine rX a ?_ ?_)
 refine rC (λd=>?_) (λd=>?_)
 .exact absurd d k
 have key:=A6u l O1 hs 0 l.length O1 (Of _);rw[show ((0:Nat):Int)=0 from rfl]at key;have q:=A6v l O1 hs O1;repeat'(first|exact a6|apply eS rfl|apply AD|refine rX a ?_ ?_)
 refine rC (λe=>?_) (λe=>?_)
 .cases e
 repeat'(first|exact a6|apply eS rfl|apply AD|refine rX a ?_ ?_)
 refine cP 4 a ?_ ?_
 .trivial
 refine QZ a (key) [(1000000,.nm 1000000)] [] ?_
 rintro _ _ ⟨⟨j,rfl⟩,rfl⟩;refine⟨[(1000000,.nm 1000000)],.tup [.p T3 (j:Int),.p T3 (1:Int)],[(1000000,.arr 68 DN l)],rfl,rfl,?_,?_,rfl,rfl,?_⟩
 .exact eN
 .exact eN
 refine rL a ?_ ?_
 .trivial
 repeat'(first|exact a6|apply eS rfl|apply AD|refine rX a ?_ ?_)
 refine rC (λf=>?_) (λf=>?_)
 .exact absurd f dg
 repeat'(first|exact a6|apply eS rfl|apply AD|refine rX a ?_ ?_)
 refine rC (λg=>?_) (λg=>?_)
 .repeat'(first|exact a6|apply eS rfl|apply AD|refine rX a ?_ ?_)
  refine cP 4 a ?_ ?_
  .trivial
  refine rW a (q) [(1000000,.nm 1000000)] [] [(1000000,.nm 1000000)] (.p .bool true) ([(1000000,.arr 68 DN l)]) (E7 ?_)
  repeat'(first|apply eS rfl|refine rC ?_ ?_<;>intro c<;>try(cases c;done))
  exact fM a [] (.raw (.tuple #[])) rfl ⟨rfl,rfl⟩
 exact absurd g dg
theorem jB {L:Go.Loop} (h1:L.state=.ready) (a:L.pending=none):{ { L with state:=.busy } with state:=.ready,pending:=none }=L:=by
 cases L;simp_all
theorem ZB (l:List (Int×Int)):BB Tryz.prog 107 [.p Nw l] [] [] (λres b=>res=.clo 141 [1]/\b=[(1,.box 64 false [.p Nw l])]):=by
 refine JT [0,1,2] [] [] Tryz.func107 Tryz.ntmps107 AH ?_;intro w0 K O0 ρ0 a c d;simp only[Aq];repeat'(first|exact a6|apply eS rfl|refine rX a ?_ ?_)
 exact fM a [.tmp 2] (.clo 141 [1]) eT ⟨rfl,rfl⟩
def Cb (l:List (Int×Int)) (L:Go.Loop) (a:Array Value) (i:Nat):List (Nat×Obj):=[(1,.box 64 false [.p Nw l]),(101,.loop L),(102,.frame a [(2,.bp 2 [] 0),(6,.clo 141 [1])]),(2,.box 64 false [.sr 7 DN 0 i]),(7,.arr 68 DN (l.take i))]
theorem o6 (l:List (Int×Int)) (g:l.length<=100000) (L:Go.Loop) (b:Array Value) (f:∀i,i<l.length->Yb Tryz.prog 101 [.p DN (l.getD i (0,0))] (Cb l L b i) [1,101,102,2] (λres e=>res=.p .bool true/\e=Cb l L b (i+1))) :
  BB Tryz.prog 141 [.yl 101,.bp 1 [] 0] (Cb l L b 0) [1,101,102,2] (λres e=>res=.raw (.tuple #[])/\e=Cb l L b l.length):=by
 refine JT [0,1,4,5,6,7,8,14] [] [] Tryz.func141 Tryz.ntmps141 AH ?_;intro w0 K O0 ρ0 a h j;simp only[Aq,Cb];repeat'(first|exact a6|apply eS rfl|refine rX a ?_ ?_)
 refine AI (ι:={i:Nat//i<=l.length}) (λi=>⟨[(0,.yl 101),(1,.bp 1 [] 0),(5,.p Nw l),(6,.p (.int .i64) (l.length:Int)),(7,.p (.int .i64) (i.1:Int))],Cb l L b i.1⟩) (λi=>l.length-i.1) ⟨0,O1⟩ (AB [(1,.nm 1),(101,.nm 101),(102,.nm 102),(2,.nm 2),(7,.nm 7)] rfl rfl ?_ ?_) (λi=>?_)
 .simp only[Cb];exact eN
 .exact eN
 obtain⟨i,hi⟩:=i;simp only[Cb];repeat'(first|exact a6|apply eS rfl|refine rX a ?_ ?_|refine rC ?_ ?_<;>intro c<;>try(cases c;done))
 .exact eV
 .have d:i<l.length:=by exact eV
  refine cP 2 a ?_ ?_
  .trivial
  refine rY 101 101 a (f i d) [(1,.nm 1),(101,.nm 101),(102,.nm 102),(2,.nm 2),(7,.nm 7)] [7] ?_ ?_ ?_
  .exact eN
  .simp only[Cb];exact eN
  rintro _ _ ⟨rfl,rfl⟩;refine⟨[(1,.nm 1),(101,.nm 101),(102,.nm 102),(2,.nm 2),(7,.nm 7)],.p .bool true,Cb l L b (i+1),rfl,rfl,?_,?_,rfl,rfl,?_⟩
  .simp only[Cb];exact eN
  .exact eN
  simp only[Cb];refine HE [0,1,5,6,7,14] a a1 ?_ ?_
  .trivial
  repeat'(first|apply eS rfl|apply AD|refine rX a ?_ ?_|refine rC ?_ ?_<;>intro c<;>try(cases c;done))
  .exact eV
  refine⟨⟨i+1,O1⟩,a2,AB [(1,.nm 1),(101,.nm 101),(102,.nm 102),(2,.nm 2),(7,.nm 7)] rfl rfl ?_ ?_⟩
  .simp only[Cb];exact eN
  exact eN
 have d:i=l.length:=by exact eV
 subst d;refine fM a [] (.raw (.tuple #[])) rfl ⟨rfl,?_⟩;simp only[Cb,tO]
theorem cA (l:List (Int×Int)) (n:l.length<=100000):BB Tryz.prog 155 [.raw (.slice none 0 0),.clo 141 [1]] [(1,.box 64 false [.p Nw l])] [] (λres q=>res=.sr 7 DN 0 l.length/\q=[(7,.arr 68 DN l)]):=by
 refine fKR [0,1,2,4,5,6,7] [] [] Tryz.func155 Tryz.ntmps155 AH ?_;intro w0 K O0 ρ0 a t u;simp only[Aq];repeat'(first|exact a6|apply eS rfl|refine rX a ?_ ?_)
 refine gG a rfl rfl a1 101 103 102 rfl rfl rfl rfl ?_;intro L c d f g h j k o;refine⟨_,Cb l L c 0,[1,101,102,2],_,[(1,.nm 1),(101,.nm 101),(102,.nm 102),(2,.nm 2),(7,.nil)],[],o6 l n L c ?_,rfl,rfl,?_,?_,rfl,?_⟩
 .intro i hi;refine gE (fr:=102) rfl rfl d h j k g o rfl a5 sc rfl rfl a5 a5 (tyTab_ok [] [0,1,2,4,5,6,7]) AH ?_;intro y r s z x a v w m;simp only[Cb,Hb];repeat'(first|exact a6|apply AD|refine rX a ?_ ?_)
  refine⟨rfl,?_⟩;repeat'(first|apply eS rfl|refine rX a ?_ ?_)
  .simp only[AP];omega
  have e:List.take i (List.take i l)++[((l.getD i (0,0)).1,(l.getD i (0,0)).2)]=l.take (i+1):=by
   rw[Ap l (0,0) hi,BY (Nat.le_of_eq (by rw[On];omega):(l.take i).length<=i)]
  refine Ev.ent (σ':=⟨[],[(1,.box 64 false [.p Nw l]),(101,.loop { L with state:=.busy }),(102,.frame c [(2,.bp 2 [] 0),(6,.clo 141 [1])]),(2,.box 64 false [.sr 7 DN 0 (i+1)]),(7,.arr 68 DN (l.take (i+1)))]⟩) ?_ (AB [(1,.nm 1),(101,.nm 101),(102,.nm 102),(2,.nm 2),(7,.nm 7)] rfl rfl ?_ ?_)
  .refine Yc a (yn:=101) rfl rfl sc m ⟨rfl,?_⟩;simp only[Cb,go_sem,Nat.reduceEqDiff,reduceCtorEq,Nat.reduceAdd,Nat.reduceSub,Nat.reduceMul,Nat.reduceLeDiff,Nat.reduceLT,Int.reduceLE,Int.reduceToNat,Int.reduceNeg,↓reduceIte,jB d f]
  .refine eM ?_;exact e
  exact eN
 .simp only[Bk];exact eN
 .simp only[Bk,Cb];exact eN
 rintro _ _ ⟨rfl,rfl⟩;refine⟨[(1,.nm 1),(101,.nm 101),(102,.nm 102),(2,.nm 2),(7,.nm 7)],Cb l L c l.length,L,rfl,rfl,?_,rfl,rfl,rfl,by rw[d];rfl,?_⟩
 .simp only[Cb];exact eN
 intro b;rw[f];simp only[EvJ,Cb,Bk,go_sem,Nat.reduceEqDiff,reduceCtorEq,Nat.reduceAdd,Nat.reduceSub,Nat.reduceMul,Nat.reduceLeDiff,Nat.reduceLT,Int.reduceLE,Int.reduceToNat,Int.reduceNeg,↓reduceIte];replace a:=SE (dn:=103) (b:=b) a;repeat'(first|exact a6|apply eS rfl|refine rX a ?_ ?_)
 refine Ev.ent (σ':=⟨[(4,.sr 7 DN 0 l.length)],[(7,.arr 68 DN l),(103,.dfr)]⟩) ?_ (AB [(7,.nm 7),(103,.nm 103)] rfl rfl ?_ ?_)
 .exact V1 a [.tmp 4] rfl (.inl rfl) rfl rfl (.sr 7 DN 0 l.length) eT ⟨rfl,by simp only[go_sem,Nat.reduceEqDiff,reduceCtorEq,Nat.reduceAdd,Nat.reduceSub,Nat.reduceMul,Nat.reduceLeDiff,Nat.reduceLT,Int.reduceLE,Int.reduceToNat,Int.reduceNeg,↓reduceIte]⟩
 .exact eN
 exact eN
theorem o7 (l:List (Int×Int)) (b:l.length<=100000):BB Tryz.prog 139 [.clo 141 [1]] [(1,.box 64 false [.p Nw l])] [] (λres c=>res=.sr 7 DN 0 l.length/\c=[(7,.arr 68 DN l)]):=by
 refine JT [0,2] [] [] Tryz.func139 Tryz.ntmps139 AH ?_;intro w0 K O0 ρ0 a d e;simp only[Aq];repeat'(first|exact a6|apply eS rfl|refine rX a ?_ ?_)
 refine cP 1 a ?_ ?_
 .trivial
 refine rW a (cA l b) [(1,.nm 1)] [1] [(7,.nm 7)] (.sr 7 DN 0 l.length) ([(7,.arr 68 DN l)]) ?_
 refine HE [2] a a1 ?_ ?_
 .trivial
 repeat' apply eS rfl
 exact fM a [.tmp 2] (.sr 7 DN 0 l.length) eT ⟨rfl,rfl⟩
theorem A2w (x:Int) (h0:0<=x) (h1:x<256):BB Tryz.prog 174 [.p (.int .u64) x] [] [] (λres g=>(∃n:Int,res=.p T3 n/\(13<=x->n≠0))/\g=[]):=by
 refine JT [0,2,4,8,14] [] [] Tryz.func174 Tryz.ntmps174 AH ?_;intro w0 K O0 ρ0 a i j;simp only[Aq];repeat'(first|exact a6|apply eS rfl|refine rX a ?_ ?_|refine rC ?_ ?_<;>intro b<;>try(cases b;done))
 all_goals first|(exfalso;omega)|skip
 refine Mn [0,2] a rfl (by simp only[go_sem,Nat.reduceEqDiff,reduceCtorEq,Nat.reduceAdd,Nat.reduceSub,Nat.reduceMul,Nat.reduceLeDiff,Nat.reduceLT,Int.reduceLE,Int.reduceToNat,Int.reduceNeg,↓reduceIte,ByteArray.size,List.size_toArray,AP];rfl) ?_ ?_
 .have hu:∀u:UInt8,((u.toNat:Nat):Int)<=255:=λu=>by have:=u.toNat_lt;omega
  refine⟨⟨h0,O1⟩,⟨h0,?_⟩,⟨?_,?_⟩,?_,?_⟩
  .have c:x<((256:Nat):Int):=h1;exact c
  .exact ADi dg (AC8 _)
  .exact ADi (hu _) dg
  .rw[Int.zero_add];exact ADi dg (AC8 _)
  rw[Int.zero_add];exact ADi (hu _) dg
 repeat' apply eS rfl
 refine fM a [.tmp 2] (.p T3 _) (by simp only[TX,xG,R8,YT,Jw,LA,Jx,go_sem,Nat.reduceEqDiff,reduceCtorEq,Nat.reduceAdd,Nat.reduceSub,Nat.reduceMul,Nat.reduceLeDiff,Nat.reduceLT,Int.reduceLE,Int.reduceToNat,Int.reduceNeg,↓reduceIte];rfl) ⟨⟨_,rfl,λh=>?_⟩,rfl⟩;rw[Int.zero_add];intro e;replace e:=Int.ofNat.inj e;have d:x.toNat<256:=by omega
 have f:13<=x.toNat:=by omega
 generalize x.toNat=k at *;clear b;exact absurd e (by
  clear e;revert f;revert d;revert k;decide)
theorem A9i (x:Int) (h0:0<=x) (h1:x<256):BB Tryz.prog 157 [.p (.int .u64) x] [] [] (λres d=>(∃n:Int,res=.p T3 n/\(13<=x->n≠0))/\d=[]):=by
 refine JT [0,2] [] [] Tryz.func157 Tryz.ntmps157 AH ?_;intro w0 K O0 ρ0 a e f;simp only[Aq];repeat'(first|exact a6|apply eS rfl|refine rX a ?_ ?_|refine rC ?_ ?_<;>intro b<;>try(cases b;done))
 refine cP 1 a ?_ ?_
 .trivial
 refine QZ a (A2w x h0 h1) [] [] ?_
 rintro _ _ ⟨⟨n,rfl,c⟩,rfl⟩;refine⟨[],.p T3 n,[],rfl,rfl,?_,?_,rfl,rfl,?_⟩
 .exact eN
 .exact eN
 refine HE [2] a a1 ?_ ?_
 .trivial
 repeat' apply eS rfl
 exact fM a [.tmp 2] (.p T3 n) eT ⟨⟨_,rfl,c⟩,rfl⟩
theorem jC (l:List (Int×Int)) (b:SS l) (hs:Wj l):BB Tryz.prog 140 [.sr 1000000 DN 0 l.length,.fn 108] [(1000000,.arr 68 DN l)] [1000000] (λres e=>res=.raw (.tuple #[])/\e=[(1000000,.arr 68 DN (AQ l))]):=by
 have f:=b.1;refine JT [0,1,4] [] [] Tryz.func140 Tryz.ntmps140 AH ?_;intro w0 K O0 ρ0 a g h;simp only[Aq];repeat'(first|exact a6|apply eS rfl|refine rX a ?_ ?_)
 refine cP 4 a ?_ ?_
 .exact eV
 refine QZ a (A9i (l.length:Int) O1 O1) [] [] ?_
 rintro _ _ ⟨⟨n,rfl,d⟩,rfl⟩;refine⟨[],.p T3 n,[],rfl,rfl,?_,?_,rfl,rfl,?_⟩
 .exact eN
 .exact eN
 have key:=A6w l b.1 hs b.2 n λq=>d O1;refine QR a 1 a1 ?_ ?_
 .trivial
 refine QZ a (key) [(1000000,.nm 1000000)] [] ?_
 rintro _ _ ⟨rfl,rfl⟩;have i:=Cl l;refine⟨[(1000000,.nm 1000000)],.raw (.tuple #[]),[(1000000,.arr 68 DN (AQ l))],rfl,rfl,?_,?_,rfl,rfl,E7 ?_⟩
 .exact eN
 .exact eN
 repeat'(first|exact a6|apply eS rfl|apply AD|refine rX a ?_ ?_|refine rC ?_ ?_<;>intro c<;>try(cases c;done))
 exact fM a [] (.raw (.tuple #[])) rfl ⟨rfl,rfl⟩
theorem Od (l:List (Int×Int)) (b:SS l) (hs:Wj l):BB Tryz.prog 106 [.clo 141 [1],.fn 108] [(1,.box 64 false [.p Nw l])] [] (λres c=>res=.sr 7 DN 0 l.length/\c=[(7,.arr 68 DN (AQ l))]):=by
 have g:=Cl l;have d:=b.1;refine JT [0,1,4,5] [] [] Tryz.func106 Tryz.ntmps106 AH ?_;intro w0 K O0 ρ0 a e f;simp only[Aq];repeat'(first|exact a6|apply eS rfl|refine rX a ?_ ?_)
 refine cP 1 a ?_ ?_
 .trivial
 refine rW a (o7 l O1) [(1,.nm 1)] [1] [(1000000,.nm 7)] (.sr 1000000 DN 0 l.length) ([(1000000,.arr 68 DN l)]) ?_
 refine HE [1,5] a a1 ?_ ?_
 .trivial
 repeat' apply eS rfl
 refine cP 2 a ?_ ?_
 .trivial
 refine rW a (jC l b hs) [(1000000,.nm 1000000)] [] [(1000000,.nm 1000000)] (.raw (.tuple #[])) ([(1000000,.arr 68 DN (AQ l))]) (E7 ?_)
 repeat'(first|exact a6|apply eS rfl|refine rX a ?_ ?_)
 refine Ev.ent (σ':=⟨[(4,.sr 7 DN 0 l.length)],[(7,.arr 68 DN (AQ l))]⟩) ?_ (AB [(7,.nm 1000000)] rfl rfl ?_ ?_)
 .exact fM a [.tmp 4] (.sr 7 DN 0 l.length) eT ⟨rfl,rfl⟩
 .exact eN
 exact eN
end Go.Proofs.YtddbnflakbngaaaGreatDoor.Fw
