/- Contracts of functions and plain laws. -/
import Derived.Test.YtglkoagnnnpimaaGreatDoorCZJ
import Derived.Test.YtglkoagnnnpimaaGreatDoorCZI
set_option linter.unusedVariables false
set_option linter.unusedSimpArgs false
namespace Go.Proofs.YtglkoagnnnpimaaGreatDoor.Fw
attribute [local irreducible] Ev
attribute [local go_sem] nY AK List.toList_toArray Bv evG evK Wj E0 LE IB G5 GU Rk LD CU Dg Ou DI Cr frz sD Gl DW BA Fx BZ AV.frz AV.frzs AV.drp AV.drps AV.names AV.namess aq Gm K3 K4 Tn Ji Br B1 KX EJ Jl EK Jn Jm Jo Wh Rc HQ MR Fz EZ Wi SX qUn KY I0 Nf FM D5 Jp K6 Ep Tq Cw Eq FN SY I1 Oq FO Oo Re SZ ND Jq K7 DX DC K0 D6 Ic DR FP DS Er GT DI C3 Ol SW QV G0 Jk Jj K5 Ot Rh NE Nj Nh K9 Tr Ni LA bT Rj Ri AV.trn AV.trns EI Cv Obj.trn Kg kB DU Dr DT Es CZ FQ Ag lk H6 Gr Ia bin sB Y3 sF Tp Tl zfx AV.cellss sC zfs pfs AV.cells CO Eo Iz F0 Rg CP Om Ty.cell1 Jh E3 D4 GR IZ Em Kw NC Oj GQ Gz Nc Tk Wg Mz Kv bP i8 Tm H7 C4 HP RV.flat Ty.flat Ty.size St.add upd del Bd Value.oneCell' Y0 Ty.dflt Jg S3 I7 S9 List.take_succ_cons List.take_zero List.length_cons n5 n6 S8 LV PO I9 Me A3k G6 PB PC PD PE UK UL PG J0 ZP Option.map_some Option.map_none Option.bind_some Option.getD_some Option.getD_none Option.isNone_none Option.isNone_some Bool.and_true Bool.true_and Bool.and_false Bool.false_and Bool.not_true Bool.not_false if_true if_false List.length_cons List.length_nil and_true true_and and_self List.all_cons List.all_nil List.append_nil List.nil_append List.cons_append List.getElem?_cons_zero List.getElem?_cons_succ List.getElem?_nil List.map_cons List.map_nil List.set_cons_zero List.set_cons_succ List.isEmpty_nil List.isEmpty_cons decide_true decide_false beq_self_eq_true bne_self_eq_false Nat.zero_add Nat.add_zero Nat.sub_zero Int.toNat_natCast Int.toNat_zero Int.toNat_one List.take_length List.length_append List.length_singleton true_or or_true or_self false_or or_false Ty.agg.injEq Ty.slice.injEq Ty.prod.injEq Ty.int.injEq Option.some.injEq beq_iff_eq LT evMG evMQ opM Im NI CA Ke G7 UO Kd Il J1 Mc LS Qf PJ Qg UP PI S5 S6 Mb Ab Aj Op.operands Call.operands List.filterMap_cons List.filterMap_nil List.append_eq Bool.cond_false_right Bool.cond_true_left cond_true cond_false implies_true decide_eq_true_eq beq_true beq_false Bool.or_true Bool.or_false Bool.true_or Bool.false_or Option.isSome_some Array.empty_append List.append_toArray Fy Ov FT H8 bS Rf bR GS HH HG I2 Ib K8 Ng Y4 sE HF inB LB GK G1 LC Am oA List.drop_zero D2 ID cX C6 Nw Cq AV.fgt AV.fgts Obj.fgt Az Ax Ab EP LY Bt LZ List.any_cons List.any_nil oD jZ dA j5 M0 Sd qs List.flatMap_cons List.flatMap_nil List.cons_append tn dG NJ List.take_succ_cons List.drop_succ_cons dI Hb Ba yK Qo CR Cn Al FW LN B3 matchAVs DD Ik Jy HX Jz
attribute [local go_sem] ty1 ty2 ty3 ty4 ty5 ty9 A6K A6L A6M A6N A6O A6P A6Q A6R A6S A6T A6U A6V A6W A6X A6Y A6Z A70 A71 A72 A73 A74 A75 A76 A77 A78 A79 A7a A7b yW yX yY yZ y3 y4 y5 y6 y7 y8 y9 zA zB zC zD zE zF zG zH zI zJ zK zL zN zO zP zQ zR zS zT zU zV zW zX zY zZ z0 z4
set_option maxRecDepth 100000
set_option maxHeartbeats 4000000
variable {k i c f:Nat} {a b:List Int} {o m:List ByteArray} {s x:ByteArray} {l W:List (List Int)} {Z X:Type} {n y:Int} {Y r:List (Int×Int)} {V:Int×Int}
section
def CH (a b c:Int):Bool:=decide (a<=c)&&decide (c<=b)
def ZZ:AW:={ ins:=[.int .u8],pre:=λ_=>True,out:=λ(c,_)=>[.p .bool (CH 48 57 c)] }
attribute [local go_sem] ZZ
def kM:AW:={ ins:=[.int .u8],pre:=λ_=>True,out:=λ(c,_)=>[.p .bool (CH 65 90 c)] }
attribute [local go_sem] kM
def kN:AW:={ ins:=[.int .u8],pre:=λ_=>True,out:=λ(c,_)=>[.p .bool (CH 97 122 c)] }
attribute [local go_sem] kN
theorem Uv:AY Tryz.prog 165 ZZ:=by
 refine fK [0,2] Tryz.func165 Tryz.ntmps165 AH ?_;rintro w0 O0 ⟨c,u⟩ a - -;simp only[ZZ,AK];repeat'(first|exact trivial|apply eS rfl|refine rX a ?_ ?_)
 exact fI a [.tmp 2] (by unfold CH;exact eR)
theorem A00:AY Tryz.prog 198 kM:=by
 refine fK [0,2] Tryz.func198 Tryz.ntmps198 AH ?_;rintro w0 O0 ⟨c,u⟩ a - -;simp only[kM,AK];repeat'(first|exact trivial|apply eS rfl|refine rX a ?_ ?_)
 exact fI a [.tmp 2] (by unfold CH;exact eR)
theorem A01:AY Tryz.prog 199 kN:=by
 refine fK [0,2] Tryz.func199 Tryz.ntmps199 AH ?_;rintro w0 O0 ⟨c,u⟩ a - -;simp only[kN,AK];repeat'(first|exact trivial|apply eS rfl|refine rX a ?_ ?_)
 exact fI a [.tmp 2] (by unfold CH;exact eR)
def N4 (c:Int) (big:Bool):Bool:=CH 48 57 c||c==45||big&&CH 65 90 c||!big&&CH 97 122 c
def A02:AW:={ ins:=[.int .u8,.bool],pre:=λ_=>True,out:=λ(c,b,_)=>[.p .bool (N4 c b)] }
attribute [local go_sem] A02
theorem A3H:AY Tryz.prog 188 A02:=by
 refine fK [0,1,4] Tryz.func188 Tryz.ntmps188 (AE Uv (AE A00 (AE A01 AH))) ?_;rintro w0 O0 ⟨c,b,u⟩ a - -;simp only[A02,AK];repeat'(first|exact trivial|apply eS rfl|refine rX a ?_ ?_)
 exact fI a [.tmp 4] (by unfold N4;exact eR)
abbrev NL (s:ByteArray) (i:Nat):Int:=((s.data.getD i 0).toNat:Int)
def N5 (s:ByteArray):Bool:=decide ((s.size:Int)<1)||decide (32<(s.size:Int))||CH 48 57 (NL s 0)||NL s 0==45
def BM (s:ByteArray) (big:Bool):Bool:=!N5 s&&(List.range s.size).all λi=>N4 (NL s i) big
def kO:AW:={ ins:=[T9,.bool],pre:=λ_=>True,out:=λ(s,b,_)=>[.p .bool (BM s b)] }
attribute [local go_sem] kO
theorem dW:AY Tryz.prog 174 kO:=by
 refine fK [0,1,4,5,23,27,35] Tryz.func174 Tryz.ntmps174 (AE Uv (AE A3H AH)) ?_;rintro w0 O0 ⟨s,b,u⟩ d - -;simp only[kO,AK];repeat'(first|exact trivial|apply eS rfl|refine rX d ?_ ?_|refine rC ?_ ?_<;>intro a<;>try(cases a;done))
 .constructor
  .intro h;simp only[TO,AAr,To]at h;have:1<=(s.size:Int):=by omega
   exact this
  intro h;simp only[TO,AAr,To]at h;have:1<=(s.size:Int):=by omega
  exact this
 .have h1:N5 s=true:=by
   unfold N5 NL;simp only[oN,IN,AAb];exact a
  have c:BM s b=false:=by unfold BM;rw[h1];rfl
  exact fI d [.tmp 4] (by rw[c];exact eR)
 have h1:N5 s=false:=by
  unfold N5 NL;simp only[AAr,To,AAR];exact⟨⟨⟨by omega,by omega⟩,a.1.2⟩,a.2⟩
 have g:s.size<=32:=by omega
 refine AI (ι:={k:Nat//k<=s.size/\((List.range k).all λi=>N4 (NL s i) b)=true}) (λk=>⟨[(0,.p T9 s),(1,.p .bool b),(5,.p (.int .i64) (k.1:Int))],[]⟩) (λk=>s.size-k.1) ⟨0,by simp⟩ (eW []) (λk=>?_)
 obtain⟨k,hk,f⟩:=k;repeat'(first|exact trivial|apply eS rfl|apply AB|refine rX d ?_ ?_|refine rC ?_ ?_<;>intro a<;>try(cases a;done))
 .exact a
 .have e:k<s.size:=by omega
  have c:BM s b=false:=by
   unfold BM;rw[AAY];refine .inr (ABM.2 λh=>?_);have:=OF.1 h k (wH.2 e);rw[show N4 (NL s k) b=false from a]at this;cases this
  exact fI d [.tmp 4] (by rw[c];exact eR)
 .omega
 .have e:k<s.size:=by omega
  refine⟨⟨k+1,by omega,?_⟩,by simp only;omega,AC [] rfl rfl ?_ ?_⟩
  .rw[AAA,AC6,f];rw[AC7,ABr,List.all_nil,Bool.and_true];exact a
  .exact eN
  exact eN
 have e:k=s.size:=by omega
 subst e;have c:BM s b=true:=by unfold BM;rw[h1,f];rfl
 exact fI d [.tmp 4] (by rw[c];exact eR)
def Xi:AW:={ ins:=[T9],pre:=λ_=>True,out:=λ(s,_)=>[.p .bool (BM s false)] }
def PU:AW:={ ins:=[T9],pre:=λ_=>True,out:=λ(s,_)=>[.p .bool (BM s true)] }
theorem oV:AY Tryz.prog 136 Xi:=by
 refine fK [0,2] Tryz.func136 Tryz.ntmps136 (AE dW AH) ?_;rintro w0 O0 ⟨s,u⟩ a - -;simp only[Xi,AK];repeat'(first|exact trivial|apply eS rfl|refine rX a ?_ ?_)
 exact fI a [.tmp 2]
theorem Uw:AY Tryz.prog 146 PU:=by
 refine fK [0,2] Tryz.func146 Tryz.ntmps146 (AE dW AH) ?_;rintro w0 O0 ⟨s,u⟩ a - -;simp only[PU,AK];repeat'(first|exact trivial|apply eS rfl|refine rX a ?_ ?_)
 exact fI a [.tmp 2]
end
section
theorem Mh {α:Type} (l:List α) (d:α) (p:α->Bool) (h:k<l.length):(l.take (k+1)).any p=((l.take k).any p||p (l.getD k d)):=by
 rw[Ar l d h,ABU];simp
theorem IG {α:Type} (l:List α) (d:α) (p:α->Bool) (h:k<l.length) (a:p (l.getD k d)=true):l.any p=true :=
 aT.2 ⟨_,AG l d h,a⟩
def AU (l:List ByteArray) (s:ByteArray):Bool:=l.any λx=>AM x s
def Ip:AW:={ ins:=[CL,T9],pre:=λ_=>True,out:=λ(l,n,_)=>[.p .bool (AU l n)],lend:=true }
attribute [local go_sem] Ip
theorem GZ:AY Tryz.prog 158 Ip:=by
 refine fK [0,1,4,5,9,17] Tryz.func158 Tryz.ntmps158 AH ?_;rintro w0 O0 ⟨l,n,u⟩ a ⟨⟨e,-⟩,-⟩ -;simp only[AO]at e;simp only[Ip,AK];repeat'(first|exact trivial|apply eS rfl|refine rX a ?_ ?_)
 refine AI (ι:={k:Nat//k<=l.length/\(l.take k).any (λx=>AM x n)=false}) (λk=>⟨[(0,.p CL l),(1,.p T9 n),(5,.p (.int .i64) (k.1:Int))],[]⟩) (λk=>l.length-k.1) ⟨0,by simp⟩ (eW []) (λk=>?_)
 obtain⟨k,hk,c⟩:=k;repeat'(first|exact trivial|apply eS rfl|apply AB|refine rX a ?_ ?_|refine rC ?_ ?_<;>intro b<;>try(cases b;done))
 .exact eV
 .have d:k<l.length:=by exact eV
  have h1:AU l n=true:=IG l ByteArray.empty _ d b;exact fI a [.tmp 4] (by rw[h1];exact eR)
 .exact eV
 .have d:k<l.length:=by exact eV
  refine⟨⟨k+1,by exact eV,?_⟩,by simp only;exact eV,AC [] rfl rfl ?_ ?_⟩
  .rw[Mh l ByteArray.empty _ d,c];exact b
  .exact eN
  exact eN
 have hk:l.take k=l:=BY (by exact eV);rw[hk]at c;have h1:AU l n=false:=c;exact fI a [.tmp 4] (by rw[h1];exact eR)
def We (l:List ByteArray) (s:ByteArray):Nat:=(l.takeWhile λx=>CJ x s).length
theorem kP {α:Type} (p:α->Bool) (d:α):∀(l:List α) (k:Nat),k<=(l.takeWhile p).length->((k<l.length/\p (l.getD k d)=true)↔k+1<=(l.takeWhile p).length)
 | [],k,h=>by simp
 | x :: l,k,h=>by
  by_cases a:p x=true
  .rw[List.takeWhile_cons,At a]at h ⊢;cases k with
   | zero=>simp[a]
   | succ k =>
    have:=kP p d l k (by simpa using h);simpa using this
  rw[List.takeWhile_cons,As a]at h ⊢;have hk:k=0:=by simpa using h
  subst hk;simp[a]
theorem A5P {α:Type} (p:α->Bool) (l:List α):(l.takeWhile p).length<=l.length:=(List.takeWhile_sublist p).length_le
def Dj (l:List ByteArray) (s:ByteArray):List ByteArray :=
 if (decide (We l s<l.length)&&AM (l.getD (We l s) ByteArray.empty) s)=true then l else l.take (We l s)++[s]++l.drop (We l s)
def Za:AW:={ ins:=[CL,T9],pre:=λ(l,_,_)=>List.length l<=100000,out:=λ(l,n,_)=>[.p CL (Dj l n)] }
attribute [local go_sem] Za
theorem Qs:AY Tryz.prog 148 Za:=by
 refine fK [0,1,4,5,6,18,32] Tryz.func148 Tryz.ntmps148 AH ?_;rintro w0 O0 ⟨l,n,u⟩ c-m;have m:l.length<=100000:=m;simp only[Za,AK];repeat'(first|exact trivial|apply eS rfl|refine rX c ?_ ?_)
 refine AI (ι:={k:Nat//k<=We l n}) (λk=>⟨[(0,.p CL l),(1,.p T9 n),(5,.raw (.slice none 0 0)),(6,.p (.int .i64) (k.1:Int))],[]⟩) (λk=>l.length-k.1) ⟨0,by simp⟩ (eW []) (λk=>?_)
 obtain⟨k,hk⟩:=k;have d:=A5P (λx=>CJ x n) l;have i:=kP (λx=>CJ x n) ByteArray.empty l k hk;simp only;repeat'(first|exact trivial|apply eS rfl|apply AB|refine rX c ?_ ?_|refine rC ?_ ?_<;>intro a<;>try(cases a;done))
 .exact λh=>h
 .have h1:k<l.length/\CJ (l.getD k ByteArray.empty) n=true:=⟨by exact eV,a.2⟩;exact eV
 .have h1:k<l.length/\CJ (l.getD k ByteArray.empty) n=true:=⟨by exact eV,a.2⟩;exact⟨⟨k+1,i.1 h1⟩,by simp only;omega,eW []⟩
 .exact λh=>h
 .rename_i f;have g:k=We l n:=by
   refine AC4 hk (Nat.le_of_not_lt λh=>?_);have:=i.2 h;rw[f (On.2 this.1)]at this;cases this.2
  have e:Dj l n=l:=by
   unfold Dj;rw[<-g,At];rw[An,IN];exact⟨On.1 a.1,a.2⟩
  exact fI c [.tmp 4] (by rw[e];exact eR)
 .have j:=AAI k l;have b:k<=l.length:=iF hk d;simp only[AO];exact⟨AAc.2 b,by dsimp only[Ty.den]at *;omega⟩
 .have j:=AAI k l;have b:k<=l.length:=iF hk d;simp only[AO];dsimp only[Ty.den]at *;omega
 .have j:=AAI k l;have b:k<=l.length:=iF hk d;have q:(l.drop k).length<=l.length:=by rw[ABc];omega
  simp only[AO];exact⟨AAc.2 b,by dsimp only[Ty.den]at *;omega⟩
 rename_i f;have g:k=We l n:=by
  refine AC4 hk (Nat.le_of_not_lt λh=>?_);have:=i.2 h;rw[f (On.2 this.1)]at this;cases this.2
 have e:Dj l n=l.take k++[n]++l.drop k:=by
  unfold Dj;rw[<-g,As];rw[An,IN];intro h;rw[a (On.2 h.1)]at h;cases h.2
 have b:k<=l.length:=iF hk d;have o:(l.take k).length+1+(l.drop k).length=(l.take k++[n]++l.drop k).length:=by simp only[Do,i5]
 rw[o,<-e];refine CK [38] ?_;exact fI c [.tmp 4]
end
section
def Fq (b:List Int) (i:Int):Int:=if i<b.length then b.getD i.toNat 0 else 0
def dX:AW:={ ins:=[BU,T3],pre:=λ(_,i,_)=>(0:Int)<=i,out:=λ(b,i,_)=>[.p Qq (Fq b i)],lend:=true }
attribute [local go_sem] dX
theorem oW:AY Tryz.prog 166 dX:=by
 refine fK [0,1,4,8] Tryz.func166 Tryz.ntmps166 AH ?_;rintro w0 O0 ⟨b,i,u⟩ c-hi;simp only[dX,AK];repeat'(first|exact trivial|apply eS rfl|refine rX c ?_ ?_|refine rC ?_ ?_<;>intro a<;>try(cases a;done))
 .exact⟨hi,a⟩
 .have h1:Fq b i=b.getD i.toNat 0:=by unfold Fq;rw[At a]
  exact fI c [.tmp 4] (by rw[h1];exact eR)
 have h1:Fq b i=0:=by unfold Fq;rw[As (AAW.2 a)]
 exact fI c [.tmp 4] (by rw[h1];exact eR)
def Cb (b:List Int):Nat->Nat
 | 0=>0
 | n+1=>if b.getD n 0=0 then Cb b n else n+1
def BN (b:List Int):List Int:=b.take (Cb b b.length)
theorem Ux (b:List Int):∀n,Cb b n<=n
 | 0=>OS _
 | n+1=>by
  unfold Cb;split
  .exact Nat.le_succ_of_le (Ux b n)
  exact OS _
def J7:AW:={ ins:=[BU],pre:=λ(b,_)=>List.length b<=100000,out:=λ(b,_)=>[.p BU (BN b)] }
attribute [local go_sem] J7
theorem Mi:AY Tryz.prog 151 J7:=by
 refine fK [0,2,3,15] Tryz.func151 Tryz.ntmps151 AH ?_;rintro w0 O0 ⟨b,u⟩ d-f;have f:b.length<=100000:=f;simp only[J7,AK];repeat'(first|exact trivial|apply eS rfl|refine rX d ?_ ?_)
 refine AI (ι:={n:Nat//n<=b.length/\Cb b n=Cb b b.length}) (λn=>⟨[(0,.p BU b),(3,.p (.int .i64) (n.1:Int))],[]⟩) (λn=>n.1) ⟨b.length,OS _,rfl⟩ (eW []) (λn=>?_)
 obtain⟨n,hn,g⟩:=n;simp only;repeat'(first|apply eS rfl|apply AB|refine rX d ?_ ?_|refine rC ?_ ?_<;>intro c<;>try(cases c;done))
 .constructor
  .exact eV
  intro h;refine⟨?_,?_⟩<;>exact eV
 .exact eV
 .obtain⟨h1,a⟩:=c;obtain⟨m,rfl⟩:∃m,n=m+1:=⟨n-1,by omega⟩;have e:(((m+1:Nat):Int)-1)=(m:Int):=by omega
  rw[e]at a;have a:b.getD m 0=0:=a;have j:Cb b m=Cb b b.length:=by
   rw[<-g];show _=if b.getD m 0=0 then Cb b m else m+1
   rw[At a]
  refine⟨⟨m,by omega,j⟩,by simp,AC [] rfl rfl ?_ ?_⟩
  .exact eN
  simp only[e];exact eN
 .have k:=AAI n b;simp only[AO];exact⟨AAc.2 hn,by dsimp only[Ty.den]at *;omega⟩
 have i:Cb b n=n:=by
  cases n with
  | zero=>rfl
  | succ m =>
   have e:(((m+1:Nat):Int)-1)=(m:Int):=by omega
   rw[e]at c;have a:=c O1;have a:¬b.getD m 0=0:=a;show (if b.getD m 0=0 then Cb b m else m+1)=m+1;rw[As a]
 have h1:BN b=b.take n:=by unfold BN;rw[<-g,i]
 rw[<-h1];refine CK [18] ?_;exact fI d [.tmp 2]
end
section
attribute [local go_sem] dX J7
def A03 (w:Int) (r:Int):Bool:=Cl .and .u64 (bQ .u64 w r) 1==1
def Sh (b:List Int) (i:Int):Bool:=if (decide (i<0)||decide ((b.length:Int)<=i.tdiv 64))=true then false else A03 (b.getD (i.tdiv 64).toNat 0) (i.tmod 64)
def A04:AW:={ ins:=[BU,T3],pre:=λ_=>True,out:=λ(b,i,_)=>[.p .bool (Sh b i)],lend:=true }
theorem A7c {w:Int} (h0:0<=w) (r:Int):0<=bQ .u64 w r/\bQ .u64 w r<=w:=by
 unfold bQ;have a:(0:Int)<2 ^ (min r.toNat IntKind.u64.bits):=Int.pow_pos dg;rw[Int.fdiv_eq_ediv_of_nonneg _ (Int.le_of_lt a)];exact⟨Int.ediv_nonneg h0 (Int.le_of_lt a),Int.ediv_le_self _ h0⟩
theorem A05:AY Tryz.prog 162 A04:=by
 refine fK [0,1,4,13] Tryz.func162 Tryz.ntmps162 AH ?_;rintro w0 O0 ⟨b,i,u⟩ d ⟨⟨m,k⟩,e,-⟩ -;have e:H2 .i64 i:=e;rw[PG]at e;have j:0<=i->Int.tdiv i 64=i / 64/\Int.tmod i 64=i % 64:=λh=>⟨ABe h,ABz h⟩;simp only[A04,AK];repeat'(first|exact trivial|apply eS rfl|refine rX d ?_ ?_|refine rC ?_ ?_<;>intro c<;>try(cases c;done))
 .intro h;have h0:0<=i:=by simpa using h
  obtain⟨a,g⟩:=j h0;rw[a];refine⟨by decide,?_,?_⟩<;>exact eV
 .have h1:Sh b i=false:=by
   unfold Sh;rw[At];rw[oN,IN,IN];exact c
  exact fI d [.tmp 4] (by rw[h1];exact eR)
 .obtain⟨h0,l⟩:=c;obtain⟨a,g⟩:=j h0;rw[a]at l;have f:H2 .u64 (b.getD (i / 64).toNat 0):=k _ (AG b 0 (by exact eV));rw[J0]at f;have hs:=A7c f.1 (i % 64);rw[a,g];refine⟨⟨by decide,by exact eV,by exact eV⟩,⟨by exact eV,by exact eV⟩,⟨by decide,by exact eV,by exact eV⟩,⟨by exact eV,by exact eV⟩,by exact eV,hs.1,ABs hs.2 f.2⟩
 have h1:Sh b i=A03 (b.getD (i.tdiv 64).toNat 0) (i.tmod 64):=by
  unfold Sh;rw[As];rw[oN,IN,IN];rintro (h|h)<;>omega
 exact fI d [.tmp 4] (by rw[h1];unfold A03;exact eR)
end
section
attribute [local go_sem] dX J7
def F8 (op:BinOp) (a b:List Int) (n:Nat):List Int:=(List.range n).map λi=>Cl op .u64 (a.getD i 0) (Fq b (i:Int))
theorem ER (op:BinOp) (a b:List Int) (n:Nat):(F8 op a b n).length=n:=by simp[F8]
theorem Xj (op:BinOp) (a b:List Int) (n:Nat):F8 op a b (n+1)=F8 op a b n++[Cl op .u64 (a.getD n 0) (Fq b (n:Int))]:=by simp[F8,AAA]
def ED (a b:List Int):List Int:=BN (F8 .and a b a.length)
def A06:AW:={ ins:=[BU,BU],pre:=λ(a,_,_)=>List.length a<=100000,out:=λ(a,b,_)=>[.p BU (ED a b)] }
theorem A07:AY Tryz.prog 150 A06:=by
 refine fK [0,1,4,5,6,10] Tryz.func150 Tryz.ntmps150 (AE oW (AE Mi AH)) ?_;rintro w0 O0 ⟨a,b,u⟩ c-ha;have ha:a.length<=100000:=ha;simp only[A06,AK];repeat'(first|exact trivial|apply eS rfl|refine rX c ?_ ?_)
 refine AI (ι:={n:Nat//n<=a.length}) (λn=>⟨[(0,.p BU a),(1,.p BU b),(5,.sr 23 Qq 0 n.1),(6,.p (.int .i64) (n.1:Int))],[(23,.arr 205 Qq (F8 .and a b n.1))]⟩) (λn=>a.length-n.1) ⟨0,DO _⟩ (AC [(23,.nil)] rfl rfl ?_ ?_) (λn=>?_)
 .refine eM ?_;rfl
 .exact eN
 obtain⟨n,hn⟩:=n;have g:=ER .and a b n;have hs:=Xj .and a b n;simp only;repeat'(first|exact trivial|apply eS rfl|apply AB|refine rX c ?_ ?_|refine rC ?_ ?_<;>intro d<;>try(cases d;done))
 .refine⟨d,?_⟩;simp only[AO];dsimp only[Ty.den]at *;omega
 .exact eV
 .have e:n<a.length:=by exact eV
  refine⟨⟨n+1,by omega⟩,by simp only;omega,AC [(23,.nm 23)] rfl rfl ?_ ?_⟩
  .simp only[hs];refine eM ?_;rw[BY (by rw[g];exact OS _)]
  exact eN
 have e:n=a.length:=by exact eV
 subst e;refine CK [23] ?_;have f:(F8 .and a b a.length).take a.length=F8 .and a b a.length:=BY (by rw[ER];exact OS _);repeat'(first|apply eS rfl|refine rX c ?_ ?_)
 .rw[f,ER];exact ha
 rw[f];exact fI c [.tmp 4] (by unfold ED;exact eR)
def Qt (a b:List Int):List Int:=BN (F8 .andNot a b a.length)
def kQ:AW:={ ins:=[BU,BU],pre:=λ(a,_,_)=>List.length a<=100000,out:=λ(a,b,_)=>[.p BU (Qt a b)] }
attribute [local go_sem] kQ
theorem A08:AY Tryz.prog 127 kQ:=by
 refine fK [0,1,4,5,6,10] Tryz.func127 Tryz.ntmps127 (AE oW (AE Mi AH)) ?_;rintro w0 O0 ⟨a,b,u⟩ c-ha;have ha:a.length<=100000:=ha;simp only[kQ,AK];repeat'(first|exact trivial|apply eS rfl|refine rX c ?_ ?_)
 refine AI (ι:={n:Nat//n<=a.length}) (λn=>⟨[(0,.p BU a),(1,.p BU b),(5,.sr 23 Qq 0 n.1),(6,.p (.int .i64) (n.1:Int))],[(23,.arr 205 Qq (F8 .andNot a b n.1))]⟩) (λn=>a.length-n.1) ⟨0,DO _⟩ (AC [(23,.nil)] rfl rfl ?_ ?_) (λn=>?_)
 .refine eM ?_;rfl
 .exact eN
 obtain⟨n,hn⟩:=n;have g:=ER .andNot a b n;have hs:=Xj .andNot a b n;simp only;repeat'(first|exact trivial|apply eS rfl|apply AB|refine rX c ?_ ?_|refine rC ?_ ?_<;>intro d<;>try(cases d;done))
 .refine⟨d,?_⟩;simp only[AO];dsimp only[Ty.den]at *;omega
 .exact eV
 .have e:n<a.length:=by exact eV
  refine⟨⟨n+1,by omega⟩,by simp only;omega,AC [(23,.nm 23)] rfl rfl ?_ ?_⟩
  .simp only[hs];refine eM ?_;rw[BY (by rw[g];exact OS _)]
  exact eN
 have e:n=a.length:=by exact eV
 subst e;refine CK [23] ?_;have f:(F8 .andNot a b a.length).take a.length=F8 .andNot a b a.length:=BY (by rw[ER];exact OS _);repeat'(first|apply eS rfl|refine rX c ?_ ?_)
 .rw[f,ER];exact ha
 rw[f];exact fI c [.tmp 4] (by unfold Qt;exact eR)
def Eb (a b:List Int):Bool:=((Qt a b).length:Int)==0
def PW:AW:={ ins:=[BU,BU],pre:=λ(a,_,_)=>List.length a<=100000,out:=λ(a,b,_)=>[.p .bool (Eb a b)],lend:=true }
attribute [local go_sem] PW
theorem Qu:AY Tryz.prog 79 PW:=by
 refine fK [0,1,4] Tryz.func79 Tryz.ntmps79 (AE A08 AH) ?_;rintro w0 O0 ⟨a,b,u⟩ c-ha;have ha:a.length<=100000:=ha;simp only[PW,AK];repeat'(first|exact trivial|apply eS rfl|refine rX c ?_ ?_)
 .exact ha
 exact fI c [.tmp 4] (by unfold Eb;exact eR)
def DF (a b:List Int):Bool:=Eb a b&&Eb b a
def Zb:AW:={ ins:=[BU,BU],pre:=λ(a,b,_)=>List.length a<=100000/\List.length b<=100000,out:=λ(a,b,_)=>[.p .bool (DF a b)],lend:=true }
theorem tP:AY Tryz.prog 161 Zb:=by
 refine fK [0,1,4] Tryz.func161 Tryz.ntmps161 (AE Qu AH) ?_;rintro w0 O0 ⟨a,b,u⟩ c-⟨ha,d⟩;simp only[Zb,AK];repeat'(first|exact trivial|apply eS rfl|refine rX c ?_ ?_)
 .exact⟨ha,λ_=>d⟩
 exact fI c [.tmp 4] (by unfold DF;exact eR)
end
section
attribute [local go_sem] A04
def Gv (a b:List Int):Bool:=decide (a=b)
def Uy:AW:={ ins:=[BU,BU],pre:=λ_=>True,out:=λ(a,b,_)=>[.p .bool (Gv a b)],lend:=true }
theorem oX:AY Tryz.prog 152 Uy:=by
 refine fK [0,1,4,5,10,14,25] Tryz.func152 Tryz.ntmps152 AH ?_;rintro w0 O0 ⟨a,b,u⟩ d ⟨⟨ha,-⟩,-⟩ -;simp only[AO]at ha;simp only[Uy,AK];repeat'(first|exact trivial|apply eS rfl|refine rX d ?_ ?_|refine rC ?_ ?_<;>intro c<;>try(cases c;done))
 .have h1:Gv a b=false:=by
   unfold Gv;rw[To];rintro rfl;exact c rfl
  exact fI d [.tmp 4] (by rw[h1];exact eR)
 have f:a.length=b.length:=by
  have:(a.length:Int)=(b.length:Int):=by simpa using c
  exact Int.ofNat_inj.1 this
 refine AI (ι:={k:Nat//k<=a.length/\a.take k=b.take k}) (λk=>⟨[(0,.p BU a),(1,.p BU b),(5,.p (.int .i64) (k.1:Int))],[]⟩) (λk=>a.length-k.1) ⟨0,DO _,rfl⟩ (eW []) (λk=>?_)
 obtain⟨k,hk,hf⟩:=k;simp only;repeat'(first|exact trivial|apply eS rfl|apply AB|refine rX d ?_ ?_|refine rC ?_ ?_<;>intro c<;>try(cases c;done))
 .exact⟨c,by rw[<-f];exact c⟩
 .have e:k<a.length:=by exact eV
  have h1:Gv a b=false:=by
   unfold Gv;rw[To];rintro rfl;exact c rfl
  exact fI d [.tmp 4] (by rw[h1];exact eR)
 .exact eV
 .have e:k<a.length:=by exact eV
  have g:a.getD k 0=b.getD k 0:=by simpa using c
  refine⟨⟨k+1,by omega,?_⟩,by simp only;omega,AC [] rfl rfl ?_ ?_⟩
  .rw[Ar a 0 e,Ar b 0 O1,hf];rw[show a.getD k 0=b.getD k 0 from g]
  .exact eN
  exact eN
 have e:k=a.length:=by exact eV
 subst e;rw[tO,f,tO]at hf;have h1:Gv a b=true:=by unfold Gv;rw[hf];simp
 exact fI d [.tmp 4] (by rw[h1];exact eR)
end
section
attribute [local go_sem] A04
def NM (b:List Int) (n:Nat):List Int:=((List.range n).filter λ(i:Nat)=>Sh b (i:Int)).map λ(i:Nat)=>(i:Int)
def Hc (b:List Int):List Int:=NM b (64*b.length)
theorem kR (b:List Int) (n:Nat):NM b (n+1)=NM b n++if Sh b (n:Int)=true then [(n:Int)] else []:=by
 unfold NM;rw[AAA,ABS,AAN]
 congr 1
 rw[AAH,AC5];split<;>rfl
theorem tQ (b:List Int) (n:Nat):(NM b n).length<=n:=by
 unfold NM;rw[aS];exact iF (ABl _ _) sc
def A09:AW:={ ins:=[BU],pre:=λ(b,_)=>List.length b<=100000,out:=λ(b,_)=>[.p Bz (Hc b)] }
attribute [local go_sem] A09
theorem A3I:AY Tryz.prog 185 A09:=by
 refine fK [0,2,3,4,9,14] Tryz.func185 Tryz.ntmps185 (AE A05 AH) ?_;rintro w0 O0 ⟨b,u⟩ c-e;have e:b.length<=100000:=e;simp only[A09,AK];repeat'(first|exact trivial|apply eS rfl|refine rX c ?_ ?_)
 refine AI (ι:={n:Nat//n<=64*b.length}) (λn=>⟨[(0,.p BU b),(3,.sr 18 T3 0 (NM b n.1).length),(4,.p (.int .i64) (n.1:Int))],[(18,.arr 3 T3 (NM b n.1))]⟩) (λn=>64*b.length-n.1) ⟨0,DO _⟩ (AC [(18,.nil)] rfl rfl ?_ ?_) (λn=>?_)
 .refine eM ?_;rfl
 .refine eM ?_;rfl
 obtain⟨n,hn⟩:=n;have f:=tQ b n;have hs:=kR b n;simp only;repeat'(first|exact trivial|apply eS rfl|apply AB|refine rX c ?_ ?_|refine rC ?_ ?_<;>intro a<;>try(cases a;done))
 .exact eV
 .rw[a,At rfl]at hs;simp only[AO];dsimp only[Ty.den]at *;omega
 .exact eV
 .have d:n<64*b.length:=by exact eV
  rw[a,At rfl]at hs;refine⟨⟨n+1,by omega⟩,by simp only;omega,AC [(18,.nm 18)] rfl rfl ?_ ?_⟩
  .simp only[hs];exact eN
  simp only[hs];exact eN
 .exact eV
 .have d:n<64*b.length:=by exact eV
  rw[a,As sc,AAv]at hs;refine⟨⟨n+1,by omega⟩,by simp only;omega,AC [(18,.nm 18)] rfl rfl ?_ ?_⟩
  .simp only[hs];exact eN
  simp only[hs];exact eN
 have d:n=64*b.length:=by exact eV
 subst d;refine CK [18] ?_;exact fI c [.tmp 2] (by unfold Hc;exact eR)
def kS:AW:={ ins:=[BU],pre:=λ(b,_)=>List.length b<=100000,out:=λ(b,_)=>[.p T3 ((Hc b).length:Int)],lend:=true }
theorem A0a:AY Tryz.prog 164 kS:=by
 refine fK [0,2] Tryz.func164 Tryz.ntmps164 (AE A3I AH) ?_;rintro w0 O0 ⟨b,u⟩ a-c;simp only[kS,AK];repeat'(first|exact trivial|apply eS rfl|refine rX a ?_ ?_)
 .exact c
 exact fI a [.tmp 2]
end
section
attribute [local go_sem] Ip Xi
abbrev AJ:=ByteArray×List ByteArray×List (ByteArray×ByteArray)
abbrev d0:AJ:=(ByteArray.empty,[],[])
def Cs (s:ByteArray):Nat->List AJ->Int
 | _,[]=>-1
 | k,x :: l=>if AM x.1 s=true then (k:Int) else Cs s (k+1) l
def Ao (l:List AJ) (s:ByteArray):Int:=Cs s 0 l
theorem R9 (s:ByteArray) (l:List AJ) (h:k<l.length):Cs s k (l.drop k)=if AM (l.getD k d0).1 s=true then (k:Int) else Cs s (k+1) (l.drop (k+1)):=by
 rw[ON h];have e:l.getD k d0=l[k]:=by simp[AS,h]
 rw[e];rfl
def N6:AW:={ ins:=[Et,T9],pre:=λ_=>True,out:=λ(l,s,_)=>[.p T3 (Ao l s)] }
attribute [local go_sem] N6
theorem Lg:AY Tryz.prog 181 N6:=by
 refine fK [0,1,4,5,9,18] Tryz.func181 Tryz.ntmps181 AH ?_;rintro w0 O0 ⟨l,s,u⟩ c ⟨⟨d,-⟩,-⟩ -;simp only[AO]at d;simp only[N6,AK];repeat'(first|exact trivial|apply eS rfl|refine rX c ?_ ?_)
 refine AI (ι:={k:Nat//k<=l.length/\Cs s k (l.drop k)=Ao l s}) (λk=>⟨[(0,.p Et l),(1,.p T9 s),(5,.p (.int .i64) (k.1:Int))],[]⟩) (λk=>l.length-k.1) ⟨0,DO _,rfl⟩ (eW []) (λk=>?_)
 obtain⟨k,hk,hf⟩:=k;simp only;repeat'(first|exact trivial|apply eS rfl|apply AB|refine rX c ?_ ?_|refine rC ?_ ?_<;>intro b<;>try(cases b;done))
 .exact b
 .have a:k<l.length:=by exact eV
  rw[R9 s l a,At b]at hf;exact fI c [.tmp 4] (by rw[<-hf];exact eR)
 .exact eV
 .have a:k<l.length:=by exact eV
  rw[R9 s l a,As (by rw[b];simp)]at hf;exact⟨⟨k+1,by omega,hf⟩,by simp only;omega,eW []⟩
 have a:l.drop k=[]:=If (by exact eV);rw[a]at hf;exact fI c [.tmp 4] (by rw[<-hf];first|exact eR|refine Je ?_;rfl)
def Lh:List AJ->Int
 | []=>0
 | x :: l=>if 256<x.2.1.length\/256<x.2.2.length then 7 else Lh l
def Ei (l:List AJ):Int:=if 256<l.length then 7 else Lh l
theorem SA (l:List AJ) (h:k<l.length):Lh (l.drop k)=if 256<(l.getD k d0).2.1.length\/256<(l.getD k d0).2.2.length then 7 else Lh (l.drop (k+1)):=by
 rw[ON h];have e:l.getD k d0=l[k]:=by simp[AS,h]
 rw[e];rfl
def Zc:AW:={ ins:=[Et],pre:=λ_=>True,out:=λ(l,_)=>[.p C0 (Ei l)] }
attribute [local go_sem] Zc
theorem A0b:AY Tryz.prog 153 Zc:=by
 refine fK [0,2,3,6,10,28] Tryz.func153 Tryz.ntmps153 AH ?_;rintro w0 O0 ⟨l,u⟩ b ⟨⟨d,-⟩,-⟩ -;simp only[AO]at d;simp only[Zc,AK];repeat'(first|exact trivial|apply eS rfl|refine rX b ?_ ?_|refine rC ?_ ?_<;>intro a<;>try(cases a;done))
 .have h1:Ei l=7:=by unfold Ei;rw[At (by exact eV)]
  exact fI b [.tmp 2] (by rw[h1];exact eR)
 have h1:Ei l=Lh l:=by unfold Ei;rw[As (by exact eV)]
 refine AI (ι:={k:Nat//k<=l.length/\Lh (l.drop k)=Ei l}) (λk=>⟨[(0,.p Et l),(3,.p (.int .i64) (k.1:Int))],[]⟩) (λk=>l.length-k.1) ⟨0,DO _,h1.symm⟩ (eW []) (λk=>?_)
 obtain⟨k,hk,hf⟩:=k;simp only;repeat'(first|exact trivial|apply eS rfl|apply AB|refine rX b ?_ ?_|refine rC ?_ ?_<;>intro a<;>try(cases a;done))
 .exact⟨a,λ_=>a⟩
 .have c:k<l.length:=by exact eV
  rw[SA l c,At (by
   rcases a with h|h
   .exact .inl (On.1 h)
   exact .inr (On.1 h))]at hf
  exact fI b [.tmp 2] (by rw[<-hf];exact eR)
 .exact eV
 .have c:k<l.length:=by exact eV
  rw[SA l c,As (by
   rintro (h|h)
   .have:=AAc.1 a.1;exact absurd h (Nat.not_lt.2 this)
   have:=AAc.1 a.2;exact absurd h (Nat.not_lt.2 this))]at hf
  exact⟨⟨k+1,by omega,hf⟩,by simp only;omega,eW []⟩
 have c:l.drop k=[]:=If (by exact eV);rw[c]at hf;exact fI b [.tmp 2] (by rw[<-hf];first|exact eR|refine Je ?_;rfl)
theorem JE {α:Type} (l:List α) (d:α) (p:α->Bool) (h:k<l.length):(l.take (k+1)).all p=((l.take k).all p&&p (l.getD k d)):=by
 rw[Ar l d h,AC6];simp
def Iq (x:AJ) (done:List ByteArray):Bool:=x.2.1.all λs=>AU done s
def Zd:AW:={ ins:=[yV,CL],pre:=λ_=>True,out:=λ(x,l,_)=>[.p .bool (Iq x l)],lend:=true }
attribute [local go_sem] Zd
theorem A0c:AY Tryz.prog 182 Zd:=by
 refine fK [0,1,2,4,5,10,20] Tryz.func182 Tryz.ntmps182 (AE GZ AH) ?_;rintro w0 O0 ⟨⟨nm,sup,d⟩,l,u⟩ c ⟨⟨-,⟨e,-⟩,-⟩,-⟩ -;simp only[AO]at e;simp only[Zd,AK];repeat'(first|exact trivial|apply eS rfl|refine rX c ?_ ?_)
 refine AI (ι:={k:Nat//k<=sup.length/\(sup.take k).all (λs=>AU l s)=true}) (λk=>⟨[(1,.p CL l),(2,.bp 2 [] 0),(5,.p (.int .i64) (k.1:Int))],[(2,.box 65 true [.p T9 nm,.p CL sup,.p T63 d])]⟩) (λk=>sup.length-k.1) ⟨0,by simp⟩ (eW [(2,.nm 2)]) (λk=>?_)
 obtain⟨k,hk,hf⟩:=k;simp only;repeat'(first|exact trivial|apply eS rfl|apply AB|refine rX c ?_ ?_|refine rC ?_ ?_<;>intro b<;>try(cases b;done))
 .exact b
 .have a:k<sup.length:=by exact eV
  have h1:Iq (nm,sup,d) l=false:=by
   unfold Iq;refine ABM.2 λh=>?_;have:=OF.1 h _ (AG sup ByteArray.empty a);rw[b]at this;cases this
  exact fI c [.tmp 4] (by rw[h1];exact eR)
 .have:=e;exact eV
 .have a:k<sup.length:=by exact eV
  refine⟨⟨k+1,by omega,?_⟩,by simp only;omega,AC [(2,.nm 2)] rfl rfl ?_ ?_⟩
  .rw[JE sup ByteArray.empty _ a,hf];exact b
  .exact eN
  exact eN
 have a:sup.take k=sup:=BY (by exact eV);rw[a]at hf;have h1:Iq (nm,sup,d) l=true:=hf;exact fI c [.tmp 4] (by rw[h1];exact eR)
def N7 (d:List AJ):Nat->List AJ->Int
 | _,[]=>0
 | k,x :: l=>if BM x.1 false=false then 1 else if Ao d x.1<(k:Int) then 4 else N7 d (k+1) l
def Cg (d:List AJ):Int:=N7 d 0 d
theorem Li (d l:List AJ) (h:k<l.length):N7 d k (l.drop k)=if BM (l.getD k d0).1 false=false then 1 else if Ao d (l.getD k d0).1<(k:Int) then 4 else N7 d (k+1) (l.drop (k+1)):=by
 rw[ON h];have e:l.getD k d0=l[k]:=by simp[AS,h]
 rw[e];rfl
def Ze:AW:={ ins:=[Et],pre:=λ_=>True,out:=λ(l,_)=>[.p C0 (Cg l)] }
attribute [local go_sem] Ze
theorem A0d:AY Tryz.prog 154 Ze:=by
 refine fK [0,2,3,7,16,25] Tryz.func154 Tryz.ntmps154 (AE oV (AE Lg AH)) ?_;rintro w0 O0 ⟨l,u⟩ c ⟨⟨e,-⟩,-⟩ -;simp only[AO]at e;simp only[Ze,AK];repeat'(first|exact trivial|apply eS rfl|refine rX c ?_ ?_)
 refine AI (ι:={k:Nat//k<=l.length/\N7 l k (l.drop k)=Cg l}) (λk=>⟨[(0,.p Et l),(3,.p (.int .i64) (k.1:Int))],[]⟩) (λk=>l.length-k.1) ⟨0,DO _,rfl⟩ (eW []) (λk=>?_)
 obtain⟨k,hk,hf⟩:=k;simp only;repeat'(first|exact trivial|apply eS rfl|apply AB|refine rX c ?_ ?_|refine rC ?_ ?_<;>intro b<;>try(cases b;done))
 .exact b
 .have a:k<l.length:=by exact eV
  rw[Li l l a,At b]at hf;exact fI c [.tmp 2] (by rw[<-hf];exact eR)
 .assumption
 .rename_i d;have a:k<l.length:=by exact eV
  rw[Li l l a,As (by rw[d];simp),At b]at hf;exact fI c [.tmp 2] (by rw[<-hf];exact eR)
 .exact eV
 .rename_i d;have a:k<l.length:=by exact eV
  rw[Li l l a,As (by rw[d];simp),As (AAW.2 b)]at hf;exact⟨⟨k+1,by omega,hf⟩,by simp only;omega,eW []⟩
 have a:l.drop k=[]:=If (by exact eV);rw[a]at hf;exact fI c [.tmp 2] (by rw[<-hf];first|exact eR|refine Je ?_;rfl)
def Si (d:List AJ) (l:List ByteArray):Nat->List ByteArray->Int
 | _,[]=>0
 | k,x :: r=>if Ao d x<0 then 5 else if AU (l.take k) x=true then 4 else Si d l (k+1) r
def J8 (d:List AJ):List AJ->Int
 | []=>0
 | x :: l=>if Si d x.2.1 0 x.2.1≠0 then Si d x.2.1 0 x.2.1 else J8 d l
def J9 (d:List AJ):Int:=J8 d d
theorem Qv (d:List AJ) (l:List ByteArray) (h:k<l.length):Si d l k (l.drop k)=if Ao d (l.getD k ByteArray.empty)<0 then 5 else if AU (l.take k) (l.getD k ByteArray.empty)=true then 4 else Si d l (k+1) (l.drop (k+1)):=by
 rw[ON h];have e:l.getD k ByteArray.empty=l[k]:=by simp[AS,h]
 rw[e];rfl
theorem Zf (d l:List AJ) (h:k<l.length):J8 d (l.drop k)=if Si d (l.getD k d0).2.1 0 (l.getD k d0).2.1≠0 then Si d (l.getD k d0).2.1 0 (l.getD k d0).2.1 else J8 d (l.drop (k+1)):=by
 rw[ON h];have e:l.getD k d0=l[k]:=by simp[AS,h]
 rw[e];rfl
def TF:AW:={ ins:=[Et],pre:=λ_=>True,out:=λ(l,_)=>[.p C0 (J9 l)] }
attribute [local go_sem] TF
theorem tR:AY Tryz.prog 155 TF:=by
 refine fK [0,2,3,4,5,9,20,29,37] Tryz.func155 Tryz.ntmps155 (AE GZ (AE Lg AH)) ?_;rintro w0 O0 ⟨l,u⟩ d ⟨⟨h,g⟩,-⟩ -;simp only[AO]at h;simp only[TF,AK];repeat'(first|exact trivial|apply eS rfl|refine rX d ?_ ?_)
 refine AI (ι:={i:Nat//i<=l.length/\J8 l (l.drop i)=J9 l}) (λi=>⟨[(0,.p Et l),(3,.p (.int .i64) (i.1:Int))],[]⟩) (λi=>l.length-i.1) ⟨0,DO _,rfl⟩ (eW []) (λi=>?_)
 obtain⟨i,hi,hf⟩:=i;simp only;repeat'(first|exact trivial|apply eS rfl|refine rX d ?_ ?_|refine rC ?_ ?_<;>intro b<;>try(cases b;done))
 .exact b
 .have f:i<l.length:=by exact eV
  have j:=g _ (AG l d0 f);have m:(l.getD i d0).2.1.length<=AO:=j.2.1.1;simp only[AO]at m;rw[Zf l l f]at hf;generalize (l.getD i d0).2.1=sup at *;refine AI (ι:={k:Nat//k<=sup.length/\Si l sup k (sup.drop k)=Si l sup 0 sup}) (λk=>⟨[(0,.p Et l),(3,.p (.int .i64) (i:Int)),(4,.p CL sup),(5,.p (.int .i64) (k.1:Int))],[]⟩) (λk=>sup.length-k.1) ⟨0,DO _,rfl⟩ (eW []) (λk=>?_)
  obtain⟨k,hk,c⟩:=k;simp only;repeat'(first|exact trivial|apply eS rfl|apply AB|refine rX d ?_ ?_|refine rC ?_ ?_<;>intro b<;>try(cases b;done))
  .exact b
  .have a:k<sup.length:=by exact eV
   rw[Qv l sup a,At b]at c;rw[<-c,At dg]at hf;exact fI d [.tmp 2] (by rw[<-hf];exact eR)
  .exact eV
  .rename_i e;have a:k<sup.length:=by exact eV
   rw[Qv l sup a,As (AAW.2 e),At b]at c;rw[<-c,At dg]at hf;exact fI d [.tmp 2] (by rw[<-hf];exact eR)
  .exact eV
  .rename_i e;have a:k<sup.length:=by exact eV
   rw[Qv l sup a,As (AAW.2 e),As (by rw[b];simp)]at c;exact⟨⟨k+1,by omega,c⟩,by simp only;omega,eW []⟩
  .exact eV
  have a:sup.drop k=[]:=If (by exact eV);rw[a]at c;rw[<-c,As (by simp[Si])]at hf;exact⟨⟨i+1,by omega,hf⟩,by simp only;omega,eW []⟩
 have a:l.drop i=[]:=If (by exact eV);rw[a]at hf;exact fI d [.tmp 2] (by rw[<-hf];first|exact eR|refine Je ?_;rfl)
end
section
attribute [local go_sem] N6 Zd Ip Za
theorem Ec {α:Type} (g:X->α->X) (l:List α) (d:α) (t:X) {i:Nat} (hi:i<l.length):(l.take (i+1)).foldl g t=g ((l.take i).foldl g t) (l.getD i d):=by
 rw[Ar l d hi,ABt];rfl
theorem Lj (l:List ByteArray) (s:ByteArray):(Dj l s).length<=l.length+1:=by
 unfold Dj;split
 .omega
 have:=A5P (λx=>CJ x s) l;have a:We l s<=l.length:=this;simp only[Do,Of,ABc,i5];omega
def AN (l:List AJ):List ByteArray:=l.foldl (λo x=>Dj o x.1) []
theorem Dk (l:List AJ) (k:Nat):(AN (l.take k)).length<=k:=by
 have key:∀(l:List AJ) (o:List ByteArray),(l.foldl (λo x=>Dj o x.1) o).length<=o.length+l.length:=by
  intro l;induction l with
  | nil=>intro o;simp
  | cons x l b =>
   intro o;have h1:=b (Dj o x.1);have a:=Lj o x.1;simp only[OR,Is];omega
 have h1:=key (l.take k) [];have a:=AAI k l;unfold AN;simp only[AAs]at h1;omega
def PX:AW:={ ins:=[Et],pre:=λ(l,_)=>List.length l<=100000,out:=λ(l,_)=>[.p CL (AN l)] }
attribute [local go_sem] PX
theorem Xk:AY Tryz.prog 112 PX:=by
 refine fK [0,2,3,4,8] Tryz.func112 Tryz.ntmps112 (AE Qs AH) ?_;rintro w0 O0 ⟨l,u⟩ a-d;have d:l.length<=100000:=d;simp only[PX,AK];repeat'(first|exact trivial|apply eS rfl|refine rX a ?_ ?_)
 refine AI (ι:={k:Nat//k<=l.length}) (λk=>⟨[(0,.p Et l),(3,.p CL (AN (l.take k.1))),(4,.p (.int .i64) (k.1:Int))],[]⟩) (λk=>l.length-k.1) ⟨0,DO _⟩ (AC [] rfl rfl ?_ ?_) (λk=>?_)
 .exact eN
 .refine eM ?_;rfl
 obtain⟨k,hk⟩:=k;have hn:=Dk l k;have hs:=λh:k<l.length=>Ec (λ(o:List ByteArray) (x:AJ)=>Dj o x.1) l d0 [] h;simp only;repeat'(first|exact trivial|apply eS rfl|apply AB|refine rX a ?_ ?_|refine rC ?_ ?_<;>intro c<;>try(cases c;done))
 .exact⟨c,by omega⟩
 .exact eV
 .have b:k<l.length:=by exact eV
  have e:=hs b;refine⟨⟨k+1,by omega⟩,by simp only;omega,AC [] rfl rfl ?_ ?_⟩
  .exact eN
  simp only;have e:AN (l.take (k+1))=Dj (AN (l.take k)) (l.getD k d0).1:=e;rw[e];exact eN
 have b:l.take k=l:=BY (by exact eV);rw[b];exact fI a [.tmp 2]
def IH (out:List ByteArray) (s:Bool×ByteArray) (x:AJ):Bool×ByteArray :=
 if (AU out x.1||!Iq x out)=true then s else (true,if (!s.1||CJ x.1 s.2)=true then x.1 else s.2)
def He (d:List AJ) (out:List ByteArray):Bool×ByteArray:=d.foldl (IH out) (false,ByteArray.empty)
def II (d:List AJ):Nat->List ByteArray->List ByteArray
 | 0,out=>out
 | n+1,out=>if (He d out).1=true then II d n (out++[(He d out).2]) else out
def Bh (d:List AJ):List ByteArray:=II d d.length []
def Hf (d:List AJ) (out:List ByteArray):Nat:=d.countP λx=>!AU out x.1
theorem Ct (s:ByteArray):AM s s=true:=by unfold AM;simp
theorem N8 (out:List ByteArray) (s x:ByteArray):AU (out++[s]) x=(AU out x||AM s x):=by
 unfold AU;simp[ABU]
theorem tS (d:List AJ) (out:List ByteArray) (h:(He d out).1=true):∃x∈d,x.1=(He d out).2/\AU out x.1=false:=by
 have key:∀(l:List AJ) (s:Bool×ByteArray),(∀x∈l,x∈d)->(s.1=true->∃x∈d,x.1=s.2/\AU out x.1=false)->(l.foldl (IH out) s).1=true ->
   ∃x∈d,x.1=(l.foldl (IH out) s).2/\AU out x.1=false:=by
  intro l;induction l with
  | nil=>intro s _ hs h;exact hs h
  | cons y l i =>
   intro s e hs h;rw[OR]at h ⊢;refine i _ (λx f=>e x (by simp[f])) (λb=>?_) h;unfold IH at b ⊢;split
   .rename_i a;rw[At a]at b;exact hs b
   rename_i a;simp only;have g:AU out y.1=false:=by
    cases hh:AU out y.1 with
    | false=>rfl
    | true=>rw[hh]at a;simp at a
   split
   .exact⟨y,e y sc,rfl,g⟩
   rename_i c;have:s.1=true:=by
    cases hh:s.1 with
    | true=>rfl
    | false=>rw[hh]at c;simp at c
   exact hs this
 exact key d _ (λ_ h=>h) (λh=>by cases h) h
theorem dY {d:List AJ} {out:List ByteArray} (h:(He d out).1=true):Hf d (out++[(He d out).2])<Hf d out:=by
 obtain⟨x,e,h1,c⟩:=tS d out h;generalize (He d out).2=s at *;unfold Hf;have key:∀l:List AJ,(l.countP λy=>!AU (out++[s]) y.1)<=l.countP λy=>!AU out y.1:=by
  intro l;refine List.countP_mono_left λy _ a=>?_;rw[N8]at a;cases hh:AU out y.1 with
  | false=>rfl
  | true=>rw[hh]at a;simp at a
 obtain⟨f,g,rfl⟩:=List.append_of_mem e;rw[ACD,ACD,ABB,ABB];have i:=key f;have j:=key g;have b:AU (out++[s]) x.1=true:=by rw[N8,h1,Ct,Bool.or_true]
 rw[b,c];simp only[Bool.not_true,ACi,AAQ];simp only[AB4,AB9];omega
def Zg:AW:={ ins:=[Et],pre:=λ(l,_)=>List.length l<=100000,out:=λ(l,_)=>[.p CL (Bh l)] }
theorem tT:AY Tryz.prog 156 Zg:=by
 refine fK [0,2,3,4,5,6,7,11,29,40,46] Tryz.func156 Tryz.ntmps156 (AE GZ (AE A0c AH)) ?_;rintro w0 O0 ⟨d,u⟩ j-r;have r:d.length<=100000:=r;simp only[Zg,AK];repeat'(first|exact trivial|apply eS rfl|refine rX j ?_ ?_)
 refine AI (ι:={x:Nat×List ByteArray×Bool//x.1+x.2.1.length<=d.length/\(x.2.2=true->Hf d x.2.1<=x.1/\II d x.1 x.2.1=Bh d)/\(x.2.2=false->x.2.1=Bh d)}) (λx=>⟨[(0,.p Et d),(3,.sr 50 T9 0 x.1.2.1.length),(4,.p .bool x.1.2.2)],[(50,.arr 9 T9 x.1.2.1)]⟩) (λx=>(if x.1.2.2=true then x.1.1+1 else 0)) ⟨(d.length,[],true),by simp,λ_=>⟨List.countP_le_length,rfl⟩,λh=>by cases h⟩ (eW [(50,.nil)]) (λx=>?_)
 obtain⟨⟨n,out,D⟩,s,t,v⟩:=x;simp only at s t v;simp only;repeat'(first|exact trivial|apply eS rfl|refine rX j ?_ ?_|refine rC ?_ ?_<;>intro a<;>try(cases a;done))
 .subst a;obtain⟨hu,w⟩:=t rfl;have C:({ data:=#[] }:ByteArray).size<=AO:=by decide
  rw[At C];refine AI (ι:={y:Nat×Bool×ByteArray//y.1<=d.length/\(d.take y.1).foldl (IH out) (false,ByteArray.empty)=y.2}) (λy=>⟨[(0,.p Et d),(3,.sr 50 T9 0 out.length),(4,.p .bool y.1.2.1),(5,.p T9 y.1.2.2),(6,.p (.int .i64) (y.1.1:Int))],[(50,.arr 9 T9 out)]⟩) (λy=>d.length-y.1.1) ⟨(0,false,ByteArray.empty),by simp,rfl⟩ (AC [(50,.nm 50)] rfl rfl ?_ ?_) (λy=>?_)
  .exact eN
  .refine eM ?_;rfl
  obtain⟨⟨k,z,b⟩,hk,c⟩:=y;simp only at hk c;have q:∀h:k<d.length,(d.take (k+1)).foldl (IH out) (false,ByteArray.empty)=IH out (z,b) (d.getD k d0):=λh=>by
   rw[Ec (IH out) d d0 _ h,c]
  simp only;repeat'(first|exact trivial|apply eS rfl|apply AB|refine rX j ?_ ?_|refine rC ?_ ?_<;>intro a<;>try(cases a;done))
  .exact⟨a,λ_=>a⟩
  .exact eV
  .have g:k<d.length:=by exact eV
   refine⟨⟨(k+1,z,b),by simp only;omega,?_⟩,by simp only;omega,AC [(50,.nm 50)] rfl rfl ?_ ?_⟩
   .simp only;rw[q g];unfold IH;rw[At];rw[oN,TO];exact a
   .exact eN
   exact eN
  .exact λ_=>by assumption
  .assumption
  .exact eV
  .rename_i f;have g:k<d.length:=by exact eV
   refine⟨⟨(k+1,true,(d.getD k d0).1),by simp only;omega,?_⟩,by simp only;omega,AC [(50,.nm 50)] rfl rfl ?_ ?_⟩
   .simp only;rw[q g];unfold IH;rw[As (by rw[f.1,f.2];simp),At (by rw[oN,TO];exact a)]
   .exact eN
   exact eN
  .exact eV
  .rename_i f;have g:k<d.length:=by exact eV
   refine⟨⟨(k+1,true,b),by simp only;omega,?_⟩,by simp only;omega,AC [(50,.nm 50)] rfl rfl ?_ ?_⟩
   .simp only;rw[q g];unfold IH;rw[As (by rw[f.1,f.2];simp),As (by rw[oN,TO];rintro (h|h)<;>simp_all)]
   .exact eN
   exact eN
  .simp only[AO];dsimp only[Ty.den]at *;omega
  .subst a;have l:d.take k=d:=BY (by exact eV);rw[l]at c;have i:He d out=(true,b):=c;have m:=dY (d:=d) (out:=out) (by rw[i]);rw[i]at m;obtain⟨e,rfl⟩:∃e,n=e+1:=⟨n-1,by omega⟩;have o:II d e (out++[b])=Bh d:=by
    rw[<-w];show _=if (He d out).1=true then II d e (out++[(He d out).2]) else out
    rw[i,At rfl]
   have m:Hf d (out++[b])<Hf d out:=m;have B:Hf d (out++[b])<=e:=by omega
   exact⟨⟨(e,out++[b],true),by simp only[Do,i5];omega,λ_=>⟨B,o⟩,λh=>by cases h⟩,by simp,eW [(50,.nm 50)]⟩
  subst a;have l:d.take k=d:=BY (by exact eV);rw[l]at c;have i:He d out=(false,b):=c;have o:out=Bh d:=by
   rw[<-w];cases n with
   | zero=>rfl
   | succ n =>
    show _=if (He d out).1=true then II d n (out++[(He d out).2]) else out
    rw[i,As sc]
  exact⟨⟨(n,out,false),s,(λh=>by cases h),λ_=>o⟩,by simp,eW [(50,.nm 50)]⟩
 subst a;have A:=v rfl;rw[A];refine CK [50] ?_;exact fI j [.tmp 2]
end
section
attribute [local go_sem] Zc Ze TF Zg
def Hg (d:List AJ):Nat:=d.countP λx=>x.2.1.length==0
theorem dZ (d:List AJ) (h:k<d.length):Hg (d.take (k+1))=Hg (d.take k)+if ((d.getD k d0).2.1.length==0)=true then 1 else 0:=by
 unfold Hg;rw[Ar d d0 h,ACD,ABB,List.countP_nil];omega
theorem tU (d:List AJ):Hg d<=d.length:=List.countP_le_length
def A6 (d:List AJ):Int :=
 if Ei d≠0 then Ei d else if Cg d≠0 then Cg d else if J9 d≠0 then J9 d else if Hg d≠1 then 1 else if (Bh d).length<d.length then 6 else 0
theorem SB {d:List AJ} (h:Ei d=0):d.length<=256:=by
 unfold Ei at h;split at h
 .cases h
 omega
def TG:AW:={ ins:=[Et],pre:=λ_=>True,out:=λ(l,_)=>[.p C0 (A6 l)] }
attribute [local go_sem] TG
theorem tV:AY Tryz.prog 111 TG:=by
 refine fK [0,2,3,4,5,6,7,11,16,21,26,35,39,45] Tryz.func111 Tryz.ntmps111 (AE A0b (AE A0d (AE tR (AE tT AH)))) ?_;rintro w0 O0 ⟨d,u⟩ c - -;simp only[TG,AK];repeat'(first|exact trivial|apply eS rfl|refine rX c ?_ ?_|refine rC ?_ ?_<;>intro a<;>try(cases a;done))
 .have h1:A6 d=Ei d:=by unfold A6;rw[At a]
  exact fI c [.tmp 2] (by rw[h1];exact eR)
 .rename_i hs;have hs:Ei d=0:=by simpa using hs
  have h1:A6 d=Cg d:=by unfold A6;rw[As (by rw[hs];simp),At a]
  exact fI c [.tmp 2] (by rw[h1];exact eR)
 .rename_i hs hn;have hs:Ei d=0:=by simpa using hs
  have hn:Cg d=0:=by simpa using hn
  have h1:A6 d=J9 d:=by unfold A6;rw[As (by rw[hs];simp),As (by rw[hn];simp),At a]
  exact fI c [.tmp 2] (by rw[h1];exact eR)
 rename_i hs hn;have hs:Ei d=0:=by simpa using hs
 have hn:Cg d=0:=by simpa using hn
 have hu:J9 d=0:=by simpa using a
 have i:=SB hs;have h1:A6 d=if Hg d≠1 then 1 else if (Bh d).length<d.length then 6 else 0:=by
  unfold A6;rw[As (by rw[hs];simp),As (by rw[hn];simp),As (by rw[hu];simp)]
 refine AI (ι:={k:Nat//k<=d.length}) (λk=>⟨[(0,.p Et d),(6,.p (.int .i64) (Hg (d.take k.1):Int)),(7,.p (.int .i64) (k.1:Int))],[]⟩) (λk=>d.length-k.1) ⟨0,DO _⟩ (AC [] rfl rfl ?_ ?_) (λk=>?_)
 .exact eN
 .refine eM ?_;rfl
 obtain⟨k,hk⟩:=k;have j:=tU (d.take k);have l:=AAI k d;have g:=λh:k<d.length=>dZ d h;simp only;repeat'(first|exact trivial|apply eS rfl|apply AB|refine rX c ?_ ?_|refine rC ?_ ?_<;>intro a<;>try(cases a;done))
 .exact a
 .exact eV
 .exact eV
 .have b:k<d.length:=by exact eV
  have e:=g b;rw[At (by rw[AAb];exact Int.ofNat_eq_zero.1 a)]at e;refine⟨⟨k+1,by omega⟩,by simp only;omega,AC [] rfl rfl ?_ ?_⟩
  .exact eN
  simp only[e];exact eN
 .exact eV
 .have b:k<d.length:=by exact eV
  have e:=g b;rw[As (by rw[AAb];exact λh=>a (Int.ofNat_eq_zero.2 h))]at e;refine⟨⟨k+1,by omega⟩,by simp only;omega,AC [] rfl rfl ?_ ?_⟩
  .exact eN
  simp only[e];exact eN
 .have b:d.take k=d:=BY (by exact eV);rw[b]at a;rw[At (λh=>a (by rw[h];rfl))]at h1;exact fI c [.tmp 2] (by rw[h1];exact eR)
 .show d.length<=100000;omega
 .rename_i f;have b:d.take k=d:=BY (by exact eV);rw[b]at f;have f:(Hg d:Int)=1:=by simpa using f
  rw[As O1,At (On.1 a)]at h1;exact fI c [.tmp 2] (by rw[h1];exact eR)
 rename_i f;have b:d.take k=d:=BY (by exact eV);rw[b]at f;have f:(Hg d:Int)=1:=by simpa using f
 rw[As O1,As (λh=>absurd (AAc.1 a) (Nat.not_le.2 h))]at h1;exact fI c [.tmp 2] (by rw[h1];exact eR)
end
section
attribute [local go_sem] N6 Ip Za
def JF (o:List ByteArray) (s:ByteArray):List ByteArray:=if AU o s=true then o else o++[s]
def Lk (d:List AJ) (s:ByteArray):List ByteArray:=(d.getD (Ao d s).toNat d0).2.1
def Hh (d:List AJ):Nat->Nat->List ByteArray->List ByteArray
 | 0,_,o=>o
 | n+1,i,o=>if i<o.length then Hh d n (i+1) ((Lk d (o.getD i ByteArray.empty)).foldl JF o) else o
def JG (l:List ByteArray):List ByteArray:=l.foldl Dj []
theorem Xl (l:List ByteArray):(JG l).length<=l.length:=by
 have key:∀(l o:List ByteArray),(l.foldl Dj o).length<=o.length+l.length:=by
  intro l;induction l with
  | nil=>intro o;simp
  | cons x l a =>
   intro o;have h1:=a (Dj o x);have b:=Lj o x;simp only[OR,Is];omega
 have:=key l [];simpa[JG] using this
def KA (d:List AJ) (s:ByteArray):List ByteArray:=if Ao d s<0 then [] else JG (Hh d d.length 0 [s])
def PY (d:List AJ):Prop:=∀x∈d,∀s∈x.2.1,0<=Ao d s
theorem Xm (s:ByteArray):∀(l:List AJ) (k:Nat),Cs s k l=-1\/((k:Int)<=Cs s k l/\Cs s k l<(k:Int)+l.length/\AM (l.getD ((Cs s k l).toNat-k) d0).1 s=true)
 | [],_=>.inl rfl
 | x :: l,k=>by
  simp only[Cs];split
  .rename_i h;right;refine⟨by omega,by simp only[Is];omega,?_⟩;have:((k:Int).toNat-k)=0:=by omega
   rw[this];exact h
  rcases Xm s l (k+1) with h|⟨h1,b,a⟩
  .exact .inl h
  right;refine⟨by omega,by simp only[Is];omega,?_⟩;have:((Cs s (k+1) l).toNat-k)=((Cs s (k+1) l).toNat-(k+1))+1:=by omega
  rw[this];exact a
theorem DG (d:List AJ) (s:ByteArray):Ao d s<0\/(0<=Ao d s/\Ao d s<(d.length:Int)/\AM (d.getD (Ao d s).toNat d0).1 s=true):=by
 rcases Xm s d 0 with h|⟨h1,a,b⟩
 .left;show Cs s 0 d<0;omega
 have a:Ao d s<((0:Nat):Int)+d.length:=a;exact .inr ⟨h1,by omega,b⟩
theorem F9 {a b:ByteArray}:AM a b=true↔a.toList=b.toList:=by unfold AM;simp
theorem Bp {a b:ByteArray} (h:AM a b=true):AM b a=true:=F9.2 (F9.1 h).symm
theorem BI {a b c:ByteArray} (h:AM a b=true) (g:AM b c=true):AM a c=true:=F9.2 ((F9.1 h).trans (F9.1 g))
structure Zh (d:List AJ) (o:List ByteArray):Prop where
 decl:∀s∈o,0<=Ao d s
 nd:o.Pairwise λa b=>AM a b=false
theorem KB (d:List AJ):∀ {o:List ByteArray},Zh d o->(o.map λs=>(Ao d s).toNat).Nodup
 | [],_=>by simp
 | s :: o,h=>by
  rw[nO,AAB];have c:=AAw.1 h.nd;refine⟨λi=>?_,KB d ⟨λx a=>h.decl x (by simp[a]),c.2⟩⟩;obtain⟨x,a,e⟩:=IS.1 i;have h1:=h.decl s sc;have j:=h.decl x (by simp[a]);rcases DG d s with g|⟨_,_,f⟩
  .omega
  rcases DG d x with g|⟨_,_,b⟩
  .omega
  rw[e]at b;have:=c.1 x a;rw[BI (Bp f) b]at this;cases this
theorem Zh.len {d:List AJ} (h:Zh d o):o.length<=d.length:=by
 have:=DZ d.length (o.map λs=>(Ao d s).toNat) (KB d h) (λj a=>by
  obtain⟨s,hs,rfl⟩:=IS.1 a;have h1:=h.decl s hs;rcases DG d s with g|⟨_,g,_⟩<;>omega)
 simpa using this
theorem PZ (h:AU o s=false):∀x∈o,AM x s=false:=λx a=>by
 cases hh:AM x s with
 | false=>rfl
 | true=>exact absurd h (by rw[show AU o s=true from aT.2 ⟨x,a,hh⟩];simp)
theorem oY {d:List AJ} (h:Zh d o) (hs:0<=Ao d s):Zh d (JF o s):=by
 unfold JF;split
 .exact h
 rename_i e;have e:AU o s=false:=by simpa using e
 refine⟨λx c=>?_,?_⟩
 .rcases NO.1 c with c|c
  .exact h.decl x c
  have:x=s:=by simpa using c
  rw[this];exact hs
 rw[ABH];refine⟨h.nd,by simp,λa ha b f=>?_⟩;have:b=s:=by simpa using f
 rw[this];exact PZ e a ha
theorem d5 {d:List AJ}:∀ {l o:List ByteArray},(∀s∈l,0<=Ao d s)->Zh d o->Zh d (l.foldl JF o)/\o.length<=(l.foldl JF o).length
 | [],o,_,h=>⟨h,OS _⟩
 | s :: l,o,a,h=>by
  obtain⟨b,c⟩:=d5 (l:=l) (λx e=>a x (by simp[e])) (oY h (a s sc));refine⟨b,iF ?_ c⟩;unfold JF;split<;>simp
theorem d6 {d:List AJ} (b:PY d) (s:ByteArray):∀x∈Lk d s,0<=Ao d x:=by
 intro x a;unfold Lk at a;by_cases h:(Ao d s).toNat<d.length
 .exact b _ (AG d d0 h) x a
 rw[AS,oF O1]at a;cases a
def kT:AW:={ ins:=[Et,T9],pre:=λ(d,_,_)=>PY d/\List.length d<=256,out:=λ(d,s,_)=>[.p CL (KA d s)] }
theorem A0e:AY Tryz.prog 184 kT:=by
 refine fK [0,1,4,5,6,7,8,9,10,14,20,36,45,56] Tryz.func184 Tryz.ntmps184 (AE Lg (AE GZ (AE Qs AH))) ?_;rintro w0 O0 ⟨d,s,u⟩ b ⟨⟨Q,G⟩,-⟩ ⟨O,z⟩;have z:d.length<=256:=z;simp only[kT,AK];repeat'(first|exact trivial|apply eS rfl|refine rX b ?_ ?_|refine rC ?_ ?_<;>intro a<;>try(cases a;done))
 .have h1:KA d s=[]:=by unfold KA;rw[At a]
  exact fI b [.tmp 4] (by rw[h1];exact eR)
 have h1:KA d s=JG (Hh d d.length 0 [s]):=by unfold KA;rw[As (AAW.2 a)]
 have F:Zh d [s]:=⟨λx y=>by
  have:x=s:=by simpa using y
  rw[this];exact a,by simp⟩
 refine AI (ι:={x:Nat×List ByteArray//x.1<=x.2.length/\Zh d x.2/\Hh d (d.length-x.1) x.1 x.2=Hh d d.length 0 [s]}) (λx=>⟨[(0,.p Et d),(1,.p T9 s),(5,.sr 16 T9 0 x.1.2.length),(6,.p (.int .i64) (x.1.1:Int))],[(16,.arr 9 T9 x.1.2)]⟩) (λx=>d.length-x.1.1) ⟨(0,[s]),by simp,F,rfl⟩ (eW [(16,.nm 16)]) (λx=>?_)
 obtain⟨⟨i,o⟩,hi,c,t⟩:=x;simp only at hi c t;have U:=c.len;simp only;repeat'(first|exact trivial|apply eS rfl|refine rX b ?_ ?_|refine rC ?_ ?_<;>intro a<;>try(cases a;done))
 .have q:i<o.length:=by exact eV
  have A:=c.decl _ (AG o ByteArray.empty q);refine⟨a,A,?_⟩;rcases DG d (o.getD i ByteArray.empty) with g|⟨_,g,_⟩
  .omega
  exact g
 .have q:i<o.length:=by exact eV
  have A:=c.decl _ (AG o ByteArray.empty q);have K:=d6 O (o.getD i ByteArray.empty);have C:Hh d (d.length-(i+1)) (i+1) ((Lk d (o.getD i ByteArray.empty)).foldl JF o)=Hh d d.length 0 [s]:=by
   rw[<-t];obtain⟨m,B⟩:∃m,d.length-i=m+1:=⟨d.length-i-1,by omega⟩;have H:d.length-(i+1)=m:=by omega
   rw[B,H];show _=if i<o.length then Hh d m (i+1) ((Lk d (o.getD i ByteArray.empty)).foldl JF o) else o
   rw[At q]
  have M:(Lk d (o.getD i ByteArray.empty)).length<=AO:=by
   rcases DG d (o.getD i ByteArray.empty) with g|⟨_,g,_⟩
   .omega
   exact(G _ (AG d d0 (k:=(Ao d (o.getD i ByteArray.empty)).toNat) O1)).2.1.1
  have N:(List.getD d (Ao d (o.getD i ByteArray.empty)).toNat (ByteArray.empty,[],[])).2.1=Lk d (o.getD i ByteArray.empty):=rfl;rw[N];generalize Lk d (o.getD i ByteArray.empty)=sup at *;simp only[AO]at M;refine AI (ι:={k:Nat//k<=sup.length}) (λk=>⟨[(0,.p Et d),(1,.p T9 s),(5,.sr 16 T9 0 ((sup.take k.1).foldl JF o).length),(6,.p (.int .i64) (i:Int)),(7,.p CL sup),(8,.p (.int .i64) (k.1:Int))],[(16,.arr 9 T9 ((sup.take k.1).foldl JF o))]⟩) (λk=>sup.length-k.1) ⟨0,DO _⟩ (AC [(16,.nm 16)] rfl rfl ?_ ?_) (λk=>?_)
  .refine eM ?_;rfl
  .refine eM ?_;rfl
  obtain⟨k,hk⟩:=k;have w:=d5 (l:=sup.take k) (o:=o) (λx y=>K x (AAx y)) c;have S:=w.1.len;have E:=λh:k<sup.length=>Ec JF sup ByteArray.empty o h;simp only;generalize D:(sup.take k).foldl JF o=n at *;repeat'(first|exact trivial|apply eS rfl|apply AB|refine rX b ?_ ?_|refine rC ?_ ?_<;>intro a<;>try(cases a;done))
  .exact a
  .refine⟨by exact eV,?_⟩;simp only[AO];dsimp only[Ty.den]at *;omega
  .exact eV
  .have f:k<sup.length:=by exact eV
   have e:=E f;have r:JF n (sup.getD k ByteArray.empty)=n++[sup.getD k ByteArray.empty]:=by unfold JF;rw[As (by rw[a];simp)]
   rw[r]at e;refine⟨⟨k+1,by omega⟩,by simp only;omega,AC [(16,.nm 16)] rfl rfl ?_ ?_⟩
   .simp only[e];exact eN
   simp only[e];exact eN
  .exact eV
  .have f:k<sup.length:=by exact eV
   have e:=E f;have r:JF n (sup.getD k ByteArray.empty)=n:=by unfold JF;rw[At a]
   rw[r]at e;refine⟨⟨k+1,by omega⟩,by simp only;omega,AC [(16,.nm 16)] rfl rfl ?_ ?_⟩
   .simp only[e];exact eN
   simp only[e];exact eN
  .exact eV
  have f:sup.take k=sup:=BY (by exact eV);rw[f]at D;rw[D]at C;have J:=w.1;have T:=w.2;exact⟨⟨(i+1,n),by simp only;omega,J,C⟩,by simp only;omega,eW [(16,.nm 16)]⟩
 have I:o=Hh d d.length 0 [s]:=by
  rw[<-t];cases B:d.length-i with
  | zero=>rfl
  | succ m =>
   show _=if i<o.length then _ else o
   rw[As (by exact eV)]
 rw[<-I]at h1;refine AI (ι:={j:Nat//j<=o.length}) (λj=>⟨[(0,.p Et d),(5,.sr 16 T9 0 o.length),(9,.p CL ((o.take j.1).foldl Dj [])),(10,.p (.int .i64) (j.1:Int))],[(16,.arr 9 T9 o)]⟩) (λj=>o.length-j.1) ⟨0,DO _⟩ (AC [(16,.nm 16)] rfl rfl ?_ ?_) (λj=>?_)
 .exact eN
 .refine eM ?_;rfl
 obtain⟨j,R⟩:=j;have L:=λh:j<o.length=>Ec Dj o ByteArray.empty [] h;simp only;repeat'(first|exact trivial|apply eS rfl|apply AB|refine rX b ?_ ?_|refine rC ?_ ?_<;>intro a<;>try(cases a;done))
 .refine⟨a,?_⟩;have:=Xl (o.take j);have P:=AAI j o;unfold JG at this;dsimp only[Ty.den]at *;omega
 .exact eV
 .have v:j<o.length:=by exact eV
  have e:=L v;refine⟨⟨j+1,by omega⟩,by simp only;omega,AC [(16,.nm 16)] rfl rfl ?_ ?_⟩
  .exact eN
  simp only[e];exact eN
 have v:o.take j=o:=BY (by exact eV);rw[v];exact fI b [.tmp 4] (by rw[h1];unfold JG;exact eR)
end
section
attribute [local go_sem] N6 Ip Za
def Eu (s:ByteArray) (o:List ByteArray) (x:AJ):List ByteArray:=if (AU x.2.1 s&&!AU o x.1)=true then o++[x.1] else o
def Ci (d:List AJ):Nat->Nat->List ByteArray->List ByteArray
 | 0,_,o=>o
 | n+1,i,o=>if i<o.length then Ci d n (i+1) (d.foldl (Eu (o.getD i ByteArray.empty)) o) else o
def Cj (d:List AJ) (s:ByteArray):List ByteArray:=if Ao d s<0 then [] else JG (Ci d d.length 0 [s])
theorem Uz (s:ByteArray):∀(l:List AJ) (k:Nat) (x:AJ),x∈l->AM x.1 s=true->0<=Cs s k l
 | y :: l,k,x,a,h=>by
  simp only[Cs];split
  .omega
  rename_i b;rcases GO.1 a with rfl|a
  .exact absurd h b
  exact Uz s l (k+1) x a h
theorem DL {d:List AJ} {x:AJ} (a:x∈d):0<=Ao d x.1:=Uz x.1 d 0 x a (Ct _)
theorem A3J {d:List AJ} (h:Zh d o) (s:ByteArray) {x:AJ} (b:x∈d):Zh d (Eu s o x):=by
 unfold Eu;split
 .rename_i a;rw[An,TO]at a;have:=oY h (DL b);unfold JF at this
  rwa [As (by rw[a.2];simp)]at this
 exact h
theorem U0 {d:List AJ} (s:ByteArray):∀ {l:List AJ} {o:List ByteArray},(∀x∈l,x∈d)->Zh d o->Zh d (l.foldl (Eu s) o)/\o.length<=(l.foldl (Eu s) o).length
 | [],o,_,h=>⟨h,OS _⟩
 | x :: l,o,a,h=>by
  obtain⟨b,c⟩:=U0 s (l:=l) (λy e=>a y (by simp[e])) (A3J h s (a x sc));refine⟨b,iF ?_ c⟩;unfold Eu;split<;>simp
theorem Qw (s:ByteArray) {i:Nat}:∀ {l:List AJ} {o:List ByteArray},i<o.length->(l.foldl (Eu s) o).getD i ByteArray.empty=o.getD i ByteArray.empty
 | [],_,_=>rfl
 | x :: l,o,h=>by
  have a:i<(Eu s o x).length/\(Eu s o x).getD i ByteArray.empty=o.getD i ByteArray.empty:=by
   unfold Eu;split
   .refine⟨by rw[Do];omega,?_⟩;simp only[AS];rw[AA7 h]
   exact⟨h,rfl⟩
  rw[OR,Qw s a.1,a.2]
def Zi:AW:={ ins:=[Et,T9],pre:=λ(d,_,_)=>List.length d<=256,out:=λ(d,s,_)=>[.p CL (Cj d s)] }
attribute [local go_sem] Zi
theorem A0f:AY Tryz.prog 157 Zi:=by
 refine fK [0,1,4,5,6,7,8,9,13,19,25,47,59] Tryz.func157 Tryz.ntmps157 (AE Lg (AE GZ (AE Qs AH))) ?_;rintro w0 O0 ⟨d,s,u⟩ b-y;have y:d.length<=256:=y;simp only[Zi,AK];repeat'(first|exact trivial|apply eS rfl|refine rX b ?_ ?_|refine rC ?_ ?_<;>intro a<;>try(cases a;done))
 .have h1:Cj d s=[]:=by unfold Cj;rw[At a]
  exact fI b [.tmp 4] (by rw[h1];exact eR)
 have h1:Cj d s=JG (Ci d d.length 0 [s]):=by unfold Cj;rw[As (AAW.2 a)]
 have F:Zh d [s]:=⟨λx v=>by
  have:x=s:=by simpa using v
  rw[this];exact a,by simp⟩
 refine AI (ι:={x:Nat×List ByteArray//x.1<=x.2.length/\Zh d x.2/\Ci d (d.length-x.1) x.1 x.2=Ci d d.length 0 [s]}) (λx=>⟨[(0,.p Et d),(5,.sr 15 T9 0 x.1.2.length),(6,.p (.int .i64) (x.1.1:Int))],[(15,.arr 9 T9 x.1.2)]⟩) (λx=>d.length-x.1.1) ⟨(0,[s]),by simp,F,rfl⟩ (eW [(15,.nm 15)]) (λx=>?_)
 obtain⟨⟨i,o⟩,hi,q,r⟩:=x;simp only at hi q r;have P:=q.len;simp only;repeat'(first|exact trivial|apply eS rfl|refine rX b ?_ ?_|refine rC ?_ ?_<;>intro a<;>try(cases a;done))
 .have z:i<o.length:=by exact eV
  have B:Ci d (d.length-(i+1)) (i+1) (d.foldl (Eu (o.getD i ByteArray.empty)) o)=Ci d d.length 0 [s]:=by
   rw[<-r];obtain⟨m,A⟩:∃m,d.length-i=m+1:=⟨d.length-i-1,by omega⟩;have G:d.length-(i+1)=m:=by omega
   rw[A,G];show _=if i<o.length then Ci d m (i+1) (d.foldl (Eu (o.getD i ByteArray.empty)) o) else o
   rw[At z]
  refine AI (ι:={k:Nat//k<=d.length}) (λk=>⟨[(0,.p Et d),(5,.sr 15 T9 0 ((d.take k.1).foldl (Eu (o.getD i ByteArray.empty)) o).length),(6,.p (.int .i64) (i:Int)),(7,.p (.int .i64) (k.1:Int))],[(15,.arr 9 T9 ((d.take k.1).foldl (Eu (o.getD i ByteArray.empty)) o))]⟩) (λk=>d.length-k.1) ⟨0,DO _⟩ (AC [(15,.nm 15)] rfl rfl ?_ ?_) (λk=>?_)
  .refine eM ?_;rfl
  .refine eM ?_;rfl
  obtain⟨k,hk⟩:=k;have g:=U0 (o.getD i ByteArray.empty) (l:=d.take k) (o:=o) (λx v=>AAx v) q;have N:=g.1.len;have E:=λh:k<d.length=>Ec (Eu (o.getD i ByteArray.empty)) d d0 o h;have D:((d.take k).foldl (Eu (o.getD i ByteArray.empty)) o).getD i ByteArray.empty=o.getD i ByteArray.empty:=Qw _ z;simp only;generalize C:(d.take k).foldl (Eu (o.getD i ByteArray.empty)) o=f at *;repeat'(first|exact trivial|apply eS rfl|apply AB|refine rX b ?_ ?_|refine rC ?_ ?_<;>intro a<;>try(cases a;done))
  .have M:=g.2;refine⟨a,?_,λ_=>a⟩;dsimp only[Ty.den]at *;omega
  .refine⟨by assumption,?_⟩;simp only[AO];dsimp only[Ty.den]at *;omega
  .exact eV
  .have c:k<d.length:=by exact eV
   have e:=E c;rw[D]at a;have n:Eu (o.getD i ByteArray.empty) f (d.getD k d0)=f++[(d.getD k d0).1]:=by
    unfold Eu;rw[At (by rw[An,TO];exact a)]
   rw[n]at e;refine⟨⟨k+1,by omega⟩,by simp only;omega,AC [(15,.nm 15)] rfl rfl ?_ ?_⟩
   .simp only[e];exact eN
   simp only[e];exact eN
  .exact eV
  .have c:k<d.length:=by exact eV
   have e:=E c;rw[D]at a;have n:Eu (o.getD i ByteArray.empty) f (d.getD k d0)=f:=by
    unfold Eu;rw[As];rw[An,TO];rintro⟨h1,w⟩;rw[a h1]at w;cases w
   rw[n]at e;refine⟨⟨k+1,by omega⟩,by simp only;omega,AC [(15,.nm 15)] rfl rfl ?_ ?_⟩
   .simp only[e];exact eN
   simp only[e];exact eN
  .exact eV
  have c:d.take k=d:=BY (by exact eV);rw[c]at C;rw[C]at B;have I:=g.1;have O:=g.2;exact⟨⟨(i+1,f),by simp only;omega,I,B⟩,by simp only;omega,eW [(15,.nm 15)]⟩
 have H:o=Ci d d.length 0 [s]:=by
  rw[<-r];cases A:d.length-i with
  | zero=>rfl
  | succ m =>
   show _=if i<o.length then _ else o
   rw[As (by exact eV)]
 rw[<-H]at h1;refine AI (ι:={j:Nat//j<=o.length}) (λj=>⟨[(0,.p Et d),(5,.sr 15 T9 0 o.length),(8,.p CL ((o.take j.1).foldl Dj [])),(9,.p (.int .i64) (j.1:Int))],[(15,.arr 9 T9 o)]⟩) (λj=>o.length-j.1) ⟨0,DO _⟩ (AC [(15,.nm 15)] rfl rfl ?_ ?_) (λj=>?_)
 .exact eN
 .refine eM ?_;rfl
 obtain⟨j,L⟩:=j;have J:=λh:j<o.length=>Ec Dj o ByteArray.empty [] h;simp only;repeat'(first|exact trivial|apply eS rfl|apply AB|refine rX b ?_ ?_|refine rC ?_ ?_<;>intro a<;>try(cases a;done))
 .refine⟨a,?_⟩;have:=Xl (o.take j);have K:=AAI j o;unfold JG at this;dsimp only[Ty.den]at *;omega
 .exact eV
 .have t:j<o.length:=by exact eV
  have e:=J t;refine⟨⟨j+1,by omega⟩,by simp only;omega,AC [(15,.nm 15)] rfl rfl ?_ ?_⟩
  .exact eN
  simp only[e];exact eN
 have t:o.take j=o:=BY (by exact eV);rw[t];exact fI b [.tmp 4] (by rw[h1];unfold JG;exact eR)
end
section
attribute [local go_sem] N6 Za kT Ip
def Ew (d:List AJ) (o:List ByteArray) (x:ByteArray):List ByteArray:=if 0<=Ao d x then Dj o x else o
def Bb (d:List AJ) (l:List ByteArray):List ByteArray:=l.foldl (Ew d) []
theorem Ir (d:List AJ) (l:List ByteArray):(Bb d l).length<=l.length:=by
 have key:∀(l o:List ByteArray),(l.foldl (Ew d) o).length<=o.length+l.length:=by
  intro l;induction l with
  | nil=>intro o;simp
  | cons x l a =>
   intro o;have h1:=a (Ew d o x);have b:(Ew d o x).length<=o.length+1:=by
    unfold Ew;split
    .exact Lj o x
    omega
   simp only[OR,Is];omega
 have:=key l [];simpa[Bb] using this
def Qx:AW:={ ins:=[Et,CL],pre:=λ(_,l,_)=>List.length l<=100000,out:=λ(d,l,_)=>[.p CL (Bb d l)] }
attribute [local go_sem] Qx
theorem d7:AY Tryz.prog 183 Qx:=by
 refine fK [0,1,4,5,6,10,19] Tryz.func183 Tryz.ntmps183 (AE Lg (AE Qs AH)) ?_;rintro w0 O0 ⟨d,l,u⟩ c-f;have f:l.length<=100000:=f;simp only[Qx,AK];repeat'(first|exact trivial|apply eS rfl|refine rX c ?_ ?_)
 refine AI (ι:={k:Nat//k<=l.length}) (λk=>⟨[(0,.p Et d),(1,.p CL l),(5,.p CL (Bb d (l.take k.1))),(6,.p (.int .i64) (k.1:Int))],[]⟩) (λk=>l.length-k.1) ⟨0,DO _⟩ (AC [] rfl rfl ?_ ?_) (λk=>?_)
 .exact eN
 .refine eM ?_;rfl
 obtain⟨k,hk⟩:=k;have hn:=Ir d (l.take k);have g:=AAI k l;have hs:=λh:k<l.length=>Ec (Ew d) l ByteArray.empty [] h;simp only;repeat'(first|exact trivial|apply eS rfl|apply AB|refine rX c ?_ ?_|refine rC ?_ ?_<;>intro b<;>try(cases b;done))
 .exact b
 .exact⟨by assumption,by omega⟩
 .exact eV
 .have a:k<l.length:=by exact eV
  have e:Bb d (l.take (k+1))=Ew d (Bb d (l.take k)) (l.getD k ByteArray.empty):=hs a;unfold Ew at e;rw[At b]at e;refine⟨⟨k+1,by omega⟩,by simp only;omega,AC [] rfl rfl ?_ ?_⟩
  .exact eN
  simp only[e];exact eN
 .exact eV
 .have a:k<l.length:=by exact eV
  have e:Bb d (l.take (k+1))=Ew d (Bb d (l.take k)) (l.getD k ByteArray.empty):=hs a;unfold Ew at e;rw[As (ACM.2 b)]at e;refine⟨⟨k+1,by omega⟩,by simp only;omega,AC [] rfl rfl ?_ ?_⟩
  .exact eN
  simp only[e];exact eN
 have a:l.take k=l:=BY (by exact eV);rw[a];exact fI c [.tmp 4]
def oZ (d:List AJ) (all:List ByteArray) (i:Nat) (k:Nat):Bool:=(k:Int)==(i:Int)||!AU (KA d (all.getD i ByteArray.empty)) (all.getD k ByteArray.empty)
def Pa (d:List AJ) (all:List ByteArray) (i n:Nat):Bool:=(List.range n).all (oZ d all i)
def Pb (d:List AJ) (all:List ByteArray) (n:Nat):List ByteArray:=((List.range n).filter λi=>Pa d all i all.length).map λi=>all.getD i ByteArray.empty
def A3 (d:List AJ) (l:List ByteArray):List ByteArray:=Pb d (Bb d l) (Bb d l).length
theorem tW (d:List AJ) (all:List ByteArray) (n:Nat):Pb d all (n+1)=Pb d all n++if Pa d all n all.length=true then [all.getD n ByteArray.empty] else []:=by
 unfold Pb;rw[AAA,ABS,AAN]
 congr 1
 rw[AAH,AC5];split<;>rfl
theorem d8 (d:List AJ) (all:List ByteArray) (n:Nat):(Pb d all n).length<=n:=by
 unfold Pb;rw[aS];exact iF (ABl _ _) sc
theorem kU (d:List AJ) (all:List ByteArray) (i n:Nat):Pa d all i (n+1)=(Pa d all i n&&oZ d all i n):=by
 unfold Pa;rw[AAA,AC6];simp
def Ll:AW:={ ins:=[Et,CL],pre:=λ(d,l,_)=>PY d/\List.length d<=256/\List.length l<=100000,out:=λ(d,l,_)=>[.p CL (A3 d l)] }
attribute [local go_sem] Ll
theorem U1:AY Tryz.prog 163 Ll:=by
 refine fK [0,1,4,5,6,7,8,9,10,17,29,47] Tryz.func163 Tryz.ntmps163 (AE d7 (AE A0e (AE GZ AH))) ?_;rintro w0 O0 ⟨d,l,u⟩ c-⟨n,f,g⟩;have f:d.length<=256:=f;have g:l.length<=100000:=g;have m:A3 d l=Pb d (Bb d l) (Bb d l).length:=rfl;have o:=Ir d l;simp only[Ll,AK];repeat'(first|exact trivial|apply eS rfl|refine rX c ?_ ?_)
 .exact g
 rw[m];generalize Bb d l=all at *;refine AI (ι:={i:Nat//i<=all.length}) (λi=>⟨[(0,.p Et d),(5,.sr 54 T9 0 (Pb d all i.1).length),(6,.p CL all),(7,.p (.int .i64) (i.1:Int))],[(54,.arr 9 T9 (Pb d all i.1))]⟩) (λi=>all.length-i.1) ⟨0,DO _⟩ (AC [(54,.nil)] rfl rfl ?_ ?_) (λi=>?_)
 .refine eM ?_;rfl
 .refine eM ?_;rfl
 obtain⟨i,hi⟩:=i;have q:=d8 d all i;have b:=tW d all i;simp only;repeat'(first|exact trivial|apply eS rfl|refine rX c ?_ ?_|refine rC ?_ ?_<;>intro a<;>try(cases a;done))
 .exact⟨a,n,f⟩
 .have h:i<all.length:=by exact eV
  refine AI (ι:={k:Nat//k<=all.length}) (λk=>⟨[(0,.p Et d),(5,.sr 54 T9 0 (Pb d all i).length),(6,.p CL all),(7,.p (.int .i64) (i:Int)),(8,.p CL (KA d (all.getD i ByteArray.empty))),(9,.p .bool (Pa d all i k.1)),(10,.p (.int .i64) (k.1:Int))],[(54,.arr 9 T9 (Pb d all i))]⟩) (λk=>all.length-k.1) ⟨0,DO _⟩ (AC [(54,.nm 54)] rfl rfl ?_ ?_) (λk=>?_)
  .exact eN
  .refine eM ?_;rfl
  obtain⟨k,hk⟩:=k;have j:=kU d all i k;simp only;repeat'(first|exact trivial|apply eS rfl|apply AB|refine rX c ?_ ?_|refine rC ?_ ?_<;>intro a<;>try(cases a;done))
  .exact λ_=>a
  .exact eV
  .have e:k<all.length:=by exact eV
   refine⟨⟨k+1,by omega⟩,by simp only;omega,AC [(54,.nm 54)] rfl rfl ?_ ?_⟩
   .exact eN
   simp only[j];unfold oZ;exact eN
  .refine⟨by assumption,?_⟩;simp only[AO];omega
  .exact eV
  .have e:k=all.length:=by exact eV
   subst e;rw[a,At rfl]at b;refine⟨⟨i+1,by omega⟩,by simp only;omega,AC [(54,.nm 54)] rfl rfl ?_ ?_⟩
   .simp only[b];exact eN
   simp only[b];exact eN
  .exact eV
  have e:k=all.length:=by exact eV
  subst e;rw[a,As sc,AAv]at b;refine⟨⟨i+1,by omega⟩,by simp only;omega,AC [(54,.nm 54)] rfl rfl ?_ ?_⟩
  .simp only[b];exact eN
  simp only[b];exact eN
 have h:i=all.length:=by exact eV
 subst h;refine CK [54] ?_;exact fI c [.tmp 4]
end
section
attribute [local go_sem] J7
def tX (b:List Int) (x:Int):List Int:=b.set (x.tdiv 64).toNat (Cl .or .u64 (b.getD (x.tdiv 64).toNat 0) (Y2 .u64 1 (x.tmod 64)))
def wJ (l:List Int):List Int:=l.foldl tX (List.replicate 64 0)
def okB (x:Int):Bool:=!(decide (x<0)||decide (4095<x))
def ofF (l:List Int):List Int×Int:=if l.all okB=true then (BN (wJ l),0) else ([],2)
theorem Pc (l:List Int):(wJ l).length=64:=by
 have key:∀(l b:List Int),(l.foldl tX b).length=b.length:=by
  intro l;induction l with
  | nil=>intro b;rfl
  | cons x l a =>
   intro b;rw[OR,a];simp[tX]
 unfold wJ;rw[key];simp
def ofS:AW:={ ins:=[Bz],pre:=λ_=>True,out:=λ(l,_)=>[.p BU (ofF l).1,.p C0 (ofF l).2] }
theorem A9e:AY Tryz.prog 159 ofS:=by
 refine fK [0,2,3,4,5,10,24] Tryz.func159 Tryz.ntmps159 (AE Mi AH) ?_;rintro w0 O0 ⟨l,u⟩ c ⟨⟨g,-⟩,-⟩ -;simp only[AO]at g;simp only[ofS,AK];repeat'(first|exact trivial|apply eS rfl|refine rX c ?_ ?_)
 .simp only[AO];omega
 refine AI (ι:={k:Nat//k<=l.length/\(l.take k).all okB=true}) (λk=>⟨[(0,.p Bz l),(4,.sr 6 Qq 0 (wJ (l.take k.1)).length),(5,.p (.int .i64) (k.1:Int))],[(6,.arr 205 Qq (wJ (l.take k.1)))]⟩) (λk=>l.length-k.1) ⟨0,DO _,rfl⟩ (AC [(6,.nm 6)] rfl rfl ?_ ?_) (λk=>?_)
 .refine eM ?_;rfl
 .refine eM ?_;rfl
 obtain⟨k,hk,hf⟩:=k;have i:=Pc (l.take k);have hs:∀h:k<l.length,wJ (l.take (k+1))=tX (wJ (l.take k)) (l.getD k 0):=λh=>Ec tX l 0 _ h;simp only;repeat'(first|exact trivial|apply eS rfl|apply AB|refine rX c ?_ ?_|refine rC ?_ ?_<;>intro a<;>try(cases a;done))
 .exact⟨a,λ_=>a⟩
 .have b:k<l.length:=by exact eV
  have h1:ofF l=([],2):=by
   unfold ofF;rw[As];intro h;have:=OF.1 h _ (AG l 0 b);unfold okB at this;rw[TO,AAr,To,To]at this;rcases a with h|h
   .exact this.1 h
   exact this.2 h
  exact fI c [.tmp 2,.tmp 3] (by rw[h1];exact eR)
 .obtain⟨h0,h1⟩:=a;have d:Int.tdiv (l.getD k 0) 64=l.getD k 0 / 64:=ABe h0;have f:Int.tmod (l.getD k 0) 64=l.getD k 0 % 64:=ABz h0;rw[d,f,i];refine⟨?_,⟨by decide,?_,?_⟩,?_,⟨by decide,?_,?_⟩,⟨?_,?_⟩,?_,⟨by decide,?_,?_⟩,⟨?_,?_⟩,?_,?_,?_⟩<;>exact eV
 .exact eV
 .have b:k<l.length:=by exact eV
  have e:=hs b;refine⟨⟨k+1,by omega,?_⟩,by simp only;omega,AC [(6,.nm 6)] rfl rfl ?_ ?_⟩
  .rw[JE l 0 _ b,hf,AC7];unfold okB;rw[TO,AAr,To,To];exact⟨AAW.2 a.1,AAW.2 a.2⟩
  .simp only[e];refine eM ?_;rfl
  simp only[e];refine eM ?_;rw[<-e,Pc,Pc]
 have b:l.take k=l:=BY (by exact eV);rw[b]at hf ⊢;have h1:ofF l=(BN (wJ l),0):=by unfold ofF;rw[At hf]
 have j:=Pc l;refine CK [6] ?_;repeat'(first|apply eS rfl|refine rX c ?_ ?_)
 .rw[j];decide
 exact fI c [.tmp 2,.tmp 3] (by rw[h1];exact eR)
end
section
attribute [local go_sem] Uy PW
def kV (l:List (List Int)) (b:List Int):Bool:=l.any λx=>Gv x b
def A7d:AW:={ ins:=[Sg,BU],pre:=λ_=>True,out:=λ(l,b,_)=>[.p .bool (kV l b)],lend:=true }
theorem A7e:AY Tryz.prog 160 A7d:=by
 refine fK [0,1,4,5,9,17] Tryz.func160 Tryz.ntmps160 (AE oX AH) ?_;rintro w0 O0 ⟨l,n,u⟩ a ⟨⟨e,-⟩,-⟩ -;simp only[AO]at e;simp only[A7d,AK];repeat'(first|exact trivial|apply eS rfl|refine rX a ?_ ?_)
 refine AI (ι:={k:Nat//k<=l.length/\(l.take k).any (λx=>Gv x n)=false}) (λk=>⟨[(0,.p Sg l),(1,.p BU n),(5,.p (.int .i64) (k.1:Int))],[]⟩) (λk=>l.length-k.1) ⟨0,by simp⟩ (eW []) (λk=>?_)
 obtain⟨k,hk,c⟩:=k;repeat'(first|exact trivial|apply eS rfl|apply AB|refine rX a ?_ ?_|refine rC ?_ ?_<;>intro b<;>try(cases b;done))
 .exact eV
 .have d:k<l.length:=by exact eV
  have h1:kV l n=true:=IG l [] _ d b;exact fI a [.tmp 4] (by rw[h1];exact eR)
 .exact eV
 .have d:k<l.length:=by exact eV
  refine⟨⟨k+1,by exact eV,?_⟩,by simp only;exact eV,AC [] rfl rfl ?_ ?_⟩
  .rw[Mh l [] _ d,c];exact b
  .exact eN
  exact eN
 have hk:l.take k=l:=BY (by exact eV);rw[hk]at c;have h1:kV l n=false:=c;exact fI a [.tmp 4] (by rw[h1];exact eR)
abbrev AQ:=ByteArray×List Int
abbrev c0:AQ:=(ByteArray.empty,[])
def Ki (l:List AQ) (i j:Int):Bool:=Eb (l.getD j.toNat c0).2 (l.getD i.toNat c0).2
def o0:AW:={ ins:=[JD,T3,T3],pre:=λ(l,i,j,_)=>((0:Int)<=i/\i<(List.length l:Int))/\((0:Int)<=j/\j<(List.length l:Int))/\(∀x∈(l:List AQ),x.2.length<=100000),out:=λ(l,i,j,_)=>[.p .bool (Ki l i j)],lend:=true }
theorem o4:AY Tryz.prog 117 o0:=by
 refine fK [0,1,2,6] Tryz.func117 Tryz.ntmps117 (AE Qu AH) ?_;rintro w0 O0 ⟨l,i,j,u⟩ a-⟨hi,b,c⟩;simp only[o0,AK];repeat'(first|exact trivial|apply eS rfl|refine rX a ?_ ?_)
 .exact⟨b,hi,c _ (AG (l:List AQ) c0 (by exact eV))⟩
 exact fI a [.tmp 6] (by unfold Ki;exact eR)
end
section
attribute [local go_sem] Uy
def KC (s:ByteArray):Nat->List AQ->Int
 | _,[]=>-1
 | k,x :: l=>if AM x.1 s=true then (k:Int) else KC s (k+1) l
def BH (l:List AQ) (s:ByteArray):Int:=KC s 0 l
theorem Xn (s:ByteArray) (l:List AQ) (h:k<l.length):KC s k (l.drop k)=if AM (l.getD k c0).1 s=true then (k:Int) else KC s (k+1) (l.drop (k+1)):=by
 rw[ON h];have e:l.getD k c0=l[k]:=by simp[AS,h]
 rw[e];rfl
def TH:AW:={ ins:=[JD,T9],pre:=λ_=>True,out:=λ(l,s,_)=>[.p T3 (BH l s)],lend:=true }
theorem Xo:AY Tryz.prog 119 TH:=by
 refine fK [0,1,4,5,9,18] Tryz.func119 Tryz.ntmps119 AH ?_;rintro w0 O0 ⟨l,s,u⟩ c ⟨⟨d,-⟩,-⟩ -;simp only[AO]at d;simp only[TH,AK];repeat'(first|exact trivial|apply eS rfl|refine rX c ?_ ?_)
 refine AI (ι:={k:Nat//k<=l.length/\KC s k (l.drop k)=BH l s}) (λk=>⟨[(0,.p JD l),(1,.p T9 s),(5,.p (.int .i64) (k.1:Int))],[]⟩) (λk=>l.length-k.1) ⟨0,DO _,rfl⟩ (eW []) (λk=>?_)
 obtain⟨k,hk,hf⟩:=k;simp only;repeat'(first|exact trivial|apply eS rfl|apply AB|refine rX c ?_ ?_|refine rC ?_ ?_<;>intro b<;>try(cases b;done))
 .exact b
 .have a:k<l.length:=by exact eV
  rw[Xn s l a,At b]at hf;exact fI c [.tmp 4] (by rw[<-hf];exact eR)
 .exact eV
 .have a:k<l.length:=by exact eV
  rw[Xn s l a,As (by rw[b];simp)]at hf;exact⟨⟨k+1,by omega,hf⟩,by simp only;omega,eW []⟩
 have a:l.drop k=[]:=If (by exact eV);rw[a]at hf;exact fI c [.tmp 4] (by rw[<-hf];first|exact eR|refine Je ?_;rfl)
end
section
attribute [local go_sem] Uy J7
def Pd (s:List Int):Nat->List AQ->Int
 | _,[]=>-1
 | k,x :: l=>if Gv x.2 s=true then (k:Int) else Pd s (k+1) l
def Gn (l:List AQ) (b:List Int):Int:=Pd (BN b) 0 l
theorem U2 (s:List Int) (l:List AQ) (h:k<l.length):Pd s k (l.drop k)=if Gv (l.getD k c0).2 s=true then (k:Int) else Pd s (k+1) (l.drop (k+1)):=by
 rw[ON h];have e:l.getD k c0=l[k]:=by simp[AS,h]
 rw[e];rfl
def kW:AW:={ ins:=[JD,BU],pre:=λ(_,b,_)=>List.length b<=100000,out:=λ(l,b,_)=>[.p T3 (Gn l b)],lend:=true }
theorem A0g:AY Tryz.prog 110 kW:=by
 refine fK [0,1,4,5,6,12,21] Tryz.func110 Tryz.ntmps110 (AE Mi (AE oX AH)) ?_;rintro w0 O0 ⟨l,b,u⟩ d ⟨⟨g,-⟩,-⟩ e;simp only[AO]at g;simp only[kW,AK];repeat'(first|exact trivial|apply eS rfl|refine rX d ?_ ?_)
 .exact e
 have f:Gn l b=Pd (BN b) 0 l:=rfl;rw[f];generalize BN b=s at *;refine AI (ι:={k:Nat//k<=l.length/\Pd s k (l.drop k)=Pd s 0 l}) (λk=>⟨[(0,.p JD l),(5,.p BU s),(6,.p (.int .i64) (k.1:Int))],[]⟩) (λk=>l.length-k.1) ⟨0,DO _,rfl⟩ (eW []) (λk=>?_)
 obtain⟨k,hk,hf⟩:=k;simp only;repeat'(first|exact trivial|apply eS rfl|apply AB|refine rX d ?_ ?_|refine rC ?_ ?_<;>intro c<;>try(cases c;done))
 .exact c
 .have a:k<l.length:=by exact eV
  rw[U2 s l a,At c]at hf;exact fI d [.tmp 4] (by rw[<-hf];exact eR)
 .exact eV
 .have a:k<l.length:=by exact eV
  rw[U2 s l a,As (by rw[c];simp)]at hf;exact⟨⟨k+1,by omega,hf⟩,by simp only;omega,eW []⟩
 have a:l.drop k=[]:=If (by exact eV);rw[a]at hf;exact fI d [.tmp 4] (by rw[<-hf];first|exact eR|refine Je ?_;rfl)
end
section
attribute [local go_sem] Uy
def d9 (s:ByteArray):List (ByteArray×ByteArray)->ByteArray×Bool
 | []=>(ByteArray.empty,false)
 | x :: l=>if AM x.1 s=true then (x.2,true) else d9 s l
def C7 (x:AJ) (s:ByteArray):ByteArray×Bool:=d9 s x.2.2
theorem Xp (s:ByteArray) (l:List (ByteArray×ByteArray)) (h:k<l.length):d9 s (l.drop k)=if AM (l.getD k (ByteArray.empty,ByteArray.empty)).1 s=true then ((l.getD k (ByteArray.empty,ByteArray.empty)).2,true) else d9 s (l.drop (k+1)):=by
 rw[ON h];have e:l.getD k (ByteArray.empty,ByteArray.empty)=l[k]:=by simp[AS,h]
 rw[e];rfl
def Zj:AW:={ ins:=[yV,T9],pre:=λ_=>True,out:=λ(x,s,_)=>[.p T9 (C7 x s).1,.p .bool (C7 x s).2],lend:=true }
theorem eA:AY Tryz.prog 149 Zj:=by
 refine fK [0,1,2,4,5,6,11,21] Tryz.func149 Tryz.ntmps149 AH ?_;rintro w0 O0 ⟨⟨nm,sup,a⟩,s,u⟩ d ⟨⟨-,-,f,-⟩,-⟩ -;simp only[AO]at f;simp only[Zj,AK];repeat'(first|exact trivial|apply eS rfl|refine rX d ?_ ?_)
 have e:({ data:=#[] }:ByteArray).size<=AO:=by decide
 rw[At e];refine AI (ι:={k:Nat//k<=a.length/\d9 s (a.drop k)=C7 (nm,sup,a) s}) (λk=>⟨[(1,.p T9 s),(2,.bp 2 [] 0),(6,.p (.int .i64) (k.1:Int))],[(2,.box 65 true [.p T9 nm,.p CL sup,.p T63 a])]⟩) (λk=>a.length-k.1) ⟨0,DO _,rfl⟩ (eW [(2,.nm 2)]) (λk=>?_)
 obtain⟨k,hk,hf⟩:=k;simp only;repeat'(first|exact trivial|apply eS rfl|apply AB|refine rX d ?_ ?_|refine rC ?_ ?_<;>intro c<;>try(cases c;done))
 .exact c
 .assumption
 .have b:k<a.length:=by exact eV
  rw[Xp s a b,At c]at hf;exact fI d [.tmp 4,.tmp 5] (by rw[<-hf];exact eR)
 .exact eV
 .have b:k<a.length:=by exact eV
  rw[Xp s a b,As (by rw[c];simp)]at hf;exact⟨⟨k+1,by omega,hf⟩,by simp only;omega,eW [(2,.nm 2)]⟩
 have b:a.drop k=[]:=If (by exact eV);rw[b]at hf;rw[At e];exact fI d [.tmp 4,.tmp 5] (by rw[<-hf];first|exact eR|refine Je ?_;exact⟨rfl,rfl⟩)
end
section
attribute [local go_sem] kS
def FZ (a b:AQ):Bool:=decide (((Hc b.2).length:Int)<((Hc a.2).length:Int))||((Hc a.2).length:Int)==((Hc b.2).length:Int)&&CJ a.1 b.1
def Zk:AW:={ ins:=[ZX,ZX],pre:=λ(a,b,_)=>List.length (a:AQ).2<=100000/\List.length (b:AQ).2<=100000,out:=λ(a,b,_)=>[.p .bool (FZ a b)],lend:=true }
theorem tY:AY Tryz.prog 116 Zk:=by
 refine fK [0,1,2,3,4,5,6] Tryz.func116 Tryz.ntmps116 (AE A0a AH) ?_;rintro w0 O0 ⟨⟨c,ac⟩,⟨e,d⟩,u⟩ a-⟨ha,b⟩;simp only[Zk,AK];repeat'(first|exact trivial|apply eS rfl|refine rX a ?_ ?_)
 .exact ha
 .exact b
 exact fI a [.tmp 4] (by unfold FZ;exact eR)
end
section
attribute [local go_sem] Zi Ip ofS
def N9 (low all:List ByteArray) (n:Nat):List Int:=((List.range n).filter λ(i:Nat)=>AU low (all.getD i ByteArray.empty)).map λ(i:Nat)=>(i:Int)
theorem tZ (low all:List ByteArray) (n:Nat):N9 low all (n+1)=N9 low all n++if AU low (all.getD n ByteArray.empty)=true then [(n:Int)] else []:=by
 unfold N9;rw[AAA,ABS,AAN]
 congr 1
 rw[AAH,AC5];split<;>rfl
theorem A0h (low all:List ByteArray) (n:Nat):(N9 low all n).length<=n:=by
 unfold N9;rw[aS];exact iF (ABl _ _) sc
def ET (d:List AJ) (all:List ByteArray) (s:ByteArray):List Int:=(ofF (N9 (Cj d s) all all.length)).1
def A0i:AW:={ ins:=[Et,CL,T9],pre:=λ(d,l,_,_)=>List.length d<=256/\List.length l<=100000,out:=λ(d,l,s,_)=>[.p BU (ET d l s)] }
theorem A3L:AY Tryz.prog 113 A0i:=by
 refine fK [0,1,2,6,7,8,9,10,18,26] Tryz.func113 Tryz.ntmps113 (AE A0f (AE GZ (AE A9e AH))) ?_;rintro w0 O0 ⟨d,l,s,u⟩ b-⟨g,e⟩;have e:l.length<=100000:=e;have f:ET d l s=(ofF (N9 (Cj d s) l l.length)).1:=rfl;simp only[A0i,AK];repeat'(first|exact trivial|apply eS rfl|refine rX b ?_ ?_)
 .exact g
 rw[f];generalize Cj d s=low at *;refine AI (ι:={n:Nat//n<=l.length}) (λn=>⟨[(0,.p Et d),(1,.p CL l),(2,.p T9 s),(7,.p CL low),(8,.sr 30 T3 0 (N9 low l n.1).length),(9,.p (.int .i64) (n.1:Int))],[(30,.arr 3 T3 (N9 low l n.1))]⟩) (λn=>l.length-n.1) ⟨0,DO _⟩ (AC [(30,.nil)] rfl rfl ?_ ?_) (λn=>?_)
 .refine eM ?_;rfl
 .refine eM ?_;rfl
 obtain⟨n,hn⟩:=n;have h:=A0h low l n;have hs:=tZ low l n;simp only;repeat'(first|exact trivial|apply eS rfl|apply AB|refine rX b ?_ ?_|refine rC ?_ ?_<;>intro a<;>try(cases a;done))
 .exact a
 .rw[a,At rfl]at hs;simp only[AO];dsimp only[Ty.den]at *;omega
 .exact eV
 .have c:n<l.length:=by exact eV
  rw[a,At rfl]at hs;refine⟨⟨n+1,by omega⟩,by simp only;omega,AC [(30,.nm 30)] rfl rfl ?_ ?_⟩
  .simp only[hs];exact eN
  simp only[hs];exact eN
 .exact eV
 .have c:n<l.length:=by exact eV
  rw[a,As sc,AAv]at hs;refine⟨⟨n+1,by omega⟩,by simp only;omega,AC [(30,.nm 30)] rfl rfl ?_ ?_⟩
  .simp only[hs];exact eN
  simp only[hs];exact eN
 have c:n=l.length:=by exact eV
 subst c;refine CK [30] ?_;repeat'(first|exact trivial|apply eS rfl|refine rX b ?_ ?_)
 exact fI b [.tmp 6]
end
section
attribute [local go_sem] Za
def JH (o:List ByteArray) (f:ByteArray×ByteArray):List ByteArray:=Dj o f.1
def It (o:List ByteArray) (x:AJ):List ByteArray:=x.2.2.foldl JH o
def BG (d:List AJ):List ByteArray:=d.foldl It []
theorem Xq (l:List (ByteArray×ByteArray)):∀o:List ByteArray,(l.foldl JH o).length<=o.length+l.length:=by
 induction l with
 | nil=>intro o;simp
 | cons x l a =>
  intro o;have h1:=a (JH o x);have b:(JH o x).length<=o.length+1:=Lj o x.1;simp only[OR,Is];omega
theorem kX {d:List AJ} (h:∀x∈d,x.2.2.length<=256):∀(l:List AJ),(∀x∈l,x∈d)->∀o:List ByteArray,(l.foldl It o).length<=o.length+256*l.length:=by
 intro l;induction l with
 | nil=>intro _ o;simp
 | cons x l c =>
  intro a o;have h1:=c (λy b=>a y (by simp[b])) (It o x);have e:=Xq x.2.2 o;have f:=h x (a x sc);have g:(It o x).length=(x.2.2.foldl JH o).length:=rfl;simp only[OR,Is];omega
def U3:AW:={ ins:=[Et],pre:=λ(d,_)=>List.length d<=256/\(∀x∈(d:List AJ),x.2.2.length<=256),out:=λ(d,_)=>[.p CL (BG d)] }
theorem U4:AY Tryz.prog 108 U3:=by
 refine fK [0,2,3,4,5,9,19] Tryz.func108 Tryz.ntmps108 (AE Qs AH) ?_;rintro w0 O0 ⟨d,u⟩ c-⟨f,m⟩;have f:d.length<=256:=f;simp only[U3,AK];repeat'(first|exact trivial|apply eS rfl|refine rX c ?_ ?_)
 refine AI (ι:={i:Nat//i<=d.length}) (λi=>⟨[(0,.p Et d),(3,.p CL (BG (d.take i.1))),(4,.p (.int .i64) (i.1:Int))],[]⟩) (λi=>d.length-i.1) ⟨0,DO _⟩ (AC [] rfl rfl ?_ ?_) (λi=>?_)
 .exact eN
 .refine eM ?_;rfl
 obtain⟨i,hi⟩:=i;have l:=kX m (d.take i) (λx h=>AAx h) [];have t:=AAI i d;have hs:=λh:i<d.length=>Ec It d d0 [] h;have g:∀e,BG e=e.foldl It []:=λ_=>rfl;simp only;repeat'(first|exact trivial|apply eS rfl|refine rX c ?_ ?_|refine rC ?_ ?_<;>intro a<;>try(cases a;done))
 .have j:i<d.length:=by exact eV
  have v:=m _ (AG d d0 j);have hs:=hs j;rw[<-g,<-g]at hs;rw[<-g]at l;generalize BG (d.take i)=o at *;refine AI (ι:={k:Nat//k<=(d.getD i d0).2.2.length}) (λk=>⟨[(0,.p Et d),(3,.p CL (((d.getD i d0).2.2.take k.1).foldl JH o)),(4,.p (.int .i64) (i:Int)),(5,.p (.int .i64) (k.1:Int))],[]⟩) (λk=>(d.getD i d0).2.2.length-k.1) ⟨0,DO _⟩ (AC [] rfl rfl ?_ ?_) (λk=>?_)
  .exact eN
  .refine eM ?_;rfl
  obtain⟨k,hk⟩:=k;have r:k<=(d.getD i d0).2.2.length:=hk;have q:=Xq ((d.getD i d0).2.2.take k) o;have s:=AAI k (d.getD i d0).2.2;have n:=λh:k<(d.getD i d0).2.2.length=>Ec JH (d.getD i d0).2.2 (ByteArray.empty,ByteArray.empty) o h;simp only;repeat'(first|apply eS rfl|apply AB|refine rX c ?_ ?_|refine rC ?_ ?_<;>intro a<;>try(cases a;done))
  .assumption
  .refine⟨by assumption,a,?_⟩;simp only[AAs]at l;dsimp only[Ty.den]at *;omega
  .have h1:(k:Int)<((d.getD i d0).2.2.length:Int):=a;exact eV
  .have b:k<(d.getD i d0).2.2.length:=On.1 a;have e:=n b;refine⟨⟨k+1,b⟩,by simp only;omega,AC [] rfl rfl ?_ ?_⟩
   .exact eN
   simp only[e];unfold JH;exact eN
  .have:=f;exact eV
  have b:(d.getD i d0).2.2.take k=(d.getD i d0).2.2:=BY (AAc.1 a);have e:BG (d.take (i+1))=((d.getD i d0).2.2.take k).foldl JH o:=by rw[b];exact hs
  refine⟨⟨i+1,j⟩,by simp only;omega,AC [] rfl rfl ?_ ?_⟩
  .exact eN
  simp only[e];exact eN
 have b:d.take i=d:=BY (by exact eV);rw[b];exact fI c [.tmp 2]
end
theorem Xr {d:List AJ} {l:List ByteArray}:∀ {r:List ByteArray} {k:Nat},Si d l k r=0->∀s∈r,0<=Ao d s
 | [],_,_,s,hs=>by cases hs
 | x :: r,k,h,s,hs=>by
  simp only[Si]at h;split at h
  .cases h
  rename_i h1;split at h
  .cases h
  rcases GO.1 hs with rfl|hs
  .omega
  exact Xr h s hs
theorem Pe {d:List AJ}:∀ {l:List AJ},J8 d l=0->∀x∈l,∀s∈x.2.1,0<=Ao d s
 | [],_,x,a=>by cases a
 | y :: l,h,x,a=>by
  simp only[J8]at h;split at h
  .rename_i h1;exact absurd h h1
  rename_i h1;rcases GO.1 a with rfl|a
  .exact Xr (By h1)
  exact Pe h x a
theorem A0j {d:List AJ} (h:J9 d=0):PY d:=Pe h
theorem Ay {d:List AJ} (h:A6 d=0):PY d/\d.length<=256/\Hg d=1/\Cg d=0/\d.length<=(Bh d).length:=by
 unfold A6 at h;split at h
 .rename_i h1;exact absurd h h1
 rename_i h1;split at h
 .rename_i a;exact absurd h a
 rename_i a;split at h
 .rename_i b;exact absurd h b
 rename_i b;split at h
 .cases h
 rename_i c;split at h
 .cases h
 rename_i e;exact⟨A0j (By b),SB (By h1),By c,By a,by omega⟩
section
attribute [local go_sem] A7d A06
def GA (l:List (List Int)) (i k:Nat):List (List Int) :=
 if (decide (0<((ED (l.getD i []) (l.getD k [])).length:Int))&&!kV l (ED (l.getD i []) (l.getD k [])))=true then l++[ED (l.getD i []) (l.getD k [])] else l
def GB (i:Nat):Nat->Nat->List (List Int)->List (List Int)
 | 0,_,l=>l
 | n+1,k,l=>if l.length<=256 then GB i n (k+1) (GA l i k) else l
def Hi:Nat->Nat->List (List Int)->List (List Int)
 | 0,_,l=>l
 | n+1,i,l=>if i<l.length/\l.length<=256 then Hi n (i+1) (GB i i 0 l) else l
def Aw (c:List (List Int)):List (List Int):=Hi 257 0 c
theorem eB (a b:List Int):(ED a b).length<=a.length:=by
 unfold ED BN;have:=ER .and a b a.length;rw[Of];omega
structure A5Q (l:List (List Int)):Prop where
 len:l.length<=257
 wid:∀c∈l,c.length<=64
theorem Lm (h:∀c∈l,c.length<=64) (k:Nat):(l.getD k []).length<=64:=by
 rw[AS];cases hh:l[k]? with
 | none=>simp
 | some x=>exact h x (AAF hh)
theorem eC (h:∀c∈l,c.length<=64) (i k:Nat):∀c∈GA l i k,c.length<=64:=by
 unfold GA;split
 .intro c a;rcases NO.1 a with a|a
  .exact h c a
  have:c=ED (l.getD i []) (l.getD k []):=by simpa using a
  rw[this];exact iF (eB _ _) (Lm h i)
 exact h
theorem A0k (l:List (List Int)) (i k:Nat):l.length<=(GA l i k).length/\(GA l i k).length<=l.length+1:=by
 unfold GA;split
 .simp
 exact⟨OS _,Nat.le_succ _⟩
def Zl:AW:={ ins:=[Sg],pre:=λ(c,_)=>List.length c<=256/\∀x∈(c:List (List Int)),x.length<=64,out:=λ(c,_)=>[.p Sg (Aw c)] }
theorem t4:AY Tryz.prog 114 Zl:=by
 refine fK [0,2,3,4,5,6,18,28,48] Tryz.func114 Tryz.ntmps114 (AE A07 (AE A7e AH)) ?_;rintro w0 O0 ⟨c,u⟩ d-⟨n,t⟩;have n:c.length<=256:=n;simp only[Zl,AK];repeat'(first|exact trivial|apply eS rfl|refine rX d ?_ ?_)
 .simp only[AO];dsimp only[Ty.den]at *;omega
 refine AI (ι:={x:Nat×List (List Int)//x.1<=256/\A5Q x.2/\Hi (257-x.1) x.1 x.2=Aw c}) (λx=>⟨[(3,.sr 7 BU 0 x.1.2.length),(4,.p (.int .i64) (x.1.1:Int))],[(7,.arr 111 BU x.1.2)]⟩) (λx=>257-x.1.1) ⟨(0,c),by simp,⟨by simp only;omega,t⟩,rfl⟩ (eW [(7,.nm 7)]) (λx=>?_)
 obtain⟨⟨i,l⟩,hi,⟨q,s⟩,f⟩:=x;simp only at hi q s f;simp only;repeat'(first|exact trivial|apply eS rfl|refine rX d ?_ ?_|refine rC ?_ ?_<;>intro a<;>try(cases a;done))
 .have w:i<l.length:=by omega
  have z:l.length<=256:=by omega
  have o:Hi (256-i) (i+1) (GB i i 0 l)=Aw c:=by
   have e:257-i=(256-i)+1:=by omega
   rw[<-f,e];show _=if i<l.length/\l.length<=256 then Hi (256-i) (i+1) (GB i i 0 l) else l
   rw[At ⟨w,z⟩]
  refine AI (ι:={y:Nat×List (List Int)//y.1<=i/\A5Q y.2/\l.length<=y.2.length/\GB i (i-y.1) y.1 y.2=GB i i 0 l}) (λy=>⟨[(3,.sr 7 BU 0 y.1.2.length),(4,.p (.int .i64) (i:Int)),(5,.p (.int .i64) (y.1.1:Int))],[(7,.arr 111 BU y.1.2)]⟩) (λy=>i-y.1.1) ⟨(0,l),by simp,⟨q,s⟩,OS _,rfl⟩ (eW [(7,.nm 7)]) (λy=>?_)
  obtain⟨⟨k,m⟩,hk,⟨g,b⟩,r,hf⟩:=y;simp only at hk g b r hf;simp only;repeat'(first|exact trivial|apply eS rfl|apply AB|refine rX d ?_ ?_|refine rC ?_ ?_<;>intro a<;>try(cases a;done))
  .exact⟨by exact eV,by exact eV,iF (Lm b i) dg⟩
  .simp only[AO];omega
  .omega
  .have e:GA m i k=m++[ED (m.getD i []) (m.getD k [])]:=by
    unfold GA;rw[At];rw[An,IN,TO];exact a
   have C:=eC b i k;have D:=A0k m i k;refine⟨⟨(k+1,GA m i k),by simp only;omega,⟨by simp only;omega,C⟩,by simp only;omega,?_⟩,by simp only;omega,AC [(7,.nm 7)] rfl rfl ?_ ?_⟩
   .simp only;rw[<-hf,show i-k=(i-(k+1))+1 by omega];show _=if m.length<=256 then GB i (i-(k+1)) (k+1) (GA m i k) else m
    rw[At O1]
   .simp only[e];exact eN
   simp only[e];exact eN
  .omega
  .have e:GA m i k=m:=by
    unfold GA;rw[As];rw[An,IN,TO];intro h;rw[a h.1]at h;exact absurd h.2 sc
   refine⟨⟨(k+1,m),by simp only;omega,⟨g,b⟩,r,?_⟩,by simp only;omega,AC [(7,.nm 7)] rfl rfl ?_ ?_⟩
   .simp only;rw[<-hf,show i-k=(i-(k+1))+1 by omega];show _=if m.length<=256 then GB i (i-(k+1)) (k+1) (GA m i k) else m
    rw[At O1,e]
   .exact eN
   exact eN
  .omega
  have B:m=GB i i 0 l:=by
   rw[<-hf];cases A:i-k with
   | zero=>rfl
   | succ j =>
    show _=if m.length<=256 then _ else m
    rw[As O1]
  rw[<-B]at o;refine⟨⟨(i+1,m),by simp only;omega,⟨g,b⟩,?_⟩,by simp only;omega,AC [(7,.nm 7)] rfl rfl ?_ ?_⟩
  .simp only;rw[show 257-(i+1)=256-i by omega];exact o
  .exact eN
  exact eN
 have v:l=Aw c:=by
  rw[<-f];cases A:257-i with
  | zero=>rfl
  | succ m =>
   show _=if i<l.length/\l.length<=256 then _ else l
   rw[As O1]
 rw[<-v];refine CK [7] ?_;exact fI d [.tmp 2]
theorem Kj {α:Type} (x y:α):(if ({ data:=#[] }:ByteArray).size<=AO then x else y)=x:=At (by show 0<=AO;decide)
theorem KD {α:Type} (a:UInt8) (x y:α):(if ({ data:=#[a] }:ByteArray).size<=AO then x else y)=x:=At (by show 1<=AO;decide)
theorem cs2 {α:Type} (a b:UInt8) (x y:α):(if ({ data:=#[a,b] }:ByteArray).size<=AO then x else y)=x:=At (by show 2<=AO;decide)
theorem Mj {α:Type} (a b c:UInt8) (x y:α):(if ({ data:=#[a,b,c] }:ByteArray).size<=AO then x else y)=x:=At (by show 3<=AO;decide)
theorem JJ {α:Type} (a b c d:UInt8) (x y:α):(if ({ data:=#[a,b,c,d] }:ByteArray).size<=AO then x else y)=x:=At (by show 4<=AO;decide)
theorem IJ {α:Type} (a b c d e:UInt8) (x y:α):(if ({ data:=#[a,b,c,d,e] }:ByteArray).size<=AO then x else y)=x:=At (by show 5<=AO;decide)
theorem M5 {α:Type} (a b c d e f:UInt8) (x y:α):(if ({ data:=#[a,b,c,d,e,f] }:ByteArray).size<=AO then x else y)=x:=At (by show 6<=AO;decide)
theorem cs7 {α:Type} (a b c d e f g:UInt8) (x y:α):(if ({ data:=#[a,b,c,d,e,f,g] }:ByteArray).size<=AO then x else y)=x:=At (by show 7<=AO;decide)
theorem cs8 {α:Type} (a b c d e f g h:UInt8) (x y:α):(if ({ data:=#[a,b,c,d,e,f,g,h] }:ByteArray).size<=AO then x else y)=x:=At (by show 8<=AO;decide)
end
section
attribute [local go_sem] KD
abbrev Sj:=ByteArray×Int
abbrev G8:=ByteArray×Int×List Sj
abbrev Sk:=Int×Int
abbrev Bj:=Int×Int×List ByteArray×List G8×List Sk
abbrev e0D:G8:=(ByteArray.empty,0,[])
theorem Mk {α:Type} (f:α->X) (l:List α) (d:α) (h:k<l.length):(l.take (k+1)).map f=(l.take k).map f++[f (l.getD k d)]:=by
 rw[Ar l d h];simp
theorem tk2 {α:Type} (A B:List α) (x y:α):(A++B++[x]).take (A.length+B.length+1)++[y]=A++(B++[x]++[y]):=by
 rw[BY (by simp only[Do,Is,AAs];omega)];simp
def H3 (n:Int):Nat->List Int->Int
 | _,[]=>-1
 | k,x :: r=>if x=n then (k:Int) else H3 n (k+1) r
def o5 (l:List Int) (n:Int):Int:=H3 n 0 l
theorem A0l (n:Int) (l:List Int) (h:k<l.length):H3 n k (l.drop k)=if l.getD k 0=n then (k:Int) else H3 n (k+1) (l.drop (k+1)):=by
 rw[ON h];have e:l.getD k 0=l[k]:=by simp[AS,h]
 rw[e];rfl
def JK:AW:={ ins:=[Bz,T3],pre:=λ_=>True,out:=λ(l,n,_)=>[.p T3 (o5 l n)],lend:=true }
attribute [local go_sem] JK
theorem U5:AY Tryz.prog 90 JK:=by
 refine fK [0,1,4,5,9,17] Tryz.func90 Tryz.ntmps90 AH ?_;rintro w0 O0 ⟨l,n,u⟩ d ⟨⟨f,-⟩,-⟩ -;simp only[AO]at f;simp only[JK,AK];repeat'(first|exact trivial|apply eS rfl|apply AB|refine rX d ?_ ?_|refine rC ?_ ?_<;>intro a<;>try(cases a;done))
 refine AI (ι:={k:Nat//k<=l.length/\H3 n k (l.drop k)=o5 l n}) (λk=>⟨[(0,.p Bz l),(1,.p T3 n),(5,.p (.int .i64) (k.1:Int))],[]⟩) (λk=>l.length-k.1) ⟨0,DO _,rfl⟩ (eW []) (λk=>?_)
 obtain⟨k,hk,b⟩:=k;have e:=λh:k<l.length=>A0l n l h;simp only;repeat'(first|exact trivial|apply eS rfl|apply AB|refine rX d ?_ ?_|refine rC ?_ ?_<;>intro a<;>try(cases a;done))
 .exact a
 .have c:k<l.length:=by exact eV
  rw[e c,At a]at b;exact fI d [.tmp 4] (by rw[<-b];exact eR)
 .omega
 .have c:k<l.length:=by exact eV
  rw[e c,As a]at b;exact⟨⟨k+1,by omega,b⟩,by simp only;omega,eW []⟩
 have c:l.drop k=[]:=If (by exact eV);rw[c]at b;exact fI d [.tmp 4] (by rw[<-b];first|exact eR|refine Je ?_;rfl)
def Zm (s:ByteArray):Bool:=AM s ⟨#[104]⟩||AM s ⟨#[101]⟩||AM s ⟨#[120]⟩||AM s ⟨#[105]⟩
def JL:AW:={ ins:=[T9],pre:=λ_=>True,out:=λ(s,_)=>[.p .bool (Zm s)] }
attribute [local go_sem] JL
theorem SC:AY Tryz.prog 102 JL:=by
 refine fK [0,2] Tryz.func102 Tryz.ntmps102 AH ?_;rintro w0 O0 ⟨s,u⟩ a - -;simp only[JL,AK];repeat'(first|exact trivial|apply eS rfl|apply AB|refine rX a ?_ ?_|refine rC ?_ ?_<;>intro b<;>try(cases b;done))
 exact fI a [.tmp 2] (by first|exact eR|refine Je ?_;rfl)
def kY (e:G8):List Int:=e.2.1 :: e.2.2.map (·.2)
def JM (q:Sk):List Int:=[q.1,q.2]
def Ex (m:Bj):List Int:=[m.1,m.2.1]++m.2.2.2.1.flatMap kY++m.2.2.2.2.flatMap JM
def M6 (m:Bj):Prop:=True/\m.2.2.2.1.length<=200000/\(∀e∈m.2.2.2.1,e.2.2.length<=100000)/\m.2.2.2.2.length<=200000
theorem IK {α b:Type} (f:α->List b) (B:Nat):∀l:List α,(∀e∈l,(f e).length<=B)->(l.flatMap f).length<=l.length*B
 | [],_=>by simp
 | x :: l,h=>by
  have h1:=h x iS;have c:=IK f B l λe a=>h e (IF _ a);simp only[ABJ,Do,Is,ACd];omega
def A3M:AW:={ ins:=[ZY],pre:=λ(m,_)=>M6 m,out:=λ(m,_)=>[.p Bz (Ex m)] }
attribute [local go_sem] A3M
def i6 (tp ix:Int) (a:List G8) (i:Nat):List Int:=[tp,ix]++(a.take i).flatMap kY
theorem A0m (tp ix:Int) (a:List G8) {i:Nat} (h:i<a.length):i6 tp ix a (i+1)=i6 tp ix a i++[(a.getD i e0D).2.1]++(a.getD i e0D).2.2.map (·.2):=by
 unfold i6;rw[Ar a e0D h,ABy];simp[kY]
theorem o6 {tp ix:Int} {a:List G8} (h1:a.length<=200000) (b:∀e∈a,e.2.2.length<=100000) (i:Nat):(i6 tp ix a i).length<=20000200002:=by
 have:=IK kY 100001 (a.take i) λe d=>by
  have:=b e (AAx d);simp only[kY,Is,aS];omega
 have c:(a.take i).length<=200000:=by simp only[Of];omega
 have f:=AAa 100001 c;simp only[i6,Do,Is,AAs];omega
theorem A0n:AY Tryz.prog 104 A3M:=by
 refine fK [0,1,2,3,4,5,6,16,36,56] Tryz.func104 Tryz.ntmps104 AH ?_;rintro w0 O0 ⟨⟨tp,ix,m,a,cs⟩,u⟩ d-⟨-,h1,f,n⟩;have h1:a.length<=200000:=h1;have f:∀e∈a,e.2.2.length<=100000:=f;have n:cs.length<=200000:=n;have v:=o6 (tp:=tp) (ix:=ix) h1 f;simp only[A3M,AK];repeat'(first|exact trivial|apply eS rfl|apply AB|refine rX d ?_ ?_|refine rC ?_ ?_<;>intro c<;>try(cases c;done))
 refine AI (ι:={i:Nat//i<=a.length}) (λi=>⟨[(1,.bp 1 [] 0),(3,.sr 11 T3 0 (i6 tp ix a i.1).length),(4,.p (.int .i64) (i.1:Int))],[(11,.arr 3 T3 (i6 tp ix a i.1)),(1,.box 41 true [.p T3 tp,.p T3 ix,.p CL m,.p JC a,.p Kh cs])]⟩) (λi=>a.length-i.1) ⟨0,DO _⟩ (AC [(1,.nm 1),(11,.nm 11)] rfl rfl ?_ ?_) (λi=>?_)
 .first|exact eN|refine eM ?_
  rfl
 .first|exact eN|refine eM ?_
  rfl
 obtain⟨i,hi⟩:=i;have A:=v i;have l:=λh:i<a.length=>A0m tp ix a h;simp only;repeat'(first|exact trivial|apply eS rfl|apply AB|refine rX d ?_ ?_|refine rC ?_ ?_<;>intro c<;>try(cases c;done))
 .refine⟨c,?_⟩;simp only[AO];omega
 .have g:i<a.length:=by exact eV
  have l:=l g;have y:(a.getD i (ByteArray.empty,0,[])).2.2.length<=100000:=f _ (AG a e0D g);refine AI (ι:={k:Nat//k<=(a.getD i (ByteArray.empty,0,[])).2.2.length}) (λk=>⟨[(1,.bp 1 [] 0),(3,.sr 11 T3 0 (i6 tp ix a i++[(a.getD i (ByteArray.empty,0,[])).2.1]++((a.getD i (ByteArray.empty,0,[])).2.2.take k.1).map (·.2)).length),(4,.p (.int .i64) (i:Int)),(5,.p (.int .i64) (k.1:Int))],[(11,.arr 3 T3 (i6 tp ix a i++[(a.getD i (ByteArray.empty,0,[])).2.1]++((a.getD i (ByteArray.empty,0,[])).2.2.take k.1).map (·.2))),(1,.box 41 true [.p T3 tp,.p T3 ix,.p CL m,.p JC a,.p Kh cs])]⟩) (λk=>(a.getD i (ByteArray.empty,0,[])).2.2.length-k.1) ⟨0,DO _⟩ (AC [(1,.nm 1),(11,.nm 11)] rfl rfl ?_ ?_) (λk=>?_)
  .first|exact eN|refine eM ?_
  .first|exact eN|refine eM ?_
  obtain⟨k,hk⟩:=k;simp only;repeat'(first|exact trivial|apply eS rfl|apply AB|refine rX d ?_ ?_|refine rC ?_ ?_<;>intro c<;>try(cases c;done))
  .omega
  .refine⟨On.2 g,c,?_⟩;simp only[AO,aS,Of];omega
  .omega
  .have q:k<(a.getD i (ByteArray.empty,0,[])).2.2.length:=by exact eV
   have b:=Mk (λx:Sj=>x.2) (a.getD i (ByteArray.empty,0,[])).2.2 (ByteArray.empty,0) q;refine⟨⟨k+1,q⟩,by simp only;omega,AC [(1,.nm 1),(11,.nm 11)] rfl rfl ?_ ?_⟩
   .simp only[b];first|exact eN|refine eM ?_
    rw[BY (by simp only[Do,Is,AAs];omega)];simp only[AA8]
   simp only[b];first|exact eN|refine eM ?_
   rfl
  .omega
  have b:(a.getD i (ByteArray.empty,0,[])).2.2.take k=(a.getD i (ByteArray.empty,0,[])).2.2:=BY (by exact eV);refine⟨⟨i+1,g⟩,by simp only;omega,AC [(1,.nm 1),(11,.nm 11)] rfl rfl ?_ ?_⟩
  .simp only[b,l];first|exact eN|refine eM ?_
  simp only[b,l];first|exact eN|refine eM ?_
 have t:i6 tp ix a i=[tp,ix]++a.flatMap kY:=by
  have b:a.take i=a:=BY (by exact eV);unfold i6;rw[b]
 have s:=λj:Nat=>IK JM 2 (cs.take j) λ_ _=>OS 2;refine AI (ι:={j:Nat//j<=cs.length}) (λj=>⟨[(1,.bp 1 [] 0),(3,.sr 11 T3 0 (i6 tp ix a i++(cs.take j.1).flatMap JM).length),(6,.p (.int .i64) (j.1:Int))],[(11,.arr 3 T3 (i6 tp ix a i++(cs.take j.1).flatMap JM)),(1,.box 41 true [.p T3 tp,.p T3 ix,.p CL m,.p JC a,.p Kh cs])]⟩) (λj=>cs.length-j.1) ⟨0,DO _⟩ (AC [(1,.nm 1),(11,.nm 11)] rfl rfl ?_ ?_) (λj=>?_)
 .first|exact eN|refine eM ?_
 .first|exact eN|refine eM ?_
 obtain⟨j,z⟩:=j;have r:=s j;simp only[Of]at r;simp only;repeat'(first|exact trivial|apply eS rfl|apply AB|refine rX d ?_ ?_|refine rC ?_ ?_<;>intro c<;>try(cases c;done))
 .refine⟨c,?_⟩;simp only[AO];omega
 .refine⟨c,?_⟩;simp only[AO];omega
 .omega
 .have o:j<cs.length:=by exact eV
  have b:(cs.take (j+1)).flatMap JM=(cs.take j).flatMap JM++[(cs.getD j (0,0)).1]++[(cs.getD j (0,0)).2]:=by
   rw[Ar cs (0,0) o,ABy];simp[JM]
  refine⟨⟨j+1,o⟩,by simp only;omega,AC [(1,.nm 1),(11,.nm 11)] rfl rfl ?_ ?_⟩
  .simp only[b];first|exact eN|refine eM ?_
   exact tk2 _ _ _ _
  simp only[b];first|exact eN|refine eM ?_
  omega
 have b:cs.take j=cs:=BY (by exact eV);have w:Ex (tp,ix,m,a,cs)=i6 tp ix a i++cs.flatMap JM:=by rw[t];rfl
 simp only[b]at *;refine CK [11] ?_;exact fI d [.tmp 2] (by rw[w];exact eR)
def Ws (e:G8):List Int:=[e.2.1]
def U6 (m:Bj):List Int:=[m.1]++m.2.2.2.1.flatMap Ws++m.2.2.2.2.flatMap JM
def A3N:AW:={ ins:=[ZY],pre:=λ(m,_)=>M6 m,out:=λ(m,_)=>[.p Bz (U6 m)] }
attribute [local go_sem] A3N
theorem A7f:AY Tryz.prog 105 A3N:=by
 refine fK [0,1,2,3,4,5,13,29] Tryz.func105 Tryz.ntmps105 AH ?_;rintro w0 O0 ⟨⟨tp,ix,e,a,cs⟩,u⟩ d-⟨-,h1,s,f⟩;have h1:a.length<=200000:=h1;have f:cs.length<=200000:=f;have r:=λj:Nat=>IK Ws 1 (a.take j) λ_ _=>OS 1;have m:=λj:Nat=>IK JM 2 (cs.take j) λ_ _=>OS 2;simp only[A3N,AK];repeat'(first|exact trivial|apply eS rfl|apply AB|refine rX d ?_ ?_|refine rC ?_ ?_<;>intro b<;>try(cases b;done))
 refine AI (ι:={i:Nat//i<=a.length}) (λi=>⟨[(1,.bp 1 [] 0),(3,.sr 8 T3 0 ([tp]++(a.take i.1).flatMap Ws).length),(4,.p (.int .i64) (i.1:Int))],[(8,.arr 3 T3 ([tp]++(a.take i.1).flatMap Ws)),(1,.box 41 true [.p T3 tp,.p T3 ix,.p CL e,.p JC a,.p Kh cs])]⟩) (λi=>a.length-i.1) ⟨0,DO _⟩ (AC [(1,.nm 1),(8,.nm 8)] rfl rfl ?_ ?_) (λi=>?_)
 .first|exact eN|refine eM ?_
 .first|exact eN|refine eM ?_
 obtain⟨i,hi⟩:=i;have o:=r i;simp only[Of]at o;simp only;repeat'(first|exact trivial|apply eS rfl|apply AB|refine rX d ?_ ?_|refine rC ?_ ?_<;>intro b<;>try(cases b;done))
 .refine⟨b,?_⟩;simp only[AO];omega
 .omega
 .have g:i<a.length:=by exact eV
  have c:(a.take (i+1)).flatMap Ws=(a.take i).flatMap Ws++[(a.getD i (ByteArray.empty,0,[])).2.1]:=by
   rw[Ar a (ByteArray.empty,0,[]) g,ABy];simp[Ws]
  refine⟨⟨i+1,g⟩,by simp only;omega,AC [(1,.nm 1),(8,.nm 8)] rfl rfl ?_ ?_⟩
  .simp only[c];first|exact eN|refine eM ?_
  simp only[c];first|exact eN|refine eM ?_
 have n:a.take i=a:=BY (by exact eV);simp only[n]at *;generalize k:a.flatMap Ws=A at *;refine AI (ι:={j:Nat//j<=cs.length}) (λj=>⟨[(1,.bp 1 [] 0),(3,.sr 8 T3 0 ([tp]++A++(cs.take j.1).flatMap JM).length),(5,.p (.int .i64) (j.1:Int))],[(8,.arr 3 T3 ([tp]++A++(cs.take j.1).flatMap JM)),(1,.box 41 true [.p T3 tp,.p T3 ix,.p CL e,.p JC a,.p Kh cs])]⟩) (λj=>cs.length-j.1) ⟨0,DO _⟩ (AC [(1,.nm 1),(8,.nm 8)] rfl rfl ?_ ?_) (λj=>?_)
 .first|exact eN|refine eM ?_
 .first|exact eN|refine eM ?_
 obtain⟨j,t⟩:=j;have l:=m j;simp only[Of]at l;simp only;repeat'(first|exact trivial|apply eS rfl|apply AB|refine rX d ?_ ?_|refine rC ?_ ?_<;>intro b<;>try(cases b;done))
 .refine⟨b,?_⟩;simp only[AO];omega
 .refine⟨b,?_⟩;simp only[AO];omega
 .omega
 .have h:j<cs.length:=by exact eV
  have c:(cs.take (j+1)).flatMap JM=(cs.take j).flatMap JM++[(cs.getD j (0,0)).1]++[(cs.getD j (0,0)).2]:=by
   rw[Ar cs (0,0) h,ABy];simp[JM]
  refine⟨⟨j+1,h⟩,by simp only;omega,AC [(1,.nm 1),(8,.nm 8)] rfl rfl ?_ ?_⟩
  .simp only[c];first|exact eN|refine eM ?_
   exact AB3 (tp :: ·) (tk2 A _ _ _)
  simp only[c];first|exact eN|refine eM ?_
  rfl
 have c:cs.take j=cs:=BY (by exact eV);have q:U6 (tp,ix,e,a,cs)=[tp]++A++cs.flatMap JM:=by rw[<-k];rfl
 simp only[c]at *;refine CK [8] ?_;exact fI d [.tmp 2] (by rw[q];exact eR)
def Ej (out:List Int) (x:Int):List Int:=if o5 out x<0 then out++[x] else out
def fsL (l:List Int):List Int:=l.foldl Ej []
def fsS:AW:={ ins:=[ZY],pre:=λ(m,_)=>M6 m,out:=λ(m,_)=>[.p Bz (fsL (Ex m))] }
attribute [local go_sem] fsS
theorem Zn {m:Bj} (h:M6 m):(Ex m).length<=20000600002:=by
 obtain⟨-,h1,a,b⟩:=h;have e:Ex m=i6 m.1 m.2.1 m.2.2.2.1 m.2.2.2.1.length++m.2.2.2.2.flatMap JM:=by simp[Ex,i6]
 have c:=o6 (tp:=m.1) (ix:=m.2.1) h1 a m.2.2.2.1.length;have d:=IK JM 2 m.2.2.2.2 λ_ _=>OS 2;rw[e,Do];omega
theorem eD {α:Type} (g:X->α->X) (l:List α) (d:α) (b:X) (h:k<l.length):(l.take (k+1)).foldl g b=g ((l.take k).foldl g b) (l.getD k d):=by
 rw[Ar l d h,ABt];rfl
theorem A0p (l:List Int):∀(out:List Int),(l.foldl Ej out).length<=out.length+l.length:=by
 induction l with
 | nil=>intro out;simp
 | cons x l a =>
  intro out;have h1:=a (Ej out x);have b:(Ej out x).length<=out.length+1:=by
   unfold Ej;split<;>simp
  simp only[OR,Is];omega
theorem A9g:AY Tryz.prog 62 fsS:=by
 refine fK [0,1,2,3,4,5,12,21] Tryz.func62 Tryz.ntmps62 (AE A0n (AE U5 AH)) ?_;rintro w0 O0 ⟨m,u⟩ e-d;have d:M6 m:=d;have n:=Zn d;simp only[fsS,AK];repeat'(first|exact trivial|apply eS rfl|apply AB|refine rX e ?_ ?_|refine rC ?_ ?_<;>intro b<;>try(cases b;done))
 .exact d
 have g:(m.1,m.2.1,m.2.2.1,m.2.2.2.1,m.2.2.2.2)=m:=rfl;simp only[g]at *;generalize Ex m=l at *;refine AI (ι:={i:Nat//i<=l.length}) (λi=>⟨[(3,.p Bz l),(4,.sr 8 T3 0 ((l.take i.1).foldl Ej []).length),(5,.p (.int .i64) (i.1:Int))],[(8,.arr 3 T3 ((l.take i.1).foldl Ej []))]⟩) (λi=>l.length-i.1) ⟨0,DO _⟩ (AC [(8,.nm 8)] rfl rfl ?_ ?_) (λi=>?_)
 .first|exact eN|refine eM ?_
  rfl
 .first|exact eN|refine eM ?_
  rfl
 obtain⟨i,hi⟩:=i;have j:=A0p (l.take i) [];simp only[Of,AAs]at j;have a:=λh:i<l.length=>eD Ej l 0 [] h;generalize f:(l.take i).foldl Ej []=A at *;simp only;repeat'(first|exact trivial|apply eS rfl|apply AB|refine rX e ?_ ?_|refine rC ?_ ?_<;>intro b<;>try(cases b;done))
 .exact b
 .refine⟨by assumption,?_⟩;simp only[AO];omega
 .omega
 .have c:i<l.length:=by exact eV
  have a:=(a c).trans (At b);refine⟨⟨i+1,c⟩,by simp only;omega,AC [(8,.nm 8)] rfl rfl ?_ ?_⟩
  .simp only[a];first|exact eN|refine eM ?_
  simp only[a];first|exact eN|refine eM ?_
 .omega
 .have c:i<l.length:=by exact eV
  have a:=(a c).trans (As (AAW.2 b));refine⟨⟨i+1,c⟩,by simp only;omega,AC [(8,.nm 8)] rfl rfl ?_ ?_⟩
  .simp only[a];first|exact eN|refine eM ?_
  simp only[a];first|exact eN|refine eM ?_
 have k:fsL l=A:=by rw[<-f,BY (by exact eV)];rfl
 refine CK [8] ?_;exact fI e [.tmp 2] (by rw[k];exact eR)
end
section
attribute [local go_sem] JK JL A3M A3N fsS Xi PU KD IJ
def BC {β:Type} (g:Nat->Option β) (d:β):Nat->Nat->β
 | 0,_=>d
 | k+1,i=>match g i with
  | some r=>r
  | none=>BC g d k (i+1)
theorem CW {a:Type} {g:Nat->Option a} {d r s:a} {n:Nat} (h:BC g d (n-i) i=s) (hi:i<n) (b:g i=some r):s=r:=by
 rw[show n-i=(n-(i+1))+1 by omega]at h;rw[<-h,BC,b]
theorem DA {a:Type} {g:Nat->Option a} {d s:a} {n:Nat} (h:BC g d (n-i) i=s) (hi:i<n) (b:g i=none):BC g d (n-(i+1)) (i+1)=s:=by
 rw[show n-i=(n-(i+1))+1 by omega]at h;rw[<-h,BC,b]
theorem Dv {g:Nat->Option Z} {d s:Z} {n:Nat} (h:BC g d (n-i) i=s) (hi:n<=i):s=d:=by
 rw[show n-i=0 by omega]at h;exact h.symm
theorem JN {c:Type} {g:Nat->Option c} {d:c} (b:∀i r,g i=some r->r≠d):∀k i,BC g d k i=d->∀j,i<=j->j<i+k->g j=none
 | 0,i,_,j,h1,f=>by omega
 | k+1,i,h,j,h1,f=>by
  cases a:g i with
  | some r=>rw[BC,a]at h;exact absurd h (b i r a)
  | none =>
   rw[BC,a]at h;by_cases e:j=i
   .rw[e];exact a
   exact JN b k (i+1) h j O1 O1
def A0q (xs:List Sj) (i:Nat):Option Int :=
 if BM (xs.getD i (ByteArray.empty,0)).1 true=false\/AM (xs.getD i (ByteArray.empty,0)).1 ⟨#[76,65,66,69,76]⟩=true then some 1
 else if 0<(i:Int)/\(CJ (xs.getD i (ByteArray.empty,0)).1 (xs.getD (i-1) (ByteArray.empty,0)).1=true\/AM (xs.getD i (ByteArray.empty,0)).1 (xs.getD (i-1) (ByteArray.empty,0)).1=true) then some 3 else none
def eF (e:G8):Int:=if BM e.1 false=true then BC (A0q e.2.2) 0 e.2.2.length 0 else 1
def A7g:AW:={ ins:=[T54],pre:=λ_=>True,out:=λ(e,_)=>[.p C0 (eF e)],lend:=true }
attribute [local go_sem] A7g
theorem A7h:AY Tryz.prog 103 A7g:=by
 refine fK [0,1,2,3,7,12,31,49] Tryz.func103 Tryz.ntmps103 (AE oV (AE Uw AH)) ?_;rintro w0 O0 ⟨⟨e,f,xs⟩,u⟩ b ⟨⟨-,-,g,-⟩,-⟩ -;simp only[AO]at g;simp only[A7g,AK];repeat'(first|exact trivial|apply eS rfl|apply AB|refine rX b ?_ ?_|refine rC ?_ ?_<;>intro a<;>try(cases a;done))
 .have h:eF (e,f,xs)=1:=As (by rw[a];simp);exact fI b [.tmp 2] (by rw[h];exact eR)
 have hn:BM e false=true:=a;refine AI (ι:={i:Nat//i<=xs.length/\BC (A0q xs) 0 (xs.length-i) i=eF (e,f,xs)}) (λi=>⟨[(1,.bp 1 [] 0),(3,.p (.int .i64) (i.1:Int))],[(1,.box 54 true [.p T9 e,.p T3 f,.p T52 xs])]⟩) (λi=>xs.length-i.1) ⟨0,DO _,(At hn).symm⟩ (AC [(1,.nm 1)] rfl rfl ?_ ?_) (λi=>?_)
 .first|exact eN|refine eM ?_
 .first|exact eN|refine eM ?_
 obtain⟨i,hi,d⟩:=i;have h1:((i:Int)-1).toNat=i-1:=by omega
 simp only;repeat'(first|exact trivial|apply eS rfl|apply AB|refine rX b ?_ ?_|refine rC ?_ ?_<;>intro a<;>try(cases a;done))
 all_goals try simp only[h1]at a
 .exact⟨a,λ_=>a⟩
 .rw[CW d (by exact eV) (At a)];exact fI b [.tmp 2]
 .exact⟨λ_=>by exact eV,λ_=>by exact eV,λ_=>by exact eV⟩
 .rename_i c;rw[CW d (by exact eV) ((As (by rw[c.1,c.2];simp)).trans (At a))];exact fI b [.tmp 2]
 .omega
 .rename_i c;refine⟨⟨i+1,by exact eV,DA d (by exact eV) ((As (by rw[c.1,c.2];simp)).trans (As λq=>?_))⟩,by simp only;omega,AC [(1,.nm 1)] rfl rfl ?_ ?_⟩
  .obtain⟨j,k⟩:=a q.1;rw[j,k]at q;simp at q
  .first|exact eN|refine eM ?_
  first|exact eN|refine eM ?_
 rw[Dv d (by exact eV)];exact fI b [.tmp 2]
def t5 (a:List ByteArray) (i:Nat):Option Int:=if Zm (a.getD i ByteArray.empty)=true then none else some 1
def eG (a:List G8) (i:Nat):Option Int:=if eF (a.getD i (ByteArray.empty,0,[]))=0 then none else some (eF (a.getD i (ByteArray.empty,0,[])))
def kZ (n:Int) (l:List Int) (i:Nat):Option Int:=if l.getD i 0<0\/n<=l.getD i 0 then some 2 else none
def A3O (a:List ByteArray) (l:List Int) (i:Nat):Option Int:=if AM (a.getD (l.getD i 0).toNat ByteArray.empty) ⟨#[104]⟩=true then none else some 2
def Fa (m:Bj):Int :=
 if 16<(m.2.2.2.1.length:Int)\/16<(m.2.2.2.2.length:Int)\/256<(m.2.2.1.length:Int) then 7
 else if BC (t5 m.2.2.1) 0 m.2.2.1.length 0≠0 then 1
 else if BC (eG m.2.2.2.1) 0 m.2.2.2.1.length 0≠0 then BC (eG m.2.2.2.1) 0 m.2.2.2.1.length 0
 else if BC (kZ m.2.2.1.length (Ex m)) 0 (Ex m).length 0≠0 then 2
 else BC (A3O m.2.2.1 (U6 m)) 0 (U6 m).length 0
def k5:AW:={ ins:=[ZY],pre:=λ(m,_)=>M6 m,out:=λ(m,_)=>[.p C0 (Fa m)] }
theorem A3P (m:Bj):∀x∈U6 m,x∈Ex m:=by
 intro x a;simp only[U6,Ex,NO,ABo,GO,Ws,kY]at a ⊢;rcases a with (a|⟨e,b,a⟩)|a
 .exact .inl (.inl (.inl (by simpa using a)))
 .exact .inl (.inr ⟨e,b,.inl (by simpa using a)⟩)
 exact .inr a
theorem o7 {l:List Int} (h:BC (kZ n l) 0 l.length 0=0):∀x∈l,0<=x/\x<n:=by
 intro x c;obtain⟨j,b,rfl⟩:=AAy.1 c;have h1:=JN (λi r a=>by unfold kZ at a;split at a<;>cases a;decide) _ 0 h j (DO _) O1;unfold kZ at h1;split at h1
 .cases h1
 rename_i q;have e:l.getD j 0=l[j]:=by simp[AS,b]
 rw[e]at q;omega
theorem A0r:AY Tryz.prog 61 k5:=by
 refine fK [0,1,2,3,4,5,6,7,8,9,25,30,39,44,54,61,78,84,95] Tryz.func61 Tryz.ntmps61 (AE A0n (AE A7f (AE SC (AE A7h AH)))) ?_;rintro w0 O0 ⟨⟨tp,ix,a,b,cs⟩,u⟩ e ⟨⟨-,-,⟨h0,-⟩,-,-⟩,-⟩ g;have g:M6 (tp,ix,a,b,cs):=g;obtain⟨-,h1,A,m⟩:=id g;simp only[AO]at h0;have h1:b.length<=200000:=h1;have m:cs.length<=200000:=m;have k:Fa (tp,ix,a,b,cs)=if 16<(b.length:Int)\/16<(cs.length:Int)\/256<(a.length:Int) then 7 else if BC (t5 a) 0 a.length 0≠0 then 1 else if BC (eG b) 0 b.length 0≠0 then BC (eG b) 0 b.length 0
  else if BC (kZ a.length (Ex (tp,ix,a,b,cs))) 0 (Ex (tp,ix,a,b,cs)).length 0≠0 then 2 else BC (A3O a (U6 (tp,ix,a,b,cs))) 0 (U6 (tp,ix,a,b,cs)).length 0:=rfl
 have F:=Zn g;have B:(U6 (tp,ix,a,b,cs)).length<=600001:=by
  have I:=IK Ws 1 b λ_ _=>OS 1;have J:=IK JM 2 cs λ_ _=>OS 2;simp only[U6,Do,Is,AAs];omega
 simp only[k5,AK];repeat'(first|exact trivial|apply eS rfl|apply AB|refine rX e ?_ ?_|refine rC ?_ ?_<;>intro c<;>try(cases c;done))
 .rw[k,At O1];exact fI e [.tmp 2]
 rw[k,As O1];clear k;generalize t:BC (t5 a) 0 a.length 0=V;generalize s:BC (eG b) 0 b.length 0=R;generalize r:Ex (tp,ix,a,b,cs)=ol at *;generalize o:U6 (tp,ix,a,b,cs)=f at *;have y:∀x∈f,x∈ol:=by rw[<-r,<-o];exact A3P _
 generalize h:BC (kZ a.length ol) 0 ol.length 0=C;generalize v:BC (A3O a f) 0 f.length 0=H;refine AI (ι:={i:Nat//i<=a.length/\BC (t5 a) 0 (a.length-i) i=V}) (λi=>⟨[(1,.bp 1 [] 0),(3,.p (.int .i64) (i.1:Int))],[(1,.box 41 true [.p T3 tp,.p T3 ix,.p CL a,.p JC b,.p Kh cs])]⟩) (λi=>a.length-i.1) ⟨0,DO _,t⟩ (AC [(1,.nm 1)] rfl rfl ?_ ?_) (λi=>?_)
 .first|exact eN|refine eM ?_
 .first|exact eN|refine eM ?_
 obtain⟨i,hi,d⟩:=i;simp only;repeat'(first|exact trivial|apply eS rfl|apply AB|refine rX e ?_ ?_|refine rC ?_ ?_<;>intro c<;>try(cases c;done))
 .exact c
 .rw[CW d (by exact eV) (As (by rw[c];simp)),At dg];exact fI e [.tmp 2]
 .omega
 .refine⟨⟨i+1,by exact eV,DA d (by exact eV) (At c)⟩,by simp only;omega,AC [(1,.nm 1)] rfl rfl ?_ ?_⟩
  .first|exact eN|refine eM ?_
  first|exact eN|refine eM ?_
 rw[Dv d (by exact eV),As dg];clear t d;refine AI (ι:={j:Nat//j<=b.length/\BC (eG b) 0 (b.length-j) j=R}) (λj=>⟨[(1,.bp 1 [] 0),(4,.p (.int .i64) (j.1:Int))],[(1,.box 41 true [.p T3 tp,.p T3 ix,.p CL a,.p JC b,.p Kh cs])]⟩) (λj=>b.length-j.1) ⟨0,DO _,s⟩ (AC [(1,.nm 1)] rfl rfl ?_ ?_) (λj=>?_)
 .first|exact eN|refine eM ?_
 .first|exact eN|refine eM ?_
 obtain⟨j,D,d⟩:=j;simp only;repeat'(first|exact trivial|apply eS rfl|apply AB|refine rX e ?_ ?_|refine rC ?_ ?_<;>intro c<;>try(cases c;done))
 .exact c
 .rw[CW d (by exact eV) (As c),At c];exact fI e [.tmp 2]
 .omega
 .refine⟨⟨j+1,by exact eV,DA d (by exact eV) (At (by simpa using c))⟩,by simp only;omega,AC [(1,.nm 1)] rfl rfl ?_ ?_⟩
  .first|exact eN|refine eM ?_
  first|exact eN|refine eM ?_
 .exact g
 simp only[r]at *;rw[Dv d (by exact eV),As dg];clear s d;refine AI (ι:={l:Nat//l<=ol.length/\BC (kZ a.length ol) 0 (ol.length-l) l=C}) (λl=>⟨[(1,.bp 1 [] 0),(6,.p Bz ol),(7,.p (.int .i64) (l.1:Int))],[(1,.box 41 true [.p T3 tp,.p T3 ix,.p CL a,.p JC b,.p Kh cs])]⟩) (λl=>ol.length-l.1) ⟨0,DO _,h⟩ (AC [(1,.nm 1)] rfl rfl ?_ ?_) (λl=>?_)
 .first|exact eN|refine eM ?_
 .first|exact eN|refine eM ?_
 obtain⟨l,E,d⟩:=l;simp only;repeat'(first|exact trivial|apply eS rfl|apply AB|refine rX e ?_ ?_|refine rC ?_ ?_<;>intro c<;>try(cases c;done))
 .exact⟨c,λ_=>c⟩
 .rw[CW d (by exact eV) (At c),At dg];exact fI e [.tmp 2]
 .omega
 .refine⟨⟨l+1,by exact eV,DA d (by exact eV) (As O1)⟩,by simp only;omega,AC [(1,.nm 1)] rfl rfl ?_ ?_⟩
  .first|exact eN|refine eM ?_
  first|exact eN|refine eM ?_
 .exact g
 have n:=Dv d (by exact eV);rw[n,As dg];have w:∀x∈f,0<=x/\x<(a.length:Int):=λx z=>o7 (h.trans n) x (y x z);simp only[o]at *;clear d h;refine AI (ι:={q:Nat//q<=f.length/\BC (A3O a f) 0 (f.length-q) q=H}) (λq=>⟨[(1,.bp 1 [] 0),(8,.p Bz f),(9,.p (.int .i64) (q.1:Int))],[(1,.box 41 true [.p T3 tp,.p T3 ix,.p CL a,.p JC b,.p Kh cs])]⟩) (λq=>f.length-q.1) ⟨0,DO _,v⟩ (AC [(1,.nm 1)] rfl rfl ?_ ?_) (λq=>?_)
 .first|exact eN|refine eM ?_
 .first|exact eN|refine eM ?_
 obtain⟨q,G,d⟩:=q;simp only;repeat'(first|exact trivial|apply eS rfl|apply AB|refine rX e ?_ ?_|refine rC ?_ ?_<;>intro c<;>try(cases c;done))
 .refine⟨c,w _ ?_⟩;exact AG f 0 (by exact eV)
 .rw[CW d (by exact eV) (As (by rw[c];simp))];exact fI e [.tmp 2]
 .omega
 .refine⟨⟨q+1,by exact eV,DA d (by exact eV) (At c)⟩,by simp only;omega,AC [(1,.nm 1)] rfl rfl ?_ ?_⟩
  .first|exact eN|refine eM ?_
  first|exact eN|refine eM ?_
 rw[Dv d (by exact eV)];exact fI e [.tmp 2]
end
section
attribute [local go_sem] JK fsS k5 KD IJ
def A3Q (l:List Int) (i:Nat):Option Int:=if l.getD i 0=i then none else some 3
def OA (m:Bj):Int:=if Fa m≠0 then Fa m else if (fsL (Ex m)).length≠m.2.2.1.length then 3 else BC (A3Q (fsL (Ex m))) 0 (fsL (Ex m)).length 0
def Qy:AW:={ ins:=[ZY],pre:=λ(m,_)=>M6 m,out:=λ(m,_)=>[.p C0 (OA m)] }
theorem eH:AY Tryz.prog 26 Qy:=by
 refine fK [0,1,2,3,4,5,9,18,22,30] Tryz.func26 Tryz.ntmps26 (AE A0r (AE A9g AH)) ?_;rintro w0 O0 ⟨m,u⟩ c-e;have e:M6 m:=e;have k:=Zn e;have j:=A0p (Ex m) [];have f:OA m=if Fa m≠0 then Fa m else if (fsL (Ex m)).length≠m.2.2.1.length then 3 else BC (A3Q (fsL (Ex m))) 0 (fsL (Ex m)).length 0:=rfl
 have d:(m.1,m.2.1,m.2.2.1,m.2.2.2.1,m.2.2.2.2)=m:=rfl;have h:(Ex m).foldl Ej []=fsL (Ex m):=rfl;simp only[h,AAs]at j;simp only[Qy,AK];repeat'(first|exact trivial|apply eS rfl|apply AB|refine rX c ?_ ?_|refine rC ?_ ?_<;>intro a<;>try(cases a;done))
 all_goals try simp only[d]at *
 .exact e
 .rw[f,At a];exact fI c [.tmp 2]
 .exact e
 .rename_i b;have b:Fa m=0:=by simpa using b
  rw[f,As (by rw[b];simp),At (by exact eV)];exact fI c [.tmp 2]
 rename_i b;have b:Fa m=0:=by simpa using b
 have hn:((fsL (Ex m)).length:Int)=(m.2.2.1.length:Int):=by simpa using a
 rw[f,As (by rw[b];simp),As O1];clear f;generalize fsL (Ex m)=l at *;generalize g:BC (A3Q l) 0 l.length 0=S;refine AI (ι:={i:Nat//i<=l.length/\BC (A3Q l) 0 (l.length-i) i=S}) (λi=>⟨[(4,.p Bz l),(5,.p (.int .i64) (i.1:Int))],[]⟩) (λi=>l.length-i.1) ⟨0,DO _,g⟩ (eW []) (λi=>?_)
 obtain⟨i,hi,d⟩:=i;simp only;repeat'(first|exact trivial|apply eS rfl|apply AB|refine rX c ?_ ?_|refine rC ?_ ?_<;>intro a<;>try(cases a;done))
 .exact a
 .rw[CW d (by exact eV) (As a)];exact fI c [.tmp 2]
 .omega
 .exact⟨⟨i+1,by exact eV,DA d (by exact eV) (At (by simpa using a))⟩,by simp only;omega,eW []⟩
 rw[Dv d (by exact eV)];exact fI c [.tmp 2]
end
def BE (b:List Int) (i:Nat):Bool:=(b.getD (i / 64) 0).toNat.testBit (i % 64)
def U64 (x:Int):Prop:=0<=x/\x<18446744073709551616
theorem FF {x:Int} (h:U64 x):(BitVec.ofInt 64 x).toNat=x.toNat:=by
 rw[BitVec.toNat_ofInt];have h1:=h.1;have a:=h.2;rw[Int.emod_eq_of_lt h1 (by simpa using a)]
theorem Pf {n:Nat} (h:n<18446744073709551616):IntKind.u64.wrap (n:Int)=n:=Ju (by rw[J0];omega)
theorem A3R {x:Int} (a:U64 x) (b:U64 y):Cl .or .u64 x y=((x.toNat ||| y.toNat:Nat):Int):=by
 have h1:(BitVec.ofInt IntKind.u64.bits x ||| BitVec.ofInt IntKind.u64.bits y).toNat=x.toNat ||| y.toNat:=by
  rw[BitVec.toNat_or];show (BitVec.ofInt 64 x).toNat ||| (BitVec.ofInt 64 y).toNat=_
  rw[FF a,FF b]
 unfold Cl;simp only;rw[h1];have e:(18446744073709551616:Nat)=2 ^ 64:=by decide
 refine Pf ?_;rw[e];refine Nat.or_lt_two_pow ?_ ?_
 .have:=a.2;have:=a.1;omega
 have:=b.2;have:=b.1;omega
theorem Hj {x:Int} (a:U64 x) (b:U64 y):Cl .and .u64 x y=((x.toNat &&& y.toNat:Nat):Int):=by
 have h1:(BitVec.ofInt IntKind.u64.bits x &&& BitVec.ofInt IntKind.u64.bits y).toNat=x.toNat &&& y.toNat:=by
  rw[BitVec.toNat_and];show (BitVec.ofInt 64 x).toNat &&& (BitVec.ofInt 64 y).toNat=_;rw[FF a,FF b]
 unfold Cl;simp only;rw[h1];refine Pf (ACv ACr ?_);have:=a.2;have:=a.1;omega
theorem Qz {x:Int}:Cl .andNot .u64 x y=((BitVec.ofInt 64 x &&& ~~~BitVec.ofInt 64 y).toNat:Int):=by
 show IntKind.u64.wrap ((BitVec.ofInt 64 x &&& ~~~BitVec.ofInt 64 y).toNat:Int)=_;exact Pf (BitVec.isLt _)
theorem SD {x:Int} (d:U64 x) (e:U64 y) (h:Cl .andNot .u64 x y=0) {r:Nat} (c:r<64) (b:x.toNat.testBit r=true):y.toNat.testBit r=true:=by
 rw[Qz]at h;have h1:(BitVec.ofInt 64 x &&& ~~~BitVec.ofInt 64 y).toNat=0:=by omega
 have a:(BitVec.ofInt 64 x &&& ~~~BitVec.ofInt 64 y).toNat.testBit r=false:=by rw[h1];exact Nat.zero_testBit r
 rw[ABI,BitVec.getLsbD_and,BitVec.getLsbD_not,<-ABI,<-ABI,FF d,FF e,b]at a;simpa[c] using a
theorem SE {x:Int}:Cl .andNot .u64 x x=0:=by
 rw[Qz];simp
theorem OB {b:List Int}:∀ {n:Nat},∀k,Cb b n<=k->k<n->b.getD k 0=0
 | 0,k,_,h=>by omega
 | n+1,k,h1,c=>by
  unfold Cb at h1;split at h1
  .rename_i a;by_cases hk:k=n
   .rw[hk];exact a
   exact OB k h1 O1
  omega
theorem Pg (b:List Int) (k:Nat):(BN b).getD k 0=b.getD k 0:=by
 unfold BN;by_cases h:k<Cb b b.length
 .simp[AS,AAj,h]
 have h1:(List.take (Cb b b.length) b).getD k 0=0:=by
  rw[AS,AAj,As h];rfl
 rw[h1];by_cases a:k<b.length
 .exact(OB k O1 a).symm
 rw[AS,oF O1];rfl
theorem OC (b:List Int) (i:Nat):BE (BN b) i=BE b i:=by unfold BE;rw[Pg]
def Hk (b:List Int):Prop:=∀x∈b,U64 x
theorem BJ {b:List Int} (h:Hk b) (k:Nat):U64 (b.getD k 0):=by
 rw[AS];cases hh:b[k]? with
 | none=>exact⟨by simp,by simp⟩
 | some x=>exact h x (AAF hh)
theorem OD {b:List Int} (h:Hk b):Hk (BN b):=λx a=>h x (AAx a)
theorem HK (b:List Int) (k:Nat):Fq b (k:Int)=b.getD k 0:=by
 unfold Fq;split
 .simp
 rename_i h;rw[AS,oF O1];rfl
theorem Ml (op:BinOp) (a b:List Int) {n k:Nat} (h:k<n):(F8 op a b n).getD k 0=Cl op .u64 (a.getD k 0) (b.getD k 0):=by
 unfold F8;rw[AS,AAD,ABx h];show Cl op .u64 (a.getD k 0) (Fq b (k:Int))=_;rw[HK]
theorem Zo (h:Eb a b=true) (hk:k<a.length):Cl .andNot .u64 (a.getD k 0) (b.getD k 0)=0:=by
 unfold Eb Qt BN at h;have h1:(List.take (Cb (F8 .andNot a b a.length) (F8 .andNot a b a.length).length) (F8 .andNot a b a.length)).length=0:=by
  have:=AAb.1 h;omega
 rw[Of,ER]at h1;have d:=Ux (F8 .andNot a b a.length) a.length;have c:=OB (b:=F8 .andNot a b a.length) (n:=a.length) k O1 hk;rw[Ml _ _ _ hk]at c;exact c
theorem Ln (ha:Hk a) (c:Hk b) (h:Eb a b=true) {i:Nat} (hi:BE a i=true):BE b i=true:=by
 by_cases hk:i / 64<a.length
 .exact SD (BJ ha _) (BJ c _) (Zo h hk) (ACW _ dg) hi
 exfalso;unfold BE at hi;rw[AS,oF O1]at hi;simp at hi
theorem Q0 {b:List Int}:∀ {n:Nat},(∀k,k<n->b.getD k 0=0)->Cb b n=0
 | 0,_=>rfl
 | n+1,h=>by
  unfold Cb;rw[At (h n O1)];exact Q0 λk hk=>h k O1
theorem eI (a:List Int):Eb a a=true:=by
 unfold Eb Qt BN;have h1:Cb (F8 .andNot a a a.length) (F8 .andNot a a a.length).length=0:=by
  rw[ER];exact Q0 λk hk=>by rw[Ml _ _ _ hk];exact SE
 rw[h1];rfl
theorem eJ (a:List Int):DF a a=true:=by unfold DF;rw[eI];rfl
theorem A3S {b:List Int} (j:Hk b) (l:b.length=64) {x:Int} (h0:0<=x) (h1:x<=4095) (i:Nat):BE (tX b x) i=(BE b i||decide (x=(i:Int))):=by
 have d:Int.tdiv x 64=x / 64:=ABe h0;have e:Int.tmod x 64=x % 64:=ABz h0;obtain⟨n,rfl⟩:∃n:Nat,x=(n:Int):=⟨x.toNat,by omega⟩;have hs:Y2 .u64 1 ((n:Int) % 64)=((2 ^ (n % 64):Nat):Int):=by
  unfold Y2;have f:min ((n:Int) % 64).toNat IntKind.u64.bits=n % 64:=by
   have:((n:Int) % 64).toNat=n % 64:=by omega
   rw[this];have:IntKind.u64.bits=64:=rfl;omega
  rw[f,Int.one_mul];have:(2:Int) ^ (n % 64)=((2 ^ (n % 64):Nat):Int):=by simp
  rw[this];refine Pf ?_;have a:(2:Nat) ^ (n % 64)<2 ^ 64:=Nat.pow_lt_pow_right dg (ACW _ dg);exact a
 have hu:U64 (Y2 .u64 1 ((n:Int) % 64)):=by
  rw[hs];have a:(2:Nat) ^ (n % 64)<2 ^ 64:=Nat.pow_lt_pow_right dg (ACW _ dg);have g:(2:Nat) ^ 64=18446744073709551616:=by decide
  refine⟨AAE _,?_⟩;rw[g]at a;exact On.2 a
 have hn:((n:Int) / 64).toNat=n / 64:=by omega
 unfold tX BE;rw[d,e,hn];by_cases c:i / 64=n / 64
 .have k:n / 64<b.length:=by omega
  rw[c];have:(b.set (n / 64) (Cl .or .u64 (b.getD (n / 64) 0) (Y2 .u64 1 ((n:Int) % 64)))).getD (n / 64) 0=Cl .or .u64 (b.getD (n / 64) 0) (Y2 .u64 1 ((n:Int) % 64)):=by
   simp[AS,k]
  rw[this,A3R (BJ j _) hu,hs];simp only[gO,Nat.testBit_or,Nat.testBit_two_pow]
  congr 1
  rw[decide_eq_decide];omega
 have:(b.set (n / 64) (Cl .or .u64 (b.getD (n / 64) 0) (Y2 .u64 1 ((n:Int) % 64)))).getD (i / 64) 0=b.getD (i / 64) 0:=by
  simp[AS,AAU,Ne.symm c]
 rw[this];have:decide ((n:Int)=(i:Int))=false:=by
  rw[To];intro h;exact c O1
 rw[this,AC8]
theorem A3T {b:List Int} (c:Hk b) (x:Int):Hk (tX b x):=by
 intro y a;unfold tX at a;rcases AB5 a with h|h
 .exact c y h
 rw[h];have:=MU .u64 ((BitVec.ofInt IntKind.u64.bits (b.getD (x.tdiv 64).toNat 0) ||| BitVec.ofInt IntKind.u64.bits (Y2 .u64 1 (x.tmod 64))).toNat:Int);rw[J0]at this;exact⟨this.1,by have:=this.2;show _<_;exact ACF this dg⟩
theorem A3U {l:List Int} (h:l.all okB=true) (i:Nat):BE (wJ l) i=decide ((i:Int)∈l)/\Hk (wJ l):=by
 have key:∀(l b:List Int),l.all okB=true->Hk b->b.length=64->BE (l.foldl tX b) i=(BE b i||decide ((i:Int)∈l))/\Hk (l.foldl tX b):=by
  intro l;induction l with
  | nil=>intro b _ a _;simp[a]
  | cons x l m =>
   intro b c a d;rw[ABr,An]at c;have e:=c.1;unfold okB at e;rw[TO,AAr,To,To]at e;obtain⟨f,g⟩:=m (tX b x) c.2 (A3T a x) (by simp[tX,d]);rw[OR];refine⟨?_,g⟩;rw[f,A3S a d O1 O1,Bool.or_assoc]
   congr 1
   rw[<-Bool.decide_or,decide_eq_decide,GO,eq_comm]
 have j:Hk (List.replicate 64 (0:Int)):=by
  intro y k;rw[(ACA.1 k).2];exact⟨by decide,by decide⟩
 have h1:=key l (List.replicate 64 0) h j sc;refine⟨?_,h1.2⟩;unfold wJ;rw[h1.1];have:BE (List.replicate 64 (0:Int)) i=false:=by
  unfold BE;have:(List.replicate 64 (0:Int)).getD (i / 64) 0=0:=by
   rw[AS,ABa];split<;>rfl
  rw[this];simp
 rw[this,Bool.false_or]
theorem A0t {low all:List ByteArray} {n:Nat}:((i:Int)∈N9 low all n)↔i<n/\AU low (all.getD i ByteArray.empty)=true:=by
 unfold N9;rw[IS];constructor
 .rintro⟨j,a,e⟩;have:j=i:=by omega
  subst this;rw[AB6,wH]at a;exact a
 rintro⟨h1,b⟩;exact⟨i,by rw[AB6,wH];exact⟨h1,b⟩,rfl⟩
theorem A3V {low all:List ByteArray} {n:Nat} (hn:n<=4096):(N9 low all n).all okB=true:=by
 rw[OF];intro x a;unfold N9 at a;obtain⟨j,b,rfl⟩:=IS.1 a;rw[AB6,wH]at b;unfold okB;rw[TO,AAr,To,To];exact⟨by omega,by omega⟩
theorem B4 {d:List AJ} {all:List ByteArray} (c:all.length<=4096) (s:ByteArray) (i:Nat):(BE (ET d all s) i=true↔i<all.length/\AU (Cj d s) (all.getD i ByteArray.empty)=true)/\Hk (ET d all s)/\(ET d all s).length<=64:=by
 have h1:=A3V (low:=Cj d s) (all:=all) c;have b:=A3U h1 i;have a:ET d all s=BN (wJ (N9 (Cj d s) all all.length)):=by
  unfold ET ofF;rw[At h1]
 refine⟨?_,?_,?_⟩
 .rw[a,OC,b.1,IN,A0t]
 .rw[a];exact OD b.2
 rw[a];unfold BN;have:=Pc (N9 (Cj d s) all all.length);rw[Of];omega
theorem IL (d:List AJ) {t:ByteArray} (h:AM s t=true):Ao d s=Ao d t:=by
 have key:∀(l:List AJ) (k:Nat),Cs s k l=Cs t k l:=by
  intro l;induction l with
  | nil=>intro k;rfl
  | cons x l a =>
   intro k;simp only[Cs];have:AM x.1 s=AM x.1 t:=by grind [AM,BI,Bp]
   rw[this,a]
 exact key d 0
theorem Aq {α:Type} {l:List α} {d:α} (h:k<l.length):l.getD k d∈l:=by grind
theorem B5 {α:Type} {l:List α} (d:α) {x:α} (h:x∈l):∃k,k<l.length/\l.getD k d=x:=by
 obtain⟨k,hk,e⟩:=AAy.1 h;exact⟨k,hk,by rw[AS,AT hk];exact e⟩
theorem IM {d:List AJ}:∀ {r:List AJ} {k:Nat},N7 d k r=0->∀j,j<r.length->¬Ao d (r.getD j d0).1<((k+j:Nat):Int)/\BM (r.getD j d0).1 false=true
 | [],_,_,j,a=>by simp at a
 | x :: r,k,h,j,a=>by
  simp only[N7]at h;split at h
  .cases h
  rename_i h1;split at h
  .cases h
  rename_i b;cases j with
  | zero=>exact⟨b,by simpa using h1⟩
  | succ j =>
   have:=IM h j (by simpa using a);have e:k+(j+1)=k+1+j:=by omega
   rw[e];exact this
theorem Ph (s:ByteArray):∀(l:List AJ) (k j:Nat),j<l.length->AM (l.getD j d0).1 s=true->Cs s k l<=((k+j:Nat):Int)
 | [],_,j,h,_=>by simp at h
 | x :: l,k,j,h,e=>by
  simp only[Cs];split
  .omega
  rename_i h1;cases j with
  | zero=>exact absurd e h1
  | succ j =>
   have:=Ph s l (k+1) j (by simpa using h) e;omega
theorem Lp {d:List AJ} (h:Cg d=0) {j:Nat} (b:j<d.length):Ao d (d.getD j d0).1=(j:Int):=by
 have h1:=(IM h j b).1;have a:=Ph (d.getD j d0).1 d 0 j b (Ct _);rw[AAX]at h1 a;have a:Ao d (d.getD j d0).1<=(j:Int):=a;omega
theorem Pi {d:List AJ} (h:Cg d=0) {x y:AJ} (a:x∈d) (b:y∈d) (e:AM x.1 y.1=true):x=y:=by
 obtain⟨i,hi,rfl⟩:=B5 d0 a;obtain⟨j,c,rfl⟩:=B5 d0 b;grind [Lp,IL]
theorem k6 (d:List AJ) (out:List ByteArray) (h:(He d out).1=true):∃x∈d,x.1=(He d out).2/\AU out x.1=false/\Iq x out=true:=by
 have key:∀(l:List AJ) (s:Bool×ByteArray),(∀x∈l,x∈d)->(s.1=true->∃x∈d,x.1=s.2/\AU out x.1=false/\Iq x out=true)->(l.foldl (IH out) s).1=true ->
   ∃x∈d,x.1=(l.foldl (IH out) s).2/\AU out x.1=false/\Iq x out=true:=by
  intro l;induction l with
  | nil=>intro s _ hs h;exact hs h
  | cons y l e =>
   intro s a hs h;rw[OR]at h ⊢;refine e _ (λx c=>a x (by simp[c])) (λb=>?_) h;unfold IH at b ⊢;split
   .grind
   grind
 exact key d _ (λ_ h=>h) (λh=>by cases h) h
def PL (d:List AJ) (o:List ByteArray):Prop:=∀j,j<o.length->∃x∈d,x.1=o.getD j ByteArray.empty/\AU (o.take j) x.1=false/\Iq x (o.take j)=true
theorem PL.snoc {d:List AJ} (h:PL d o) {x:AJ} (i:x∈d) (h1:AU o x.1=false) (f:Iq x o=true):PL d (o++[x.1]):=by
 intro j g;by_cases a:j<o.length
 .obtain⟨y,k,b,c,e⟩:=h j a;grind
 grind
theorem U7 {d:List AJ}:∀ {n:Nat} {o:List ByteArray},PL d o->PL d (II d n o)
 | 0,_,h=>h
 | n+1,o,h=>by
  unfold II;split
  .rename_i b;obtain⟨x,c,e,h1,a⟩:=k6 d o b;rw[<-e];exact U7 (h.snoc c h1 a)
  exact h
theorem Xs (d:List AJ):PL d (Bh d):=U7 λj a=>by simp at a
theorem PL.ok {d:List AJ} (h:PL d o):Zh d o:=by
 refine⟨λs hs=>?_,?_⟩
 .obtain⟨j,a,rfl⟩:=B5 ByteArray.empty hs;obtain⟨x,b,e,-⟩:=h j a;rw[<-e];exact DL b
 rw[oS];intro i j hi a f;obtain⟨x,b,e,h1,-⟩:=h j a;have c:=PZ h1 o[i] (by rw[ABF];exact⟨i,by omega,rfl⟩);grind
theorem k7 {n:Nat} {l:List Nat} (h:l.Nodup) (c:∀j∈l,j<n) (hn:n<=l.length) {k:Nat} (hk:k<n):k∈l:=by
 refine By λb=>?_;have:=DZ n (k :: l) (AAB.2 ⟨b,h⟩) (λj a=>by
  rcases GO.1 a with rfl|a
  .exact hk
  exact c j a)
 simp at this;omega
theorem k8 {d:List AJ} (f:d.length<=(Bh d).length) {x:AJ} (h:x∈d):∃s∈Bh d,AM s x.1=true:=by
 have a:=(Xs d).ok;have h1:=KB d a;have h0:=DL h;have l:=DG d x.1;have b:=k7 (n:=d.length) h1 (λj c=>by
  obtain⟨s,hs,rfl⟩:=IS.1 c;have h1:=a.decl s hs;rcases DG d s with g|⟨_,g,_⟩<;>omega) (by simpa using f) (k:=(Ao d x.1).toNat) O1
 obtain⟨s,hs,e⟩:=IS.1 b;refine⟨s,hs,?_⟩;rcases DG d s with g|⟨_,_,i⟩
 .have:=a.decl s hs;omega
 grind [BI,Bp]
def Fs (d:List AJ) (s:ByteArray):Nat:=(Bh d).findIdx λx=>AM x s
theorem Hl (d:List AJ) {t:ByteArray} (h:AM s t=true):Fs d s=Fs d t:=by grind [Fs,AM,BI,Bp]
theorem KE {d:List AJ} (hn:Cg d=0) (o:d.length<=(Bh d).length) {x:AJ} (g:x∈d) (hs:AU x.2.1 s=true):Fs d s<Fs d x.1:=by
 obtain⟨t,q,e⟩:=k8 o g;have c:Fs d x.1<(Bh d).length:=List.findIdx_lt_length_of_exists ⟨t,q,e⟩;have heq:AM ((Bh d)[Fs d x.1]) x.1=true:=List.findIdx_getElem (w:=c);obtain⟨y,r,a,-,j⟩:=Xs d (Fs d x.1) c;rw[AS,AT c]at a;have a:y.1=(Bh d)[Fs d x.1]:=a;rw[<-a]at heq;have z:=Pi hn r g heq;subst z;obtain⟨u,hu,h⟩:=aT.1 hs;have k:AU ((Bh d).take (Fs d y.1)) u=true:=OF.1 j u hu;obtain⟨v,f,ev⟩:=aT.1 k;rw[ABF]at f;obtain⟨i,hi,rfl⟩:=f;have n:i<Fs d y.1:=by omega
 refine ACv ?_ n;refine By λm=>?_;have b:=List.not_of_lt_findIdx (p:=λx=>AM x s) (xs:=Bh d) (i:=i) (by unfold Fs at m;omega);have l:AM ((Bh d)[i]) s=true:=BI ev h;try simp only at b
 rw[l]at b;exact absurd b sc
def Wu (d:List AJ) (s x:ByteArray):Prop:=AM s x=true\/Fs d s<Fs d x
theorem t6 {d:List AJ} (hn:Cg d=0) (f:d.length<=(Bh d).length) {c:ByteArray} (b:Wu d s c) (e:∀x∈o,Wu d s x) {x:AJ} (g:x∈d):∀y∈Eu c o x,Wu d s y:=by
 intro y a;unfold Eu at a;split at a
 .rename_i h;rw[An]at h;rcases NO.1 a with a|a
  .exact e y a
  have:y=x.1:=by simpa using a
  subst this;have h1:=KE hn f g h.1;right;rcases b with b|b
  .rw[Hl d b];exact h1
  omega
 exact e y a
theorem U8 {d:List AJ} (hn:Cg d=0) (e:d.length<=(Bh d).length) {s c:ByteArray} (b:Wu d s c):∀ {l:List AJ} {o:List ByteArray},(∀x∈l,x∈d)->(∀x∈o,Wu d s x)->∀y∈l.foldl (Eu c) o,Wu d s y
 | [],_,_,a=>a
 | x :: l,o,f,a=>by
  rw[OR];exact U8 hn e b (λy g=>f y (by simp[g])) (t6 hn e b a (f x sc))
theorem SF {d:List AJ} (hn:Cg d=0) (b:d.length<=(Bh d).length) {s:ByteArray}:∀ {n i:Nat} {o:List ByteArray},(∀x∈o,Wu d s x)->∀y∈Ci d n i o,Wu d s y
 | 0,_,_,a=>a
 | n+1,i,o,a=>by
  unfold Ci;split
  .rename_i hi;exact SF hn b (U8 hn b (a _ (Aq hi)) (λ_ h=>h) a)
  exact a
theorem A0u {c:ByteArray} {x:AJ} {y:ByteArray} (h:y∈o):y∈Eu c o x:=by grind [Eu]
theorem Mm {c:ByteArray} {y:ByteArray}:∀ {l:List AJ} {o:List ByteArray},y∈o->y∈l.foldl (Eu c) o
 | [],_,h=>h
 | x :: l,o,h=>by rw[OR];exact Mm (A0u h)
theorem KF {d:List AJ} {y:ByteArray}:∀ {n i:Nat} {o:List ByteArray},y∈o->y∈Ci d n i o
 | 0,_,_,h=>h
 | n+1,i,o,h=>by
  unfold Ci;split
  .exact KF (Mm h)
  exact h
theorem Fb {l:List ByteArray} (h:x∈Dj l s):x∈l\/x=s:=by grind [Dj]
theorem JO {l:List ByteArray} (h:x∈l):x∈Dj l s:=by
 unfold Dj;split
 .exact h
 have a:x∈l.take (We l s)\/x∈l.drop (We l s):=NO.1 (by rw[ABC];exact h);grind
theorem Lq {l:List ByteArray}:AU (Dj l s) s=true:=by
 unfold Dj;grind [IG,We,AM,AU,Ct]
theorem FG {l:List ByteArray} (h:s∈l):AU l s=true:=aT.2 ⟨s,h,Ct s⟩
theorem HL {l:List ByteArray} (hs:∀x∈l,x∈m) (h:AU l s=true):AU m s=true:=by
 obtain⟨x,a,e⟩:=aT.1 h;exact aT.2 ⟨x,hs x a,e⟩
theorem U9:∀ {l o:List ByteArray} {x:ByteArray},x∈l.foldl Dj o->x∈o\/x∈l
 | [],_,_,h=>.inl h
 | y :: l,o,x,h=>by
  rw[OR]at h;rcases U9 h with h|h
  .grind [Fb]
  grind
theorem Xt:∀ {l o:List ByteArray} {x:ByteArray},x∈o->x∈l.foldl Dj o
 | [],_,_,h=>h
 | y :: l,o,x,h=>by rw[OR];exact Xt (JO h)
theorem Pj:∀ {l o:List ByteArray} {x:ByteArray},x∈l->AU (l.foldl Dj o) x=true
 | [],_,_,h=>by cases h
 | y :: l,o,x,h=>by
  rw[OR];rcases GO.1 h with rfl|h
  .grind [HL,Xt,Lq]
  exact Pj h
theorem OE {d:List AJ} (h:0<=Ao d s):AU (Cj d s) s=true:=by
 unfold Cj;rw[As O1];exact Pj (KF sc)
theorem VA {d:List AJ} (hn:Cg d=0) (c:d.length<=(Bh d).length) (h:AU (Cj d s) x=true):Wu d s x:=by
 obtain⟨y,a,e⟩:=aT.1 h;have b:Wu d s y:=by
  unfold Cj at a;split at a
  .cases a
  rcases U9 a with a|a
  .cases a
  refine SF hn c (λz f=>?_) y a;have:z=s:=by simpa using f
  rw[this];exact .inl (Ct s)
 rcases b with b|b
 .exact .inl (BI b e)
 rw[Hl d e]at b;exact .inr b
theorem DM {d:List AJ} (h:s∈AN d):∃x∈d,x.1=s:=by
 have key:∀(l:List AJ) (o:List ByteArray),s∈l.foldl (λo x=>Dj o x.1) o->s∈o\/∃x∈l,x.1=s:=by
  intro l;induction l with
  | nil=>intro o h;exact .inl h
  | cons x l a =>
   intro o h;rw[OR]at h;rcases a _ h with h|⟨y,b,e⟩
   .grind [Fb]
   grind
 rcases key d [] h with h|h
 .cases h
 exact h
theorem OG {d:List AJ} {x:AJ} (h:x∈d):AU (AN d) x.1=true:=by
 have b:∀(l:List AJ) (o:List ByteArray),∀y∈o,y∈l.foldl (λo x=>Dj o x.1) o:=by
  intro l;induction l with
  | nil=>intro o y h;exact h
  | cons x l a=>intro o y h;rw[OR];exact a _ y (JO h)
 have key:∀(l:List AJ) (o:List ByteArray),x∈l->AU (l.foldl (λo x=>Dj o x.1) o) x.1=true:=by
  intro l;induction l with
  | nil=>intro o h;cases h
  | cons y l a =>
   intro o h;rw[OR];rcases GO.1 h with rfl|h
   .grind [HL,Lq]
   exact a _ h
 exact key d [] h
theorem eK {d:List AJ} (hn:Cg d=0) (g:d.length<=(Bh d).length) (r:d.length<=256) {i j:Nat} (hi:i<(AN d).length) (f:j<(AN d).length)
  (h:DF (ET d (AN d) ((AN d).getD i ByteArray.empty)) (ET d (AN d) ((AN d).getD j ByteArray.empty))=true):AM ((AN d).getD i ByteArray.empty) ((AN d).getD j ByteArray.empty)=true:=by
 have o:=Dk d d.length;rw[tO]at o;have a:(AN d).length<=4096:=by omega
 generalize hs:(AN d).getD i ByteArray.empty=s at *;generalize b:(AN d).getD j ByteArray.empty=t at *;have p:0<=Ao d s:=by
  obtain⟨x,c,e⟩:=DM (s:=s) (by rw[<-hs];exact Aq hi);rw[<-e];exact DL c
 have q:0<=Ao d t:=by
  obtain⟨x,c,e⟩:=DM (s:=t) (by rw[<-b];exact Aq f);rw[<-e];exact DL c
 obtain⟨c1,k,-⟩:=B4 (d:=d) a s i;obtain⟨c2,l,-⟩:=B4 (d:=d) a t i;obtain⟨m,-,-⟩:=B4 (d:=d) a s j;obtain⟨n,-,-⟩:=B4 (d:=d) a t j;unfold DF at h;rw[An]at h;have b1:=VA hn g (c2.1 (Ln k l h.1 (c1.2 ⟨hi,by rw[hs];exact OE p⟩))).2;have b2:=VA hn g (m.1 (Ln l k h.2 (n.2 ⟨f,by rw[b];exact OE q⟩))).2;rw[hs]at b1;rw[b]at b2;rcases b1 with b1|b1
 .exact Bp b1
 rcases b2 with b2|b2
 .exact b2
 omega
section
attribute [local go_sem] Zb A04 Ll Kj KD
def o8 (d:List AJ) (all:List ByteArray) (codes:List (List Int)) (b:List Int):Nat->Nat->List ByteArray->ByteArray ⊕ List ByteArray
 | 0,_,l=>.inr l
 | n+1,i,l=>if DF (codes.getD i []) b=true then .inl (all.getD i ByteArray.empty) else o8 d all codes b n (i+1) (if Sh b (i:Int)=true then l++[all.getD i ByteArray.empty] else l)
def Xu (l:List ByteArray) (s:ByteArray) (i:Nat):ByteArray:=(if 0<(i:Int) then s++ByteArray.mk #[38] else s)++l.getD i ByteArray.empty
def eL (l:List ByteArray):ByteArray:=(List.range l.length).foldl (Xu l) ByteArray.empty
def Ga (d:List AJ) (all:List ByteArray) (codes:List (List Int)) (b:List Int):ByteArray :=
 match o8 d all codes b all.length 0 [] with
 | .inl s=>s
 | .inr l=>eL (A3 d l)
theorem NN {d:List AJ} {x:ByteArray}:∀ {l o:List ByteArray},x∈l.foldl (Ew d) o->x∈o\/x∈l
 | [],_,h=>.inl h
 | y :: l,o,h=>by
  rw[OR]at h;rcases NN h with h|h
  .unfold Ew at h;split at h
   .rcases Fb h with h|h
    .exact .inl h
    exact .inr (by simp[h])
   exact .inl h
  exact .inr (by simp[h])
theorem G9 {d:List AJ} {l:List ByteArray} {x:ByteArray} (h:x∈A3 d l):x∈l:=by
 unfold A3 Pb at h;obtain⟨i,hi,rfl⟩:=IS.1 h;rw[AB6,wH]at hi;rcases NN (Aq (d:=ByteArray.empty) hi.1) with h|h
 .cases h
 exact h
theorem Zp (d:List AJ) (l:List ByteArray):(A3 d l).length<=l.length:=iF (d8 _ _ _) (Ir d l)
theorem k9 {l:List ByteArray} (h:∀s∈l,s.size<=32) (k:Nat):(l.getD k ByteArray.empty).size<=32:=by
 rw[AS];cases hh:l[k]? with
 | none=>simp
 | some x=>exact h x (AAF hh)
def Pk (l:List ByteArray) (n:Nat):ByteArray:=(List.range n).foldl (Xu l) ByteArray.empty
theorem OH (l:List ByteArray) (n:Nat):Pk l (n+1)=Xu l (Pk l n) n:=by
 unfold Pk;rw[AAA,ABt];rfl
theorem VB {l:List ByteArray} (h:∀s∈l,s.size<=32):∀n,(Pk l n).size<=33*n
 | 0=>by simp[Pk]
 | n+1=>by
  have h1:=VB h n;have a:=k9 h n;rw[OH];unfold Xu;split
  .rw[ABE,ABE];have:(ByteArray.mk #[38]).size=1:=rfl;omega
  rw[ABE];omega
def Zq:AW:={ ins:=[Et,CL,Sg,BU],pre:=λ(d,all,codes,b,_)=>PY d/\List.length d<=256/\List.length all<=256/\List.length codes=List.length all/\(∀s∈(all:List ByteArray),s.size<=32)/\(∀x∈(codes:List (List Int)),x.length<=64)/\List.length b<=64,out:=λ(d,all,codes,b,_)=>[.p T9 (Ga d all codes b)] }
theorem t7:AY Tryz.prog 115 Zq:=by
 refine fK [0,1,2,3,8,9,10,11,12,16,24,31,45,49] Tryz.func115 Tryz.ntmps115 (AE tP (AE A05 (AE U1 AH))) ?_;rintro w0 O0 ⟨d,all,codes,b,u⟩ e-⟨hs,z,t,q,C,y,w⟩;have t:all.length<=256:=t;have q:codes.length=all.length:=q;simp only[Zq,AK];repeat'(first|exact trivial|apply eS rfl|refine rX e ?_ ?_)
 refine AI (ι:={x:Nat×List ByteArray//x.1<=all.length/\x.2.length<=x.1/\(∀s∈x.2,s.size<=32)/\o8 d all codes b (all.length-x.1) x.1 x.2=o8 d all codes b all.length 0 []}) (λx=>⟨[(0,.p Et d),(1,.p CL all),(2,.p Sg codes),(3,.p BU b),(9,.sr 38 T9 0 x.1.2.length),(10,.p (.int .i64) (x.1.1:Int))],[(38,.arr 9 T9 x.1.2)]⟩) (λx=>all.length-x.1.1) ⟨(0,[]),by simp,by simp,by simp,rfl⟩ (eW [(38,.nil)]) (λx=>?_)
 obtain⟨⟨i,l⟩,hi,B,o,f⟩:=x;simp only at hi B o f;have r:i<all.length->o8 d all codes b (all.length-i) i l=if DF (codes.getD i []) b=true then .inl (all.getD i ByteArray.empty) else o8 d all codes b (all.length-(i+1)) (i+1) (if Sh b (i:Int)=true then l++[all.getD i ByteArray.empty] else l):=by
  intro h;rw[show all.length-i=(all.length-(i+1))+1 by omega];rfl
 simp only;repeat'(first|exact trivial|apply eS rfl|apply AB|refine rX e ?_ ?_|refine rC ?_ ?_<;>intro a<;>try(cases a;done))
 .exact⟨by rw[q];exact a,iF (Lm y i) dg,iF w dg⟩
 .assumption
 .have c:i<all.length:=by exact eV
  have j:Ga d all codes b=all.getD i ByteArray.empty:=by
   unfold Ga;rw[<-f,r c,At a]
  exact fI e [.tmp 8] (by rw[j];exact eR)
 .have c:i<all.length:=by exact eV
  exact⟨On.2 c,by simp only[AO];omega⟩
 .exact eV
 .have c:i<all.length:=by exact eV
  have hn:=r c;rw[As (by rw[‹DF _ _=false›];simp),At a]at hn;refine⟨⟨(i+1,l++[all.getD i ByteArray.empty]),by simp only;omega,by simp only[Do,i5];omega,?_,hn.symm.trans f⟩,by simp only;omega,AC [(38,.nm 38)] rfl rfl ?_ ?_⟩
  .intro s hs;rcases NO.1 hs with hs|hs
   .exact o s hs
   have:s=all.getD i ByteArray.empty:=by simpa using hs
   rw[this];exact k9 C i
  .exact eN
  exact eN
 .exact eV
 .have c:i<all.length:=by exact eV
  have hn:=r c;rw[As (by rw[‹DF _ _=false›];simp),As (by rw[a];simp)]at hn;exact⟨⟨(i+1,l),by simp only;omega,by simp only;omega,o,hn.symm.trans f⟩,by simp only;omega,eW [(38,.nm 38)]⟩
 have j:Ga d all codes b=eL (A3 d l):=by
  unfold Ga;rw[<-f];have:all.length-i=0:=by exact eV
  rw[this];rfl
 refine CK [38] ?_;repeat'(first|exact trivial|apply eS rfl|refine rX e ?_ ?_)
 .exact⟨hs,z,by omega⟩
 have v:∀s∈A3 d l,s.size<=32:=λs h=>o s (G9 h);have E:=Zp d l;have A:eL (A3 d l)=Pk (A3 d l) (A3 d l).length:=rfl;rw[A]at j;generalize A3 d l=m at *;refine AI (ι:={k:Nat//k<=m.length}) (λk=>⟨[(9,.p CL m),(11,.p T9 (Pk m k.1)),(12,.p (.int .i64) (k.1:Int))],[]⟩) (λk=>m.length-k.1) ⟨0,DO _⟩ (AC [] rfl rfl ?_ ?_) (λk=>?_)
 .exact eN
 .refine eM ?_;rfl
 obtain⟨k,hk⟩:=k;have hk:k<=m.length:=hk;have D:=VB v k;have n:=OH m k;have F:=k9 v k;unfold Xu at n;simp only;repeat'(first|exact trivial|apply eS rfl|apply AB|refine rX e ?_ ?_|refine rC ?_ ?_<;>intro a<;>try(cases a;done))
 .have h1:(ByteArray.mk #[38]).size=1:=rfl;rw[h1];simp only[AO];exact eV
 .refine⟨by assumption,?_⟩;have h1:(ByteArray.mk #[38]).size=1:=rfl;rw[ABE,h1];simp only[AO];exact eV
 .exact eV
 .have g:k<m.length:=by exact eV
  rw[At a]at n;refine⟨⟨k+1,g⟩,by simp only;omega,AC [] rfl rfl ?_ ?_⟩
  .exact eN
  simp only[n];exact eN
 .refine⟨by assumption,?_⟩;simp only[AO];exact eV
 .exact eV
 .have g:k<m.length:=by exact eV
  rw[As (AAW.2 a)]at n;refine⟨⟨k+1,g⟩,by simp only;omega,AC [] rfl rfl ?_ ?_⟩
  .exact eN
  simp only[n];exact eN
 have g:k=m.length:=by exact eV
 rw[<-g]at j;exact fI e [.tmp 8] (by rw[j];exact eR)
end
section
attribute [local go_sem] TG PX A0i Zl Zq Zk
def FH (x:AQ) (out:List AQ):Nat->Nat
 | 0=>0
 | n+1=>if FZ x (out.getD n c0)=true then FH x out n else n+1
def Zr (out:List AQ) (x:AQ):List AQ:=out.take (FH x out out.length)++[x]++out.drop (FH x out out.length)
def AR (d:List AJ):List (List Int):=(AN d).map λs=>ET d (AN d) s
def GC (d:List AJ) (all:List ByteArray) (codes:List (List Int)) (out:List AQ) (b:List Int):List AQ:=Zr out (Ga d all codes b,b)
def Q1 (d:List AJ):List AQ->List Int->List AQ:=GC d (AN d) (AR d)
theorem OI (d:List AJ) (all:List ByteArray) (codes:List (List Int)):∀(l:List (List Int)) (o:List AQ),(l.foldl (GC d all codes) o).length=o.length+l.length
 | [],o=>by simp
 | b :: l,o=>by
  rw[OR,OI d all codes l];unfold GC Zr;simp only[Do,Of,ABc,Is,AAs];omega
theorem VC {d:List AJ} {all:List ByteArray} {codes:List (List Int)}:∀ {l:List (List Int)} {o:List AQ},(∀c∈l,c.length<=64)->(∀y∈o,y.2.length<=64)->∀y∈l.foldl (GC d all codes) o,y.2.length<=64
 | [],_,_,e=>e
 | b :: l,o,f,e=>by
  rw[OR];refine VC (λc g=>f c (by simp[g])) (λy a=>?_);unfold GC Zr at a;simp only[NO,oR]at a;rcases a with (a|a)|a
  .exact e y (AAx a)
  .rw[a];exact f b sc
  exact e y (ABp a)
theorem eO (x:AQ) (out:List AQ):∀n,FH x out n<=n
 | 0=>OS _
 | n+1=>by
  unfold FH;split
  .exact Nat.le_succ_of_le (eO x out n)
  exact OS _
def AL (d:List AJ):List AQ:=(Aw (AR d)).foldl (Q1 d) []
def B6 (d:List AJ):List AQ×Int :=
 if A6 d≠0 then ([],A6 d) else if 256<(Aw (AR d)).length then ([],7) else (AL d,0)
theorem lA {b:Bool} (h:BM s b=true):s.size<=32:=by
 unfold BM at h;rw[An]at h;have h1:=h.1;unfold N5 at h1;simp only[TO,AAr,To]at h1;have:=h1.1.1.2;omega
theorem eP {d:List AJ} (hn:Cg d=0):∀s∈AN d,s.size<=32:=by
 intro s hs;obtain⟨x,b,rfl⟩:=DM hs;obtain⟨j,a,rfl⟩:=B5 d0 b;exact lA (IM hn j a).2
def KG (d:List AJ) (n:Nat):List (List Int):=((AN d).take n).map λs=>ET d (AN d) s
theorem lB {d:List AJ} {n:Nat} (h:n<=(AN d).length):(KG d n).length=n:=by simp[KG,h]
theorem eQ {d:List AJ} {n:Nat} (h:n<(AN d).length):KG d (n+1)=KG d n++[ET d (AN d) ((AN d).getD n ByteArray.empty)]:=by
 unfold KG;rw[Ar _ ByteArray.empty h,AAN];rfl
theorem lC (d:List AJ):KG d (AN d).length=AR d:=by simp[KG,AR]
theorem lD (d:List AJ):(AR d).length=(AN d).length:=by simp[AR]
theorem OJ {d:List AJ} (h:d.length<=256):∀c∈AR d,c.length<=64:=by
 intro c a;unfold AR at a;obtain⟨s,-,rfl⟩:=IS.1 a;have b:=Dk d d.length;rw[tO]at b;exact(B4 (d:=d) (all:=AN d) O1 s 0).2.2
theorem eU {i:Nat}:∀ {n k:Nat} {l:List (List Int)},(∀c∈l,c.length<=64)->∀c∈GB i n k l,c.length<=64
 | 0,_,_,h=>h
 | n+1,k,l,h=>by
  unfold GB;split
  .exact eU (eC h i k)
  exact h
theorem Pl:∀ {n i:Nat} {l:List (List Int)},(∀c∈l,c.length<=64)->∀c∈Hi n i l,c.length<=64
 | 0,_,_,h=>h
 | n+1,i,l,h=>by
  unfold Hi;split
  .exact Pl (eU h)
  exact h
theorem eX {out:List AQ} {x y:AQ}:y∈Zr out x↔y=x\/y∈out:=by
 unfold Zr;rw[NO,NO,oR];have h:=NO (a:=y) (s:=out.take (FH x out out.length)) (t:=out.drop (FH x out out.length));rw[ABC]at h;rw[h];constructor
 .rintro ((h|h)|h)
  .exact .inr (.inl h)
  .exact .inl h
  exact .inr (.inr h)
 rintro (h|h|h)
 .exact .inl (.inr h)
 .exact .inl (.inl h)
 exact .inr h
def Q2:AW:={ ins:=[Et],pre:=λ_=>True,out:=λ(d,_)=>[.p JD (B6 d).1,.p C0 (B6 d).2] }
theorem Pm:AY Tryz.prog 65 Q2:=by
 refine fK [0,2,3,4,5,6,7,8,9,10,11,12,13,17,24,41,45,73] Tryz.func65 Tryz.ntmps65 (AE tV (AE Xk (AE A3L (AE t4 (AE t7 (AE tY AH)))))) ?_;rintro w0 O0 ⟨d,u⟩ g - -;simp only[Q2,AK];repeat'(first|exact trivial|apply eS rfl|refine rX g ?_ ?_|refine rC ?_ ?_<;>intro a<;>try(cases a;done))
 .have h1:B6 d=([],A6 d):=by unfold B6;rw[At a]
  exact fI g [.tmp 2,.tmp 3] (by rw[h1];exact eR)
 .have i:A6 d=0:=by simpa using a
  obtain⟨-,E,-⟩:=Ay i;exact iF E dg
 have i:A6 d=0:=by simpa using a
 obtain⟨M,s,-,hn,-⟩:=Ay i;have F:=Dk d d.length;rw[tO]at F;have N:=eP hn;refine AI (ι:={n:Nat//n<=(AN d).length}) (λn=>⟨[(0,.p Et d),(5,.p CL (AN d)),(6,.sr 36 BU 0 (KG d n.1).length),(7,.p (.int .i64) (n.1:Int))],[(36,.arr 111 BU (KG d n.1))]⟩) (λn=>(AN d).length-n.1) ⟨0,DO _⟩ (AC [(36,.nil)] rfl rfl ?_ ?_) (λn=>?_)
 .refine eM ?_;rfl
 .refine eM ?_;rfl
 obtain⟨n,I⟩:=n;have Q:=lB I;have hs:=λh=>eQ (d:=d) (n:=n) h;simp only;repeat'(first|exact trivial|apply eS rfl|apply AB|refine rX g ?_ ?_|refine rC ?_ ?_<;>intro a<;>try(cases a;done))
 .refine⟨a,⟨s,by dsimp only[Ty.den]at *;omega⟩,?_⟩;simp only[AO];dsimp only[Ty.den]at *;omega
 .exact eV
 .have w:n<(AN d).length:=by exact eV
  have e:=hs w;refine⟨⟨n+1,by omega⟩,by simp only;omega,AC [(36,.nm 36)] rfl rfl ?_ ?_⟩
  .simp only[e];exact eN
  simp only[e];exact eN
 have w:n=(AN d).length:=by exact eV
 subst w;rw[lC];have H:=lD d;have x:=OJ s;have t:∀c∈Aw (AR d),c.length<=64:=Pl x;refine CK [36] ?_;repeat'(first|exact trivial|apply eS rfl|refine rX g ?_ ?_|refine rC ?_ ?_<;>intro a<;>try(cases a;done))
 .exact⟨by omega,x⟩
 .have h1:B6 d=([],7):=by
   unfold B6;rw[As (by rw[i];simp),At O1]
  exact fI g [.tmp 2,.tmp 3] (by rw[h1];exact eR)
 have D:B6 d=((Aw (AR d)).foldl (GC d (AN d) (AR d)) [],0):=by
  unfold B6;rw[As (by rw[i];simp),As O1];rfl
 generalize Aw (AR d)=f at *;generalize AR d=codes at *;generalize AN d=all at *;refine AI (ι:={k:Nat//k<=f.length}) (λk=>⟨[(0,.p Et d),(5,.p CL all),(6,.p Sg codes),(8,.p Sg f),(9,.sr 9 ZX 0 ((f.take k.1).foldl (GC d all codes) []).length),(10,.p (.int .i64) (k.1:Int))],[(9,.arr 127 ZX ((f.take k.1).foldl (GC d all codes) []))]⟩) (λk=>f.length-k.1) ⟨0,DO _⟩ (AC [(9,.nil)] rfl rfl ?_ ?_) (λk=>?_)
 .refine eM ?_;rfl
 .refine eM ?_;rfl
 obtain⟨k,hk⟩:=k;have C:=OI d all codes (f.take k) [];have O:(f.take k).length=k:=by rw[Of];exact ABw hk
 have J:=VC (d:=d) (all:=all) (codes:=codes) (l:=f.take k) (o:=[]) (λc g=>t c (AAx g)) sc;have L:=λh:k<f.length=>Ec (GC d all codes) f [] [] h;rw[O]at C;simp only[AAs,AAX]at C;generalize B:(f.take k).foldl (GC d all codes) []=out at *;simp only;repeat'(first|exact trivial|apply eS rfl|refine rX g ?_ ?_|refine rC ?_ ?_<;>intro a<;>try(cases a;done))
 .exact⟨a,⟨M,s,by omega,H,N,x,Lm t k⟩,a⟩
 .have v:k<f.length:=by exact eV
  have e:=L v;have G:=Lm t k;generalize f.getD k []=b at *;unfold GC at e;generalize Ga d all codes b=nm at *;refine AI (ι:={q:Nat//q<=out.length/\FH (nm,b) out q=FH (nm,b) out out.length}) (λq=>⟨[(0,.p Et d),(5,.p CL all),(6,.p Sg codes),(8,.p Sg f),(9,.sr 9 ZX 0 out.length),(10,.p (.int .i64) (k:Int)),(11,.bp 11 [] 0),(12,.p (.int .i64) (q.1:Int))],[(9,.arr 127 ZX out),(11,.box 127 true [.p T9 nm,.p BU b])]⟩) (λq=>q.1) ⟨out.length,OS _,rfl⟩ (eW [(9,.nm 9),(11,.nm 11)]) (λq=>?_)
  obtain⟨q,j,A⟩:=q;have j:q<=out.length:=j;simp only;repeat'(first|exact trivial|apply eS rfl|apply AB|refine rX g ?_ ?_|refine rC ?_ ?_<;>intro a<;>try(cases a;done))
  .refine⟨λh=>by omega,λh=>by exact eV,λh=>⟨iF G dg,iF (J _ (AG out c0 (k:=((q:Int)-1).toNat) O1)) dg⟩⟩
  .omega
  .obtain⟨P,z⟩:=a;obtain⟨q,rfl⟩:∃r,q=r+1:=⟨q-1,by omega⟩;have m:((q+1:Nat):Int)-1=(q:Int):=by omega
   refine⟨⟨q,by omega,?_⟩,AB7 q,AC [(9,.nm 9),(11,.nm 11)] rfl rfl ?_ ?_⟩
   .rw[<-A];rw[m,gO]at z;show _=if FZ (nm,b) (out.getD q c0)=true then FH (nm,b) out q else q+1
    rw[At z]
   .exact eN
   refine eM ?_;show (q:Int)+1-1=q;omega
  .refine⟨AAc.2 j,?_⟩;rw[Of];simp only[AO];omega
  .rw[Of];simp only[AO];omega
  .refine⟨AAc.2 j,?_⟩;rw[Of,ABc];simp only[AO];omega
  .omega
  have K:FH (nm,b) out q=q:=by
   cases q with
   | zero=>rfl
   | succ q =>
    have m:((q+1:Nat):Int)-1=(q:Int):=by omega
    have:=a O1;rw[m,gO]at this;show (if FZ (nm,b) (out.getD q c0)=true then FH (nm,b) out q else q+1)=q+1;rw[As (by rw[this];simp)]
  unfold Zr at e;rw[<-A,K]at e;refine⟨⟨k+1,by omega⟩,by simp only;omega,AC [(9,.nm 80)] rfl rfl ?_ ?_⟩
  .refine eM ?_;exact e.symm
  refine eM ?_;have y:=AB3 List.length e;rw[Do,Do]at y;exact y.symm
 have v:k=f.length:=by exact eV
 rw[v,tO]at B;rw[B]at D;refine CK [9] ?_;exact fI g [.tmp 2,.tmp 3] (by rw[D];exact eR)
end
theorem Xv {d:List AJ}:∀ {l:List (List Int)} {o:List AQ} {y:AQ},y∈l.foldl (Q1 d) o↔y∈o\/∃b∈l,y=(Ga d (AN d) (AR d) b,b)
 | [],o,y=>by simp
 | b :: l,o,y=>by
  rw[OR,Xv];unfold Q1 GC;rw[eX];simp only[GO];constructor
  .rintro ((h|h)|⟨c,a,e⟩)
   .exact .inr ⟨b,.inl rfl,h⟩
   .exact .inl h
   exact .inr ⟨c,.inr a,e⟩
  rintro (h|⟨c,rfl|a,e⟩)
  .exact .inl (.inr h)
  .exact .inl (.inl e)
  exact .inr ⟨c,a,e⟩
theorem DN {d:List AJ} {y:AQ}:y∈AL d↔∃b∈Aw (AR d),y=(Ga d (AN d) (AR d) b,b):=by
 unfold AL;rw[Xv];simp
theorem Hm (d:List AJ):(AL d).length=(Aw (AR d)).length:=by
 have h:=OI d (AN d) (AR d) (Aw (AR d)) [];rw[AAs,AAX]at h;exact h
theorem A0v {i k:Nat} {c:List Int} (h:c∈l):c∈GA l i k:=by
 unfold GA;split
 .exact NO.2 (.inl h)
 exact h
theorem eY {i:Nat} {c:List Int}:∀ {n k:Nat} {l:List (List Int)},c∈l->c∈GB i n k l
 | 0,_,_,h=>h
 | n+1,k,l,h=>by
  unfold GB;split
  .exact eY (A0v h)
  exact h
theorem eZ {c:List Int}:∀ {n i:Nat} {l:List (List Int)},c∈l->c∈Hi n i l
 | 0,_,_,h=>h
 | n+1,i,l,h=>by
  unfold Hi;split
  .exact eZ (eY h)
  exact h
theorem X1 (d:List AJ) {i:Nat} (h:i<(AN d).length):(AR d).getD i []=ET d (AN d) ((AN d).getD i ByteArray.empty):=by
 unfold AR;simp[AS,h]
theorem o9 {d:List AJ} (hn:Cg d=0) (f:d.length<=(Bh d).length) (c:d.length<=256) {j:Nat} (b:j<(AN d).length):∀(m i:Nat) (l:List ByteArray),i+m=(AN d).length->i<=j ->
  ∃s,o8 d (AN d) (AR d) ((AR d).getD j []) m i l=.inl s/\AM s ((AN d).getD j ByteArray.empty)=true
 | 0,i,l,h,g=>by omega
 | m+1,i,l,h,g=>by
  unfold o8;split
  .rename_i a;refine⟨_,rfl,?_⟩;rw[X1 d O1,X1 d b]at a;exact eK hn f c O1 b a
  rename_i a;have k:i≠j:=by
   intro e;subst e;exact a (eJ _)
  exact o9 hn f c b m (i+1) _ O1 O1
theorem pA (s:ByteArray):∀(l:List AQ) (k:Nat),KC s k l<((k+l.length:Nat):Int)
 | [],k=>by simp only[KC];omega
 | x :: l,k=>by
  simp only[KC];split
  .simp only[Is];omega
  have:=pA s l (k+1);simp only[Is];omega
theorem pB (s:ByteArray):∀(l:List AQ) (k:Nat) (x:AQ),x∈l->AM x.1 s=true->0<=KC s k l
 | [],_,_,h,_=>by cases h
 | y :: l,k,x,h,e=>by
  simp only[KC];split
  .omega
  rename_i a;rcases GO.1 h with rfl|h
  .exact absurd e a
  exact pB s l (k+1) x h e
theorem Hn (l:List AQ) (s:ByteArray):BH l s<(l.length:Int):=by
 have:=pA s l 0;rw[AAX]at this;exact this
theorem Gb {d:List AJ} (h:A6 d=0) (hs:AU (AN d) s=true):0<=BH (AL d) s:=by
 obtain⟨-,b,-,hn,f⟩:=Ay h;obtain⟨t,g,e⟩:=aT.1 hs;obtain⟨j,c,rfl⟩:=B5 ByteArray.empty g;obtain⟨u,hu,a⟩:=o9 hn f b c (AN d).length 0 [] O1 O1;have i:(AR d).length=(AN d).length:=by simp[AR]
 refine pB s (AL d) 0 (u,(AR d).getD j []) ?_ (BI a e);rw[DN];refine⟨(AR d).getD j [],eZ (Aq O1),?_⟩;unfold Ga;rw[hu]
theorem Lr {d:List AJ} (h:A6 d=0) {x:AJ} (a:x∈d):0<=BH (AL d) x.1:=Gb h (OG a)
theorem BW {d:List AJ} (h:(B6 d).2=0):A6 d=0/\(Aw (AR d)).length<=256/\(B6 d).1=AL d:=by
 unfold B6 at h ⊢;split at h
 .rename_i h1;exact absurd h h1
 rename_i h1;split at h
 .cases h
 rename_i a;exact⟨By h1,by omega,by rw[As h1,As a]⟩
theorem pC {d:List AJ} (h:A6 d=0):0<(AL d).length:=by
 obtain⟨-,-,a,-,-⟩:=Ay h;cases d with
 | nil=>cases a
 | cons x d =>
  have:=Lr h (x:=x) sc;have b:=Hn (AL (x :: d)) x.1;omega
section
attribute [local go_sem] o0
def A7i (l:List AQ) (i k:Int) (m:Nat):Bool:=(m:Int)==i||(m:Int)==k||!Ki l k (m:Int)||!Ki l (m:Int) i
def t8 (l:List AQ) (i k:Int) (n:Nat):Bool:=(List.range n).all (A7i l i k)
def t9 (l:List AQ) (i:Int) (k:Nat):Bool:=!((k:Int)==i||!Ki l (k:Int) i)&&t8 l i (k:Int) l.length
def NP (l:List AQ) (i:Int) (n:Nat):List Int:=((List.range n).filter λ(k:Nat)=>t9 l i k).map λ(k:Nat)=>(k:Int)
def Xw (l:List AQ) (i:Int):List Int:=NP l i l.length
theorem lE (l:List AQ) (i:Int) (n:Nat):NP l i (n+1)=NP l i n++if t9 l i n=true then [(n:Int)] else []:=by
 unfold NP;rw[AAA,ABS,AAN]
 congr 1
 rw[AAH,AC5];split<;>rfl
theorem uA (l:List AQ) (i:Int) (n:Nat):(NP l i n).length<=n:=by
 unfold NP;rw[aS];exact iF (ABl _ _) sc
theorem uB (l:List AQ) (i k:Int) (n:Nat):t8 l i k (n+1)=(t8 l i k n&&A7i l i k n):=by
 unfold t8;rw[AAA,AC6];simp
def A0w:AW:={ ins:=[JD,T3],pre:=λ(l,i,_)=>((0:Int)<=i/\i<(List.length l:Int))/\List.length l<=256/\(∀x∈(l:List AQ),x.2.length<=64),out:=λ(l,i,_)=>[.p Bz (Xw l i)] }
theorem A3W:AY Tryz.prog 66 A0w:=by
 refine fK [0,1,4,5,6,7,8,12,24,28,56] Tryz.func66 Tryz.ntmps66 (AE o4 AH) ?_;rintro w0 O0 ⟨l,i,u⟩ c-⟨hi,g,o⟩;have g:l.length<=256:=g;have f:∀x∈(l:List AQ),x.2.length<=100000:=λx h=>iF (o x h) dg;simp only[A0w,AK];repeat'(first|exact trivial|apply eS rfl|refine rX c ?_ ?_)
 refine AI (ι:={k:Nat//k<=l.length}) (λk=>⟨[(0,.p JD l),(1,.p T3 i),(5,.sr 60 T3 0 (NP l i k.1).length),(6,.p (.int .i64) (k.1:Int))],[(60,.arr 3 T3 (NP l i k.1))]⟩) (λk=>l.length-k.1) ⟨0,DO _⟩ (AC [(60,.nil)] rfl rfl ?_ ?_) (λk=>?_)
 .refine eM ?_;rfl
 .refine eM ?_;rfl
 obtain⟨k,hk⟩:=k;have hk:k<=l.length:=hk;have q:=uA l i k;have hs:=lE l i k;simp only;repeat'(first|exact trivial|apply eS rfl|apply AB|refine rX c ?_ ?_|refine rC ?_ ?_<;>intro a<;>try(cases a;done))
 .intro h;exact⟨by assumption,hi,f⟩
 .exact eV
 .have e:k<l.length:=by exact eV
  have b:t9 l i k=false:=by
   unfold t9;rw[AAY];left;rw[ABT,oN,AAb,TO];exact a
  rw[b,As sc,AAv]at hs;refine⟨⟨k+1,by omega⟩,by simp only;omega,AC [(60,.nm 60)] rfl rfl ?_ ?_⟩
  .simp only[hs];exact eN
  simp only[hs];exact eN
 .have e:k<l.length:=by exact eV
  have b:t9 l i k=t8 l i (k:Int) l.length:=by
   unfold t9;rw[show ((k:Int)==i||!Ki l (k:Int) i)=false by
    rw[AAr,AAR,ABT];exact a]
   rfl
  refine AI (ι:={m:Nat//m<=l.length}) (λm=>⟨[(0,.p JD l),(1,.p T3 i),(5,.sr 60 T3 0 (NP l i k).length),(6,.p (.int .i64) (k:Int)),(7,.p .bool (t8 l i (k:Int) m.1)),(8,.p (.int .i64) (m.1:Int))],[(60,.arr 3 T3 (NP l i k))]⟩) (λm=>l.length-m.1) ⟨0,DO _⟩ (AC [(60,.nm 60)] rfl rfl ?_ ?_) (λm=>?_)
  .exact eN
  .refine eM ?_;rfl
  obtain⟨m,j⟩:=m;have j:m<=l.length:=j;have n:=uB l i (k:Int) m;simp only;repeat'(first|exact trivial|apply eS rfl|apply AB|refine rX c ?_ ?_|refine rC ?_ ?_<;>intro a<;>try(cases a;done))
  .exact⟨λh=>⟨by assumption,a,f⟩,λh=>⟨a,hi,f⟩⟩
  .exact eV
  .have d:m<l.length:=by exact eV
   refine⟨⟨m+1,by omega⟩,by simp only;omega,AC [(60,.nm 60)] rfl rfl ?_ ?_⟩
   .exact eN
   simp only[n];unfold A7i;exact eN
  .simp only[AO];dsimp only[Ty.den]at *;omega
  .exact eV
  .have d:m=l.length:=by exact eV
   subst d;rw[b,At a]at hs;refine⟨⟨k+1,by omega⟩,by simp only;omega,AC [(60,.nm 60)] rfl rfl ?_ ?_⟩
   .simp only[hs];exact eN
   simp only[hs];exact eN
  .exact eV
  have d:m=l.length:=by exact eV
  subst d;rw[b,As (by rw[a];simp),AAv]at hs;refine⟨⟨k+1,by omega⟩,by simp only;omega,AC [(60,.nm 60)] rfl rfl ?_ ?_⟩
  .simp only[hs];exact eN
  simp only[hs];exact eN
 have e:k=l.length:=by exact eV
 subst e;refine CK [60] ?_;exact fI c [.tmp 4] (by unfold Xw;exact eR)
end
section
attribute [local go_sem] PX PU Ip
abbrev FV:=ByteArray×ByteArray
abbrev f0V:FV:=(ByteArray.empty,ByteArray.empty)
def pD (all:List ByteArray) (l:List FV):Nat->List FV->Int
 | _,[]=>0
 | k,x :: r=>if BM x.1 true=false then 1 else if ((l.take k).any λy=>AM y.1 x.1)=true then 4 else if AU all x.2=false then 5 else pD all l (k+1) r
def VD (all:List ByteArray):List AJ->Int
 | []=>0
 | x :: l=>if pD all x.2.2 0 x.2.2≠0 then pD all x.2.2 0 x.2.2 else VD all l
def KH (d:List AJ):Int:=VD (AN d) d
theorem A0x (all:List ByteArray) (l:List FV) (h:k<l.length):pD all l k (l.drop k)=if BM (l.getD k f0V).1 true=false then 1 else if ((l.take k).any λy=>AM y.1 (l.getD k f0V).1)=true then 4 else if AU all (l.getD k f0V).2=false then 5 else pD all l (k+1) (l.drop (k+1)):=by
 rw[ON h];have e:l.getD k f0V=l[k]:=by simp[AS,h]
 rw[e];rfl
theorem uC (all:List ByteArray) (l:List AJ) (h:k<l.length):VD all (l.drop k)=if pD all (l.getD k d0).2.2 0 (l.getD k d0).2.2≠0 then pD all (l.getD k d0).2.2 0 (l.getD k d0).2.2 else VD all (l.drop (k+1)):=by
 rw[ON h];have e:l.getD k d0=l[k]:=by simp[AS,h]
 rw[e];rfl
def lF:AW:={ ins:=[Et],pre:=λ(d,_)=>List.length d<=256,out:=λ(d,_)=>[.p C0 (KH d)] }
theorem A0y:AY Tryz.prog 147 lF:=by
 refine fK [0,2,3,4,5,6,7,13,24,33,36,49,57] Tryz.func147 Tryz.ntmps147 (AE Xk (AE Uw (AE GZ AH))) ?_;rintro w0 O0 ⟨d,u⟩ c ⟨⟨x,v⟩,-⟩ j;have j:d.length<=256:=j;simp only[lF,AK];repeat'(first|exact trivial|apply eS rfl|refine rX c ?_ ?_)
 .exact iF j dg
 have w:KH d=VD (AN d) d:=rfl;rw[w];generalize AN d=all at *;refine AI (ι:={i:Nat//i<=d.length/\VD all (d.drop i)=VD all d}) (λi=>⟨[(0,.p Et d),(3,.p CL all),(4,.p (.int .i64) (i.1:Int))],[]⟩) (λi=>d.length-i.1) ⟨0,DO _,rfl⟩ (eW []) (λi=>?_)
 obtain⟨i,hi,hf⟩:=i;simp only;repeat'(first|exact trivial|apply eS rfl|refine rX c ?_ ?_|refine rC ?_ ?_<;>intro a<;>try(cases a;done))
 .exact a
 .have o:i<d.length:=by exact eV
  rw[uC all d o]at hf;have A:(d.getD i d0).2.2.length<=AO:=(v _ (AG d d0 o)).2.2.1;have z:(List.getD d i (ByteArray.empty,[],[])).2.2=(d.getD i d0).2.2:=rfl;rw[z];generalize (d.getD i d0).2.2=l at *;simp only[AO]at A;refine AI (ι:={k:Nat//k<=l.length/\pD all l k (l.drop k)=pD all l 0 l}) (λk=>⟨[(0,.p Et d),(3,.p CL all),(4,.p (.int .i64) (i:Int)),(5,.p T63 l),(6,.p (.int .i64) (k.1:Int))],[]⟩) (λk=>l.length-k.1) ⟨0,DO _,rfl⟩ (eW []) (λk=>?_)
  obtain⟨k,hk,b⟩:=k;have r:=λh:k<l.length=>A0x all l h;simp only;repeat'(first|exact trivial|apply eS rfl|apply AB|refine rX c ?_ ?_|refine rC ?_ ?_<;>intro a<;>try(cases a;done))
  .exact a
  .have e:k<l.length:=by exact eV
   rw[r e,At a]at b;rw[<-b,At dg]at hf;exact fI c [.tmp 2] (by rw[<-hf];exact eR)
  .have e:k<l.length:=by exact eV
   have q:(k:Int)<(l.length:Int):=On.2 e;rw[r e,As (by rw[a];simp)]at b;refine AI (ι:={m:Nat//m<=k/\((l.take m).any λy=>AM y.1 (l.getD k f0V).1)=false}) (λm=>⟨[(0,.p Et d),(3,.p CL all),(4,.p (.int .i64) (i:Int)),(5,.p T63 l),(6,.p (.int .i64) (k:Int)),(7,.p (.int .i64) (m.1:Int))],[]⟩) (λm=>k-m.1) ⟨0,DO _,rfl⟩ (eW []) (λm=>?_)
   obtain⟨m,B,g⟩:=m;have s:=λh:m<l.length=>Mh l f0V (λy=>AM y.1 (l.getD k f0V).1) h;simp only;repeat'(first|exact trivial|apply eS rfl|apply AB|refine rX c ?_ ?_|refine rC ?_ ?_<;>intro a<;>try(cases a;done))
   .have h1:(m:Int)<(k:Int):=a;exact⟨by exact eV,q⟩
   .have f:m<k:=On.1 (by assumption);have n:=s O1;have t:((l.take k).any λy=>AM y.1 (l.getD k f0V).1)=true:=by
     rw[aT];exact⟨l.getD m f0V,by
      rw[ABF];refine⟨m,by omega,?_⟩;simp[AS,show m<l.length by omega],a⟩
    rw[At t]at b;rw[<-b,At dg]at hf;exact fI c [.tmp 2] (by rw[<-hf];exact eR)
   .omega
   .have f:m<k:=On.1 (by assumption);have n:=s O1;refine⟨⟨m+1,by omega,?_⟩,by simp only;omega,AC [] rfl rfl ?_ ?_⟩
    .rw[n,g];exact a
    .exact eN
    exact eN
   .exact q
   .have f:m=k:=by omega
    subst f;rw[As (by rw[g];simp),At a]at b;rw[<-b,At dg]at hf;exact fI c [.tmp 2] (by rw[<-hf];exact eR)
   .have:=x;simp only[AO]at this;omega
   have f:m=k:=by omega
   subst f;rw[As (by rw[g];simp),As (by rw[a];simp)]at b;exact⟨⟨m+1,by omega,b⟩,by simp only;omega,eW []⟩
  .omega
  have e:l.drop k=[]:=If (AAc.1 a);rw[e]at b;rw[<-b,As (by simp[pD])]at hf;exact⟨⟨i+1,by omega,hf⟩,by simp only;omega,eW []⟩
 have e:d.drop i=[]:=If (by exact eV);rw[e]at hf;exact fI c [.tmp 2] (by rw[<-hf];first|exact eR|refine Je ?_;rfl)
end
section
attribute [local go_sem] Zj Za Ll Kj
def Gw (s:ByteArray) (o:List ByteArray) (x:AJ):List ByteArray:=if (C7 x s).2=true then Dj o x.1 else o
def E6 (d:List AJ) (s:ByteArray):List ByteArray:=d.foldl (Gw s) []
theorem lG (s:ByteArray) (d:List AJ) (k:Nat):(E6 (d.take k) s).length<=k:=by
 have key:∀(l:List AJ) (o:List ByteArray),(l.foldl (Gw s) o).length<=o.length+l.length:=by
  intro l;induction l with
  | nil=>intro o;simp
  | cons x l b =>
   intro o;have h1:=b (Gw s o x);have a:(Gw s o x).length<=o.length+1:=by
    unfold Gw;split
    .exact Lj o x.1
    omega
   simp only[OR,Is];omega
 have h1:=key (d.take k) [];have a:=AAI k d;unfold E6;simp only[AAs]at h1;omega
def DP (d:List AJ) (s:ByteArray):ByteArray×Bool:=if (A3 d (E6 d s)).length=1 then ((A3 d (E6 d s)).getD 0 ByteArray.empty,true) else (ByteArray.empty,false)
def Zs:AW:={ ins:=[Et,T9],pre:=λ(d,_,_)=>PY d/\List.length d<=256,out:=λ(d,s,_)=>[.p T9 (DP d s).1,.p .bool (DP d s).2] }
theorem e9:AY Tryz.prog 118 Zs:=by
 refine fK [0,1,4,5,6,7,9,10,14,26,39] Tryz.func118 Tryz.ntmps118 (AE eA (AE Qs (AE U1 AH))) ?_;rintro w0 O0 ⟨d,s,u⟩ c-⟨l,f⟩;have f:d.length<=256:=f;simp only[Zs,AK];repeat'(first|exact trivial|apply eS rfl|refine rX c ?_ ?_)
 refine AI (ι:={i:Nat//i<=d.length}) (λi=>⟨[(0,.p Et d),(1,.p T9 s),(6,.p CL (E6 (d.take i.1) s)),(7,.p (.int .i64) (i.1:Int))],[]⟩) (λi=>d.length-i.1) ⟨0,DO _⟩ (AC [] rfl rfl ?_ ?_) (λi=>?_)
 .exact eN
 .refine eM ?_;rfl
 obtain⟨i,hi⟩:=i;have hi:i<=d.length:=hi;have hn:=lG s d i;have hs:=λh:i<d.length=>Ec (Gw s) d d0 [] h;have j:∀e,E6 e s=e.foldl (Gw s) []:=λ_=>rfl;rw[<-j,<-j]at hs;unfold Gw at hs;simp only;repeat'(first|exact trivial|apply eS rfl|apply AB|refine rX c ?_ ?_|refine rC ?_ ?_<;>intro a<;>try(cases a;done))
 .exact a
 .exact⟨by assumption,by omega⟩
 .exact eV
 .have b:i<d.length:=by exact eV
  have e:=hs b;rw[At a]at e;refine⟨⟨i+1,by omega⟩,by simp only;omega,AC [] rfl rfl ?_ ?_⟩
  .exact eN
  simp only[e];exact eN
 .exact eV
 .have b:i<d.length:=by exact eV
  have e:=hs b;rw[As (by rw[a];simp)]at e;refine⟨⟨i+1,by omega⟩,by simp only;omega,AC [] rfl rfl ?_ ?_⟩
  .exact eN
  simp only[e];exact eN
 .exact⟨l,f,by omega⟩
 .have b:d.take i=d:=BY (by exact eV);rw[b]at a ⊢;have h1:DP d s=(ByteArray.empty,false):=by
   unfold DP;rw[As O1]
  exact fI c [.tmp 4,.tmp 5] (by rw[h1];first|exact eR|refine Je ?_;first|rfl|exact⟨rfl,rfl⟩)
 .have g:((A3 d (E6 (d.take i) s)).length:Int)=1:=by simpa using a
  have k:(0:Int)<((A3 d (E6 (d.take i) s)).length:Int):=by rw[g];decide
  exact k
 have b:d.take i=d:=BY (by exact eV);rw[b]at a ⊢;have g:((A3 d (E6 d s)).length:Int)=1:=by simpa using a
 have h1:DP d s=((A3 d (E6 d s)).getD 0 ByteArray.empty,true):=by
  unfold DP;rw[At O1]
 exact fI c [.tmp 4,.tmp 5] (by rw[h1];exact eR)
end
section
attribute [local go_sem] Zj TH o0 A06
def JP (l:List AQ) (t:Int) (s:ByteArray) (o:List Int×Bool) (x:AJ):List Int×Bool :=
 if (!(C7 x s).2||!Ki l (BH l x.1) t)=true then o else (ED o.1 (l.getD (BH l (C7 x s).1).toNat c0).2,true)
def E7 (d:List AJ) (l:List AQ) (t:Int) (s:ByteArray):List Int×Bool:=d.foldl (JP l t s) ((l.getD 0 c0).2,false)
def lH (d:List AJ) (l:List AQ):Prop:=(∀x∈d,0<=BH l x.1)/\∀x∈d,∀y∈x.2.2,0<=BH l y.2
theorem fA (s:ByteArray):∀(l:List (ByteArray×ByteArray)),(d9 s l).2=true->∃y∈l,y.2=(d9 s l).1
 | [],h=>by cases h
 | x :: l,h=>by
  simp only[d9]at h ⊢;split at h
  .rename_i h1;rw[At h1];exact⟨x,by simp,rfl⟩
  rename_i h1;rw[As h1];obtain⟨y,a,e⟩:=fA s l h;exact⟨y,by simp[a],e⟩
theorem lH.value {d:List AJ} {l:List AQ} (h:lH d l) {x:AJ} (b:x∈d) (a:(C7 x s).2=true):0<=BH l (C7 x s).1:=by
 obtain⟨y,c,e⟩:=fA s x.2.2 a;have:=h.2 x b y c;rw[e]at this;exact this
theorem A0z {l:List AQ} (t:Int) (s:ByteArray) (x:AJ) {o:List Int×Bool} (h:o.1.length<=64):(JP l t s o x).1.length<=64:=by
 unfold JP;split
 .exact h
 exact iF (eB _ _) h
theorem VE {l:List AQ} (t:Int) (s:ByteArray):∀(d:List AJ) {o:List Int×Bool},o.1.length<=64->(d.foldl (JP l t s) o).1.length<=64
 | [],_,h=>h
 | x :: d,_,h=>by rw[OR];exact VE t s d (A0z t s x h)
theorem fB (s:ByteArray):∀(l:List AQ) (k:Nat),KC s k l<((k+l.length:Nat):Int)
 | [],k=>by simp only[KC];omega
 | x :: l,k=>by
  simp only[KC];split
  .simp only[Is];omega
  have:=fB s l (k+1);simp only[Is];omega
theorem SG (l:List AQ) (s:ByteArray):BH l s<(l.length:Int):=by
 have:=fB s l 0;rw[AAX]at this;exact this
def A3Y:AW:={ ins:=[Et,JD,T3,T9],pre:=λ(d,l,t,_,_)=>lH d l/\((0:Int)<=t/\t<(List.length l:Int))/\List.length l<=256/\(∀x∈(l:List AQ),x.2.length<=64),out:=λ(d,l,t,s,_)=>[.p BU (E7 d l t s).1,.p .bool (E7 d l t s).2] }
theorem A0A:AY Tryz.prog 109 A3Y:=by
 refine fK [0,1,2,3,8,9,10,11,12,13,14,22,48] Tryz.func109 Tryz.ntmps109 (AE eA (AE Xo (AE o4 (AE A07 AH)))) ?_;rintro w0 O0 ⟨d,l,t,s,u⟩ f ⟨⟨A,G⟩,-⟩ ⟨r,j,n,w⟩;have n:l.length<=256:=n;have F:∀x∈(l:List AQ),x.2.length<=100000:=λx h=>iF (w x h) dg;have q:0<List.length l:=On.1 (ACF j.1 j.2);simp only[AO]at A;simp only[A3Y,AK];repeat'(first|exact trivial|apply eS rfl|refine rX f ?_ ?_)
 .exact On.2 q
 have m:E7 d l t s=d.foldl (JP l t s) ((l.getD 0 c0).2,false):=rfl;have y:(l.getD 0 c0).2.length<=64:=w _ (AG l c0 q);have z:(List.getD l 0 (ByteArray.empty,[])).2=(l.getD 0 c0).2:=rfl;rw[z];generalize (l.getD 0 c0).2=c at *;refine AI (ι:={i:Nat//i<=d.length}) (λi=>⟨[(0,.p Et d),(1,.p JD l),(2,.p T3 t),(3,.p T9 s),(10,.p .bool ((d.take i.1).foldl (JP l t s) (c,false)).2),(11,.p BU ((d.take i.1).foldl (JP l t s) (c,false)).1),(12,.p (.int .i64) (i.1:Int))],[]⟩) (λi=>d.length-i.1) ⟨0,DO _⟩ (AC [] rfl rfl ?_ ?_) (λi=>?_)
 .exact eN
 .refine eM ?_;exact⟨rfl,rfl⟩
 obtain⟨i,hi⟩:=i;have hi:i<=d.length:=hi;have B:=VE (l:=l) t s (d.take i) (o:=(c,false)) y;have hs:=λh:i<d.length=>Ec (JP l t s) d d0 (c,false) h;have E:=λh:i<d.length=>r.1 _ (AG d d0 h);have D:=λ(h:i<d.length) (g:(C7 (d.getD i d0) s).2=true)=>r.value (AG d d0 h) g;have k:∀o x,JP l t s o x=(if (!(C7 x s).2||!Ki l (BH l x.1) t)=true then o else (ED o.1 (l.getD (BH l (C7 x s).1).toNat c0).2,true)):=λ_ _=>rfl;generalize v:(d.take i).foldl (JP l t s) (c,false)=o at *;simp only;repeat'(first|exact trivial|apply eS rfl|apply AB|refine rX f ?_ ?_|refine rC ?_ ?_<;>intro a<;>try(cases a;done))
 .exact a
 .have b:i<d.length:=On.1 a;exact⟨λ_=>a,λ_=>⟨⟨E b,SG _ _⟩,j,F⟩⟩
 .exact eV
 .have b:i<d.length:=On.1 (by assumption);have e:=hs b;rw[k,At (by rw[oN,TO,TO];exact a)]at e;refine⟨⟨i+1,by omega⟩,by simp only;omega,AC [] rfl rfl ?_ ?_⟩
  .exact eN
  refine eM ?_;rw[e];exact⟨rfl,rfl⟩
 .have b:i<d.length:=On.1 (by assumption);exact⟨⟨D b a.1,SG _ _⟩,iF B dg⟩
 .exact eV
 .have b:i<d.length:=On.1 (by assumption);have e:=hs b;have C:¬(!(C7 (d.getD i d0) s).2||!Ki l (BH l (d.getD i d0).1) t)=true:=by
   rw[oN,TO,TO];rintro (h|h)
   .rw[show (C7 (d.getD i d0) s).2=true from a.1]at h;cases h
   rw[show Ki l (BH l (d.getD i d0).1) t=true from a.2]at h;cases h
  rw[k,As C]at e;refine⟨⟨i+1,by omega⟩,by simp only;omega,AC [] rfl rfl ?_ ?_⟩
  .exact eN
  refine eM ?_;rw[e];exact⟨rfl,rfl⟩
 have b:d.take i=d:=BY (AAc.1 a);rw[b]at v;rw[v]at m;exact fI f [.tmp 8,.tmp 9] (by rw[m];exact eR)
end
theorem SH:∀ {l:List AJ},Lh l=0->∀x∈l,x.2.1.length<=256/\x.2.2.length<=256
 | [],_,x,a=>by cases a
 | y :: l,h,x,a=>by
  simp only[Lh]at h;split at h
  .cases h
  rename_i h1;rcases GO.1 a with rfl|a
  .exact⟨by omega,by omega⟩
  exact SH h x a
theorem KI {d:List AJ} (h:A6 d=0):∀x∈d,x.2.1.length<=256/\x.2.2.length<=256:=by
 have h1:Ei d=0:=by
  unfold A6 at h;split at h
  .rename_i h1;exact absurd h h1
  rename_i h1;exact By h1
 unfold Ei at h1;split at h1
 .cases h1
 exact SH h1
theorem OK {d:List AJ} (h:A6 d=0):∀x∈AL d,x.2.length<=64:=by
 intro x e;obtain⟨-,a,-⟩:=Ay h;obtain⟨b,c,rfl⟩:=DN.1 e;exact Pl (OJ a) b c
theorem fC {all:List ByteArray} {l:List FV}:∀ {r:List FV} {k:Nat},pD all l k r=0->∀y∈r,AU all y.2=true
 | [],_,_,y,a=>by cases a
 | x :: r,k,h,y,a=>by
  simp only[pD]at h;split at h
  .cases h
  split at h
  .cases h
  split at h
  .cases h
  rename_i b;rcases GO.1 a with rfl|a
  .simpa using b
  exact fC h y a
theorem Xx {all:List ByteArray}:∀ {l:List AJ},VD all l=0->∀x∈l,∀y∈x.2.2,AU all y.2=true
 | [],_,x,a=>by cases a
 | z :: l,h,x,a=>by
  simp only[VD]at h;split at h
  .rename_i h1;exact absurd h h1
  rename_i h1;rcases GO.1 a with rfl|a
  .exact fC (By h1)
  exact Xx h x a
theorem Pn {d:List AJ} (h:A6 d=0) (b:KH d=0):lH d (AL d) :=
 ⟨λx a=>Lr h a,λx a y c=>Gb h (Xx b x a y c)⟩
section
attribute [local go_sem] Q2 U3 lF Zs A3Y
def KJ (d:List AJ) (l:List AQ) (t:Nat) (s:ByteArray):Bool:=(E7 d l (t:Int) s).2&&((E7 d l (t:Int) s).1.length:Int)==0
def Zt (d:List AJ) (l:List AQ) (f:List ByteArray) (t:Nat):Bool:=f.any (KJ d l t)
def Ho (d:List AJ) (l:List AQ) (f:List ByteArray) (n:Nat):Bool:=(List.range n).any (Zt d l f)
theorem fD (d:List AJ) (l:List AQ) (f:List ByteArray) (n:Nat):Ho d l f (n+1)=(Ho d l f n||Zt d l f n):=by
 unfold Ho;rw[AAA,ABU];simp
def Ak (d:List AJ):Int :=
 if (B6 d).2≠0 then (B6 d).2 else if 64<(BG d).length then 7 else if KH d≠0 then KH d else
 if ((BG d).all λs=>(DP d s).2)=false then 10 else if Ho d (B6 d).1 (BG d) (B6 d).1.length=true then 11 else 0
def TJ:AW:={ ins:=[Et],pre:=λ_=>True,out:=λ(d,_)=>[.p C0 (Ak d)] }
theorem Xy:AY Tryz.prog 107 TJ:=by
 refine fK [0,2,3,4,5,6,7,9,10,11,12,13,20,26,30,35,48,52,58,77] Tryz.func107 Tryz.ntmps107 (AE Pm (AE U4 (AE A0y (AE e9 (AE A0A AH))))) ?_;rintro w0 O0 ⟨d,u⟩ b - -;simp only[TJ,AK];repeat'(first|exact trivial|apply eS rfl|refine rX b ?_ ?_|refine rC ?_ ?_<;>intro a<;>try(cases a;done))
 .have h1:Ak d=(B6 d).2:=by unfold Ak;rw[At a]
  exact fI b [.tmp 2] (by rw[h1];exact eR)
 .have c:(B6 d).2=0:=by simpa using a
  obtain⟨e,-,-⟩:=BW c;obtain⟨-,r,-⟩:=Ay e;exact⟨r,λx L=>(KI e x L).2⟩
 .have c:(B6 d).2=0:=by simpa using ‹((B6 d).2 != 0)=false›
  have h1:Ak d=7:=by
   unfold Ak;rw[As (by rw[c];simp),At O1]
  exact fI b [.tmp 2] (by rw[h1];exact eR)
 .have c:(B6 d).2=0:=by simpa using ‹((B6 d).2 != 0)=false›
  obtain⟨e,-,-⟩:=BW c;exact(Ay e).2.1
 .have c:(B6 d).2=0:=by simpa using ‹((B6 d).2 != 0)=false›
  have h1:Ak d=KH d:=by
   unfold Ak;rw[As (by rw[c];simp),As O1,At a]
  exact fI b [.tmp 2] (by rw[h1];exact eR)
 have c:(B6 d).2=0:=by simpa using ‹((B6 d).2 != 0)=false›
 have v:KH d=0:=by simpa using a
 obtain⟨e,C,B⟩:=BW c;obtain⟨H,r,-⟩:=Ay e;have E:=Pn e v;have K:=OK e;have M:=pC e;have D:(AL d).length<=256:=by rw[Hm];exact C
 have g:Ak d=if ((BG d).all λs=>(DP d s).2)=false then 10 else if Ho d (B6 d).1 (BG d) (B6 d).1.length=true then 11 else 0:=by
  unfold Ak;rw[As (by rw[c];simp),As O1,As (by rw[v];simp)]
 rw[B]at g ⊢;generalize AL d=l at *;generalize BG d=f at *;refine AI (ι:={i:Nat//i<=f.length/\((f.take i).all λs=>(DP d s).2)=true}) (λi=>⟨[(0,.p Et d),(3,.p JD l),(5,.p CL f),(7,.p (.int .i64) (i.1:Int))],[]⟩) (λi=>f.length-i.1) ⟨0,DO _,rfl⟩ (eW []) (λi=>?_)
 obtain⟨i,hi,n⟩:=i;have G:=λh:i<f.length=>JE f ByteArray.empty (λs=>(DP d s).2) h;simp only;repeat'(first|exact trivial|apply eS rfl|apply AB|refine rX b ?_ ?_|refine rC ?_ ?_<;>intro a<;>try(cases a;done))
 .exact⟨a,H,r⟩
 .have j:i<f.length:=On.1 (by assumption);have z:(f.all λs=>(DP d s).2)=false:=by
   rw[ABM];intro h;have:=OF.1 h _ (AG f ByteArray.empty j);rw[show (DP d (f.getD i ByteArray.empty)).2=false from a]at this;cases this
  rw[At z]at g;exact fI b [.tmp 2] (by rw[g];exact eR)
 .omega
 .have j:i<f.length:=On.1 (by assumption);refine⟨⟨i+1,j,?_⟩,by simp only;omega,AC [] rfl rfl ?_ ?_⟩
  .rw[G j,n];exact a
  .exact eN
  exact eN
 have j:f.take i=f:=BY (AAc.1 a);rw[j]at n;rw[As (by rw[n];simp)]at g;refine AI (ι:={t:Nat//t<=l.length/\Ho d l f t=false}) (λt=>⟨[(0,.p Et d),(3,.p JD l),(5,.p CL f),(10,.p (.int .i64) (t.1:Int))],[]⟩) (λt=>l.length-t.1) ⟨0,DO _,rfl⟩ (eW []) (λt=>?_)
 obtain⟨t,N,y⟩:=t;have J:=fD d l f t;simp only;repeat'(first|exact trivial|apply eS rfl|refine rX b ?_ ?_|refine rC ?_ ?_<;>intro a<;>try(cases a;done))
 .have w:t<l.length:=On.1 a;refine AI (ι:={k:Nat//k<=f.length/\(f.take k).any (KJ d l t)=false}) (λk=>⟨[(0,.p Et d),(3,.p JD l),(5,.p CL f),(10,.p (.int .i64) (t:Int)),(11,.p (.int .i64) (k.1:Int))],[]⟩) (λk=>f.length-k.1) ⟨0,DO _,rfl⟩ (eW []) (λk=>?_)
  obtain⟨k,hk,o⟩:=k;have F:=λh:k<f.length=>Mh f ByteArray.empty (KJ d l t) h;simp only;repeat'(first|exact trivial|apply eS rfl|apply AB|refine rX b ?_ ?_|refine rC ?_ ?_<;>intro a<;>try(cases a;done))
  .exact⟨a,E,by assumption,D,K⟩
  .have m:k<f.length:=On.1 (by assumption);have q:KJ d l t (f.getD k ByteArray.empty)=true:=by
    unfold KJ;rw[An,AAb];exact a
   have A:Ho d l f l.length=true:=by
    unfold Ho;rw[aT];exact⟨t,wH.2 w,IG f ByteArray.empty _ m q⟩
   rw[At A]at g;exact fI b [.tmp 2] (by rw[g];exact eR)
  .omega
  .have m:k<f.length:=On.1 (by assumption);have q:KJ d l t (f.getD k ByteArray.empty)=false:=by
    rw[ABM];unfold KJ;intro h;rw[An,AAb]at h;exact a h.1 h.2
   refine⟨⟨k+1,m,?_⟩,by simp only;omega,AC [] rfl rfl ?_ ?_⟩
   .rw[F m,o,q];rfl
   .exact eN
   exact eN
  .omega
  have m:f.take k=f:=BY (AAc.1 a);rw[m]at o;refine⟨⟨t+1,w,?_⟩,by simp only;omega,AC [] rfl rfl ?_ ?_⟩
  .rw[J,y];exact o
  .exact eN
  exact eN
 have I:t=l.length:=by exact eV
 subst I;rw[As (by rw[y];simp)]at g;exact fI b [.tmp 2] (by rw[g];exact eR)
end
section
attribute [local go_sem] TJ Q2 U3 Zs TH
abbrev SI:=ByteArray×Int
theorem CB {d:List AJ} (h:Ak d=0):(B6 d).2=0/\(BG d).length<=64/\KH d=0:=by
 unfold Ak at h;split at h
 .rename_i h1;exact absurd h h1
 rename_i h1;split at h
 .cases h
 rename_i b;split at h
 .rename_i a;exact absurd h a
 rename_i a;exact⟨By h1,by omega,By a⟩
def Ls (d:List AJ) (s:ByteArray):SI:=(s,BH (AL d) (DP d s).1)
def DB (d:List AJ):List SI×Int:=if Ak d≠0 then ([],Ak d) else ((BG d).map (Ls d),0)
theorem Wv {α:Type} (f:α->X) (l:List α) (d:α) (h:k<l.length):(l.take (k+1)).map f=(l.take k).map f++[f (l.getD k d)]:=by
 rw[Ar l d h,AAN];rfl
theorem Zu {α:Type} (f:α->X) (l:List α) (h:k<=l.length):((l.take k).map f).length=k:=by simp[h]
def Q3:AW:={ ins:=[Et],pre:=λ_=>True,out:=λ(d,_)=>[.p N3 (DB d).1,.p C0 (DB d).2] }
theorem fE:AY Tryz.prog 67 Q3:=by
 refine fK [0,2,3,4,5,7,8,9,10,15,27] Tryz.func67 Tryz.ntmps67 (AE Xy (AE Pm (AE U4 (AE e9 (AE Xo AH))))) ?_;rintro w0 O0 ⟨d,u⟩ g - -;simp only[Q3,AK];repeat'(first|exact trivial|apply eS rfl|refine rX g ?_ ?_|refine rC ?_ ?_<;>intro a<;>try(cases a;done))
 .have h1:DB d=([],Ak d):=by unfold DB;rw[At a]
  exact fI g [.tmp 2,.tmp 3] (by rw[h1];exact eR)
 .have c:Ak d=0:=by simpa using a
  obtain⟨k,-,-⟩:=CB c;obtain⟨b,-,-⟩:=BW k;exact⟨(Ay b).2.1,λx r=>(KI b x r).2⟩
 have c:Ak d=0:=by simpa using a
 obtain⟨k,s,-⟩:=CB c;obtain⟨b,-,m⟩:=BW k;obtain⟨q,l,-⟩:=Ay b;have o:DB d=((BG d).map (Ls d),0):=by unfold DB;rw[As (by rw[c];simp)]
 rw[m];generalize BG d=f at *;refine AI (ι:={i:Nat//i<=f.length}) (λi=>⟨[(0,.p Et d),(5,.p JD (AL d)),(7,.p CL f),(8,.sr 49 yU 0 ((f.take i.1).map (Ls d)).length),(9,.p (.int .i64) (i.1:Int))],[(49,.arr 172 yU ((f.take i.1).map (Ls d)))]⟩) (λi=>f.length-i.1) ⟨0,DO _⟩ (eW [(49,.nil)]) (λi=>?_)
 obtain⟨i,hi⟩:=i;have n:=Zu (Ls d) f hi;have hs:=λh:i<f.length=>Wv (Ls d) f ByteArray.empty h;simp only;repeat'(first|exact trivial|apply eS rfl|apply AB|refine rX g ?_ ?_|refine rC ?_ ?_<;>intro a<;>try(cases a;done))
 .exact⟨a,q,l⟩
 .refine⟨a,?_⟩;rw[n];simp only[AO];omega
 .omega
 .have j:i<f.length:=On.1 a;have e:=hs j;refine⟨⟨i+1,j⟩,by simp only;omega,AC [(49,.nm 49)] rfl rfl ?_ ?_⟩
  .simp only[e];refine eM ?_;rfl
  simp only[e];exact eN
 have j:f.take i=f:=BY (AAc.1 a);rw[j];refine CK [49] ?_;exact fI g [.tmp 2,.tmp 3] (by rw[o];exact eR)
end
section
attribute [local go_sem] TJ Q2 U3 A3Y kW
def Sl (d:List AJ) (l:List AQ) (f:List ByteArray) (t:Nat) (n:Nat):List (Int×Int) :=
 ((List.range n).filter λ(i:Nat)=>(E7 d l (t:Int) (f.getD i ByteArray.empty)).2).map λ(i:Nat)=>((i:Int),Gn l (E7 d l (t:Int) (f.getD i ByteArray.empty)).1)
def JQ (d:List AJ) (l:List AQ) (f:List ByteArray) (n:Nat):List (List (Int×Int)):=(List.range n).map λt=>Sl d l f t f.length
def A4 (d:List AJ):List (List (Int×Int))×Int:=if Ak d≠0 then ([],Ak d) else (JQ d (AL d) (BG d) (AL d).length,0)
theorem Xz (d:List AJ) (l:List AQ) (f:List ByteArray) (t n:Nat):Sl d l f t (n+1)=Sl d l f t n++if (E7 d l (t:Int) (f.getD n ByteArray.empty)).2=true then [((n:Int),Gn l (E7 d l (t:Int) (f.getD n ByteArray.empty)).1)] else []:=by
 unfold Sl;rw[AAA,ABS,AAN]
 congr 1
 rw[AAH,AC5];split<;>rfl
theorem A0B (d:List AJ) (l:List AQ) (f:List ByteArray) (t n:Nat):(Sl d l f t n).length<=n:=by
 unfold Sl;rw[aS];exact iF (ABl _ _) sc
theorem lI (d:List AJ) (l:List AQ) (f:List ByteArray) (n:Nat):JQ d l f (n+1)=JQ d l f n++[Sl d l f n f.length]:=by simp[JQ,AAA]
theorem X0 (d:List AJ) (l:List AQ) (f:List ByteArray) (n:Nat):(JQ d l f n).length=n:=by simp[JQ]
theorem A0C {d:List AJ} {l:List AQ} (h:∀x∈l,x.2.length<=64) (t:Int) (s:ByteArray):(E7 d l t s).1.length<=64:=by
 unfold E7;refine VE t s d ?_;rw[AS];cases hh:l[0]? with
 | none=>simp
 | some x=>exact h x (AAF hh)
def VG:AW:={ ins:=[Et],pre:=λ_=>True,out:=λ(d,_)=>[.p A3F (A4 d).1,.p C0 (A4 d).2] }
theorem lJ:AY Tryz.prog 64 VG:=by
 refine fK [0,2,3,4,5,7,8,9,10,11,12,13,17,29,35,49] Tryz.func64 Tryz.ntmps64 (AE Xy (AE Pm (AE U4 (AE A0A (AE A0g AH))))) ?_;rintro w0 O0 ⟨d,u⟩ e - -;simp only[VG,AK];repeat'(first|exact trivial|apply eS rfl|refine rX e ?_ ?_|refine rC ?_ ?_<;>intro a<;>try(cases a;done))
 .have h1:A4 d=([],Ak d):=by unfold A4;rw[At a]
  exact fI e [.tmp 2,.tmp 3] (by rw[h1];exact eR)
 .have h:Ak d=0:=by simpa using a
  obtain⟨m,-,-⟩:=CB h;obtain⟨b,-,-⟩:=BW m;exact⟨(Ay b).2.1,λx z=>(KI b x z).2⟩
 have h:Ak d=0:=by simpa using a
 obtain⟨m,B,o⟩:=CB h;obtain⟨b,j,r⟩:=BW m;obtain⟨D,A,-⟩:=Ay b;have y:A4 d=(JQ d (AL d) (BG d) (AL d).length,0):=by unfold A4;rw[As (by rw[h];simp)]
 have w:=Pn b o;have n:=OK b;have v:(AL d).length<=256:=by rw[Hm];exact j
 rw[r];generalize AL d=l at *;generalize BG d=f at *;have q:=λt s=>A0C (d:=d) n t s;refine AI (ι:={t:Nat//t<=l.length}) (λt=>⟨[(0,.p Et d),(5,.p JD l),(7,.p CL f),(8,.sr 61 Wr 0 (JQ d l f t.1).length),(9,.p (.int .i64) (t.1:Int))],[(61,.arr 112 Wr (JQ d l f t.1))]⟩) (λt=>l.length-t.1) ⟨0,DO _⟩ (AC [(61,.nil)] rfl rfl ?_ ?_) (λt=>?_)
 .refine eM ?_;rfl
 .refine eM ?_;rfl
 obtain⟨t,E⟩:=t;have j:=X0 d l f t;have hs:=lI d l f t;simp only;repeat'(first|exact trivial|apply eS rfl|refine rX e ?_ ?_|refine rC ?_ ?_<;>intro a<;>try(cases a;done))
 .refine AI (ι:={i:Nat//i<=f.length}) (λi=>⟨[(0,.p Et d),(5,.p JD l),(7,.p CL f),(8,.sr 61 Wr 0 (JQ d l f t).length),(9,.p (.int .i64) (t:Int)),(10,.sr 57 yT 0 (Sl d l f t i.1).length),(11,.p (.int .i64) (i.1:Int))],[(61,.arr 112 Wr (JQ d l f t)),(57,.arr 149 yT (Sl d l f t i.1))]⟩) (λi=>f.length-i.1) ⟨0,DO _⟩ (AC [(61,.nm 61),(57,.nil)] rfl rfl ?_ ?_) (λi=>?_)
  .refine eM ?_;rfl
  .refine eM ?_;rfl
  obtain⟨i,hi⟩:=i;have C:=A0B d l f t i;have c:=Xz d l f t i;simp only;repeat'(first|exact trivial|apply eS rfl|apply AB|refine rX e ?_ ?_|refine rC ?_ ?_<;>intro a<;>try(cases a;done))
  .exact⟨a,w,by assumption,v,n⟩
  .refine⟨iF (q _ _) dg,?_⟩;simp only[AO];omega
  .omega
  .have g:i<f.length:=On.1 (by assumption);rw[At a]at c;refine⟨⟨i+1,g⟩,by simp only;omega,AC [(61,.nm 61),(57,.nm 57)] rfl rfl ?_ ?_⟩
   .simp only[c];exact eN
   simp only[c];exact eN
  .omega
  .have g:i<f.length:=On.1 (by assumption);rw[As (by rw[a];simp),AAv]at c;refine⟨⟨i+1,g⟩,by simp only;omega,AC [(61,.nm 61),(57,.nm 57)] rfl rfl ?_ ?_⟩
   .simp only[c];exact eN
   simp only[c];exact eN
  .rw[j];simp only[AO];omega
  .omega
  have k:t<l.length:=On.1 (by assumption);have g:i=f.length:=by omega
  subst g;refine⟨⟨t+1,k⟩,by simp only;omega,AC [(61,.nm 61)] rfl rfl ?_ ?_⟩
  .simp only[hs];exact eN
  simp only[hs];exact eN
 have k:t=l.length:=by omega
 subst k;refine CK [61] ?_;exact fI e [.tmp 2,.tmp 3] (by rw[y];exact eR)
end
section
attribute [local go_sem] Kj
def Kk (l:List ByteArray) (n:Nat):List FV:=(List.range n).map λk=>(l.getD (2*k) ByteArray.empty,l.getD (2*k+1) ByteArray.empty)
theorem VH (l:List ByteArray) (n:Nat):Kk l (n+1)=Kk l n++[(l.getD (2*n) ByteArray.empty,l.getD (2*n+1) ByteArray.empty)]:=by simp[Kk,AAA]
theorem X2 (l:List ByteArray) (n:Nat):(Kk l n).length=n:=by simp[Kk]
def Zv (s:ByteArray):List ByteArray:=if AM s ByteArray.empty=true then [] else [s]
def Ft (n s:ByteArray) (l:List ByteArray):AJ:=(n,Zv s,Kk l (l.length / 2))
def pE:AW:={ ins:=[T9,T9,CL],pre:=λ(_,_,l,_)=>List.length l<=1000,out:=λ(n,s,l,_)=>[.p yV (Ft n s l)] }
theorem pF:AY Tryz.prog 68 pE:=by
 refine fK [0,1,2,6,7,8,12,20] Tryz.func68 Tryz.ntmps68 AH ?_;rintro w0 O0 ⟨n,s,l,u⟩ b-i;have i:l.length<=1000:=i;simp only[pE,AK];repeat'(first|exact trivial|apply eS rfl|apply AB|refine rX b ?_ ?_|refine rC ?_ ?_<;>intro a<;>try(cases a;done))
 .have f:=a;refine CK [14] ?_;refine AI (ι:={k:Nat//2*k<=l.length}) (λk=>⟨[(2,.p CL l),(6,.bp 6 [] 0),(7,.bp 7 [] 0),(8,.p (.int .i64) ((2*k.1:Nat):Int))],[(6,.box 65 true [.p T9 ByteArray.empty,.raw (.slice none 0 0),.raw (.slice none 0 0)]),(7,.box 65 true [.p T9 n,.p CL [s],.sr 36 kK 0 (Kk l k.1).length]),(36,.arr 196 kK (Kk l k.1))]⟩) (λk=>l.length-2*k.1) ⟨0,DO _⟩ (AC [(6,.nm 6),(7,.nm 7),(36,.nil)] rfl rfl ?_ ?_) (λk=>?_)
  .first|exact eN|refine eM ?_
   exact⟨rfl,rfl⟩
  .first|exact eN|refine eM ?_
  obtain⟨k,hk⟩:=k;have g:=X2 l k;have d:=VH l k;simp only;repeat'(first|exact trivial|apply eS rfl|apply AB|refine rX b ?_ ?_|refine rC ?_ ?_<;>intro a<;>try(cases a;done))
  .exact eV
  .refine⟨by exact eV,⟨by exact eV,by exact eV⟩,⟨by exact eV,by exact eV⟩,?_⟩;rw[g];simp only[AO];exact eV
  .exact eV
  .have c:2*k+1<l.length:=by exact eV
   have e:((2*k:Nat):Int)+1=((2*k+1:Nat):Int):=by omega
   refine⟨⟨k+1,by omega⟩,by simp only;omega,AC [(6,.nm 6),(7,.nm 7),(36,.nm 36)] rfl rfl ?_ ?_⟩
   .simp only[d];first|exact eN|refine eM ?_
    rw[e];rfl
   simp only[d];first|exact eN|refine eM ?_
   show ((2*k:Nat):Int)+2=((2*(k+1):Nat):Int);omega
  have c:k=l.length / 2:=by exact eV
  refine CK [36] ?_;have h:Ft n s l=(n,[s],Kk l k):=by
   unfold Ft Zv;rw[<-c,As (by rw[show AM s ByteArray.empty=false from f];simp)]
  exact fI b [.cell 6 65] (by rw[h];exact eR)
 have f:=a;refine AI (ι:={k:Nat//2*k<=l.length}) (λk=>⟨[(2,.p CL l),(6,.bp 6 [] 0),(7,.bp 7 [] 0),(8,.p (.int .i64) ((2*k.1:Nat):Int))],[(6,.box 65 true [.p T9 ByteArray.empty,.raw (.slice none 0 0),.raw (.slice none 0 0)]),(7,.box 65 true [.p T9 n,.p CL ([]:List ByteArray),.sr 36 kK 0 (Kk l k.1).length]),(36,.arr 196 kK (Kk l k.1))]⟩) (λk=>l.length-2*k.1) ⟨0,DO _⟩ (AC [(6,.nm 6),(7,.nm 7),(36,.nil)] rfl rfl ?_ ?_) (λk=>?_)
 .first|exact eN|refine eM ?_
  exact⟨rfl,rfl⟩
 .first|exact eN|refine eM ?_
 obtain⟨k,hk⟩:=k;have g:=X2 l k;have d:=VH l k;simp only;repeat'(first|exact trivial|apply eS rfl|apply AB|refine rX b ?_ ?_|refine rC ?_ ?_<;>intro a<;>try(cases a;done))
 .exact eV
 .refine⟨by exact eV,⟨by exact eV,by exact eV⟩,⟨by exact eV,by exact eV⟩,?_⟩;rw[g];simp only[AO];exact eV
 .exact eV
 .have c:2*k+1<l.length:=by exact eV
  have e:((2*k:Nat):Int)+1=((2*k+1:Nat):Int):=by omega
  refine⟨⟨k+1,by omega⟩,by simp only;omega,AC [(6,.nm 6),(7,.nm 7),(36,.nm 36)] rfl rfl ?_ ?_⟩
  .simp only[d];first|exact eN|refine eM ?_
   rw[e];rfl
  simp only[d];first|exact eN|refine eM ?_
  show ((2*k:Nat):Int)+2=((2*(k+1):Nat):Int);omega
 have c:k=l.length / 2:=by exact eV
 refine CK [36] ?_;have h:Ft n s l=(n,([]:List ByteArray),Kk l k):=by
  unfold Ft Zv;rw[<-c,At (show AM s ByteArray.empty=true from f)]
 exact fI b [.cell 6 65] (by rw[h];exact eR)
end
section
attribute [local go_sem] pE Kj KD cs2 Mj JJ IJ M5 cs7 cs8
def Bm:List AJ:=[
 Ft { data:=#[116,111,112] } { data:=#[] } [],
 Ft { data:=#[108,105,115,116] } { data:=#[116,111,112] } [],
 Ft { data:=#[99,111,110,115] } { data:=#[108,105,115,116] } [{ data:=#[70,73,82,83,84] },{ data:=#[116,111,112] },{ data:=#[82,69,83,84] },{ data:=#[108,105,115,116] }],
 Ft { data:=#[110,117,108,108] } { data:=#[108,105,115,116] } [],
 Ft { data:=#[100,108,105,115,116] } { data:=#[116,111,112] } [{ data:=#[76,73,83,84] },{ data:=#[108,105,115,116] },{ data:=#[76,65,83,84] },{ data:=#[108,105,115,116] }],
 Ft { data:=#[105,110,100,101,120] } { data:=#[116,111,112] } [],
 Ft { data:=#[104,97,110,100,108,101] } { data:=#[105,110,100,101,120] } [],
 Ft { data:=#[101,118,101,110,116] } { data:=#[105,110,100,101,120] } [],
 Ft { data:=#[101,110,116,105,116,121] } { data:=#[105,110,100,101,120] } [],
 Ft { data:=#[114,101,108] } { data:=#[116,111,112] } [{ data:=#[76,65,66,69,76] },{ data:=#[104,97,110,100,108,101] }],
 Ft { data:=#[113,101,113] } { data:=#[116,111,112] } [{ data:=#[72,73,71,72] },{ data:=#[104,97,110,100,108,101] },{ data:=#[76,79,87] },{ data:=#[104,97,110,100,108,101] }],
 Ft { data:=#[115,101,109] } { data:=#[116,111,112] } [{ data:=#[84,79,80] },{ data:=#[104,97,110,100,108,101] },{ data:=#[73,78,68,69,88] },{ data:=#[105,110,100,101,120] },{ data:=#[82,69,76,83] },{ data:=#[100,108,105,115,116] },{ data:=#[67,79,78,83] },{ data:=#[100,108,105,115,116] }],
 Ft { data:=#[115,105,103,110] } { data:=#[116,111,112] } [{ data:=#[83,69,77] },{ data:=#[115,101,109] },{ data:=#[65,82,71,83] },{ data:=#[108,105,115,116] }]]
def Hp:AW:={ ins:=[],pre:=λ_=>True,out:=λ_=>[.p Et Bm] }
theorem lK:AY Tryz.prog 29 Hp:=by
 refine fKP [0] [3,6,12,14,16,18,20] [] Tryz.func29 Tryz.ntmps29 (AE pF AH) ?_;rintro w0 O0 u a - -;simp only[Hp,AK];repeat'(first|exact trivial|apply eS rfl|refine rX a ?_ ?_)
 exact fI a [.tmp 0] (by unfold Bm;exact eR)
end
section
attribute [local go_sem] VG Q2 A0w Q3
abbrev FI:=ByteArray×List Int×List Int×List (Int×Int)
abbrev AF:=List FI×List SI
def D7 (l:List AQ) (v:List (List (Int×Int))) (n:Nat):List FI:=(List.range n).map λi=>((l.getD i c0).1,(l.getD i c0).2,Xw l (i:Int),v.getD i [])
theorem lL (l:List AQ) (v:List (List (Int×Int))) (n:Nat):D7 l v (n+1)=D7 l v n++[((l.getD n c0).1,(l.getD n c0).2,Xw l (n:Int),v.getD n [])]:=by simp[D7,AAA]
theorem JR (l:List AQ) (v:List (List (Int×Int))) (n:Nat):(D7 l v n).length=n:=by simp[D7]
def Bi (d:List AJ):AF:=(D7 (AL d) (A4 d).1 (AL d).length,(DB d).1)
def Aa (d:List AJ):AF×Int:=if (A4 d).2≠0 then (([],[]),(A4 d).2) else (Bi d,0)
def Fc:AW:={ ins:=[Et],pre:=λ_=>True,out:=λ(d,_)=>[.p FY (Aa d).1,.p C0 (Aa d).2] }
theorem VI:AY Tryz.prog 28 Fc:=by
 refine fK [0,2,3,4,5,6,8,9,10,18,29] Tryz.func28 Tryz.ntmps28 (AE lJ (AE Pm (AE A3W (AE fE AH)))) ?_;rintro w0 O0 ⟨d,u⟩ b - -;simp only[Fc,AK];repeat'(first|exact trivial|apply eS rfl|refine rX b ?_ ?_|refine rC ?_ ?_<;>intro a<;>try(cases a;done))
 .have h1:Aa d=(([],[]),(A4 d).2):=by unfold Aa;rw[At a]
  exact fI b [.cell 2 26,.tmp 3] (by rw[h1];exact eR)
 have c:(A4 d).2=0:=by simpa using a
 have f:Ak d=0:=by
  unfold A4 at c;split at c
  .rename_i h;exact absurd c h
  rename_i h;exact By h
 obtain⟨t,x,w⟩:=CB f;obtain⟨j,m,k⟩:=BW t;have g:Aa d=(Bi d,0):=by unfold Aa;rw[As (by rw[c];simp)]
 have r:(A4 d).1.length=(AL d).length:=by
  unfold A4;rw[As (by rw[f];simp)];exact X0 _ _ _ _
 have s:=OK j;have o:(AL d).length<=256:=by rw[Hm];exact m
 unfold Bi at g;rw[k];generalize AL d=l at *;generalize (A4 d).1=v at *;refine AI (ι:={n:Nat//n<=l.length}) (λn=>⟨[(0,.p Et d),(2,.bp 2 [] 0),(4,.p A3F v),(6,.p JD l),(8,.bp 8 [] 0),(9,.p (.int .i64) (n.1:Int))],[(2,.box 26 true [.raw (.slice none 0 0),.raw (.slice none 0 0)]),(8,.box 26 true [.sr 53 kL 0 (D7 l v n.1).length,.raw (.slice none 0 0)]),(53,.arr 114 kL (D7 l v n.1))]⟩) (λn=>l.length-n.1) ⟨0,DO _⟩ (AC [(2,.nm 2),(8,.nm 8),(53,.nil)] rfl rfl ?_ ?_) (λn=>?_)
 .refine eM ?_;exact⟨rfl,rfl⟩
 .exact eN
 obtain⟨n,hn⟩:=n;have q:=JR l v n;have i:=lL l v n;simp only;repeat'(first|exact trivial|apply eS rfl|apply AB|refine rX b ?_ ?_|refine rC ?_ ?_<;>intro a<;>try(cases a;done))
 .refine⟨a,a,⟨a,o,s⟩,by rw[r];exact a,?_⟩;rw[q];simp only[AO];omega
 .omega
 .have e:n<l.length:=On.1 a;refine⟨⟨n+1,e⟩,by simp only;omega,AC [(2,.nm 2),(8,.nm 8),(53,.nm 53)] rfl rfl ?_ ?_⟩
  .simp only[i];exact eN
  simp only[i];exact eN
 have e:n=l.length:=by omega
 subst e;refine CK [53] ?_;exact fI b [.cell 2 26,.tmp 3] (by rw[g];exact eR)
end
section
def lM:AW:={ ins:=[BU,T3],pre:=λ(_,i,_)=>(0:Int)<=i,out:=λ(b,i,_)=>[.p Qq (Fq b i)],lend:=true }
attribute [local go_sem] lM
theorem A0D:AY Tryz.prog 125 lM:=by
 refine fK [0,1,4,8] Tryz.func125 Tryz.ntmps125 AH ?_;rintro w0 O0 ⟨b,i,u⟩ c-hi;simp only[lM,AK];repeat'(first|exact trivial|apply eS rfl|refine rX c ?_ ?_|refine rC ?_ ?_<;>intro a<;>try(cases a;done))
 .exact⟨hi,a⟩
 .have h1:Fq b i=b.getD i.toNat 0:=by unfold Fq;rw[At a]
  exact fI c [.tmp 4] (by rw[h1];exact eR)
 have h1:Fq b i=0:=by unfold Fq;rw[As (AAW.2 a)]
 exact fI c [.tmp 4] (by rw[h1];exact eR)
def Lt (a b:List Int):Bool:=(List.range a.length).all λi=>Cl .andNot .u64 (a.getD i 0) (Fq b (i:Int))==0
def fF (a b:List Int) (n:Nat):Bool:=(List.range n).all λi=>Cl .andNot .u64 (a.getD i 0) (Fq b (i:Int))==0
theorem lN (a b:List Int) (n:Nat):fF a b (n+1)=(fF a b n&&Cl .andNot .u64 (a.getD n 0) (Fq b (n:Int))==0):=by
 unfold fF;rw[AAA,AC6];simp
def Po:AW:={ ins:=[BU,BU],pre:=λ_=>True,out:=λ(a,b,_)=>[.p .bool (Lt a b)],lend:=true }
attribute [local go_sem] Po
theorem VJ:AY Tryz.prog 75 Po:=by
 refine fK [0,1,4,5,6,7,8,9,10,19] Tryz.func75 Tryz.ntmps75 (AE A0D AH) ?_;rintro w0 O0 ⟨a,b,u⟩ e ⟨⟨g,-⟩,-⟩ -;simp only[AO]at g;simp only[Po,AK];repeat'(first|exact trivial|apply eS rfl|refine rX e ?_ ?_)
 have h:Lt a b=fF a b a.length:=rfl;refine AI (ι:={n:Nat//n<=a.length/\fF a b n=true}) (λn=>⟨[(1,.p BU b),(7,.p BU a),(8,.p (.int .i64) (a.length:Int)),(9,.p (.int .i64) (n.1:Int))],[]⟩) (λn=>a.length-n.1) ⟨0,DO _,rfl⟩ (eW []) (λn=>?_)
 obtain⟨n,hn,f⟩:=n;have hs:=lN a b n;simp only;repeat'(first|exact trivial|apply eS rfl|apply AB|refine rX e ?_ ?_|refine rC ?_ ?_<;>intro d<;>try(cases d;done))
 .exact d
 .have c:n<a.length:=by exact eV
  have h1:Lt a b=false:=by
   unfold Lt;rw[ABW];exact⟨n,wH.2 c,by simpa using d⟩
  exact fI e [.tmp 4] (by rw[h1];exact eR)
 .exact eV
 .have c:n<a.length:=by exact eV
  refine⟨⟨n+1,c,?_⟩,by simp only;omega,AC [] rfl rfl ?_ ?_⟩
  .rw[hs,f];simpa using d
  .exact eN
  exact eN
 have c:n=a.length:=by exact eV
 subst c;exact fI e [.tmp 4] (by rw[h,f];exact eR)
abbrev Q4:FI:=(ByteArray.empty,[],[],[])
def Ae (h:AF) (a b:Int):Bool:=Lt (h.1.getD b.toNat Q4).2.1 (h.1.getD a.toNat Q4).2.1
def NQ:AW:={ ins:=[FY,T3,T3],pre:=λ(h,a,b,_)=>((0:Int)<=a/\a<(List.length (h:AF).1:Int))/\((0:Int)<=b/\b<(List.length (h:AF).1:Int)),out:=λ(h,a,b,_)=>[.p .bool (Ae h a b)],lend:=true }
theorem Mn:AY Tryz.prog 32 NQ:=by
 refine fK [0,1,2,3,6] Tryz.func32 Tryz.ntmps32 (AE VJ AH) ?_;rintro w0 O0 ⟨⟨e,hf⟩,a,b,u⟩ c-⟨ha,d⟩;simp only[NQ,AK];repeat'(first|exact trivial|apply eS rfl|refine rX c ?_ ?_)
 .exact⟨d,ha⟩
 exact fI c [.tmp 6] (by unfold Ae;exact eR)
end
section
attribute [local go_sem] Po
def VK:AW:={ ins:=[BU],pre:=λ(b,_)=>List.length b<=100000,out:=λ(b,_)=>[.p BU (BN b)] }
attribute [local go_sem] VK
theorem lO:AY Tryz.prog 210 VK:=by
 refine fK [0,2,3,15] Tryz.func210 Tryz.ntmps210 AH ?_;rintro w0 O0 ⟨b,u⟩ d-f;have f:b.length<=100000:=f;simp only[VK,AK];repeat'(first|exact trivial|apply eS rfl|refine rX d ?_ ?_)
 refine AI (ι:={n:Nat//n<=b.length/\Cb b n=Cb b b.length}) (λn=>⟨[(0,.p BU b),(3,.p (.int .i64) (n.1:Int))],[]⟩) (λn=>n.1) ⟨b.length,OS _,rfl⟩ (eW []) (λn=>?_)
 obtain⟨n,hn,g⟩:=n;simp only;repeat'(first|apply eS rfl|apply AB|refine rX d ?_ ?_|refine rC ?_ ?_<;>intro c<;>try(cases c;done))
 .constructor
  .exact eV
  intro h;refine⟨?_,?_⟩<;>exact eV
 .exact eV
 .obtain⟨h1,a⟩:=c;obtain⟨m,rfl⟩:∃m,n=m+1:=⟨n-1,by omega⟩;have e:(((m+1:Nat):Int)-1)=(m:Int):=by omega
  rw[e]at a;have a:b.getD m 0=0:=a;have j:Cb b m=Cb b b.length:=by
   rw[<-g];show _=if b.getD m 0=0 then Cb b m else m+1
   rw[At a]
  refine⟨⟨m,by omega,j⟩,by simp,AC [] rfl rfl ?_ ?_⟩
  .exact eN
  simp only[e];exact eN
 .exact AAc.2 hn
 have i:Cb b n=n:=by
  cases n with
  | zero=>rfl
  | succ m =>
   have e:(((m+1:Nat):Int)-1)=(m:Int):=by omega
   rw[e]at c;have a:=c O1;have a:¬b.getD m 0=0:=a;show (if b.getD m 0=0 then Cb b m else m+1)=m+1;rw[As a]
 have h1:BN b=b.take n:=by unfold BN;rw[<-g,i]
 rw[<-h1];exact fI d [.tmp 2]
def Gc (g:Nat->Int) (n i:Nat):List Int:=(List.range n).map λj=>if j<i then g j else 0
theorem X3 (g:Nat->Int) (n i:Nat):(Gc g n i).length=n:=by simp[Gc]
theorem lQ (g:Nat->Int) (n:Nat):Gc g n 0=List.replicate n 0:=by
 apply AAt
 .simp[Gc]
 intro j h1 a;simp[Gc]
theorem uD (g:Nat->Int) (n i:Nat):(Gc g n i).set i (g i)=Gc g n (i+1):=by
 apply AAt
 .simp[Gc]
 intro j h1 b;simp only[Gc,List.getElem_set,ABA,ABD];split
 .rename_i e;rw[At O1,e]
 rename_i e;by_cases a:j<i
 .rw[At a,At O1]
 rw[As a,As O1]
def Zw (a b:List Int) (i:Nat):Int:=Cl .and .u64 (a.getD i 0) (b.getD i 0)
def Fd (a b:List Int):List Int:=BN (Gc (Zw a b) (min a.length b.length) (min a.length b.length))
def A0E:AW:={ ins:=[BU,BU],pre:=λ(a,_,_)=>List.length a<=100000,out:=λ(a,b,_)=>[.p BU (Fd a b)] }
attribute [local go_sem] A0E
theorem A3Z:AY Tryz.prog 193 A0E:=by
 refine fK [0,1,4,5,6,14,15,16] Tryz.func193 Tryz.ntmps193 (AE lO AH) ?_;rintro w0 O0 ⟨a,b,u⟩ d-ha;have ha:a.length<=100000:=ha;simp only[A0E,AK];repeat'(first|exact trivial|apply eS rfl|refine rX d ?_ ?_)
 .split<;>simp only[AO]<;>dsimp only[Ty.den]at *<;>omega
 have h:Int.toNat (if ((List.length b:Nat):Int)<((List.length a:Nat):Int) then ((List.length b:Nat):Int) else ((List.length a:Nat):Int))=min (List.length a) (List.length b):=by split<;>omega
 rw[h];have j:Fd a b=BN (Gc (Zw a b) (min a.length b.length) (min a.length b.length)):=rfl;have k:min a.length b.length<=a.length:=Nat.min_le_left _ _;have l:min a.length b.length<=b.length:=Nat.min_le_right _ _;generalize min a.length b.length=n at *;refine AI (ι:={i:Nat//i<=n}) (λi=>⟨[(0,.p BU a),(1,.p BU b),(5,.sr 12 Qq 0 n),(14,.p (.int .i64) (n:Int)),(15,.p (.int .i64) (i.1:Int))],[(12,.arr 205 Qq (Gc (Zw a b) n i.1))]⟩) (λi=>n-i.1) ⟨0,DO _⟩ (AC [(12,.nm 12)] rfl rfl ?_ ?_) (λi=>?_)
 .refine eM ?_;rw[lQ]
 .exact eN
 obtain⟨i,hi⟩:=i;have f:=X3 (Zw a b) n i;simp only;repeat'(first|exact trivial|apply eS rfl|apply AB|refine rX d ?_ ?_|refine rC ?_ ?_<;>intro c<;>try(cases c;done))
 .have e:i<n:=On.1 c;exact⟨by exact eV,by exact eV,c⟩
 .exact eV
 .have e:i<n:=On.1 c;refine⟨⟨i+1,e⟩,by simp only;omega,AC [(12,.nm 12)] rfl rfl ?_ ?_⟩
  .simp only[<-uD];refine eM ?_;rfl
  exact eN
 have e:i=n:=by omega
 subst e;have g:(Gc (Zw a b) i i).take i=Gc (Zw a b) i i:=BY (by rw[f];exact OS _);refine CK [12] ?_;repeat'(first|apply eS rfl|refine rX d ?_ ?_)
 .rw[g,f];dsimp only[Ty.den]at *;omega
 rw[g];exact fI d [.tmp 4] (by rw[j];exact eR)
def Dl (a b:List Int):Bool:=Lt a b&&Lt b a
def Zx:AW:={ ins:=[BU,BU],pre:=λ_=>True,out:=λ(a,b,_)=>[.p .bool (Dl a b)],lend:=true }
attribute [local go_sem] Zx
theorem uE:AY Tryz.prog 195 Zx:=by
 refine fK [0,1,4] Tryz.func195 Tryz.ntmps195 (AE VJ AH) ?_;rintro w0 O0 ⟨a,b,u⟩ c - -;simp only[Zx,AK];repeat'(first|exact trivial|apply eS rfl|refine rX c ?_ ?_)
 exact fI c [.tmp 4] (by unfold Dl;exact eR)
def Eg (c:List Int):Nat->List FI->Int
 | _,[]=>-1
 | k,t :: l=>if Dl t.2.1 c=true then (k:Int) else Eg c (k+1) l
theorem lR (c:List Int) (l:List FI) (h:k<l.length):Eg c k (l.drop k)=if Dl (l.getD k Q4).2.1 c=true then (k:Int) else Eg c (k+1) (l.drop (k+1)):=by
 rw[ON h];have e:l.getD k Q4=l[k]:=by simp[AS,h]
 rw[e];rfl
theorem A0F (c:List Int) (t:FI):BB Tryz.prog 194 [.p kL t,.bp 1 [] 0] [(1,.box 111 false [.p BU c])] [1] (λres b=>res=.p .bool (Dl t.2.1 c)/\b=[(1,.box 111 false [.p BU c])]):=by
 refine Jf [0,1,2,3] [] [] Tryz.func194 Tryz.ntmps194 (AE uE AH) ?_;intro w0 K O0 ρ0 a d e;simp only[Am];repeat'(first|exact trivial|apply eS rfl|refine rX a ?_ ?_)
 refine Ev.ent (σ':=⟨[(3,.p .bool (Dl t.2.1 c))],[(1,.box 111 false [.p BU c])]⟩) ?_ (AC [(1,.nm 1)] rfl rfl ?_ ?_)
 .exact fM a [.tmp 3] (.p .bool (Dl t.2.1 c)) eT ⟨rfl,rfl⟩
 .exact eN
 exact eN
theorem uF (l:List FI) (c:List Int) (i:l.length<=100000):BB Tryz.prog 76 [.p M4 l,.clo 194 [1]] [(1,.box 111 false [.p BU c])] [1] (λres g=>res=.p T3 (Eg c 0 l)/\g=[(1,.box 111 false [.p BU c])]):=by
 refine Jf [0,1,4,5,7,8,9,16] [] [] Tryz.func76 Tryz.ntmps76 AH ?_;intro w0 K O0 ρ0 b j m;simp only[Am];repeat'(first|exact trivial|apply eS rfl|refine rX b ?_ ?_)
 refine AI (ι:={k:Nat//k<=l.length/\Eg c k (l.drop k)=Eg c 0 l}) (λk=>⟨[(0,.p M4 l),(1,.clo 194 [1]),(7,.p (.int .i64) (l.length:Int)),(8,.p (.int .i64) (k.1:Int))],[(1,.box 111 false [.p BU c])]⟩) (λk=>l.length-k.1) ⟨0,DO _,rfl⟩ (eW [(1,.nm 1)]) (λk=>?_)
 obtain⟨k,hk,hf⟩:=k;have f:=λh:k<l.length=>lR c l h;simp only;repeat'(first|exact trivial|apply eS rfl|refine rX b ?_ ?_|refine rC ?_ ?_<;>intro a<;>try(cases a;done))
 .have d:k<l.length:=On.1 a;have e:=f d;refine cP 5 b ?_ ?_
  .exact a
  refine rM b (A0F c (l.getD k Q4)) [(1,.nm 1)] [] ?_ ?_ ?_
  .exact eN
  .exact eN
  rintro _ _ ⟨rfl,rfl⟩;refine⟨[(1,.nm 1)],.p .bool (Dl (l.getD k Q4).2.1 c),[(1,.box 111 false [.p BU c])],rfl,rfl,?_,?_,rfl,rfl,E2 ?_⟩
  .exact eN
  .exact eN
  repeat'(first|exact trivial|apply eS rfl|apply AB|refine rX b ?_ ?_|refine rC ?_ ?_<;>intro a<;>try(cases a;done))
  .have a:Dl (l.getD k Q4).2.1 c=true:=a;rw[At a,hf]at e;refine Ev.ent (σ':=⟨[(4,.p (.int .i64) (k:Int))],[(1,.box 111 false [.p BU c])]⟩) ?_ (AC [(1,.nm 1)] rfl rfl ?_ ?_)
   .exact fM b [.tmp 4] (.p T3 (k:Int)) eT ⟨by rw[e],rfl⟩
   .exact eN
   exact eN
  .omega
  have a:Dl (l.getD k Q4).2.1 c=false:=a;rw[As (by rw[a];simp)]at e;exact⟨⟨k+1,d,e.symm.trans hf⟩,by simp only;omega,eW [(1,.nm 1)]⟩
 have d:l.drop k=[]:=If (AAc.1 a);rw[d]at hf;have hf:(-1:Int)=Eg c 0 l:=hf;refine Ev.ent (σ':=⟨[(4,.p (.int .i64) (-1))],[(1,.box 111 false [.p BU c])]⟩) ?_ (AC [(1,.nm 1)] rfl rfl ?_ ?_)
 .exact fM b [.tmp 4] (.p T3 (-1)) eT ⟨by rw[hf],rfl⟩
 .exact eN
 exact eN
def BX (h:AF) (t:Int):List Int:=(h.1.getD t.toNat Q4).2.1
def Co (h:AF) (a b:Int):Int×Bool :=
 if (Fd (BX h a) (BX h b)).length=0 then (0,false) else if Eg (Fd (BX h a) (BX h b)) 0 h.1<0 then (0,false) else (Eg (Fd (BX h a) (BX h b)) 0 h.1,true)
def pG:AW:={ ins:=[FY,T3,T3],pre:=λ(h,a,b,_)=>((0:Int)<=a/\a<(List.length (h:AF).1:Int))/\((0:Int)<=b/\b<(List.length (h:AF).1:Int))/\List.length (h:AF).1<=100000/\(∀x∈(h:AF).1,x.2.1.length<=100000),out:=λ(h,a,b,_)=>[.p T3 (Co h a b).1,.p .bool (Co h a b).2],lend:=true }
theorem A40:AY Tryz.prog 179 pG:=by
 refine fK [0,1,2,3,6,7,8,9,25,31] Tryz.func179 Tryz.ntmps179 (AE A3Z AH) ?_;rintro w0 O0 ⟨⟨d,hf⟩,a,b,u⟩ e-⟨ha,i,k,n⟩;simp only[pG,AK];refine Ev.ent (σ':=⟨[(0,.p FY (d,hf)),(1,.p T3 a),(2,.p T3 b)],[]⟩) ?_ (AC [] rfl rfl ?_ ?_)
 .repeat'(first|exact trivial|apply eS rfl|refine rX e ?_ ?_|refine rC ?_ ?_<;>intro f<;>try(cases f;done))
  .refine⟨ha,i,?_⟩;have h1:Int.toNat a<List.length d:=(ACE ha.1).2 ha.2;exact n _ (AG (d:List FI) Q4 h1)
  .have l:Co (d,hf) a b=(0,false):=by
    unfold Co;rw[At (by unfold BX;exact Int.ofNat.inj f)]
   exact fI e [.tmp 6,.tmp 7] (by rw[l];exact eR)
  have j:∀c,c=Fd (List.getD d (Int.toNat a) (ByteArray.empty,[],[],[])).2.1 (List.getD d (Int.toNat b) (ByteArray.empty,[],[],[])).2.1->c=Fd (BX (d,hf) a) (BX (d,hf) b):=λc h=>h;have g:Co (d,hf) a b=if Eg (Fd (BX (d,hf) a) (BX (d,hf) b)) 0 d<0 then (0,false) else (Eg (Fd (BX (d,hf) a) (BX (d,hf) b)) 0 d,true):=by
   unfold Co;rw[As (λh=>f (by unfold BX at h;exact AB3 Int.ofNat h))]
  generalize o:Fd (List.getD d (Int.toNat a) (ByteArray.empty,[],[],[])).2.1 (List.getD d (Int.toNat b) (ByteArray.empty,[],[],[])).2.1=c at *;rw[<-j c rfl]at g;refine cP 3 e ?_ ?_
  .trivial
  refine rM e (uF d c k) [(1,.nm 8)] [] ?_ ?_ ?_
  .exact eN
  .exact eN
  rintro _ _ ⟨rfl,rfl⟩;refine⟨[(8,.nm 1)],.p T3 (Eg c 0 d),[(8,.box 111 false [.p BU c])],rfl,rfl,?_,?_,rfl,rfl,?_⟩
  .exact eN
  .exact eN
  generalize Eg c 0 d=m at *;refine rL e ?_ ?_
  .trivial
  repeat'(first|exact trivial|apply eS rfl|refine rX e ?_ ?_|refine rC ?_ ?_<;>intro f<;>try(cases f;done))
  .rw[At f]at g;exact fI e [.tmp 6,.tmp 7] (by rw[g];exact eR)
  rw[As (AAW.2 f)]at g;exact fI e [.tmp 6,.tmp 7] (by rw[g];exact eR)
 .exact eN
 exact eN
end
theorem VL (l:List (List Int)) (i k:Nat):l <+: GA l i k:=by
 unfold GA;split
 .exact ACz _ _
 exact ABb _
theorem VM (i:Nat):∀(n k:Nat) (l:List (List Int)),l <+: GB i n k l
 | 0,_,l=>ABb l
 | n+1,k,l=>by
  unfold GB;split
  .exact(VL l i k).trans (VM i n (k+1) _)
  exact ABb l
theorem Pp:∀(n i:Nat) (l:List (List Int)),l <+: Hi n i l
 | 0,_,l=>ABb l
 | n+1,i,l=>by
  unfold Hi;split
  .exact(VM i i 0 l).trans (Pp n (i+1) _)
  exact ABb l
theorem Pq {m:List (List Int)} (h:l <+: m) (hk:k<l.length):m.getD k []=l.getD k []:=by
 obtain⟨t,rfl⟩:=h;simp only[AS];rw[AA7 hk]
def Kl (l:List (List Int)) (q p:Nat):Prop:=ED (l.getD q []) (l.getD p [])=[]\/ED (l.getD q []) (l.getD p [])∈l
theorem Kl.pre {m:List (List Int)} (h:l <+: m) {q p:Nat} (c:q<l.length) (b:p<l.length) (a:Kl l q p):Kl m q p:=by
 unfold Kl at a ⊢;rw[Pq h c,Pq h b];rcases a with a|a
 .exact .inl a
 exact .inr (h.subset a)
theorem A41 {b:List Int} (h:kV l b=true):b∈l:=by
 obtain⟨x,a,e⟩:=aT.1 h;have:x=b:=by simpa[Gv] using e
 rw[<-this];exact a
theorem lS {i k:Nat} (hi:i<l.length) (hk:k<l.length):Kl (GA l i k) i k:=by
 have b:=VL l i k;unfold Kl;rw[Pq b hi,Pq b hk];unfold GA;split
 .right;simp
 rename_i a;rw[An,IN,TO]at a;by_cases h0:0<((ED (l.getD i []) (l.getD k [])).length:Int)
 .right;cases hh:kV l (ED (l.getD i []) (l.getD k [])) with
  | true=>exact A41 hh
  | false=>exact absurd ⟨h0,hh⟩ a
 left;exact AA9 O1
theorem VN {i:Nat}:∀ {n k:Nat} {l:List (List Int)},n+k=i->i<l.length->(GB i n k l).length<=256->(∀p,p<k->Kl l i p)->∀p,p<i->Kl (GB i n k l) i p
 | 0,k,l,hn,hi,a,h=>λp c=>h p O1
 | n+1,k,l,hn,hi,a,h=>by
  unfold GB at a ⊢;split at a
  .rename_i b;rw[At b];have c:=VL l i k;refine VN O1 (AAJ hi c.length_le) a λp d=>?_;by_cases e:p=k
   .subst e;exact lS hi O1
   exact(h p O1).pre c hi O1
  rename_i b;exact absurd (by omega:l.length<=256) b
theorem VO:∀ {n i:Nat} {l:List (List Int)},257<=n+i->(Hi n i l).length<=256->i<=l.length->(∀q p,p<q->q<i->Kl l q p)->∀q p,p<q->q<(Hi n i l).length->Kl (Hi n i l) q p
 | 0,i,l,hn,a,g,h=>λq p c f=>by
  have k:l.length<=256:=a;omega
 | n+1,i,l,hn,a,g,h=>by
  unfold Hi at a ⊢;split at a
  .rename_i b;rw[At b];have d:=VM i i 0 l;have m:=d.length_le;have j:=(Pp n (i+1) (GB i i 0 l)).length_le;refine VO O1 a O1 λq p c f=>?_;by_cases e:q=i
   .subst e;exact VN O1 b.1 O1 (λp d=>by omega) p c
   exact(h q p c O1).pre d O1 O1
  rename_i b;rw[As b];intro q p c f;exact h q p c (by
   refine By λhh=>b ⟨by omega,a⟩)
theorem Zy {c:List (List Int)} (a:(Aw c).length<=256):∀q p,p<q->q<(Aw c).length->Kl (Aw c) q p :=
 VO O1 a (DO _) (λq p _ h=>by omega)
theorem A0G (a b:List Int) (k:Nat):(ED a b).getD k 0=if k<a.length then Cl .and .u64 (a.getD k 0) (b.getD k 0) else 0:=by
 unfold ED;rw[Pg];split
 .rename_i h;exact Ml .and a b h
 rename_i h;rw[AS,oF (by rw[ER];omega)];rfl
theorem Gd {b:List Int} (h:¬k<b.length):b.getD k 0=0:=by
 rw[AS,oF O1];rfl
theorem Pr (ha:Hk a) (c:Hk b) (i:Nat):BE (ED a b) i=(BE a i&&BE b i):=by
 unfold BE;rw[A0G];split
 .rw[Hj (BJ ha _) (BJ c _),gO,Nat.testBit_and]
 rename_i h;rw[Gd h];simp
theorem Ps (ha:Hk a) (d:Hk b):Hk (ED a b):=by
 refine OD λx c=>?_;unfold F8 at c;obtain⟨i,-,rfl⟩:=IS.1 c;rw[HK,Hj (BJ ha _) (BJ d _)];have h1:=BJ ha i;have e:(a.getD i 0).toNat &&& (b.getD i 0).toNat<=(a.getD i 0).toNat:=ACr;have f:=h1.1;have g:=h1.2;exact⟨AAE _,by omega⟩
theorem Q5 (b:List Int):∀n,Cb b n=0\/b.getD (Cb b n-1) 0≠0
 | 0=>.inl rfl
 | n+1=>by
  unfold Cb;split
  .exact Q5 b n
  rename_i h;right;simpa using h
theorem A42 {n:Nat} (h0:n≠0) (h1:n<18446744073709551616):∃r,r<64/\n.testBit r=true:=by
 refine By λb=>h0 ?_;refine Nat.eq_of_testBit_eq λr=>?_;rw[Nat.zero_testBit];by_cases c:r<64
 .cases a:n.testBit r with
  | false=>rfl
  | true=>exact absurd ⟨r,c,a⟩ b
 have e:(18446744073709551616:Nat)=2 ^ 64:=by decide
 rw[e]at h1;exact Nat.testBit_lt_two_pow (AAJ h1 (Nat.pow_le_pow_right dg O1))
theorem fG {b:List Int} (a:Hk b) (h:b.getD k 0≠0):∃i,BE b i=true:=by
 have hu:=BJ a k;have h1:=hu.1;have d:=hu.2;obtain⟨r,e,c⟩:=A42 (n:=(b.getD k 0).toNat) O1 O1;refine⟨64*k+r,?_⟩;unfold BE;rw[show (64*k+r) / 64=k by omega,show (64*k+r) % 64=r by omega];exact c
theorem lT {b:List Int} (a:Hk b) (h:BN b≠[]):∃i,BE b i=true:=by
 rcases Q5 b b.length with h1|h1
 .exact absurd (by unfold BN;rw[h1];rfl) h
 exact fG a h1
theorem X4 (ha:Hk a) (c:Hk b) (h:∀i,BE a i=true->BE b i=true) (k:Nat):Cl .andNot .u64 (a.getD k 0) (b.getD k 0)=0:=by
 rw[Qz];have:(BitVec.ofInt 64 (a.getD k 0) &&& ~~~BitVec.ofInt 64 (b.getD k 0))=0#64:=by
  apply BitVec.eq_of_getLsbD_eq;intro r e;rw[BitVec.getLsbD_and,BitVec.getLsbD_not,<-ABI,<-ABI,FF (BJ ha k),FF (BJ c k)];have hk:=h (64*k+r);unfold BE at hk;rw[show (64*k+r) / 64=k by omega,show (64*k+r) % 64=r by omega]at hk;cases d:(a.getD k 0).toNat.testBit r with
  | false=>simp
  | true=>rw[hk d];simp
 rw[this];rfl
theorem E8 (ha:Hk a) (c:Hk b):Eb a b=true↔∀i,BE a i=true->BE b i=true:=by
 constructor
 .exact λh i hi=>Ln ha c h hi
 intro h;unfold Eb Qt BN;have h1:Cb (F8 .andNot a b a.length) (F8 .andNot a b a.length).length=0:=by
  rw[ER];exact Q0 λk hk=>by rw[Ml _ _ _ hk];exact X4 ha c h k
 rw[h1];rfl
structure IP (l:List (List Int)):Prop where
 wds:∀c∈l,Hk c
 some:∀c∈l,∃i,BE c i=true
 wid:∀c∈l,c.length<=64
 meet:∀a∈l,∀b∈l,(∃i,BE a i=true/\BE b i=true)->∃t∈l,∀i,BE t i=(BE a i&&BE b i)
structure Bs (l:List (List Int)):Prop where
 wds:∀c∈l,Hk c
 some:∀c∈l,∃i,BE c i=true
theorem Q6 (h:¬k<l.length):l.getD k []=[]:=by
 rw[AS,oF O1];rfl
theorem Bs.get (h:Bs l) (k:Nat):Hk (l.getD k []):=by
 by_cases hk:k<l.length
 .exact h.wds _ (Aq hk)
 rw[Q6 hk];intro x a;cases a
theorem A43 (h:Bs l) (i k:Nat):Bs (GA l i k):=by
 unfold GA;split
 .rename_i b;rw[An,IN]at b;refine⟨λc a=>?_,λc a=>?_⟩
  .rcases NO.1 a with a|a
   .exact h.wds c a
   have:c=ED (l.getD i []) (l.getD k []):=by simpa using a
   rw[this];exact Ps (h.get i) (h.get k)
  rcases NO.1 a with a|a
  .exact h.some c a
  have:c=ED (l.getD i []) (l.getD k []):=by simpa using a
  rw[this];have g:ED (l.getD i []) (l.getD k [])≠[]:=by
   intro e;rw[e]at b;exact absurd b.1 sc
  have m:Hk (F8 .and (l.getD i []) (l.getD k []) (l.getD i []).length):=by
   intro x d;unfold F8 at d;obtain⟨j,-,rfl⟩:=IS.1 d;rw[HK,Hj (BJ (h.get i) _) (BJ (h.get k) _)];have h1:=BJ (h.get i) j;have n:((l.getD i []).getD j 0).toNat &&& ((l.getD k []).getD j 0).toNat<=((l.getD i []).getD j 0).toNat:=ACr;have o:=h1.1;have p:=h1.2;exact⟨AAE _,by omega⟩
  obtain⟨j,f⟩:=lT m g;exact⟨j,by unfold ED;rw[OC];exact f⟩
 exact h
theorem pH {i:Nat}:∀ {n k:Nat} {l:List (List Int)},Bs l->Bs (GB i n k l)
 | 0,_,_,h=>h
 | n+1,k,l,h=>by
  unfold GB;split
  .exact pH (A43 h i k)
  exact h
theorem pI:∀ {n i:Nat} {l:List (List Int)},Bs l->Bs (Hi n i l)
 | 0,_,_,h=>h
 | n+1,i,l,h=>by
  unfold Hi;split
  .exact pI (pH h)
  exact h
theorem uG {d:List AJ} (f:A6 d=0):Bs (AR d):=by
 obtain⟨-,l,-⟩:=Ay f;have h:=Dk d d.length;rw[tO]at h;have b:(AN d).length<=4096:=by omega
 refine⟨λc a=>?_,λc a=>?_⟩
 .unfold AR at a;obtain⟨s,-,rfl⟩:=IS.1 a;exact(B4 (d:=d) b s 0).2.1
 unfold AR at a;obtain⟨s,hs,rfl⟩:=IS.1 a;obtain⟨j,g,e⟩:=B5 ByteArray.empty hs;have i:0<=Ao d s:=by
  obtain⟨x,k,e⟩:=DM hs;rw[<-e];exact DL k
 exact⟨j,(B4 (d:=d) b s j).1.2 ⟨g,by rw[e];exact OE i⟩⟩
theorem VP {d:List AJ} (m:A6 d=0) (u:(Aw (AR d)).length<=256):IP (Aw (AR d)):=by
 obtain⟨-,r,-⟩:=Ay m;have g:Bs (Aw (AR d)):=pI (uG m);have o:=Zy u;refine⟨g.wds,g.some,Pl (OJ r),λa ha b s hi=>?_⟩;obtain⟨q,f,rfl⟩:=B5 [] ha;obtain⟨p,j,rfl⟩:=B5 [] s;have key:∀q p,q<(Aw (AR d)).length->p<(Aw (AR d)).length->Kl (Aw (AR d)) q p->(∃i,BE ((Aw (AR d)).getD q []) i=true/\BE ((Aw (AR d)).getD p []) i=true) ->
   ∃t∈Aw (AR d),∀i,BE t i=(BE ((Aw (AR d)).getD q []) i&&BE ((Aw (AR d)).getD p []) i):=by
  intro q p f j c hi;have n:=Pr (g.get q) (g.get p);rcases c with c|c
  .obtain⟨i,k,l⟩:=hi;have:=n i;rw[c,k,l]at this;unfold BE at this;simp at this
  exact⟨_,c,n⟩
 rcases ACc p q with h|h|h
 .exact key q p f j (o q p h f) hi
 .subst h;exact⟨_,Aq f,λi=>by rw[Bool.and_self]⟩
 obtain⟨t,v,e⟩:=key p q j f (o p q h j) (by obtain⟨i,k,l⟩:=hi;exact⟨i,l,k⟩);exact⟨t,v,λi=>by rw[e i,Bool.and_comm]⟩
def GL (h:AF):Prop:=IP (h.1.map λt=>t.2.1)/\h.1.length<=256
theorem Ge (d:List AJ):GL (Aa d).1:=by
 unfold Aa;split
 .exact⟨⟨λc h=>(by cases h),λc h=>(by cases h),λc h=>(by cases h),λc h=>(by cases h)⟩,by simp⟩
 rename_i g;have g:(A4 d).2=0:=By g;have m:Ak d=0:=by
  unfold A4 at g;split at g
  .rename_i h;exact absurd g h
  rename_i h;exact By h
 obtain⟨p,-,-⟩:=CB m;obtain⟨l,k,-⟩:=BW p;have hf:=VP l k;have f:∀c,c∈((Bi d).1.map λt=>t.2.1)↔c∈Aw (AR d):=by
  intro c;have e:((Bi d).1.map λt=>t.2.1)=(AL d).map λx=>x.2:=by
   show ((D7 _ _ _).map λt=>t.2.1)=_;unfold D7;rw[ABk];apply AAt
   .simp
   intro i h1 q;simp[AS,show i<(AL d).length by simpa using h1]
  rw[e];constructor
  .intro h;obtain⟨x,o,rfl⟩:=IS.1 h;obtain⟨b,j,rfl⟩:=DN.1 o;exact j
  intro h;exact IS.2 ⟨_,DN.2 ⟨c,h,rfl⟩,rfl⟩
 refine⟨⟨λc h=>hf.wds c ((f c).1 h),λc h=>hf.some c ((f c).1 h),λc h=>hf.wid c ((f c).1 h),λa ha b j hi=>?_⟩,?_⟩
 .obtain⟨t,n,e⟩:=hf.meet a ((f a).1 ha) b ((f b).1 j) hi;exact⟨t,(f t).2 n,e⟩
 show (D7 _ _ _).length<=256;rw[JR,Hm];exact k
theorem CS {h:AF} {t:Int} (a:0<=t) (b:t<(h.1.length:Int)):BX h t∈h.1.map λt=>t.2.1 :=
 IS.2 ⟨_,AG h.1 Q4 (k:=t.toNat) O1,rfl⟩
theorem VQ (ha:Hk a) (c:Hk b):Lt a b=true↔∀i,BE a i=true->BE b i=true:=by
 constructor
 .intro h i hi;by_cases hk:i / 64<a.length
  .have h1:=OF.1 h (i / 64) (wH.2 hk);rw[AAb,HK]at h1;exact SD (BJ ha _) (BJ c _) h1 (ACW _ dg) hi
  exfalso;unfold BE at hi;rw[Gd hk]at hi;simp at hi
 intro h;unfold Lt;rw[OF];intro k _;rw[AAb,HK];exact X4 ha c h k
theorem A0H (ha:Hk a) (c:Hk b) (i:Nat):BE (Fd a b) i=(BE a i&&BE b i):=by
 unfold Fd;rw[OC];unfold BE;have:(Gc (Zw a b) (min a.length b.length) (min a.length b.length)).getD (i / 64) 0=Cl .and .u64 (a.getD (i / 64) 0) (b.getD (i / 64) 0):=by
  by_cases h:i / 64<min a.length b.length
  .unfold Gc;rw[AS,AAD,ABx h];show (if i / 64<min a.length b.length then Zw a b (i / 64) else 0)=_;rw[At h];rfl
  rw[Gd (by rw[X3];exact h),Hj (BJ ha _) (BJ c _)];by_cases h1:i / 64<a.length
  .rw[Gd (b:=b) O1];simp
  rw[Gd (b:=a) h1];simp
 rw[this,Hj (BJ ha _) (BJ c _),gO,Nat.testBit_and]
theorem A0I (ha:Hk a) (d:Hk b):Hk (Fd a b):=by
 refine OD λx c=>?_;unfold Gc at c;obtain⟨j,-,rfl⟩:=IS.1 c;split
 .unfold Zw;rw[Hj (BJ ha _) (BJ d _)];have h1:=BJ ha j;have e:(a.getD j 0).toNat &&& (b.getD j 0).toNat<=(a.getD j 0).toNat:=ACr;have f:=h1.1;have g:=h1.2;exact⟨AAE _,by omega⟩
 exact⟨by decide,by decide⟩
theorem VR (c:List Int):∀(l:List FI) (k:Nat),(Eg c k l=-1/\∀t∈l,Dl t.2.1 c=false)\/((k:Int)<=Eg c k l/\Eg c k l<(k:Int)+l.length/\Dl (l.getD ((Eg c k l).toNat-k) Q4).2.1 c=true)
 | [],k=>.inl ⟨rfl,λt a=>by cases a⟩
 | x :: l,k=>by
  simp only[Eg];split
  .rename_i h;right;refine⟨by omega,by simp only[Is];omega,?_⟩;rw[show ((k:Int).toNat-k)=0 by omega];exact h
  rename_i h;have h:Dl x.2.1 c=false:=by simpa using h
  rcases VR c l (k+1) with ⟨h1,b⟩|⟨h1,b,d⟩
  .left;refine⟨h1,λt a=>?_⟩;rcases GO.1 a with rfl|a
   .exact h
   exact b t a
  right;refine⟨by omega,by simp only[Is];omega,?_⟩;rw[show ((Eg c (k+1) l).toNat-k)=((Eg c (k+1) l).toNat-(k+1))+1 by omega];exact d
def Tb2 (h:AF) (t:Int) (i:Nat):Bool:=BE (BX h t) i
theorem Bu {h:AF} (hk:GL h) {a b:Int} (c:0<=a) (d:a<(h.1.length:Int)) (e:0<=b) (b1:b<(h.1.length:Int)):Ae h a b=true↔∀i,Tb2 h b i=true->Tb2 h a i=true :=
 VQ (hk.1.wds _ (CS e b1)) (hk.1.wds _ (CS c d))
theorem A0K {h:AF} (hk:GL h) {a b:Int} (g:0<=a) (j:a<(h.1.length:Int)) (l:0<=b) (b1:b<(h.1.length:Int)) :
  ((Co h a b).2=true->0<=(Co h a b).1/\(Co h a b).1<(h.1.length:Int)/\∀i,Tb2 h (Co h a b).1 i=(Tb2 h a i&&Tb2 h b i))/\((∃i,Tb2 h a i=true/\Tb2 h b i=true)->(Co h a b).2=true):=by
 have s:=hk.1.wds _ (CS g j);have u:=hk.1.wds _ (CS l b1);have c:=A0H s u;have o:=A0I s u;have heq:∀t∈h.1,Dl t.2.1 (Fd (BX h a) (BX h b))=true↔∀i,BE t.2.1 i=BE (Fd (BX h a) (BX h b)) i:=by
  intro t d;have wt:=hk.1.wds t.2.1 (IS.2 ⟨t,d,rfl⟩);unfold Dl;rw[An,VQ wt o,VQ o wt];constructor
  .rintro⟨v,w⟩ i;rw[ABL];exact⟨v i,w i⟩
  intro e;exact⟨λi hi=>by rw[<-e i];exact hi,λi hi=>by rw[e i];exact hi⟩
 unfold Co;by_cases f:(Fd (BX h a) (BX h b)).length=0
 .rw[At f];refine⟨λe=>(by cases e),?_⟩;rintro⟨i,q,r⟩;exfalso;have:=c i;rw[AA9 f]at this;unfold Tb2 at q r;rw[q,r]at this;unfold BE at this;simp at this
 rw[As f];rcases VR (Fd (BX h a) (BX h b)) h.1 0 with ⟨h1,m⟩|⟨h1,m,n⟩
 .rw[At O1];refine⟨λe=>(by cases e),λhi=>?_⟩;exfalso;obtain⟨t,d,e⟩:=hk.1.meet _ (CS g j) _ (CS l b1) hi;obtain⟨x,p,rfl⟩:=IS.1 d;have:=(heq x p).2 (λi=>by rw[c i];exact e i);rw[m x p]at this;cases this
 have h1:0<=Eg (Fd (BX h a) (BX h b)) 0 h.1:=by omega
 rw[As O1];refine⟨λ_=>⟨h1,by simp only;omega,λi=>?_⟩,λ_=>rfl⟩;rw[Nat.sub_zero]at n;have y:=AG h.1 Q4 (k:=(Eg (Fd (BX h a) (BX h b)) 0 h.1).toNat) O1;have:=(heq _ y).1 n i;rw[c i]at this;exact this
theorem Lu {h:AF} (hk:GL h) {a b:Int} (l:0<=a) (m:a<(h.1.length:Int)) (n:0<=b) (b1:b<(h.1.length:Int)) :
  ((Co h a b).2=true->0<=(Co h a b).1/\(Co h a b).1<(h.1.length:Int)/\Ae h a (Co h a b).1=true/\Ae h b (Co h a b).1=true) /\
  ∀x,0<=x->x<(h.1.length:Int)->Ae h a x=true->Ae h b x=true->(Co h a b).2=true/\Ae h (Co h a b).1 x=true:=by
 obtain⟨r,u⟩:=A0K hk l m n b1;refine⟨λe=>?_,λx g k s t=>?_⟩
 .obtain⟨c,d,f⟩:=r e;refine⟨c,d,(Bu hk l m c d).2 λi hi=>?_,(Bu hk n b1 c d).2 λi hi=>?_⟩
  .rw[f i,An]at hi;exact hi.1
  rw[f i,An]at hi;exact hi.2
 have o:=(Bu hk l m g k).1 s;have p:=(Bu hk n b1 g k).1 t;obtain⟨i,hi⟩:=hk.1.some _ (CS g k);have e:=u ⟨i,o i hi,p i hi⟩;obtain⟨c,d,f⟩:=r e;refine⟨e,(Bu hk c d g k).2 λj q=>?_⟩;rw[f j,An];exact⟨o j q,p j q⟩
def Nrm (c:List Int):Prop:=c.length=0\/c.getD (c.length-1) 0≠0
theorem OL (b:List Int):Nrm (BN b):=by
 unfold Nrm BN;have a:=Ux b b.length;rw[Of,ABw a];rcases Q5 b b.length with h|h
 .exact .inl h
 by_cases h0:Cb b b.length=0
 .exact .inl h0
 right;rw[AS,List.getElem?_take_of_lt O1,<-AS];exact h
theorem A44 (ha:Hk a) (f:Hk b) (h:∀i,BE a i=BE b i) (k:Nat):a.getD k 0=b.getD k 0:=by
 have c:=BJ ha k;have d:=BJ f k;have j:=c.1;have l:=c.2;have m:=d.1;have o:=d.2;have e:(a.getD k 0).toNat=(b.getD k 0).toNat:=by
  refine Nat.eq_of_testBit_eq λr=>?_;by_cases g:r<64
  .have:=h (64*k+r);unfold BE at this;rw[show (64*k+r) / 64=k by omega,show (64*k+r) % 64=r by omega]at this;exact this
  have big:∀n:Nat,n<18446744073709551616->n.testBit r=false:=λn hn=>by
   have e:(18446744073709551616:Nat)=2 ^ 64:=by decide
   rw[e]at hn;exact Nat.testBit_lt_two_pow (AAJ hn (Nat.pow_le_pow_right dg O1))
  rw[big _ O1,big _ O1]
 omega
theorem pJ (d:∀k,a.getD k 0=b.getD k 0) (c:Nrm b):b.length<=a.length:=by
 rcases c with h|h
 .omega
 refine By λe=>h ?_;rw[<-d];exact Gd O1
theorem lU (ha:Hk a) (e:Hk b) (g:Nrm a) (j:Nrm b) (h:∀i,BE a i=BE b i):a=b:=by
 have c:=A44 ha e h;have f:a.length=b.length:=AC4 (pJ (λk=>(c k).symm) g) (pJ c j);refine AAt f λi h1 d=>?_;have:=c i;simpa[AS,h1,d] using this
theorem fH {α:Type} (l:List α) (x:α) (n:Nat):List.Perm (l.take n++[x]++l.drop n) (x :: l):=by
 have h:l.take n++[x]++l.drop n=l.take n++x :: l.drop n:=by simp
 rw[h];refine ACS.trans ?_;rw[ABC]
def pK (l:List ByteArray):Prop:=l.Pairwise λa b=>AM a b=false
theorem IQ {a b:ByteArray} (h:AM a b=false):AM b a=false:=by
 cases hh:AM b a with
 | false=>rfl
 | true=>rw[Bp hh]at h;cases h
theorem VS {l:List ByteArray} (h:pK l) (hs:∀x∈l,AM x s=false):pK (Dj l s):=by
 unfold Dj;split
 .exact h
 refine(List.Perm.pairwise_iff (λb=>IQ b) (fH l s _)).2 ?_;exact AAw.2 ⟨λx a=>IQ (hs x a),h⟩
theorem VT {d:List AJ} (hn:Cg d=0):pK (AN d):=by
 have key:∀k,k<=d.length->pK (AN (d.take k))/\∀s∈AN (d.take k),∃i,i<k/\(d.getD i d0).1=s:=by
  intro k;induction k with
  | zero =>
   intro _;exact⟨.nil,λs hs=>by cases hs⟩
  | succ k c =>
   intro hk;obtain⟨h1,a⟩:=c O1;have e:AN (d.take (k+1))=Dj (AN (d.take k)) (d.getD k d0).1:=by
    have:d.take (k+1)=d.take k++[d.getD k d0]:=Ar d d0 O1;rw[this];unfold AN;rw[ABt];rfl
   rw[e];refine⟨VS h1 λx b=>?_,λs hs=>?_⟩
   .obtain⟨i,hi,rfl⟩:=a x b;cases hh:AM (d.getD i d0).1 (d.getD k d0).1 with
    | false=>rfl
    | true =>
     have g:=IL d hh;rw[Lp hn (j:=i) O1,Lp hn (j:=k) O1]at g;omega
   rcases Fb hs with hs|hs
   .obtain⟨i,hi,e⟩:=a s hs;exact⟨i,by omega,e⟩
   exact⟨k,by omega,hs.symm⟩
 have:=(key d.length (OS _)).1
 rwa [tO]at this
structure Nd (l:List (List Int)):Prop where
 nd:l.Nodup
 nrm:∀c∈l,Nrm c
theorem A45 {c:List Int} (h:Nd l) (b:c∉l) (hn:Nrm c):Nd (l++[c]):=by
 refine⟨?_,λx a=>?_⟩
 .rw[AB2];refine⟨h.nd,by simp,λx a y d e=>b ?_⟩;have:y=c:=by simpa using d
  rw[<-this,<-e];exact a
 rcases NO.1 a with a|a
 .exact h.nrm x a
 have:x=c:=by simpa using a
 rw[this];exact hn
theorem A46 (h:Nd l) (i k:Nat):Nd (GA l i k):=by
 unfold GA;split
 .rename_i a;rw[An,TO]at a;refine A45 h (λb=>?_) (OL _);have:kV l (ED (l.getD i []) (l.getD k []))=true:=aT.2 ⟨_,b,by unfold Gv;exact AAZ rfl⟩;rw[this]at a;cases a.2
 exact h
theorem pL {i:Nat}:∀ {n k:Nat} {l:List (List Int)},Nd l->Nd (GB i n k l)
 | 0,_,_,h=>h
 | n+1,k,l,h=>by
  unfold GB;split
  .exact pL (A46 h i k)
  exact h
theorem TK:∀ {n i:Nat} {l:List (List Int)},Nd l->Nd (Hi n i l)
 | 0,_,_,h=>h
 | n+1,i,l,h=>by
  unfold Hi;split
  .exact TK (pL h)
  exact h
theorem Q7 {d:List AJ} (m:A6 d=0):Nd (AR d):=by
 obtain⟨-,l,-,hn,p⟩:=Ay m;have q:=Dk d d.length;rw[tO]at q;have hap:=VT hn;refine⟨?_,λc n=>?_⟩
 .unfold AR List.Nodup;rw[AAG,oS];intro i j hi a o e;have h1:=(oS.1 hap) i j hi a o;have g:∀k,(hk:k<(AN d).length)->(AN d).getD k ByteArray.empty=(AN d)[k]:=λk hk=>by simp[AS,hk]
  have f:=(B4 (d:=d) (all:=AN d) O1 (AN d)[j] 0).2.1;have b:=eK hn p l hi a (by
   rw[g i hi,g j a,e];unfold DF;have:=(E8 f f).2 λ_ h=>h;rw[this];rfl)
  rw[g i hi,g j a,h1]at b;cases b
 obtain⟨s,hs,rfl⟩:=IS.1 n;unfold ET ofF;split
 .exact OL _
 exact .inl rfl
theorem Lv {d:List AJ}:∀ {l:List (List Int)} {o:List AQ},(o.map (·.2)++l).Nodup->((l.foldl (Q1 d) o).map (·.2)).Nodup
 | [],o,h=>by simpa using h
 | b :: l,o,h=>by
  rw[OR];refine Lv ?_;unfold Q1 GC Zr;have c:=(fH o (Ga d (AN d) (AR d) b,b) (FH (Ga d (AN d) (AR d) b,b) o o.length)).map (λx:AQ=>x.2);have e:List.Perm ((o.take (FH (Ga d (AN d) (AR d) b,b) o o.length)++[(Ga d (AN d) (AR d) b,b)]++o.drop (FH (Ga d (AN d) (AR d) b,b) o o.length)).map (λx:AQ=>x.2)++l) (o.map (·.2)++b :: l) :=
   (c.append_right l).trans (ACS (a:=b)).symm
  exact e.nodup_iff.2 h
def Iu (h:AF):Prop:=∀a b,0<=a->a<(h.1.length:Int)->0<=b->b<(h.1.length:Int)->Ae h a b=true->Ae h b a=true->a=b
theorem A7j {h:AF} (hk:GL h) (hn:Nd (h.1.map λt=>t.2.1)):Iu h:=by
 intro a b c d f b1 h1 l;have n:=hk.1.wds _ (CS c d);have o:=hk.1.wds _ (CS f b1);have e:BX h a=BX h b:=lU n o (hn.nrm _ (CS c d)) (hn.nrm _ (CS f b1)) λi=>by
  rw[ABL];exact⟨(Bu hk f b1 c d).1 l i,(Bu hk c d f b1).1 h1 i⟩
 have j:=oS.1 hn.nd;have g:∀k:Int,0<=k->(hk:k<(h.1.length:Int))->BX h k=(h.1.map λt=>t.2.1)[k.toNat]'(by rw[aS];omega):=λk p q=>by
  unfold BX;simp[AS,show k.toNat<h.1.length by omega]
 rw[g a c d,g b f b1]at e;rcases Int.lt_trichotomy a b with m|heq|m
 .exact absurd e (j a.toNat b.toNat (by rw[aS];omega) (by rw[aS];omega) O1)
 .exact heq
 exact absurd e.symm (j b.toNat a.toNat (by rw[aS];omega) (by rw[aS];omega) O1)
theorem SJ (d:List AJ):Iu (Aa d).1:=by
 refine A7j (Ge d) ?_;unfold Aa;split
 .exact⟨.nil,λc h=>(by cases h)⟩
 rename_i a;have a:(A4 d).2=0:=By a;have g:Ak d=0:=by
  unfold A4 at a;split at a
  .rename_i h;exact absurd a h
  rename_i h;exact By h
 obtain⟨m,-,-⟩:=CB g;obtain⟨f,o,-⟩:=BW m;have hf:Nd (Aw (AR d)):=TK (Q7 f);have e:((Bi d).1.map λt=>t.2.1)=(AL d).map λx=>x.2:=by
  show ((D7 _ _ _).map λt=>t.2.1)=_;unfold D7;rw[ABk];apply AAt
  .simp
  intro i h1 n;simp[AS,show i<(AL d).length by simpa using h1]
 show Nd ((Bi d).1.map λt=>t.2.1);rw[e];refine⟨Lv (by simpa using hf.nd),λc k=>?_⟩;obtain⟨x,l,rfl⟩:=IS.1 k;obtain⟨b,j,rfl⟩:=DN.1 l;exact hf.nrm b j
section
attribute [local go_sem] pG
def Dw (f:Int):List (Int×Int)->Int×Bool
 | []=>(0,false)
 | x :: l=>if x.1=f then (x.2,true) else Dw f l
theorem VU (f:Int) (l:List (Int×Int)) (h:k<l.length):Dw f (l.drop k)=if (l.getD k (0,0)).1=f then ((l.getD k (0,0)).2,true) else Dw f (l.drop (k+1)):=by
 rw[ON h];have e:l.getD k (0,0)=l[k]:=by simp[AS,h]
 rw[e];rfl
def Zz (h:AF) (t:Int):List (Int×Int):=(h.1.getD t.toNat Q4).2.2.2
def CE (h:AF) (t f:Int):Int×Bool:=Dw f (Zz h t)
def NR:AW:={ ins:=[FY,T3,T3],pre:=λ(h,t,_,_)=>(0:Int)<=t/\t<(List.length (h:AF).1:Int),out:=λ(h,t,f,_)=>[.p T3 (CE h t f).1,.p .bool (CE h t f).2],lend:=true }
attribute [local go_sem] NR
theorem A47:AY Tryz.prog 142 NR:=by
 refine fK [0,1,2,3,6,7,9,15,16,17,18,26] Tryz.func142 Tryz.ntmps142 AH ?_;rintro w0 O0 ⟨⟨d,hf⟩,t,f,u⟩ a q ⟨j,m⟩;simp only[NR,AK];refine Ev.ent (σ':=⟨[(0,.p FY (d,hf)),(1,.p T3 t),(2,.p T3 f)],[]⟩) ?_ (AC [] rfl rfl ?_ ?_)
 .repeat'(first|exact trivial|apply eS rfl|refine rX a ?_ ?_)
  .exact⟨j,m⟩
  have o:∀l,l=(List.getD d (Int.toNat t) (ByteArray.empty,[],[],[])).2.2.2->CE (d,hf) t f=Dw f l:=λl e=>by rw[e];rfl
  have r:List.length (List.getD d (Int.toNat t) (ByteArray.empty,[],[],[])).2.2.2<=140737488355328:=(q.1.1.2 _ (AG (d:List FI) Q4 ((ACE j).2 m))).2.2.2.1;generalize (List.getD d (Int.toNat t) (ByteArray.empty,[],[],[])).2.2.2=l at *;rw[o l rfl];refine AI (ι:={k:Nat//k<=List.length l/\Dw f l=Dw f (l.drop k)}) (λk=>⟨[(2,.p T3 f),(15,.p Wr l),(16,.p (.int .i64) (List.length l:Int)),(17,.p (.int .i64) (k.1:Int))],[]⟩) (λk=>List.length l-k.1) ⟨0,DO _,rfl⟩ (eW []) (λk=>?_)
  obtain⟨k,hk,b⟩:=k;have i:=λh:k<List.length l=>VU f l h;simp only;repeat'(first|exact trivial|apply eS rfl|refine rX a ?_ ?_|refine rC ?_ ?_<;>intro c<;>try(cases c;done))
  .exact c
  .refine cP 5 a ?_ ?_
   .trivial
   refine AA2 a ?_;refine rL a ?_ ?_
   .trivial
   repeat'(first|exact trivial|apply eS rfl|apply AB|refine rX a ?_ ?_|refine rC ?_ ?_<;>intro c<;>try(cases c;done))
   .have g:k<List.length l:=by exact eV
    rw[i g,At c]at b;exact fI a [.tmp 6,.tmp 7] (by rw[b];exact eR)
   .omega
   have g:k<List.length l:=by exact eV
   rw[i g,As c]at b;exact⟨⟨k+1,g,b⟩,by simp only;omega,eW []⟩
  have n:List.drop k (l:List (Int×Int))=[]:=If (by exact eV);rw[n]at b;have b:Dw f l=(0,false):=b;exact fI a [.tmp 6,.tmp 7] (by rw[b];exact eR)
 .exact eN
 exact eN
abbrev D3:=List Int×List Int
def C8 (h:AF) (s:D3) (n t:Int):Option D3 :=
 if (Co h (s.1.getD n.toNat 0) t).2=true then some (if (Co h (s.1.getD n.toNat 0) t).1=s.1.getD n.toNat 0 then s else (s.1.set n.toNat (Co h (s.1.getD n.toNat 0) t).1,s.2++[n])) else none
def Dm (h:AF) (s:D3):List (Nat×Obj):=[(1,.box 163 true [.p FY h,.sr 2 T3 0 s.1.length,.p Bz s.2]),(2,.arr 3 T3 s.1)]
theorem fJ (h:AF) (hk:GL h) (s:D3) {t:Int} (n0:0<=n) (n1:n<(s.1.length:Int)) (f:0<=s.1.getD n.toNat 0) (ty1:s.1.getD n.toNat 0<(h.1.length:Int)) (k:0<=t) (l:t<(h.1.length:Int)) (i:s.2.length<=1000000000) :
  BB Tryz.prog 141 [.bp 1 [] 0,.p T3 n,.p T3 t] (Dm h s) [1]
  (λres d=>(C8 h s n t=none/\res=.p .bool false/\d=Dm h s)\/∃e,C8 h s n t=some e/\res=.p .bool true/\d=Dm h e):=by
 obtain⟨ty,w⟩:=s;simp only at n1 f ty1 i;have hh:h.1.length<=100000:=iF hk.2 O1;have g:∀x∈h.1,x.2.1.length<=100000:=λx j=>iF (hk.1.wid x.2.1 (IS.2 ⟨x,j,rfl⟩)) O1;refine Jf [0,1,2,6,7,8,26,35] [] [] Tryz.func141 Tryz.ntmps141 (AE A40 AH) ?_;intro w0 K O0 ρ0 c o q;simp only[Dm,Am];repeat'(first|exact trivial|apply eS rfl|refine rX c ?_ ?_|refine rC ?_ ?_<;>intro b<;>try(cases b;done))
 .exact⟨⟨n0,n1⟩,⟨f,ty1⟩,⟨k,l⟩,hh,g⟩
 .have a:C8 h (ty,w) n t=none:=by unfold C8;rw[As (by simp only;rw[b];simp)]
  refine Ev.ent (σ':=⟨[(6,.p .bool false)],Dm h (ty,w)⟩) ?_ (AC [(1,.nm 1),(2,.nm 2)] rfl rfl ?_ ?_)
  .exact fM c [.tmp 6] (.p .bool false) eT (.inl ⟨a,rfl,rfl⟩)
  .unfold Dm;exact eN
  exact eN
 .exact⟨n0,n1⟩
 .exact⟨n0,n1⟩
 .simp only[AO];omega
 .have a:C8 h (ty,w) n t=some (ty.set n.toNat (Co h (ty.getD n.toNat 0) t).1,w++[n]):=by unfold C8;rw[At (by assumption),As b]
  generalize (Co h (ty.getD n.toNat 0) t).1=m at *;have r:(w++[n]).take (w.length+1)=w++[n]:=BY sc;refine CK [61] ?_;refine Ev.ent (σ':=⟨[(6,.p .bool true)],Dm h (ty.set n.toNat m,w++[n])⟩) ?_ (AC [(1,.nm 1),(2,.nm 2)] rfl rfl ?_ ?_)
  .exact fM c [.tmp 6] (.p .bool true) eT (.inr ⟨_,a,rfl,rfl⟩)
  .unfold Dm;simp only[AAq];exact eN
  exact eN
 have a:C8 h (ty,w) n t=some (ty,w):=by unfold C8;rw[At (by assumption),At (by simpa using b)]
 refine Ev.ent (σ':=⟨[(6,.p .bool true)],Dm h (ty,w)⟩) ?_ (AC [(1,.nm 1),(2,.nm 2)] rfl rfl ?_ ?_)
 .exact fM c [.tmp 6] (.p .bool true) eT (.inr ⟨_,a,rfl,rfl⟩)
 .unfold Dm;exact eN
 exact eN
end
section
variable {α:Type}
structure SO (o:α->α->Int):Prop where
 anti:∀a b,o b a=- o a b
 trans:∀ {a b c},o a b<0->o b c<0->o a c<0
variable {o:α->α->Int} {d:α}
def fL (d:α) (l:List α) (i j:Nat):List α:=(l.set i (l.getD j d)).set j (l.getD i d)
theorem fN {l:List α} {i j:Nat} (hi:i<l.length) (c:j<l.length) (k:Nat):(fL d l i j).getD k d=if k=j then l.getD i d else if k=i then l.getD j d else l.getD k d:=by
 unfold fL;simp only[AS,AAU,AAq];by_cases a:j=k
 .rw[At a,At O1,At a.symm];rfl
 rw[As a,As (show ¬k=j by omega)];by_cases b:i=k
 .rw[At b,At O1,At b.symm];rfl
 rw[As b,As (show ¬k=i by omega)]
theorem uH {l:List α} {i j:Nat} (hi:i<l.length) (a:j<l.length):(fL d l i j).Perm l:=by
 have b:l.getD i d=l[i]:=by rw[AS,AT hi];rfl
 have c:l.getD j d=l[j]:=by rw[AS,AT a];rfl
 unfold fL;rw[b,c];exact List.set_set_perm hi a
structure X5 (d:α) (a b:Nat) (l r:List α):Prop where
 perm:r.Perm l
 out:∀k,k<a\/b<=k->r.getD k d=l.getD k d
 inn:∀i,a<=i->i<b->∃j,a<=j/\j<b/\r.getD i d=l.getD j d
theorem X5.len {a b:Nat} {l r:List α} (h:X5 d a b l r):r.length=l.length:=h.perm.length_eq
theorem X5.refl (a b:Nat) (l:List α):X5 d a b l l:=⟨List.Perm.refl _,λ_ _=>rfl,λi h1 c=>⟨i,h1,c,rfl⟩⟩
theorem X5.trans {a b:Nat} {l r s:List α} (h:X5 d a b l r) (c:X5 d a b r s):X5 d a b l s:=⟨c.perm.trans h.perm,λk hk=>(c.out k hk).trans (h.out k hk),λi h1 g=>by
 obtain⟨j,m,n,e⟩:=c.inn i h1 g;obtain⟨k,o,p,f⟩:=h.inn j m n;exact⟨k,o,p,e.trans f⟩⟩
theorem X5.mono {a b:Nat} {l r:List α} (h:X5 d a b l r) (ha:c<=a) (m:b<=f):X5 d c f l r:=⟨h.perm,λk hk=>h.out k O1,λi h1 g=>by
 by_cases hi:a<=i/\i<b
 .obtain⟨j,n,o,e⟩:=h.inn i hi.1 hi.2;exact⟨j,by omega,by omega,e⟩
 exact⟨i,h1,g,h.out i O1⟩⟩
theorem X5.swap {a b:Nat} (l:List α) {i j:Nat} (g:a<=i) (h:i<b) (m:a<=j) (n:j<b) (q:b<=l.length):X5 d a b l (fL d l i j):=by
 have f:=fN (d:=d) (l:=l) (i:=i) (j:=j) O1 O1;refine⟨uH O1 O1,λk hk=>?_,λk o p=>?_⟩
 .rw[f k,As O1,As O1]
 rw[f k];by_cases c:k=j
 .rw[At c];exact⟨i,g,h,rfl⟩
 rw[As c];by_cases e:k=i
 .rw[At e];exact⟨j,m,n,rfl⟩
 rw[As e];exact⟨k,o,p,rfl⟩
def Dst (o:α->α->Int) (d:α) (l:List α):Prop:=∀i j,i<l.length->j<l.length->i≠j->o (l.getD i d) (l.getD j d)≠0
theorem pM (so:SO o) (l:List α):Dst o d l↔l.Pairwise λa b=>o a b≠0:=by
 have e:∀i (h:i<l.length),l.getD i d=l[i]:=λi h=>by rw[AS,AT h];rfl
 rw[oS];constructor
 .intro h i j hi c f;have:=h i j hi c O1
  rwa [e i hi,e j c]at this
 intro h i j hi c f;rw[e i hi,e j c];rcases Nat.lt_or_gt_of_ne f with h1|h1
 .exact h i j hi c h1
 have g:=h j i c hi h1;rw[so.anti];omega
theorem Dst.perm (so:SO o) {l r:List α} (h:Dst o d l) (c:r.Perm l):Dst o d r:=by
 rw[pM so]at h ⊢;refine(c.symm.pairwise_iff ?_).1 h;intro a b e;rw[so.anti];omega
theorem Dst.lt (so:SO o) {l:List α} (h:Dst o d l) {i j:Nat} (hi:i<l.length) (b:j<l.length) (a:i≠j) (hn:¬o (l.getD i d) (l.getD j d)<0):o (l.getD j d) (l.getD i d)<0:=by
 have h1:=h i j hi b a;rw[so.anti];omega
def pO (o:α->α->Int) (d:α) (a b:Nat) (l:List α):Prop:=∀i j,a<=i->i<j->j<b->o (l.getD i d) (l.getD j d)<0
theorem A48 (a:Nat) (l:List α):pO o d a (a+1) l:=λi j h1 b c=>by omega
theorem X6 {a b:Nat} {l r:List α} (h:pO o d a b l) (e:∀k,a<=k->k<b->r.getD k d=l.getD k d):pO o d a b r:=λi j h1 f c=>by
 rw[e i h1 O1,e j O1 c];exact h i j h1 f c
def A0L (o:α->α->Int) (d:α) (a i j:Nat) (m:List α):Prop:=(∀x y,a<=x->x<y->y<=i->x≠j->y≠j->o (m.getD x d) (m.getD y d)<0)/\∀y,j<y->y<=i->o (m.getD j d) (m.getD y d)<0
theorem lV {a:Nat} {m:List α} (h:pO o d a i m):A0L o d a i i m:=⟨λx y h0 h1 b c e=>h x y h0 h1 O1,λy h1 b=>by omega⟩
theorem A0M (so:SO o) {a j:Nat} {m:List α} (h:A0L o d a i j m) (k:a<=j) (l:j<=i) (b:j=a\/o (m.getD (j-1) d) (m.getD j d)<0):pO o d a (i+1) m:=by
 intro x y h0 h1 g;by_cases c:x=j
 .subst c;exact h.2 y h1 O1
 by_cases e:y=j
 .subst e;rcases b with b|b
  .omega
  by_cases f:x=y-1
  .subst f;exact b
  exact so.trans (h.1 x (y-1) h0 O1 O1 c O1) b
 exact h.1 x y h0 h1 O1 c e
theorem uI {a j:Nat} {m:List α} (h:A0L o d a i j m) (h0:a<j) (q:j<=i) (hi:i<m.length) (p:o (m.getD j d) (m.getD (j-1) d)<0):A0L o d a i (j-1) (fL d m j (j-1)):=by
 have f:=fN (d:=d) (l:=m) (i:=j) (j:=j-1) O1 O1;refine⟨λx y g h1 e k n=>?_,λy h1 e=>?_⟩
 .rw[f x,f y,As k,As n];by_cases c:x=j
  .subst c;rw[At rfl,As O1];exact h.1 (x-1) y O1 O1 e O1 O1
  rw[As c];by_cases b:y=j
  .rw[At b];exact h.1 x (j-1) g O1 O1 c O1
  rw[As b];exact h.1 x y g h1 e c b
 rw[f (j-1),f y,At rfl,As O1];by_cases b:y=j
 .rw[At b];exact p
 rw[As b];exact h.2 y O1 e
structure PtE (o:α->α->Int) (d:α) (a b p:Nat) (m:List α):Prop where
 l:a<=p
 r:p<b
 lo:∀x,a<=x->x<p->o (m.getD x d) (m.getD p d)<0
 hi:∀x,p<x->x<b->o (m.getD p d) (m.getD x d)<0
structure Cut (o:α->α->Int) (d:α) (a0 b0 a b:Nat) (m:List α):Prop where
 s1:pO o d a0 a m
 s2:pO o d b b0 m
 c1:∀x y,a0<=x->x<a->a<=y->y<b0->o (m.getD x d) (m.getD y d)<0
 c2:∀x y,a0<=x->x<b->b<=y->y<b0->o (m.getD x d) (m.getD y d)<0
 ab:a0<=a/\a<=b/\b<=b0
theorem Cut.pin {n p a b:Nat} {m r:List α} (h:Cut o d n p a b m) (g:X5 d a b m r):Cut o d n p a b r:=by
 obtain⟨A,C,B⟩:=h.ab;have key:∀(P:α->Prop) (lo hi:Nat),lo<=a->b<=hi->(∀y,lo<=y->y<hi->P (m.getD y d))->∀y,lo<=y->y<hi->P (r.getD y d):=λP lo hi h1 q s y c f=>by
  obtain⟨j,t,u,e⟩:=(g.mono h1 q).inn y c f;rw[e];exact s j t u
 refine⟨X6 h.s1 λk v w=>g.out k O1,X6 h.s2 λk v w=>g.out k O1,λx y i l c f=>?_,λx y i l c f=>?_,h.ab⟩
 .rw[g.out x O1];exact key (λz=>o (m.getD x d) z<0) a p (OS _) B (λy c f=>h.c1 x y i l c f) y c f
 rw[g.out y O1];exact key (λz=>o z (m.getD y d)<0) n b A (OS _) (λx i l=>h.c2 x y i l c f) x i l
theorem Cut.done {g k a b:Nat} {m:List α} (h:Cut o d g k a b m) (hs:pO o d a b m):pO o d g k m:=by
 obtain⟨n,p,q⟩:=h.ab;intro i j h1 c e;by_cases hi:i<a
 .by_cases f:j<a
  .exact h.s1 i j h1 c f
  exact h.c1 i j h1 hi O1 e
 by_cases f:j<b
 .exact hs i j O1 c f
 by_cases l:i<b
 .exact h.c2 i j h1 l O1 e
 exact h.s2 i j O1 c e
theorem Cut.left (so:SO o) {f g a b p:Nat} {m:List α} (h:Cut o d f g a b m) (c:PtE o d a b p m) (hs:pO o d a p m):Cut o d f g (p+1) b m:=by
 obtain⟨A,B,C⟩:=h.ab;have w:=c.l;have z:=c.r;refine⟨λi j h1 k v=>?_,h.s2,λx y q D E s=>?_,h.c2,by omega⟩
 .by_cases hi:i<a
  .by_cases e:j<a
   .exact h.s1 i j h1 k e
   exact h.c1 i j h1 hi O1 O1
  by_cases e:j=p
  .rw[e];exact c.lo i O1 O1
  exact hs i j O1 k O1
 by_cases t:x<a
 .exact h.c1 x y q t O1 s
 by_cases n:y<b
 .by_cases u:x=p
  .rw[u];exact c.hi y O1 n
  exact so.trans (c.lo x O1 O1) (c.hi y O1 n)
 exact h.c2 x y q O1 O1 s
theorem Cut.right (so:SO o) {n a b p:Nat} {m:List α} (h:Cut o d k n a b m) (c:PtE o d a b p m) (hs:pO o d (p+1) b m):Cut o d k n a p m:=by
 obtain⟨C,D,E⟩:=h.ab;have A:=c.l;have B:=c.r;refine⟨h.s1,λi j h1 q s=>?_,λx y e f u g=>h.c1 x y e f u g,λx y e f u g=>?_,by omega⟩
 .by_cases t:j<b
  .by_cases hi:i=p
   .rw[hi];exact c.hi j O1 t
   exact hs i j O1 q t
  by_cases v:i<b
  .exact h.c2 i j O1 v O1 s
  exact h.s2 i j O1 q s
 by_cases z:y<b
 .by_cases w:x<a
  .exact h.c1 x y e w O1 g
  by_cases hyp:y=p
  .rw[hyp];exact c.lo x O1 f
  exact so.trans (c.lo x O1 f) (c.hi y O1 z)
 exact h.c2 x y e O1 O1 g
def Bf (o:α->α->Int) (d:α) (a b:Nat) (m:List α):Prop:=a=0\/∀y,a<=y->y<b->o (m.getD (a-1) d) (m.getD y d)<0
theorem Bf.pin {a b:Nat} {m r:List α} (h:Bf o d a b m) (c:X5 d a b m r):Bf o d a b r:=by
 rcases h with h|h
 .exact .inl h
 by_cases h0:a=0
 .exact .inl h0
 right;intro y i k;rw[c.out (a-1) O1];obtain⟨j,f,g,e⟩:=c.inn y i k;rw[e];exact h j f g
theorem Bf.sub {a b:Nat} {m:List α} (h:Bf o d a b m) (f:c<=b):Bf o d a c m:=h.imp id λh y e g=>h y e O1
end
section
def lW:AW:={ ins:=[T3],pre:=λ_=>True,out:=λ_=>[.p .bool false] }
attribute [local go_sem] lW
def Pt (a b:Int):Int:=if a<b then -1 else if b<a then 1 else 0
def Gf:AW:={ ins:=[T3,T3],pre:=λ_=>True,out:=λ(a,b,_)=>[.p T3 (Pt a b)] }
attribute [local go_sem] Gf
def Hq:AW:={ ins:=[C9,C9],pre:=λ_=>True,out:=λ(a,b,_)=>[.p T3 (Pt (Prod.fst a) (Prod.fst b))] }
attribute [local go_sem] Hq
theorem A0O:AY Tryz.prog 192 lW:=by
 refine fK [0,2] Tryz.func192 Tryz.ntmps192 AH ?_;rintro w0 O0 ⟨x,u⟩ a - -;simp only[lW,AK];repeat'(first|exact trivial|apply eS rfl|refine rX a ?_ ?_)
 exact fI a [.tmp 2]
theorem Ww:AY Tryz.prog 178 Gf:=by
 refine fK [0,1,4,5,6,11,12,13,16,19] Tryz.func178 Tryz.ntmps178 (AE A0O AH) ?_;rintro w0 O0 ⟨a,b,u⟩ c - -;simp only[Gf,AK];repeat'(first|exact trivial|apply eS rfl|refine rX c ?_ ?_|refine rC ?_ ?_<;>intro d<;>try(cases d;done))
 .have e:Pt a b=-1:=At d;exact fI c [.tmp 4] (by rw[e];exact eR)
 .have e:Pt a b=1:=by unfold Pt;rw[As O1,At d]
  exact fI c [.tmp 4] (by rw[e];exact eR)
 have e:Pt a b=0:=by unfold Pt;rw[As O1,As O1]
 exact fI c [.tmp 4] (by rw[e];exact eR)
theorem KK:AY Tryz.prog 140 Hq:=by
 refine fK [0,1,2,3,4] Tryz.func140 Tryz.ntmps140 (AE Ww AH) ?_;rintro w0 O0 ⟨a,b,u⟩ c - -;simp only[Hq,AK];repeat'(first|exact trivial|apply eS rfl|refine rX c ?_ ?_)
 exact fI c [.tmp 4]
def Pu (l:List (Int×Int)):Prop:=∀i,i+1<l.length->(l.getD i (0,0)).1<(l.getD (i+1) (0,0)).1
end
section
attribute [local go_sem] Hq
def Q8 (a b:Int×Int):Int:=Pt a.1 b.1
theorem pP:SO Q8:=⟨λa b=>by unfold Q8 Pt;(repeat' split)<;>omega,λ{a b c} h1 d=>by
 unfold Q8 Pt at *
 (repeat' split at h1)<;>(repeat' split at d)<;>(repeat' split)<;>omega⟩
theorem A49 (l:List (Int×Int)) (N:l.length<=100000) (z:Dst Q8 (0,0) l) (a b:Nat) (I:a<=100000) (J:b<=l.length):BB Tryz.prog 200 [.sr 1000000 C9 0 l.length,.p T3 (a:Int),.p T3 (b:Int),.fn 140] [(1000000,.arr 59 C9 l)] [1000000] (λres G=>res=.raw (.tuple #[])/\∃r,G=[(1000000,.arr 59 C9 r)]/\X5 (0,0) a b l r/\pO Q8 (0,0) a b r):=by
 refine Jf [0,1,2,3,8,9,14,34] [] [] Tryz.func200 Tryz.ntmps200 (AE KK AH) ?_;intro w0 K O0 ρ0 d P Q;simp only[Am];repeat'(first|exact trivial|apply eS rfl|apply AB|refine rX d ?_ ?_|refine rC ?_ ?_<;>intro e<;>try(cases e;done))
 .omega
 refine AI (ι:={s:Nat×List (Int×Int)//a+1<=s.1/\(s.1=a+1\/s.1<=b)/\X5 (0,0) a b l s.2/\pO Q8 (0,0) a s.1 s.2}) (λs=>⟨[(0,.sr 1000000 C9 0 l.length),(1,.p T3 (a:Int)),(2,.p T3 (b:Int)),(3,.fn 140),(8,.p (.int .i64) (s.1.1:Int))],[(1000000,.arr 59 C9 s.1.2)]⟩) (λs=>b-s.1.1) ⟨(a+1,l),OS _,.inl rfl,X5.refl a b l,A48 a l⟩ (AC [(1000000,.nm 1000000)] rfl rfl ?_ ?_) (λs=>?_)
 .first|exact eN|refine eM ?_
 .first|exact eN|refine eM ?_
 obtain⟨⟨i,m⟩,C,D,n,hs⟩:=s;simp only at C D n hs ⊢;have O:=n.len;repeat'(first|exact trivial|apply eS rfl|apply AB|refine rX d ?_ ?_|refine rC ?_ ?_<;>intro e<;>try(cases e;done))
 .have E:i<b:=by exact eV
  refine AI (ι:={t:Nat×List (Int×Int)//a<=t.1/\t.1<=i/\X5 (0,0) a b l t.2/\A0L Q8 (0,0) a i t.1 t.2}) (λt=>⟨[(0,.sr 1000000 C9 0 l.length),(1,.p T3 (a:Int)),(2,.p T3 (b:Int)),(3,.fn 140),(8,.p (.int .i64) (i:Int)),(9,.p (.int .i64) (t.1.1:Int))],[(1000000,.arr 59 C9 t.1.2)]⟩) (λt=>t.1.1) ⟨(i,m),by omega,OS i,n,lV hs⟩ (AC [(1000000,.nm 1000000)] rfl rfl ?_ ?_) (λt=>?_)
  .first|exact eN|refine eM ?_
  .first|exact eN|refine eM ?_
  obtain⟨⟨j,c⟩,ha,u,g,q⟩:=t;simp only at ha u g q ⊢;have L:=g.len;have A:=z.perm pP g.perm;repeat'(first|exact trivial|apply eS rfl|apply AB|refine rX d ?_ ?_)
  .dsimp only[Ty.den]at *;exact⟨λ_=>by omega,λ_=>⟨by omega,by omega⟩,λ_=>⟨by omega,by omega⟩⟩
  have o:a<j->((j:Int)-1).toNat=j-1:=λ_=>by omega
  refine UI (by simp only[go_sem,Nat.reduceEqDiff,reduceCtorEq,Nat.reduceAdd,Nat.reduceSub,Nat.reduceMul,Nat.reduceLeDiff,Nat.reduceLT,Int.reduceLE,Int.reduceToNat,Int.reduceNeg,↓reduceIte];rfl) ?_ ?_
  .intro f;simp only[An,IN]at f;have k:a<j:=by omega
   have v:Q8 (c.getD j (0,0)) (c.getD ((j:Int)-1).toNat (0,0))<0:=f.2;rw[o k]at v;have F:fL (0,0) c j (j-1)=(c.set j (c.getD (j-1) (0,0))).set (j-1) (c.getD j (0,0)):=rfl;repeat'(first|exact trivial|apply eS rfl|apply AB|refine rP d ?_ ?_|fail)
   (refine J5 drawsAny d 16 [([0,1,5,6,7,8,9,10,11,12,13,14],15)] [2,3,4] (by kernel_rfl) (mxA ?_ ?_);(next=>exact kF);refine mxL d [] ?_ ?_;(next=>exact kF);refine mxE d ?_ ?_ ?_;(next=>exact kF);(next=>exact kF))
   rw[o k];repeat'(first|exact trivial|apply eS rfl|apply AB|refine rX d ?_ ?_|refine rC ?_ ?_<;>intro e<;>try(cases e;done))
   .dsimp only[Ty.den]at *;omega
   refine⟨⟨(j-1,fL (0,0) c j (j-1)),by simp only;omega,by simp only;omega,g.trans (X5.swap c O1 O1 O1 O1 O1),uI q k u O1 v⟩,by simp only;omega,AC [(1000000,.nm 1000000)] rfl rfl ?_ ?_⟩
   .simp only;rw[F];first|exact eN|refine eM ?_
   simp only;rw[show ((j-1:Nat):Int)=(j:Int)-1 by omega];first|exact eN|refine eM ?_
  intro f;have B:j=a\/Q8 (c.getD (j-1) (0,0)) (c.getD j (0,0))<0:=by
   by_cases k:j=a
   .exact .inl k
   right;simp only[AAY,To]at f;rw[o O1]at f;rcases f with h|h
   .omega
   exact A.lt pP O1 O1 O1 h
  repeat'(first|exact trivial|apply eS rfl|apply AB|refine rX d ?_ ?_|refine rC ?_ ?_<;>intro e<;>try(cases e;done))
  .exact eV
  refine⟨⟨(i+1,c),by simp only;omega,.inr E,g,A0M pP q ha u B⟩,by simp only;omega,AC [(1000000,.nm 1000000)] rfl rfl ?_ ?_⟩
  .first|exact eN|refine eM ?_
  first|exact eN|refine eM ?_
 have M:b<=i:=by exact eV
 exact fM d [] (.raw (.tuple #[])) rfl ⟨rfl,m,rfl,n,λx y h1 w H=>hs x y h1 w O1⟩
end
def JS (x:Int×Int) (s:List (Int×Int)):Nat->Nat
 | 0=>0
 | n+1=>if x.1<(s.getD n (0,0)).1 then JS x s n else n+1
def Ky (s:List (Int×Int)) (x:Int×Int):List (Int×Int):=s.take (JS x s s.length)++[x]++s.drop (JS x s s.length)
def AZ (l:List (Int×Int)):List (Int×Int):=l.foldl Ky []
theorem Z0 (x:Int×Int) (s:List (Int×Int)):∀n,JS x s n<=n
 | 0=>OS _
 | n+1=>by
  unfold JS;have:=Z0 x s n;split<;>omega
theorem A0P (s:List (Int×Int)) (x:Int×Int):(Ky s x).length=s.length+1:=by
 have:=Z0 x s s.length;simp[Ky];omega
theorem KL (l:List (Int×Int)) (x:Int×Int):AZ (l++[x])=Ky (AZ l) x:=by simp[AZ]
theorem Lw:∀(l s:List (Int×Int)),(l.foldl Ky s).length=s.length+l.length
 | [],s=>by simp
 | x :: l,s=>by simp[Lw l,A0P];omega
theorem CT (l:List (Int×Int)):(AZ l).length=l.length:=by simp[AZ,Lw]
theorem A7k {P:Program} {f:FuncId} {sp:AW} {p:IY sp.ins->Prop} (h:AY P f sp) (e:∀d,p d->sp.pre d):AY P f { sp with pre:=p }:=⟨h.1,λw O g ds a b c d=>h.2 w O g ds a b c (e ds d)⟩
def Pv:AW:={ ins:=[K2],pre:=λ(l,_)=>l.length<=8796093022207,out:=λ(l,_)=>[.own 59 C9 (AZ l)] }
theorem X7:AY Tryz.prog 101 Pv:=by
 refine fK [0,2,3,4,5,6,10,30] Tryz.func101 Tryz.ntmps101 AH ?_;rintro w0 O0 ⟨l,u⟩ c t m;simp only[Pv]at m;simp only[Pv,AK];repeat'(first|exact trivial|apply eS rfl|refine rX c ?_ ?_)
 refine AI (ι:={p:Nat//p<=l.length}) (λk=>⟨[(0,.p K2 l),(3,.sr 10 C9 0 (AZ (l.take k.1)).length),(4,.p (.int .i64) (k.1:Int))],[(10,.arr 59 C9 (AZ (l.take k.1)))]⟩) (λk=>l.length-k.1) ⟨0,by omega⟩ (AC [(10,.nil)] rfl rfl ?_ ?_) (λk=>?_)
 .refine eM ?_;rfl
 .refine eM ?_;rfl
 obtain⟨k,h⟩:=k;have s:(AZ (l.take k)).length=k:=by rw[CT,Of];exact ABw h
 repeat'(first|exact trivial|apply eS rfl|refine rX c ?_ ?_|refine rC ?_ ?_<;>intro b<;>try(cases b;done))
 .refine AI (ι:={q:Nat//q<=(AZ (l.take k)).length/\JS (l.getD k (0,0)) (AZ (l.take k)) q=JS (l.getD k (0,0)) (AZ (l.take k)) (AZ (l.take k)).length}) (λq=>⟨[(0,.p K2 l),(3,.sr 10 C9 0 (AZ (l.take k)).length),(4,.p (.int .i64) (k:Int)),(5,.p (.int .i64) (q.1:Int))],[(10,.arr 59 C9 (AZ (l.take k)))]⟩) (λq=>q.1) ⟨(AZ (l.take k)).length,by simp⟩ (eW [(10,.nm 10)]) (λq=>?_)
  obtain⟨q,n,g⟩:=q;have i:k<l.length:=by omega
  have o:=l.length_take_le k;have d:(List.take q (AZ (List.take k l))).length=q:=by rw[Of];exact ABw n
  repeat'(first|exact trivial|apply eS rfl|apply AB|refine rX c ?_ ?_|refine rC ?_ ?_<;>intro b<;>try(cases b;done))
  .exact eV
  .exact eV
  .obtain⟨h1,a⟩:=b;obtain⟨q,rfl⟩:∃r,q=r+1:=⟨q-1,by omega⟩;have e:((q+1:Nat):Int)-1=(q:Int):=by omega
   refine⟨⟨q,by omega,?_⟩,AB7 q,AC [(10,.nm 10)] rfl rfl ?_ ?_⟩
   .rw[<-g];simp only[JS];rw[e,gO]at a;rw[At a]
   .exact eN
   refine eM ?_;show (q:Int)+1-1=q;omega
  .refine⟨by exact eV,?_⟩;rw[d];unfold AO;omega
  .refine⟨by exact eV,?_⟩;rw[d];simp only[AO];omega
  .refine⟨by exact eV,?_⟩;rw[d];simp only[AO,ABc];omega
  .exact eV
  have j:JS (l.getD k (0,0)) (AZ (l.take k)) q=q:=by
   cases q with
   | zero=>rfl
   | succ q =>
    have e:((q+1:Nat):Int)-1=(q:Int):=by omega
    have:=b O1;rw[e,gO]at this;simp only[JS];rw[As O1]
  have h1:=Ar l (0,0) i;have a:AZ (l.take (k+1))=_:=(AB3 AZ h1).trans (KL _ _);unfold Ky at a;rw[<-g,j]at a;refine⟨⟨k+1,by exact eV⟩,by simp only;exact eV,AC [(10,.nm 37)] rfl rfl ?_ ?_⟩
  .refine eM ?_;exact a.symm
  refine eM ?_;have f:=AB3 List.length a;rw[Do,Do]at f;exact f.symm
 have hk:l.take k=l:=BY (by exact eV);refine Nt c (.inl rfl) (rv:=.tmp 2) rfl ?_;simp only[Ka,Ii,Gu,go_sem,Nat.reduceEqDiff,reduceCtorEq,Nat.reduceAdd,Nat.reduceSub,Nat.reduceMul,Nat.reduceLeDiff,Nat.reduceLT,Int.reduceLE,Int.reduceToNat,Int.reduceNeg,↓reduceIte];rw[hk];first|rfl|exact⟨rfl,rfl⟩|exact⟨rfl,rfl,rfl⟩
section
attribute [local go_sem] Pv
abbrev AD:=Int×List (Int×Int)
def Dn (f:List AD):Nat->List Int×List Int->Int->List Int×List Int
 | 0,s,_=>s
 | k+1,s,n=>(AZ (f.getD n.toNat (0,[])).2).foldl (λs a=>if s.1.getD a.2.toNat 0<0 then Dn f k s a.2 else s) (s.1.set n.toNat (s.2.length:Int),s.2++[n])
def Kz (l:List Int):Nat:=l.countP (λx=>decide (x<0))
def AX (f:List AD):Prop:=f.length<=100000/\∀x∈f,x.2.length<=100000/\∀a∈x.2,0<=a.2/\a.2<(f.length:Int)
def Pw (f:List AD):Prop:=f.length<=100000/\∀x∈f,x.2.length<=8796093022207/\∀a∈x.2,0<=a.2/\a.2<(f.length:Int)
theorem AX.big {f:List AD} (h:AX f):Pw f:=⟨h.1,λx a=>⟨iF (h.2 x a).1 dg,(h.2 x a).2⟩⟩
def Q9 (f:List AD) (s:List Int×List Int):Prop:=s.1.length=f.length/\s.2.length+Kz s.1<=f.length
theorem A0Q {l:List Int} {n:Nat} {v:Int} (hn:n<l.length) (a:l.getD n 0<0) (d:0<=v):Kz (l.set n v)+1=Kz l:=by
 induction l generalizing n with
 | nil=>simp at hn
 | cons x r c =>
  cases n with
  | zero =>
   have b:x<0:=by simpa using a
   have:¬v<0:=by omega
   simp[Kz,ABB,b,this]
  | succ n =>
   have h1:=c (n:=n) (by simpa using hn) (by simpa using a);simp only[Kz,ACy,ABB]at h1 ⊢;omega
theorem lX {f:List AD} {s:List Int×List Int} (h:Q9 f s) (d:0<=n) (hn:n<f.length) (b:s.1.getD n.toNat 0<0) :
  Q9 f (s.1.set n.toNat (s.2.length:Int),s.2++[n])/\Kz (s.1.set n.toNat (s.2.length:Int))+1=Kz s.1:=by
 obtain⟨h1,c⟩:=h;have a:=A0Q (l:=s.1) (n:=n.toNat) (v:=(s.2.length:Int)) O1 b O1;refine⟨⟨by simpa using h1,?_⟩,a⟩;simp only[Do,i5];omega
theorem uJ (s:List (Int×Int)) (x:Int×Int):(Ky s x).Perm (x :: s):=by
 unfold Ky;refine(List.perm_append_comm.append_right _).trans ?_;simp
theorem Km:∀(l s:List (Int×Int)),(l.foldl Ky s).Perm (l++s)
 | [],s=>List.Perm.refl _
 | x :: l,s=>by
  refine(Km l (Ky s x)).trans ?_;refine(List.Perm.append_left l (uJ s x)).trans ?_;exact ACS
theorem Ed (l:List (Int×Int)):(AZ l).Perm l:=by
 have:=Km l [];simpa[AZ] using this
theorem A0R {f:List AD} (hf:AX f) (n:Int):List.length (f.getD n.toNat (0,[])).2<=100000:=by
 by_cases h:n.toNat<f.length
 .have a:f.getD n.toNat (0,[])∈f:=by
   rw[AS,AT h];exact AAu h
  exact(hf.2 _ a).1
 rw[AS,oF O1];simp
theorem Mo {f:List AD} (hf:Pw f) (n:Int):List.length (f.getD n.toNat (0,[])).2<=8796093022207:=by
 by_cases h:n.toNat<f.length
 .have a:f.getD n.toNat (0,[])∈f:=by
   rw[AS,AT h];exact AAu h
  exact(hf.2 _ a).1
 rw[AS,oF O1];simp
theorem Px {f:List AD} (hf:Pw f) {a:Int×Int} (ha:a∈AZ (f.getD n.toNat (0,[])).2):0<=a.2/\a.2<f.length:=by
 have ha:=(Ed _).mem_iff.1 ha;by_cases h:n.toNat<f.length
 .have b:f.getD n.toNat (0,[])∈f:=by
   rw[AS,AT h];exact AAu h
  exact(hf.2 _ b).2 a ha
 rw[AS,oF O1]at ha;simp at ha
def D8 (f:List AD) (k:Nat) (s:List Int×List Int) (a:Int×Int):List Int×List Int:=if s.1.getD a.2.toNat 0<0 then Dn f k s a.2 else s
theorem FJ (f:List AD) (k:Nat) (s:List Int×List Int) (n:Int):Dn f (k+1) s n=(AZ (f.getD n.toNat (0,[])).2).foldl (D8 f k) (s.1.set n.toNat (s.2.length:Int),s.2++[n]):=rfl
theorem TL {f:List AD} {k:Nat} (i:∀(s:List Int×List Int) (n:Int),Q9 f s->0<=n->n<f.length->s.1.getD n.toNat 0<0->Q9 f (Dn f k s n)/\Kz (Dn f k s n).1<=Kz s.1) :
  ∀(l:List (Int×Int)) (t:List Int×List Int),(∀a∈l,0<=a.2/\a.2<(f.length:Int))->Q9 f t->Q9 f (l.foldl (D8 f k) t)/\Kz (l.foldl (D8 f k) t).1<=Kz t.1
 | [],t,_,d=>⟨d,OS _⟩
 | a :: l,t,c,d=>by
  simp only[OR];by_cases h:t.1.getD a.2.toNat 0<0
  .obtain⟨j,m⟩:=i t a.2 d (c a sc).1 (c a sc).2 h;have e:D8 f k t a=Dn f k t a.2:=At h;rw[e];obtain⟨o,p⟩:=TL i l _ (λb g=>c b (by simp[g])) j;exact⟨o,iF p m⟩
  have e:D8 f k t a=t:=As h;rw[e];exact TL i l t (λb g=>c b (by simp[g])) d
theorem RB {f:List AD} (hf:Pw f):∀(k:Nat) (s:List Int×List Int) (n:Int),Q9 f s->0<=n->n<f.length->s.1.getD n.toNat 0<0->Q9 f (Dn f k s n)/\Kz (Dn f k s n).1<=Kz s.1
 | 0,s,n,h,_,_,_=>⟨h,OS _⟩
 | k+1,s,n,h,h0,h1,d=>by
  obtain⟨e,g⟩:=lX h h0 h1 d;obtain⟨b,c⟩:=TL (RB hf k) _ _ (λa ha=>Px hf ha) e;rw[FJ];exact⟨b,by simp only at c g;omega⟩
theorem RC {α:Type} (g:X->α->X) (l:List α) (d:α) (t:X) {i:Nat} (hi:i<l.length):(l.take (i+1)).foldl g t=g ((l.take i).foldl g t) (l.getD i d):=by
 rw[Ar l d hi,ABt];rfl
def Kn (f:List AD) (s:List Int×List Int):List (Nat×Obj):=[(1,.box 175 true [.p FL f,.sr 2 T3 0 s.1.length,.sr 3 T3 0 s.2.length]),(2,.arr 3 T3 s.1),(3,.arr 3 T3 s.2)]
theorem uK (f:List AD) (hf:Pw f):∀(k:Nat) (s:List Int×List Int) (n:Int),Q9 f s->0<=n->n<f.length->s.1.getD n.toNat 0<0->Kz s.1<=k ->
  BB Tryz.prog 100 [.bp 1 [] 0,.p T3 n] (Kn f s) [1] (λres M=>res=.raw (.tuple #[])/\M=Kn f (Dn f k s n)):=by
 intro k;induction k with
 | zero =>
  intro s n h0 h1 u B N;obtain⟨_,O⟩:=lX h0 h1 u B;omega
 | succ k J =>
  intro s n A w m x hk;obtain⟨num,g⟩:=s;obtain⟨t,v⟩:=lX A w m x;obtain⟨G,H⟩:=A;simp only at G H x t v hk;refine Jf [0,1,4,5,40,54] [] [] Tryz.func100 Tryz.ntmps100 (AE X7 AH) ?_;intro w0 K O0 ρ0 c Q R;simp only[Kn,Am];repeat'(first|exact trivial|apply eS rfl|refine rX c ?_ ?_)
  .exact eV
  .have:=hf.1;simp only[AO];omega
  .have I:=Mo hf n;exact⟨⟨w,m⟩,iF I O1⟩
  have l:=λa (ha:a∈AZ (f.getD n.toNat (0,[])).2)=>Px hf ha;have D:(AZ (f.getD n.toNat (0,[])).2).length<=8796093022207:=by rw[CT];exact Mo hf n
  generalize C:AZ (f.getD n.toNat (0,[])).2=L at l D;generalize o:(num.set n.toNat (g.length:Int),g++[n])=s1 at t;have F:∀i,Q9 f ((L.take i).foldl (D8 f k) s1)/\Kz ((L.take i).foldl (D8 f k) s1).1<=Kz s1.1:=λi=>TL (RB hf k) _ _ (λa ha=>l a (AAx ha)) t;have m:num.set n.toNat (g.length:Int)=s1.1:=by rw[<-o]
  have P:g++[n]=s1.2:=by rw[<-o]
  rw[m]at v;refine AI (ι:={i:Nat//i<=L.length}) (λi=>⟨[(0,.bp 1 [] 0),(1,.p T3 n),(4,.p K2 L),(5,.p (.int .i64) (i.1:Int))],Kn f ((L.take i.1).foldl (D8 f k) s1)⟩) (λi=>L.length-i.1) ⟨0,by omega⟩ (A8M [36] (AC [(1,.nm 1),(2,.nm 2),(3,.nm 3)] rfl rfl ?_ ?_)) (λi=>?_)
  .simp only[Kn];refine eM ?_;simp only[List.foldl_nil];rw[<-o];simp
  .exact eN
  obtain⟨i,hi⟩:=i;obtain⟨r,E⟩:=F i;have q:=λ(h:i<L.length)=>RC (D8 f k) L (0,0) s1 h;generalize z:(L.take i).foldl (D8 f k) s1=b at r E q;simp only[Kn];repeat'(first|exact trivial|apply eS rfl|apply AB|refine rX c ?_ ?_|refine rC ?_ ?_<;>intro j<;>try(cases j;done))
  .have d:i<L.length:=by exact eV
   have:=l _ (AG L (0,0) d);obtain⟨h1,u⟩:=r;refine⟨by exact eV,this.1,?_⟩;rw[h1];exact this.2
  .have d:i<L.length:=by exact eV
   have y:=l _ (AG L (0,0) d);refine cP 6 c ?_ ?_
   .exact eV
   refine rM c (J b (L.getD i (0,0)).2 r y.1 y.2 (by simpa using j) O1) [(1,.nm 1),(2,.nm 2),(3,.nm 3)] [2,3] ?_ ?_ ?_
   .exact eN
   .simp only[Kn];exact eN
   rintro _ _ ⟨rfl,rfl⟩;refine⟨[(1,.nm 1),(2,.nm 2),(3,.nm 3)],.raw (.tuple #[]),Kn f (Dn f k b (L.getD i (0,0)).2),rfl,rfl,?_,?_,rfl,rfl,E2 ?_⟩
   .simp only[Kn];exact eN
   .exact eN
   repeat'(first|apply eS rfl|apply AB|refine rX c ?_ ?_)
   .exact eV
   have e:D8 f k b (L.getD i (0,0))=Dn f k b (L.getD i (0,0)).2:=At (by simpa using j);refine⟨⟨i+1,by omega⟩,by simp only;omega,AC [(1,.nm 1),(2,.nm 2),(3,.nm 3)] rfl rfl ?_ ?_⟩
   .simp only[Kn,q d,e];exact eN
   exact eN
  .exact eV
  .have d:i<L.length:=by exact eV
   have e:D8 f k b (L.getD i (0,0))=b:=As (by simpa using j);refine⟨⟨i+1,by omega⟩,by simp only;omega,AC [(1,.nm 1),(2,.nm 2),(3,.nm 3)] rfl rfl ?_ ?_⟩
   .simp only[q d,e];exact eN
   exact eN
  have hk:L.take i=L:=BY (by exact eV);rw[hk]at z;have h1:Dn f (k+1) (num,g) n=b:=by rw[FJ,C,<-z,<-o]
  rw[h1];exact fM c [] (.raw (.tuple #[])) rfl ⟨rfl,rfl⟩
end
section
attribute [local go_sem] Pv
def X8 (f:List AD) (s:List Int×List Int):Prop:=∀n∈s.2,0<=n/\n<(f.length:Int)
theorem VV {f:List AD} (hf:Pw f):∀(k:Nat) (s:List Int×List Int) (n:Int),X8 f s->0<=n->n<f.length->X8 f (Dn f k s n)
 | 0,s,n,h,_,_=>h
 | k+1,s,n,h,h0,h1=>by
  rw[FJ];have key:∀(l:List (Int×Int)) (t:List Int×List Int),(∀a∈l,0<=a.2/\a.2<(f.length:Int))->X8 f t->X8 f (l.foldl (D8 f k) t):=by
   intro l;induction l with
   | nil=>intro t _ d;exact d
   | cons a l i =>
    intro t e d;simp only[OR];refine i _ (λb g=>e b (by simp[g])) ?_;unfold D8;split
    .exact VV hf k t a.2 d (e a sc).1 (e a sc).2
    exact d
  refine key _ _ (λa ha=>Px hf ha) ?_;intro m c;simp only[NO,oR]at c;rcases c with c|rfl
  .exact h m c
  exact⟨h0,h1⟩
def FK (f:List AD) (root:Int):List Int×List Int:=Dn f f.length (List.replicate f.length (-1),[]) root
def Wx (num:List Int) (a:Int×Int):Int×Int:=(a.1,num.getD a.2.toNat 0)
def NS (f:List AD) (num:List Int) (n:Int):AD:=((f.getD n.toNat (0,[])).1,(AZ (f.getD n.toNat (0,[])).2).map (Wx num))
def Ko (f:List AD) (root:Int):List AD:=(FK f root).2.map (NS f (FK f root).1)
theorem fO (m:Nat):Kz (List.replicate m (-1))=m:=by
 induction m with
 | zero=>rfl
 | succ m a=>simp only[Kz,List.replicate_succ,ABB]at a ⊢;simp[a]
theorem tr0 (f:List AD):Q9 f (List.replicate f.length (-1),[]):=⟨by simp,by simp[fO]⟩
theorem pQ {f:List AD} (h0:0<=n) (h1:n<f.length):(List.replicate f.length (-1:Int)).getD n.toNat 0<0:=by
 have:n.toNat<f.length:=by omega
 simp[AS,ABa,this]
theorem fP {f:List AD} (hf:Pw f) (h0:0<=n) (h1:n<f.length):Q9 f (FK f n)/\X8 f (FK f n) :=
 ⟨(RB hf _ _ n (tr0 f) h0 h1 (pQ h0 h1)).1,VV hf _ _ n (λm a=>by simp at a) h0 h1⟩
theorem A4a {f:List AD} (hf:AX f) (h0:0<=n) (h1:n<f.length):Q9 f (FK f n)/\X8 f (FK f n):=fP hf.big h0 h1
theorem VW {α b:Type} (g:α->b) (h:b->α) (L:List α) (d:α) (hk:k<L.length) (u:α->α):((L.take k).map u++L.drop k).set k (u (L.getD k d))=(L.take (k+1)).map u++L.drop (k+1)/\((L.take k).map u++L.drop k).getD k d=L.getD k d:=by
 have h1:((L.take k).map u).length=k:=by simp;omega
 have a:L.drop k=L.getD k d :: L.drop (k+1):=by
  rw[ON hk,AS,AT hk];rfl
 constructor
 .rw[Ar L d hk,ACj _ _ O1,h1,ABh,a];simp
 rw[AS,sA O1,h1,ABh,a];rfl
def lY:AW:={ ins:=[FL,T3],pre:=λ(f,n,_)=>Pw f/\0<=n/\n<(List.length f:Int),out:=λ(f,n,_)=>[.p FL (Ko f n)] }
theorem A0S:AY Tryz.prog 60 lY:=by
 refine fK [0,1,2,4,5,6,7,8,9,10,11,19,40,60] Tryz.func60 Tryz.ntmps60 (AE X7 AH) ?_;rintro w0 O0 ⟨f,root,u⟩ d-⟨hf,l,m⟩;simp only[lY,AK];have G:=hf.1;repeat'(first|exact trivial|apply eS rfl|refine rX d ?_ ?_)
 refine AI (ι:={i:Nat//i<=f.length}) (λi=>⟨[(1,.p T3 root),(2,.bp 2 [] 0),(4,.bp 4 [] 0),(5,.bp 14 [] 0),(6,.p (.int .i64) (i.1:Int))],[(2,.box 34 true [.p HJ f]),(4,.box 34 true [.raw (.slice none 0 0)]),(14,.box 175 true [.p FL f,.sr 10 T3 0 i.1,.raw (.slice none 0 0)]),(10,.arr 3 T3 (List.replicate i.1 (-1)))]⟩) (λi=>f.length-i.1) ⟨0,by omega⟩ (AC [(2,.nm 2),(4,.nm 4),(14,.nm 14),(10,.nil)] rfl rfl ?_ ?_) (λi=>?_)
 .refine eM ?_;rfl
 .exact eN
 obtain⟨i,hi⟩:=i;repeat'(first|exact trivial|apply eS rfl|apply AB|refine rX d ?_ ?_|refine rC ?_ ?_<;>intro h<;>try(cases h;done))
 .simp only[AO];omega
 .exact eV
 .have hi:i<List.length f:=by exact eV
  refine⟨⟨i+1,by omega⟩,by simp only;omega,AC [(2,.nm 2),(4,.nm 4),(14,.nm 14),(10,.nm 10)] rfl rfl ?_ ?_⟩
  .refine eM ?_;rw[List.replicate_succ'];simp
  exact eN
 have A:i=List.length f:=by exact eV
 subst A;have w:=fP hf l m;refine cP 2 d ?_ ?_
 .trivial
 refine rM d (uK f hf (List.length f) (List.replicate (List.length f) (-1),[]) root (tr0 f) l m (pQ l m) (by rw[fO];exact OS _)) [(1,.nm 14),(2,.nm 10),(3,.nil)] [10] ?_ ?_ ?_
 .exact eN
 .simp only[Kn];refine eM ?_;simp
 rintro _ _ ⟨rfl,rfl⟩;refine⟨[(14,.nm 1),(101,.nm 2),(102,.nm 3)],.raw (.tuple #[]),[(14,.box 175 true [.p FL f,.sr 101 T3 0 (FK f root).1.length,.sr 102 T3 0 (FK f root).2.length]),(101,.arr 3 T3 (FK f root).1),(102,.arr 3 T3 (FK f root).2)],rfl,rfl,?_,?_,rfl,rfl,E2 ?_⟩
 .simp only[Kn,FK];exact eN
 .exact eN
 have z:Ko f root=(FK f root).2.map (NS f (FK f root).1):=rfl;rw[z];generalize FK f root=s at w;obtain⟨num,c⟩:=s;obtain⟨⟨r,t⟩,j⟩:=w;simp only at r t;have j:∀n∈c,0<=n/\n<(List.length f:Int):=j;repeat'(first|exact trivial|apply eS rfl|refine rX d ?_ ?_)
 refine AI (ι:={i:Nat//i<=c.length}) (λi=>⟨[(2,.bp 2 [] 0),(4,.bp 4 [] 0),(5,.bp 14 [] 0),(7,.bp 7 [] 0),(8,.p (.int .i64) (i.1:Int))],[(2,.box 34 true [.p HJ f]),(4,.box 34 true [.raw (.slice none 0 0)]),(14,.box 175 true [.p FL f,.sr 101 T3 0 num.length,.sr 102 T3 0 c.length]),(101,.arr 3 T3 num),(102,.arr 3 T3 c),(7,.box 34 true [.sr 200 Sf 0 i.1]),(200,.arr 57 Sf ((c.take i.1).map (NS f num)))]⟩) (λi=>c.length-i.1) ⟨0,by omega⟩ (eW [(2,.nm 2),(4,.nm 4),(14,.nm 14),(101,.nm 101),(102,.nm 102),(7,.nm 7),(200,.nil)]) (λi=>?_)
 obtain⟨i,hi⟩:=i;repeat'(first|exact trivial|apply eS rfl|refine rX d ?_ ?_|refine rC ?_ ?_<;>intro h<;>try(cases h;done))
 .have hi:i<c.length:=by exact eV
  exact⟨by exact eV,j _ (AG c 0 hi)⟩
 .exact iF (Mo hf _) O1
 .have hi:i<c.length:=by exact eV
  have q:=λa (ha:a∈AZ (f.getD (Int.toNat (c.getD i 0)) (0,[])).2)=>Px hf ha;have v:NS f num (c.getD i 0)=((f.getD (Int.toNat (c.getD i 0)) (0,[])).1,(AZ (f.getD (Int.toNat (c.getD i 0)) (0,[])).2).map (Wx num)):=rfl;have B:=Mo hf (c.getD i 0);generalize List.getD f (Int.toNat (c.getD i 0)) (0,[])=x at *;obtain⟨E,o⟩:=x;simp only at q v B;have F:=CT o;generalize AZ o=L at *;refine AI (ι:={k:Nat//k<=L.length}) (λk=>⟨[(2,.bp 2 [] 0),(4,.bp 4 [] 0),(5,.bp 14 [] 0),(7,.bp 7 [] 0),(8,.p (.int .i64) (i:Int)),(9,.bp 9 [] 0),(10,.sr 56 C9 0 L.length),(11,.p (.int .i64) (k.1:Int))],[(56,.arr 59 C9 ((L.take k.1).map (Wx num)++L.drop k.1)),(9,.box 57 true [.p T3 E,.p K2 o]),(2,.box 34 true [.p HJ f]),(4,.box 34 true [.raw (.slice none 0 0)]),(14,.box 175 true [.p FL f,.sr 101 T3 0 num.length,.sr 102 T3 0 c.length]),(101,.arr 3 T3 num),(102,.arr 3 T3 c),(7,.box 34 true [.sr 200 Sf 0 i]),(200,.arr 57 Sf ((c.take i).map (NS f num)))]⟩) (λk=>L.length-k.1) ⟨0,by omega⟩ (eW [(2,.nm 2),(4,.nm 4),(14,.nm 14),(101,.nm 101),(102,.nm 102),(7,.nm 7),(200,.nm 200),(9,.nm 9),(56,.nm 56)]) (λk=>?_)
  obtain⟨k,hk⟩:=k;repeat'(first|exact trivial|apply eS rfl|apply AB|refine rX d ?_ ?_|refine rC ?_ ?_<;>intro h<;>try(cases h;done))
  .have g:k<L.length:=by exact eV
   have e:=(VW (Wx num) (λb=>b) L (0,0) g (Wx num)).2;rw[e];have:=q _ (AG L (0,0) g);rw[r];exact⟨by exact eV,this,by exact eV⟩
  .exact eV
  .have g:k<L.length:=by exact eV
   have e:=VW (Wx num) (λb=>b) L (0,0) g (Wx num);refine⟨⟨k+1,by omega⟩,by simp only;omega,AC [(2,.nm 2),(4,.nm 4),(14,.nm 14),(101,.nm 101),(102,.nm 102),(7,.nm 7),(200,.nm 200),(9,.nm 9),(56,.nm 56)] rfl rfl ?_ ?_⟩
   .refine eM ?_;rw[e.2];exact e.1
   exact eN
  .simp only[AO];have:=t;omega
  .exact eV
  have g:L.take k=L:=BY (by exact eV);have y:L.drop k=[]:=If (by exact eV);refine⟨⟨i+1,by omega⟩,by simp only;omega,AC [(2,.nm 2),(4,.nm 4),(14,.nm 14),(101,.nm 101),(102,.nm 102),(7,.nm 7),(200,.nm 200)] rfl rfl ?_ ?_⟩
  .refine eM ?_;rw[g,y,AAv,Ar c 0 hi,AAN,nO,ABj,v];have C:List.take i ((c.take i).map (NS f num))=(c.take i).map (NS f num):=BY (by rw[aS,Of];omega);have D:List.take L.length (L.map (Wx num))=L.map (Wx num):=BY (by rw[aS];omega);rw[C,D]
  exact eN
 have hk:c.take i=c:=BY (by exact eV);rw[hk];refine fI d [.cell 4 34] (by first|exact eR|refine Je ?_;exact BY (by rw[aS];exact eV))
end
def D9 (f:List AD):Nat->List Int->Int->List Int
 | 0,o,_=>o
 | k+1,o,n=>(f.getD n.toNat (0,[])).2.foldl (λo a=>if a.2∈o then o else D9 f k o a.2) (o++[n])
def A5 (f:List AD) (k:Nat) (o:List Int) (a:Int×Int):List Int:=if a.2∈o then o else D9 f k o a.2
theorem Cc (f:List AD) (k:Nat) (o:List Int) (n:Int):D9 f (k+1) o n=(f.getD n.toNat (0,[])).2.foldl (A5 f k) (o++[n]):=rfl
structure Mp (f:List AD) (o:List Int):Prop where
 nd:o.Nodup
 rng:∀x∈o,0<=x/\x<(f.length:Int)
theorem Mp.len {f:List AD} {o:List Int} (h:Mp f o):o.length<=f.length:=by
 have h1:(o.map Int.toNat).Nodup:=by
  rw[List.Nodup,AAG];refine h.nd.imp_of_mem λ{a b} ha c g e=>g ?_;have:=h.rng a ha;have:=h.rng b c;omega
 have:=DZ f.length (o.map Int.toNat) h1 (λj d=>by
  obtain⟨x,i,rfl⟩:=IS.1 d;have:=h.rng x i;omega)
 simpa using this
theorem Mp.snoc {f:List AD} {o:List Int} (h:Mp f o) (h0:0<=n) (h1:n<f.length) (hn:n∉o):Mp f (o++[n]):=by
 refine⟨?_,λx c=>?_⟩
 .rw[AB2];refine⟨h.nd,by simp,λa ha b d=>?_⟩;grind
 rcases NO.1 c with c|c
 .exact h.rng x c
 grind
theorem Hr {f:List AD} {k:Nat} (j:∀(o:List Int) (n:Int),Mp f o->0<=n->n<f.length->n∉o->Mp f (D9 f k o n)/\o <+: D9 f k o n) :
  ∀(l:List (Int×Int)) (o:List Int),(∀a∈l,0<=a.2/\a.2<(f.length:Int))->Mp f o->Mp f (l.foldl (A5 f k) o)/\o <+: l.foldl (A5 f k) o
 | [],o,_,h=>⟨h,ABb _⟩
 | a :: l,o,i,h=>by
  simp only[OR];have c:Mp f (A5 f k o a)/\o <+: A5 f k o a:=by grind [A5]
  obtain⟨d,e⟩:=Hr j l _ (λb g=>i b (by simp[g])) c.1;exact⟨d,c.2.trans e⟩
theorem B7 {f:List AD} (hf:AX f) {a:Int×Int} (ha:a∈(f.getD n.toNat (0,[])).2):0<=a.2/\a.2<f.length:=by
 by_cases h:n.toNat<f.length
 .have b:f.getD n.toNat (0,[])∈f:=by
   rw[AS,AT h];exact AAu h
  exact(hf.2 _ b).2 a ha
 grind
theorem GD {f:List AD} (hf:AX f):∀(k:Nat) (o:List Int) (n:Int),Mp f o->0<=n->n<f.length->n∉o->Mp f (D9 f k o n)/\o <+: D9 f k o n
 | 0,o,n,h,_,_,_=>⟨h,ABb _⟩
 | k+1,o,n,h,h0,h1,d=>by
  obtain⟨b,c⟩:=Hr (GD hf k) _ _ (λa ha=>B7 hf ha) (h.snoc h0 h1 d);rw[Cc];exact⟨b,(ACz o [n]).trans c⟩
theorem OM {f:List AD} (hf:AX f):∀(k:Nat) (o:List Int) (n:Int),Mp f o->0<=n->n<f.length->n∉o->f.length-o.length<=k ->
  n∈D9 f k o n/\∀x∈D9 f k o n,x∈o\/∀a∈(f.getD x.toNat (0,[])).2,a.2∈D9 f k o n
 | 0,o,n,h,h0,h1,i,hk=>by
  have:=(h.snoc h0 h1 i).len;grind
 | k+1,o,n,h,h0,h1,i,hk=>by
  have key:∀(l:List (Int×Int)) (t:List Int),(∀a∈l,0<=a.2/\a.2<(f.length:Int))->Mp f t->f.length-t.length<=k ->
    (∀a∈l,a.2∈l.foldl (A5 f k) t)/\∀x∈l.foldl (A5 f k) t,x∈t\/∀a∈(f.getD x.toNat (0,[])).2,a.2∈l.foldl (A5 f k) t:=by
   intro l;induction l with
   | nil=>exact λt _ _ _=>⟨λa ha=>(by cases ha),λx m=>.inl m⟩
   | cons a l v =>
    intro t j r s;simp only[OR];have u:Mp f (A5 f k t a)/\t <+: A5 f k t a/\a.2∈A5 f k t a/\∀x∈A5 f k t a,x∈t\/∀b∈(f.getD x.toNat (0,[])).2,b.2∈A5 f k t a:=by
     unfold A5;split
     .grind
     rename_i hn;have q:=j a sc;obtain⟨c,d⟩:=GD hf k t a.2 r q.1 q.2 hn;obtain⟨e,p⟩:=OM hf k t a.2 r q.1 q.2 hn s;exact⟨c,d,e,p⟩
    obtain⟨c,d,e,p⟩:=u;have w:=d.length_le;obtain⟨y,z⟩:=v (A5 f k t a) (λb g=>j b (by simp[g])) c O1;obtain⟨_,A⟩:=Hr (GD hf k) l (A5 f k t a) (λb g=>j b (by simp[g])) c;refine⟨λb g=>?_,λx m=>?_⟩
    .grind
    grind
  have hs:=h.snoc h0 h1 i;obtain⟨c,d⟩:=key (f.getD n.toNat (0,[])).2 (o++[n]) (λa ha=>B7 hf ha) hs (by simp only[Do,i5];omega);obtain⟨_,e⟩:=Hr (GD hf k) (f.getD n.toNat (0,[])).2 (o++[n]) (λa ha=>B7 hf ha) hs;rw[Cc];refine⟨e.subset sc,λx m=>?_⟩;grind
def EE (o:List Int) (x:Int):Int:=if x∈o then (o.idxOf x:Int) else 0
def M7 (o:List Int) (a:Int×Int):Int×Int:=(a.1,EE o a.2)
def Gx (f:List AD) (o:List Int) (n:Int):AD:=((f.getD n.toNat (0,[])).1,(f.getD n.toNat (0,[])).2.map (M7 o))
def AP (f:List AD) (root:Int):List AD:=(D9 f f.length [] root).map (Gx f (D9 f f.length [] root))
def lZ (f:List AD):Prop:=∀x∈f,Pu x.2/\x.2.length<=200
theorem l0 {f:List AD} (hf:lZ f) (n:Int):Pu (f.getD n.toNat (0,[])).2/\(f.getD n.toNat (0,[])).2.length<=200:=by
 by_cases h:n.toNat<f.length
 .have a:f.getD n.toNat (0,[])∈f:=by
   rw[AS,AT h];exact AAu h
  exact hf _ a
 rw[AS,oF O1];exact⟨λi hi=>by simp at hi,by simp⟩
theorem IR {l:List (Int×Int)} (h:Pu l):AZ l=l:=by
 have key:∀i,i<=l.length->AZ (l.take i)=l.take i:=by
  intro i;induction i with
  | zero=>intro _;rfl
  | succ i d =>
   intro hi;rw[Ar l (0,0) O1,KL,d O1];have b:(l.take i).length=i:=by rw[Of];omega
   have c:JS (l.getD i (0,0)) (l.take i) (l.take i).length=(l.take i).length:=by
    rw[b];cases i with
    | zero=>rfl
    | succ i =>
     have h1:=h i O1;have a:(l.take (i+1)).getD i (0,0)=l.getD i (0,0):=by grind
     simp only[JS];rw[a,As O1]
   unfold Ky;rw[c,tO,AC1,AAv]
 have:=key l.length (OS _)
 rwa [tO]at this
structure Kp (f:List AD) (num o:List Int):Prop where
 len:num.length=f.length
 get:∀j,j<f.length->num.getD j 0=if (j:Int)∈o then (o.idxOf (j:Int):Int) else -1
theorem Kp.neg {f:List AD} {num o:List Int} (h:Kp f num o) (h0:0<=n) (h1:n<f.length):num.getD n.toNat 0<0↔n∉o:=by
 have:=h.get n.toNat O1;grind
theorem uL {o:List Int} (h:n∉o):(o++[n]).idxOf n=o.length:=by rw[List.idxOf_append,As h];simp
theorem Kp.snoc {f:List AD} {num o:List Int} (h:Kp f num o) (h0:0<=n) (h1:n<f.length) (hn:n∉o):Kp f (num.set n.toNat (o.length:Int)) (o++[n]):=by
 refine⟨by simpa using h.len,λj a=>?_⟩;have c:j<num.length:=by rw[h.len];exact a
 by_cases e:j=n.toNat
 .grind
 have en:¬(j:Int)=n:=by omega
 simp only[AS];rw[ACo (λb=>e b.symm)];have:=h.get j a;grind
theorem VX {f:List AD} (hf:AX f) (hs:lZ f):∀(k:Nat) (s:List Int×List Int) (n:Int),Kp f s.1 s.2->Mp f s.2->0<=n->n<f.length->n∉s.2->(Dn f k s n).2=D9 f k s.2 n/\Kp f (Dn f k s n).1 (Dn f k s n).2
 | 0,s,n,h,_,_,_,_=>⟨rfl,h⟩
 | k+1,s,n,h,u,h0,h1,i=>by
  have key:∀(l:List (Int×Int)) (t:List Int×List Int),(∀a∈l,0<=a.2/\a.2<(f.length:Int))->Kp f t.1 t.2->Mp f t.2->(l.foldl (D8 f k) t).2=l.foldl (A5 f k) t.2/\Kp f (l.foldl (D8 f k) t).1 (l.foldl (D8 f k) t).2:=by
   intro l;induction l with
   | nil=>exact λt _ e _=>⟨rfl,e⟩
   | cons a l y =>
    intro t j e m;simp only[OR];have q:=j a sc;have v:=e.neg q.1 q.2;have w:(D8 f k t a).2=A5 f k t.2 a/\Kp f (D8 f k t a).1 (D8 f k t a).2/\Mp f (D8 f k t a).2:=by
     unfold D8 A5;by_cases d:a.2∈t.2
     .grind
     rw[As d,At (by rw[v];exact d)];obtain⟨c,g⟩:=VX hf hs k t a.2 e m q.1 q.2 d;exact⟨c,g,by rw[c];exact(GD hf k t.2 a.2 m q.1 q.2 d).1⟩
    obtain⟨c,g,p⟩:=w;obtain⟨o,x⟩:=y (D8 f k t a) (λb r=>j b (by simp[r])) g p;rw[c]at o;exact⟨o,x⟩
  rw[FJ,Cc,IR (l0 hs n).1];exact key _ (s.1.set n.toNat (s.2.length:Int),s.2++[n]) (λa ha=>B7 hf ha) (h.snoc h0 h1 i) (u.snoc h0 h1 i)
theorem Lx {f:List AD} (hf:AX f) (hs:lZ f) {root:Int} (h0:0<=root) (h1:root<f.length):Ko f root=AP f root:=by
 have i:Kp f (List.replicate f.length (-1)) []:=⟨by simp,λj h=>by simp[AS,ABa,h]⟩;have d:Mp f []:=⟨by simp,λx g=>by cases g⟩;obtain⟨c,b⟩:=VX hf hs f.length (List.replicate f.length (-1),[]) root i d h0 h1 sc;have c:(FK f root).2=D9 f f.length [] root:=c;have b:Kp f (FK f root).1 (FK f root).2:=b;have k:=(OM hf f.length [] root d h0 h1 sc sc).2;have l:=(GD hf f.length [] root d h0 h1 sc).1;unfold Ko AP;rw[c]at b ⊢;generalize D9 f f.length [] root=o at *;refine AAd λx g=>?_;unfold NS Gx;rw[IR (l0 hs x).1];refine AB3 _ (AAd λa ha=>?_);unfold Wx M7 EE;have e:a.2∈o:=by grind
 have m:=B7 hf ha;have:=b.get a.2.toNat O1;rw[show ((a.2.toNat:Nat):Int)=a.2 by omega]at this;rw[this,At e,At e]
def wK (o:List Int):List (Int×Int):=(List.range o.length).map λi=>(o.getD i 0,(i:Int))
theorem fQ (o:List Int) (n:Int):wK (o++[n])=wK o++[(n,(o.length:Int))]:=by
 unfold wK;rw[Do,i5,AAA,AAN]
 congr 1
 .refine AAd λi hi=>?_;grind
 simp[AS]
theorem uM (k:Int) (a b:List (Int×Int)):BP T3 T3 k (a++b)=(BP T3 T3 k a).or (BP T3 T3 k b):=by
 induction a with
 | nil=>rfl
 | cons x a c =>
  simp only[bY,BP];split
  .rfl
  exact c
theorem GM {α:Type} {p:List α->Prop} (h0:p []) (h1:∀l a,p l->p (l++[a])) (l:List α):p l:=by
 have:∀n (l:List α),l.length=n->p l:=by
  intro n;induction n with
  | zero=>intro l b;rw[List.length_eq_zero_iff.1 b];exact h0
  | succ n d =>
   intro l b;have c:l≠[]:=by intro e;subst e;simp at b
   rw[<-List.dropLast_concat_getLast c];exact h1 _ _ (d _ (by simp[b]))
 exact this _ l rfl
theorem RD (o:List Int) (x:Int):BP T3 T3 x (wK o)=if x∈o then some (o.idxOf x:Int) else none:=by
 induction o using GM with
 | h0=>rfl
 | h1 o n a =>
  rw[fQ,uM,a];by_cases b:x∈o
  .grind
  grind [uL,BP,HF]
theorem uN (k v:Int) (l:List (Int×Int)) (h:BP T3 T3 k l=none):E4 T3 T3 k v l=l++[(k,v)]:=by
 induction l with
 | nil=>rfl
 | cons x l a =>
  simp only[BP]at h;simp only[E4,bY];split at h
  .cases h
  grind
theorem A0T {o:List Int} (hn:n∉o):E4 T3 T3 n (o.length:Int) (wK o)=wK (o++[n]):=by grind [uN,RD,fQ]
theorem A4b (o:List Int) (x:Int):(BP T3 T3 x (wK o)).getD 0=EE o x:=by grind [RD,EE]
theorem VY (o:List Int) (x:Int):(BP T3 T3 x (wK o)).isSome=decide (x∈o):=by
 rw[RD];split<;>simp[*]
def Z1 (l:List (Int×Int)):Prop:=l.Pairwise λa b=>a.1≠b.1
def LtA (l:List (Int×Int)):Prop:=l.Pairwise λa b=>a.1<b.1
theorem X9 (x:Int×Int) (s:List (Int×Int)):∀n,(∀j,JS x s n<=j->j<n->x.1<(s.getD j (0,0)).1)/\(JS x s n=0\/¬x.1<(s.getD (JS x s n-1) (0,0)).1)
 | 0=>⟨λj h1 a=>by omega,.inl rfl⟩
 | n+1=>by
  obtain⟨h1,a⟩:=X9 x s n;unfold JS;split
  .rename_i h;refine⟨λj b c=>?_,a⟩;by_cases e:j=n
   .rw[e];exact h
   exact h1 j b O1
  rename_i h;exact⟨λj b c=>by omega,.inr (by simpa using h)⟩
theorem A4c {s:List (Int×Int)} (hs:LtA s) {x:Int×Int} (m:∀a∈s,a.1≠x.1):LtA (Ky s x):=by
 obtain⟨h1,c⟩:=X9 x s s.length;have n:=Z0 x s s.length;unfold Ky;generalize JS x s s.length=p at *;have d:=hs;unfold LtA at d;rw[<-ABC p s,ABH]at d;have j:∀i (h:i<s.length),s.getD i (0,0)=s[i]:=λi h=>by rw[AS,AT h];rfl
 have l:∀a∈s.take p,a.1<x.1:=by
  intro a ha;rcases c with c|c
  .subst c;simp at ha
  obtain⟨i,hi,rfl⟩:=AAy.1 ha;rw[Of]at hi;rw[List.getElem_take];by_cases q:p=0
  .omega
  have g:p-1<s.length:=by omega
  rw[j (p-1) g]at c;have o:=m s[p-1] (AAu g);by_cases e:i=p-1
  .subst e;omega
  have:=(oS.1 hs) i (p-1) O1 g O1;omega
 have k:∀a∈s.drop p,x.1<a.1:=by
  intro a ha;obtain⟨i,hi,rfl⟩:=AAy.1 ha;rw[ABc]at hi;rw[List.getElem_drop,<-j (p+i) O1];exact h1 (p+i) O1 O1
 unfold LtA;rw[AA8,ABH];refine⟨d.1,?_,λa ha b f=>?_⟩
 .rw[ABi,AAw];exact⟨k,d.2.1⟩
 rcases GO.1 (by simpa using f:b∈x :: s.drop p) with rfl|f
 .exact l a ha
 exact d.2.2 a ha b f
theorem KM {l:List (Int×Int)} (h:Z1 l):LtA (AZ l):=by
 induction l using GM with
 | h0=>exact List.Pairwise.nil
 | h1 l a d =>
  unfold Z1 at h;rw[ABH]at h;rw[KL];exact A4c (d h.1) λb c=>h.2.2 b ((Ed l).mem_iff.1 c) a sc
theorem uO {l:List (Int×Int)} (d:r.Perm l) (h1:LtA r) (c:LtA l):r=l :=
 List.Perm.eq_of_pairwise (le:=λa b:Int×Int=>a.1<b.1) (λa b _ _ e f=>by omega) h1 c d
theorem pR {l:List (Int×Int)} (h:LtA l):Pu l:=by
 intro i hi;have a:∀i (h:i<l.length),l.getD i (0,0)=l[i]:=λi h=>by rw[AS,AT h];rfl
 rw[a i O1,a (i+1) hi];exact(oS.1 h) i (i+1) O1 hi O1
theorem A7l {l:List (Int×Int)} (h:Z1 l):Dst Q8 (0,0) l:=by
 rw[pM pP];refine h.imp λ{a b} g e=>g ?_;unfold Q8 Pt at e;split at e
 .omega
 split at e<;>omega
theorem l4 {l:List (Int×Int)} (h:Z1 l) (c:r.Perm l) (hs:pO Q8 (0,0) 0 l.length r):r=AZ l:=by
 refine uO (c.trans (Ed l).symm) (oS.2 λi j hi b d=>?_) (KM h);have a:∀i (h:i<r.length),r.getD i (0,0)=r[i]:=λi h=>by rw[AS,AT h];rfl
 have:=hs i j (DO _) d (by rw[<-c.length_eq];exact b);rw[a i hi,a j b]at this;unfold Q8 Pt at this;split at this
 .assumption
 split at this<;>omega
theorem Ly {l:List (Int×Int)} (h:Z1 l):AZ (AZ l)=AZ l:=IR (pR (KM h))
def SS (l:List (Int×Int)):Prop:=l.length<=200/\(l.length<=12\/Pu l)
def NdF (f:List AD):Prop:=∀x∈f,Z1 x.2/\SS x.2
def C1 (f:List AD):List AD:=f.map λx=>(x.1,AZ x.2)
theorem CF (f:List AD):(C1 f).length=f.length:=aS _
theorem JT (f:List AD) (n:Nat):(C1 f).getD n (0,[])=((f.getD n (0,[])).1,AZ (f.getD n (0,[])).2):=by
 unfold C1;simp only[AS,AAD];cases f[n]?<;>rfl
theorem GE {f:List AD} (h:AX f):AX (C1 f):=by
 refine⟨by rw[CF];exact h.1,λx d=>?_⟩;obtain⟨y,e,rfl⟩:=IS.1 d;obtain⟨b,c⟩:=h.2 y e;refine⟨by simp only[CT];exact b,λa ha=>?_⟩;rw[CF];exact c a ((Ed _).mem_iff.1 ha)
theorem A0U {f:List AD} (h:NdF f):lZ (C1 f):=by
 intro x c;obtain⟨y,d,rfl⟩:=IS.1 c;obtain⟨a,b⟩:=h y d;exact⟨pR (KM a),by simp only[CT];exact b.1⟩
theorem pS {f:List AD} (hf:NdF f) (n:Int):Z1 (f.getD n.toNat (0,[])).2/\SS (f.getD n.toNat (0,[])).2:=by
 by_cases h:n.toNat<f.length
 .have a:f.getD n.toNat (0,[])∈f:=by
   rw[AS,AT h];exact AAu h
  exact hf _ a
 rw[AS,oF O1];exact⟨List.Pairwise.nil,by simp,.inl sc⟩
theorem SK {f:List AD} (h:NdF f):∀(k:Nat) (s:List Int×List Int) (n:Int),Dn (C1 f) k s n=Dn f k s n
 | 0,_,_=>rfl
 | k+1,s,n=>by
  rw[FJ,FJ,JT];simp only;rw[Ly (pS h n).1];refine AB3 (λg=>List.foldl g _ _) ?_;funext s a;unfold D8;rw[SK h k s a.2]
theorem uP {f:List AD} (h:NdF f) (r:Int):Ko (C1 f) r=Ko f r:=by
 have a:FK (C1 f) r=FK f r:=by
  unfold FK;rw[CF,SK h]
 unfold Ko;rw[a];refine AAd λn _=>?_;unfold NS;rw[JT];simp only;rw[Ly (pS h n).1]
theorem IT {f:List AD} (hf:AX f) (hn:NdF f) {root:Int} (h0:0<=root) (h1:root<f.length):Ko f root=AP (C1 f) root:=by
 rw[<-uP hn];exact Lx (GE hf) (A0U hn) h0 (by rw[CF];exact h1)
section
attribute [local go_sem] Hq
theorem A0V {l:List (Int×Int)} (h:Pu l) {i j:Nat} (c:i<j) (a:j<l.length):(l.getD i (0,0)).1<(l.getD j (0,0)).1:=by
 induction j with
 | zero=>omega
 | succ j b =>
  have h1:=h j a;by_cases e:i=j
  .rw[e];exact h1
  exact Int.lt_trans (b O1 O1) h1
theorem l5 {x:Int} (h:y<x) (a:Pt x y<0):False:=by
 unfold Pt at a
 (repeat' split at a)<;>omega
def GF (l:List (Int×Int)) (s:Nat):List (Nat×Obj):=[(1000000,.arr 59 C9 l),(70,.box 3 false [.p T3 (s:Int)])]
theorem VZ (l:List (Int×Int)) (so:Pu l) (a b s:Nat) (ab:a<b) (bl:b<l.length) (hs:s<=1000):BB Tryz.prog 217 [.sr 1000000 C9 0 l.length,.p T3 (a:Int),.p T3 (b:Int),.bp 70 [] 0,.fn 140] (GF l s) [1000000,70] (λres f=>res=.tup [.p T3 (a:Int),.p T3 (b:Int)]/\f=GF l s):=by
 refine Jf [0,1,2,3,4,10,11,22] [] [] Tryz.func217 Tryz.ntmps217 (AE KK AH) ?_;intro w0 K O0 ρ0 d h i;simp only[Am,GF];have g:a<l.length:=by omega
 have e:=A0V so ab bl;repeat'(first|exact trivial|apply eS rfl|apply AB|refine rX d ?_ ?_|refine rC ?_ ?_<;>intro c<;>try(cases c;done))
 .exact kF
 .exact(l5 e c).elim
 .exact(l5 e c).elim
 exact fM d [.tmp 10,.tmp 11] (.tup [.p T3 (a:Int),.p T3 (b:Int)]) eT ⟨rfl,rfl⟩
theorem Z2 (l:List (Int×Int)) (so:Pu l) (a b c s:Nat) (ab:a<b) (f:b<c) (cl:c<l.length) (hs:s<=900):BB Tryz.prog 216 [.sr 1000000 C9 0 l.length,.p T3 (a:Int),.p T3 (b:Int),.p T3 (c:Int),.bp 70 [] 0,.fn 140] (GF l s) [1000000,70] (λres g=>res=.p T3 (b:Int)/\g=GF l s):=by
 refine Jf [0,1,2,3,4,5,12] [] [] Tryz.func216 Tryz.ntmps216 AH ?_;intro w0 K O0 ρ0 d h i;simp only[Am,GF];repeat'(first|exact trivial|apply eS rfl|apply AB|refine rX d ?_ ?_|refine rC ?_ ?_<;>intro e<;>try(cases e;done))
 refine cP 5 d ?_ ?_
 .trivial
 refine rM d (VZ l so a b s ab O1 O1) [(1000000,.nm 1000000),(70,.nm 70)] [] ?_ ?_ ?_
 .first|exact eN|refine eM ?_
 .simp only[GF];first|exact eN|refine eM ?_
 rintro _ _ ⟨rfl,rfl⟩;refine⟨[(1000000,.nm 1000000),(70,.nm 70)],.tup [.p T3 (a:Int),.p T3 (b:Int)],[(1000000,.arr 59 C9 l),(70,.box 3 false [.p T3 (s:Int)])],rfl,rfl,?_,?_,rfl,rfl,?_⟩
 .simp only[GF];first|exact eN|refine eM ?_
 .first|exact eN|refine eM ?_
 refine rL d ?_ ?_
 .trivial
 repeat'(first|exact trivial|apply eS rfl|apply AB|refine rX d ?_ ?_|refine rC ?_ ?_<;>intro e<;>try(cases e;done))
 refine cP 5 d ?_ ?_
 .trivial
 refine rM d (VZ l so b c s f cl O1) [(1000000,.nm 1000000),(70,.nm 70)] [] ?_ ?_ ?_
 .first|exact eN|refine eM ?_
 .simp only[GF];first|exact eN|refine eM ?_
 rintro _ _ ⟨rfl,rfl⟩;refine⟨[(1000000,.nm 1000000),(70,.nm 70)],.tup [.p T3 (b:Int),.p T3 (c:Int)],[(1000000,.arr 59 C9 l),(70,.box 3 false [.p T3 (s:Int)])],rfl,rfl,?_,?_,rfl,rfl,?_⟩
 .simp only[GF];first|exact eN|refine eM ?_
 .first|exact eN|refine eM ?_
 refine rL d ?_ ?_
 .trivial
 repeat'(first|exact trivial|apply eS rfl|apply AB|refine rX d ?_ ?_|refine rC ?_ ?_<;>intro e<;>try(cases e;done))
 refine cP 5 d ?_ ?_
 .trivial
 refine rM d (VZ l so a b s ab O1 O1) [(1000000,.nm 1000000),(70,.nm 70)] [] ?_ ?_ ?_
 .first|exact eN|refine eM ?_
 .simp only[GF];first|exact eN|refine eM ?_
 rintro _ _ ⟨rfl,rfl⟩;refine⟨[(1000000,.nm 1000000),(70,.nm 70)],.tup [.p T3 (a:Int),.p T3 (b:Int)],[(1000000,.arr 59 C9 l),(70,.box 3 false [.p T3 (s:Int)])],rfl,rfl,?_,?_,rfl,rfl,?_⟩
 .simp only[GF];first|exact eN|refine eM ?_
 .first|exact eN|refine eM ?_
 refine rL d ?_ ?_
 .trivial
 repeat'(first|exact trivial|apply eS rfl|apply AB|refine rX d ?_ ?_|refine rC ?_ ?_<;>intro e<;>try(cases e;done))
 exact fM d [.tmp 12] (.p T3 (b:Int)) eT ⟨rfl,rfl⟩
theorem Z3 (l:List (Int×Int)) (so:Pu l) (b s:Nat) (e:1<=b) (bl:b+1<l.length) (f:l.length<=100000) (hs:s<=900):BB Tryz.prog 215 [.sr 1000000 C9 0 l.length,.p T3 (b:Int),.bp 70 [] 0,.fn 140] (GF l s) [1000000,70] (λres d=>res=.p T3 (b:Int)/\d=GF l s):=by
 refine Jf [0,1,2,3,8] [] [] Tryz.func215 Tryz.ntmps215 AH ?_;intro w0 K O0 ρ0 a g h;simp only[Am,GF];have key:=Z2 l so (b-1) b (b+1) s O1 O1 bl hs;rw[show ((b-1:Nat):Int)=(b:Int)-1 by omega,show ((b+1:Nat):Int)=(b:Int)+1 by omega]at key;repeat'(first|exact trivial|apply eS rfl|apply AB|refine rX a ?_ ?_|refine rC ?_ ?_<;>intro c<;>try(cases c;done))
 refine cP 8 a ?_ ?_
 .exact kF
 refine rM a (key) [(1000000,.nm 1000000),(70,.nm 70)] [] ?_ ?_ ?_
 .first|exact eN|refine eM ?_
 .simp only[GF];first|exact eN|refine eM ?_
 rintro _ _ ⟨rfl,rfl⟩;refine⟨[(1000000,.nm 1000000),(70,.nm 70)],.p T3 (b:Int),[(1000000,.arr 59 C9 l),(70,.box 3 false [.p T3 (s:Int)])],rfl,rfl,?_,?_,rfl,rfl,?_⟩
 .simp only[GF];first|exact eN|refine eM ?_
 .first|exact eN|refine eM ?_
 refine rL a ?_ ?_
 .trivial
 repeat'(first|exact trivial|apply eS rfl|apply AB|refine rX a ?_ ?_|refine rC ?_ ?_<;>intro c<;>try(cases c;done))
 exact fM a [.tmp 8] (.p T3 (b:Int)) eT ⟨rfl,rfl⟩
theorem A4d (l:List (Int×Int)) (d:l.length<=100000) (so:Pu l) (a b:Nat) (i:a+13<=b) (k:b<=l.length):BB Tryz.prog 203 [.sr 1000000 C9 0 l.length,.p T3 (a:Int),.p T3 (b:Int),.fn 140] [(1000000,.arr 59 C9 l)] [1000000] (λres h=>(∃j:Nat,res=.tup [.p T3 (j:Int),.p T3 (1:Int)])/\h=[(1000000,.arr 59 C9 l)]):=by
 refine Jf [0,1,2,3,8,9,10,11,12,13,14,34,36,55,57,60] [] [] Tryz.func203 Tryz.ntmps203 AH ?_;intro w0 K O0 ρ0 c m n;simp only[Am];obtain⟨t,g⟩:∃t,t=(b-a) / 4:=⟨_,rfl⟩;have et:((b:Int)-(a:Int)).tdiv 4=(t:Int):=by
  rw[ABe O1];omega
 have o:4*t<=b-a:=by omega
 have q:3<=t:=by omega
 clear g
 (apply eS rfl;refine rX c ?_ ?_;(next=>first|exact trivial|exact kF))
 (apply eS rfl;refine rX c ?_ ?_;(next=>first|exact trivial|exact kF))
 (apply eS rfl;refine rX c ?_ ?_;(next=>first|exact trivial|exact kF))
 (apply eS rfl;refine rX c ?_ ?_;(next=>first|exact trivial|exact kF|(rw[et];refine⟨⟨by decide,?_⟩,?_,?_⟩<;>omega)))
 (apply eS rfl;refine rX c ?_ ?_;(next=>first|exact trivial|exact kF|(rw[et];refine⟨⟨by decide,?_⟩,?_,?_⟩<;>omega)))
 (apply eS rfl;refine rX c ?_ ?_;(next=>first|exact trivial|exact kF|(rw[et];refine⟨⟨by decide,?_⟩,?_,?_⟩<;>omega)))
 rw[et,show (a:Int)+(t:Int)*1=((a+t:Nat):Int) by omega,show (a:Int)+(t:Int)*2=((a+t*2:Nat):Int) by omega,show (a:Int)+(t:Int)*3=((a+t*3:Nat):Int) by omega];refine UH ?_;refine A3i (ι:=Unit) (λ_=>⟨[(11,.bp 11 [] 0),(13,.p T3 ((a+t*2:Nat):Int))],[(1000000,.arr 59 C9 l),(11,.box 3 false [.p T3 (0:Int)])]⟩) ?_ (λx=>?_)
 .repeat'(first|exact trivial|apply eS rfl|apply AB|refine rX c ?_ ?_)
  refine rC ?_ ?_<;>intro e
  .repeat'(first|exact trivial|apply eS rfl|apply AB|refine rX c ?_ ?_)
   refine rC (λf=>?_) (λf=>?_)
   .repeat'(first|exact trivial|apply eS rfl|apply AB|refine rP c ?_ ?_|fail)
    refine cP 3 c ?_ ?_
    .trivial
    refine rM c (Z3 l so (a+t) 0 O1 O1 d O1) [(1000000,.nm 1000000),(70,.nm 11)] [] ?_ ?_ ?_
    .first|exact eN|refine eM ?_
    .simp only[GF];first|exact eN|refine eM ?_
    rintro _ _ ⟨rfl,rfl⟩;refine⟨[(1000000,.nm 1000000),(11,.nm 70)],.p T3 ((a+t:Nat):Int),[(1000000,.arr 59 C9 l),(11,.box 3 false [.p T3 (0:Int)])],rfl,rfl,?_,?_,rfl,rfl,?_⟩
    .simp only[GF];first|exact eN|refine eM ?_
    .first|exact eN|refine eM ?_
    refine rL c ?_ ?_
    .trivial
    repeat'(first|exact trivial|apply eS rfl|apply AB|refine rX c ?_ ?_)
    refine cP 3 c ?_ ?_
    .trivial
    refine rM c (Z3 l so (a+t*2) 0 O1 O1 d O1) [(1000000,.nm 1000000),(70,.nm 11)] [] ?_ ?_ ?_
    .first|exact eN|refine eM ?_
    .simp only[GF];first|exact eN|refine eM ?_
    rintro _ _ ⟨rfl,rfl⟩;refine⟨[(1000000,.nm 1000000),(11,.nm 70)],.p T3 ((a+t*2:Nat):Int),[(1000000,.arr 59 C9 l),(11,.box 3 false [.p T3 (0:Int)])],rfl,rfl,?_,?_,rfl,rfl,?_⟩
    .simp only[GF];first|exact eN|refine eM ?_
    .first|exact eN|refine eM ?_
    refine rL c ?_ ?_
    .trivial
    repeat'(first|exact trivial|apply eS rfl|apply AB|refine rX c ?_ ?_)
    refine cP 3 c ?_ ?_
    .trivial
    refine rM c (Z3 l so (a+t*3) 0 O1 O1 d O1) [(1000000,.nm 1000000),(70,.nm 11)] [] ?_ ?_ ?_
    .first|exact eN|refine eM ?_
    .simp only[GF];first|exact eN|refine eM ?_
    rintro _ _ ⟨rfl,rfl⟩;refine⟨[(1000000,.nm 1000000),(11,.nm 70)],.p T3 ((a+t*3:Nat):Int),[(1000000,.arr 59 C9 l),(11,.box 3 false [.p T3 (0:Int)])],rfl,rfl,?_,?_,rfl,rfl,?_⟩
    .simp only[GF];first|exact eN|refine eM ?_
    .first|exact eN|refine eM ?_
    refine rL c ?_ ?_
    .trivial
    repeat'(first|exact trivial|apply eS rfl|apply AB|refine rX c ?_ ?_)
    refine cP 5 c ?_ ?_
    .trivial
    refine rM c (Z2 l so (a+t) (a+t*2) (a+t*3) 0 O1 O1 O1 O1) [(1000000,.nm 1000000),(70,.nm 11)] [] ?_ ?_ ?_
    .first|exact eN|refine eM ?_
    .simp only[GF];first|exact eN|refine eM ?_
    rintro _ _ ⟨rfl,rfl⟩;refine⟨[(1000000,.nm 1000000),(11,.nm 70)],.p T3 ((a+t*2:Nat):Int),[(1000000,.arr 59 C9 l),(11,.box 3 false [.p T3 (0:Int)])],rfl,rfl,?_,?_,rfl,rfl,?_⟩
    .simp only[GF];first|exact eN|refine eM ?_
    .first|exact eN|refine eM ?_
    refine rL c ?_ ?_
    .trivial
    repeat'(first|exact trivial|apply eS rfl|apply AB|refine rX c ?_ ?_)
    refine⟨(),AC [(1000000,.nm 1000000),(11,.nm 11)] rfl rfl ?_ ?_⟩
    .first|exact eN|refine eM ?_
    first|exact eN|refine eM ?_
   repeat'(first|exact trivial|apply eS rfl|apply AB|refine rP c ?_ ?_|fail)
   refine cP 5 c ?_ ?_
   .trivial
   refine rM c (Z2 l so (a+t) (a+t*2) (a+t*3) 0 O1 O1 O1 O1) [(1000000,.nm 1000000),(70,.nm 11)] [] ?_ ?_ ?_
   .first|exact eN|refine eM ?_
   .simp only[GF];first|exact eN|refine eM ?_
   rintro _ _ ⟨rfl,rfl⟩;refine⟨[(1000000,.nm 1000000),(11,.nm 70)],.p T3 ((a+t*2:Nat):Int),[(1000000,.arr 59 C9 l),(11,.box 3 false [.p T3 (0:Int)])],rfl,rfl,?_,?_,rfl,rfl,?_⟩
   .simp only[GF];first|exact eN|refine eM ?_
   .first|exact eN|refine eM ?_
   refine rL c ?_ ?_
   .trivial
   repeat'(first|exact trivial|apply eS rfl|apply AB|refine rX c ?_ ?_)
   refine⟨(),AC [(1000000,.nm 1000000),(11,.nm 11)] rfl rfl ?_ ?_⟩
   .first|exact eN|refine eM ?_
   first|exact eN|refine eM ?_
  exfalso;omega
 repeat'(first|exact trivial|apply eS rfl|apply AB|refine rX c ?_ ?_|refine rC ?_ ?_<;>intro e<;>try(cases e;done))
 refine Ev.ent (σ':=⟨[(8,.p T3 ((a+t*2:Nat):Int)),(9,.p T3 (1:Int))],[(1000000,.arr 59 C9 l)]⟩) ?_ (AC [(1000000,.nm 1000000)] rfl rfl ?_ ?_)
 .exact fM c [.tmp 8,.tmp 9] (.tup [.p T3 ((a+t*2:Nat):Int),.p T3 (1:Int)]) eT ⟨⟨_,rfl⟩,rfl⟩
 .first|exact eN|refine eM ?_
 first|exact eN|refine eM ?_
theorem A4e (l:List (Int×Int)) (q:l.length<=100000) (so:Pu l) (n0:0<l.length):BB Tryz.prog 205 [.sr 1000000 C9 0 l.length,.p T3 (0:Int),.p T3 (l.length:Int),.fn 140] [(1000000,.arr 59 C9 l)] [1000000] (λres n=>res=.p .bool true/\n=[(1000000,.arr 59 C9 l)]):=by
 refine Jf [0,1,2,3,8,9,10,11,12,16,36,41,45,65,69,84,104,109,124] [] [] Tryz.func205 Tryz.ntmps205 (AE KK AH) ?_;intro w0 K O0 ρ0 a r t;simp only[Am];repeat'(first|exact trivial|apply eS rfl|apply AB|refine rX a ?_ ?_|refine rC ?_ ?_<;>intro c<;>try(cases c;done))
 .exact kF
 refine AI (ι:=Unit) (λs=>⟨[(0,.sr 1000000 C9 0 l.length),(1,.p T3 (0:Int)),(2,.p T3 (l.length:Int)),(3,.fn 140),(9,.p (.int .i64) (1:Int)),(10,.p (.int .i64) (0:Int))],[(1000000,.arr 59 C9 l)]⟩) (λs=>0) () (AC [(1000000,.nm 1000000)] rfl rfl ?_ ?_) (λs=>?_)
 .first|exact eN|refine eM ?_
 .first|exact eN|refine eM ?_
  rfl
 repeat'(first|exact trivial|apply eS rfl|apply AB|refine rX a ?_ ?_)
 refine rC ?_ ?_<;>intro c
 .repeat'(first|exact trivial|apply eS rfl|apply AB|refine rX a ?_ ?_)
  refine AI (ι:={k:Nat//1<=k/\k<=l.length}) (λs=>⟨[(0,.sr 1000000 C9 0 l.length),(1,.p T3 (0:Int)),(2,.p T3 (l.length:Int)),(3,.fn 140),(9,.p (.int .i64) (s.1:Int)),(10,.p (.int .i64) (0:Int))],[(1000000,.arr 59 C9 l)]⟩) (λs=>l.length-s.1) ⟨1,OS _,n0⟩ (AC [(1000000,.nm 1000000)] rfl rfl ?_ ?_) (λs=>?_)
  .first|exact eN|refine eM ?_
  .first|exact eN|refine eM ?_
   rfl
  obtain⟨k,e,f⟩:=s;simp only at e f ⊢;have d:((k:Int)-1).toNat=k-1:=by omega
  repeat'(first|exact trivial|apply eS rfl|apply AB|refine rX a ?_ ?_)
  .dsimp only[Ty.den];exact⟨λ_=>by omega,λ_=>by omega,λ_=>by omega⟩
  refine UI (by simp only[go_sem,Nat.reduceEqDiff,reduceCtorEq,Nat.reduceAdd,Nat.reduceSub,Nat.reduceMul,Nat.reduceLeDiff,Nat.reduceLT,Int.reduceLE,Int.reduceToNat,Int.reduceNeg,↓reduceIte];rfl) ?_ ?_
  .intro b;simp only[An,IN,TO,To]at b;obtain⟨h1,o⟩:=b;repeat'(first|exact trivial|apply eS rfl|apply AB|refine rX a ?_ ?_)
   .exact kF
   refine⟨⟨k+1,by omega,by omega⟩,by simp only;omega,AC [(1000000,.nm 1000000)] rfl rfl ?_ ?_⟩
   .first|exact eN|refine eM ?_
   first|exact eN|refine eM ?_
  intro b;rw[d]at b;have g:k=l.length:=by
   refine By λhn=>?_;have m:=A0V so (i:=k-1) (j:=k) O1 O1;simp only[AAY,To,ABT,IN]at b;rcases b with h|h
   .omega
   exact l5 m h
  subst g;clear b;repeat'(first|exact trivial|apply eS rfl|apply AB|refine rX a ?_ ?_|refine rC ?_ ?_<;>intro c<;>try(cases c;done))
  exact fM a [.tmp 8] (.p .bool true) eT ⟨rfl,rfl⟩
 exfalso;simp at c
theorem A4f (l:List (Int×Int)) (u:l.length<=200) (nd:Z1 l) (so:l.length<=12\/Pu l) (c:Int) (m:13<=l.length->c≠0):BB Tryz.prog 190 [.sr 1000000 C9 0 l.length,.p T3 (0:Int),.p T3 (l.length:Int),.p T3 c,.fn 140] [(1000000,.arr 59 C9 l)] [1000000] (λres t=>res=.raw (.tuple #[])/\t=[(1000000,.arr 59 C9 (AZ l))]):=by
 refine Jf [0,1,2,3,4,10,11,12,13,14,15,16,17,18,19,20,25,32,39,56,75,80,97,125] [] [] Tryz.func190 Tryz.ntmps190 AH ?_;intro w0 K O0 ρ0 a v w;simp only[Am];repeat'(first|exact trivial|apply eS rfl|apply AB|refine rX a ?_ ?_)
 refine AI (ι:=Unit) (λs=>⟨[(0,.sr 1000000 C9 0 l.length),(1,.p T3 (0:Int)),(2,.p T3 (l.length:Int)),(3,.p T3 c),(4,.fn 140),(10,.p .bool true),(11,.p .bool true)],[(1000000,.arr 59 C9 l)]⟩) (λs=>0) () (AC [(1000000,.nm 1000000)] rfl rfl ?_ ?_) (λs=>?_)
 .first|exact eN|refine eM ?_
 .first|exact eN|refine eM ?_
 repeat'(first|exact trivial|apply eS rfl|apply AB|refine rX a ?_ ?_)
 .exact kF
 refine rC ?_ ?_<;>intro b
 .have key:=A49 l O1 (A7l nd) 0 l.length O1 (OS _);rw[show ((0:Nat):Int)=0 from rfl]at key;repeat'(first|exact trivial|apply eS rfl|apply AB|refine rX a ?_ ?_)
  refine cP 4 a ?_ ?_
  .trivial
  refine rM a (key) [(1000000,.nm 1000000)] [] ?_ ?_ ?_
  .first|exact eN|refine eM ?_
  .first|exact eN|refine eM ?_
  rintro _ _ ⟨rfl,r,rfl,n,o⟩;have h:=l4 nd n.perm o;subst h;have x:=CT l;refine⟨[(1000000,.nm 1000000)],.raw (.tuple #[]),[(1000000,.arr 59 C9 (AZ l))],rfl,rfl,?_,?_,rfl,rfl,E2 ?_⟩
  .first|exact eN|refine eM ?_
  .first|exact eN|refine eM ?_
  repeat'(first|exact trivial|apply eS rfl|apply AB|refine rX a ?_ ?_|refine rC ?_ ?_<;>intro b<;>try(cases b;done))
  exact fM a [] (.raw (.tuple #[])) rfl ⟨rfl,rfl⟩
 have i:13<=l.length:=by omega
 have hs:Pu l:=so.resolve_left O1;have k:=m i;rw[IR hs];repeat'(first|exact trivial|apply eS rfl|apply AB|refine rX a ?_ ?_)
 refine rC (λd=>?_) (λd=>?_)
 .exact absurd d k
 have key:=A4d l O1 hs 0 l.length O1 (OS _);rw[show ((0:Nat):Int)=0 from rfl]at key;have q:=A4e l O1 hs O1;repeat'(first|exact trivial|apply eS rfl|apply AB|refine rX a ?_ ?_)
 refine rC (λe=>?_) (λe=>?_)
 .cases e
 repeat'(first|exact trivial|apply eS rfl|apply AB|refine rX a ?_ ?_)
 refine cP 4 a ?_ ?_
 .trivial
 refine rM a (key) [(1000000,.nm 1000000)] [] ?_ ?_ ?_
 .first|exact eN|refine eM ?_
 .first|exact eN|refine eM ?_
 rintro _ _ ⟨⟨j,rfl⟩,rfl⟩;refine⟨[(1000000,.nm 1000000)],.tup [.p T3 (j:Int),.p T3 (1:Int)],[(1000000,.arr 59 C9 l)],rfl,rfl,?_,?_,rfl,rfl,?_⟩
 .first|exact eN|refine eM ?_
 .first|exact eN|refine eM ?_
 refine rL a ?_ ?_
 .trivial
 repeat'(first|exact trivial|apply eS rfl|apply AB|refine rX a ?_ ?_)
 refine rC (λf=>?_) (λf=>?_)
 .exact absurd f dg
 repeat'(first|exact trivial|apply eS rfl|apply AB|refine rX a ?_ ?_)
 refine rC (λg=>?_) (λg=>?_)
 .repeat'(first|exact trivial|apply eS rfl|apply AB|refine rX a ?_ ?_)
  refine cP 4 a ?_ ?_
  .trivial
  refine rM a (q) [(1000000,.nm 1000000)] [] ?_ ?_ ?_
  .first|exact eN|refine eM ?_
  .first|exact eN|refine eM ?_
  rintro _ _ ⟨rfl,rfl⟩;refine⟨[(1000000,.nm 1000000)],.p .bool true,[(1000000,.arr 59 C9 l)],rfl,rfl,?_,?_,rfl,rfl,E2 ?_⟩
  .first|exact eN|refine eM ?_
  .first|exact eN|refine eM ?_
  repeat'(first|exact trivial|apply eS rfl|apply AB|refine rX a ?_ ?_|refine rC ?_ ?_<;>intro b<;>try(cases b;done))
  exact fM a [] (.raw (.tuple #[])) rfl ⟨rfl,rfl⟩
 exact absurd g dg
end
end Go.Proofs.YtglkoagnnnpimaaGreatDoor.Fw
