/- Contracts of functions and plain laws. -/
import Derived.Test.YtglkoagnnnpimaaGreatDoorBZJ
import Derived.Test.YtglkoagnnnpimaaGreatDoorBZI
set_option linter.unusedVariables false
set_option linter.unusedSimpArgs false
namespace Go.Proofs.YtglkoagnnnpimaaGreatDoor.Fw
attribute [local irreducible] Ev
attribute [local go_sem] nQ AL List.toList_toArray B0 evG evK Wg E0 LC IE G5 GU RW LB CS Di Oe DK Cr frz rT Gm DX BB Fz Ba AV.frz AV.frzs AV.drp AV.drps AV.names AV.namess aq Gn Kz K2 TX Jg Bv B3 KV EJ Jj EK Jl Jk Jm We RM HS MN F1 EZ Wf SH qUn KW I1 NX FM D8 Jn K4 Ep TZ Cz Eq FN SI I2 Oc FO Ob RP SJ M7 Jo K5 DY DD K0 D9 Ic DS FP DT Er GT DK C2 OZ SG QH G0 Ji Jh K3 Od RS M8 Nb NZ K7 Ta Na K8 bJ RU RT AV.trn AV.trns EI Cy Obj.trn Kd jZ DV Dt DU Es CX FQ Af lk H9 Gt Ia bin rR Yu rV TY TV zfx AV.cellss rS zfs pfs AV.cells CO Eo I0 F2 RR CP Oa Ty.cell1 Jf E3 D7 GR IZ Em Kt M6 OY GQ Gz NW TT Wd Mu Ks bF iW TW IA C3 HR RV.flat Ty.flat Ty.size St.add upd del Bd Value.oneCell' Ys Ty.dflt Jd Sp I8 Sw List.take_succ_cons List.take_zero List.length_cons nU nV Sv LT PC JA Ma A36 G6 Oz O2 O3 O4 Tz T6 O5 Jy ZH Option.map_some Option.map_none Option.bind_some Option.getD_some Option.getD_none Option.isNone_none Option.isNone_some Bool.and_true Bool.true_and Bool.and_false Bool.false_and Bool.not_true Bool.not_false if_true if_false List.length_cons List.length_nil and_true true_and and_self List.all_cons List.all_nil List.append_nil List.nil_append List.cons_append List.getElem?_cons_zero List.getElem?_cons_succ List.getElem?_nil List.map_cons List.map_nil List.set_cons_zero List.set_cons_succ List.isEmpty_nil List.isEmpty_cons decide_true decide_false beq_self_eq_true bne_self_eq_false Nat.zero_add Nat.add_zero Nat.sub_zero Int.toNat_natCast Int.toNat_zero Int.toNat_one List.take_length List.length_append List.length_singleton true_or or_true or_self false_or or_false Ty.agg.injEq Ty.slice.injEq Ty.prod.injEq Ty.int.injEq Option.some.injEq beq_iff_eq LR evMG evMQ opM Im NC CB Kb G7 UA Ka Il Jz MY LQ QQ O8 QR UB O7 Sr Ss MX Ac Al Op.operands Call.operands List.filterMap_cons List.filterMap_nil List.append_eq Bool.cond_false_right Bool.cond_true_left cond_true cond_false implies_true decide_eq_true_eq beq_true beq_false Bool.or_true Bool.or_false Bool.true_or Bool.false_or Option.isSome_some Array.empty_append List.append_toArray F0 Og FT IB bI RQ bH GS HI HH I3 Ib K6 NY Yv rU HG inB K9 GM G1 LA Ai nZ List.drop_zero D4 IH cL C5 Nq Cq AV.fgt AV.fgts Obj.fgt A0 Ax Ac EP LV Bw LX List.any_cons List.any_nil n6 jS cN jT Mv SM qs List.flatMap_cons List.flatMap_nil List.cons_append tn cU ND List.take_succ_cons List.drop_succ_cons cW Hf Bb x8 Qa CR Cm Ao FW LL B5 matchAVs DE Ik Jw Ha Jx
attribute [local go_sem] ty1 s9 ty3 ty4 ty5 ty9 A6A A6B A6C A6D A6E A6F A6G A6H A6I A6J A6K A6L A6M A6N A6O A6P A6Q A6R A6S A6T A6U A6V A6W A6X A6Y A6Z A70 A71 yH yI yJ yK yL yM yN yO yP yQ yR yS yT yU yV yW yX yY yZ y3 y4 y5 y6 y7 y8 y9 zA zB zC zD zE zF zG zH zI zJ zK zL
set_option maxRecDepth 100000
set_option maxHeartbeats 4000000
variable {k i c f:Nat} {a b:List Int} {o m:List ByteArray} {s x:ByteArray} {l W:List (List Int)} {Z X:Type} {n y:Int} {Y r:List (Int×Int)} {V:Int×Int}
section
def CH (a b c:Int):Bool:=decide (a<=c)&&decide (c<=b)
def ZQ:AW:={ ins:=[.int .u8],pre:=λ_=>True,out:=λ(c,_)=>[.p .bool (CH 48 57 c)] }
attribute [local go_sem] ZQ
def kF:AW:={ ins:=[.int .u8],pre:=λ_=>True,out:=λ(c,_)=>[.p .bool (CH 65 90 c)] }
attribute [local go_sem] kF
def kG:AW:={ ins:=[.int .u8],pre:=λ_=>True,out:=λ(c,_)=>[.p .bool (CH 97 122 c)] }
attribute [local go_sem] kG
theorem Ug:AY Tryz.prog 165 ZQ:=by
 refine fK [0,2] Tryz.func165 Tryz.ntmps165 AH ?_;rintro w0 O0 ⟨c,u⟩ a - -;simp only[ZQ,AL];repeat'(first|exact trivial|apply eS rfl|refine rX a ?_ ?_)
 exact fI a [.tmp 2] (by unfold CH;exact eR)
theorem zS:AY Tryz.prog 198 kF:=by
 refine fK [0,2] Tryz.func198 Tryz.ntmps198 AH ?_;rintro w0 O0 ⟨c,u⟩ a - -;simp only[kF,AL];repeat'(first|exact trivial|apply eS rfl|refine rX a ?_ ?_)
 exact fI a [.tmp 2] (by unfold CH;exact eR)
theorem zT:AY Tryz.prog 199 kG:=by
 refine fK [0,2] Tryz.func199 Tryz.ntmps199 AH ?_;rintro w0 O0 ⟨c,u⟩ a - -;simp only[kG,AL];repeat'(first|exact trivial|apply eS rfl|refine rX a ?_ ?_)
 exact fI a [.tmp 2] (by unfold CH;exact eR)
def Nx (c:Int) (a:Bool):Bool:=CH 48 57 c||c==45||a&&CH 65 90 c||!a&&CH 97 122 c
def zU:AW:={ ins:=[.int .u8,.bool],pre:=λ_=>True,out:=λ(c,b,_)=>[.p .bool (Nx c b)] }
attribute [local go_sem] zU
theorem A3t:AY Tryz.prog 188 zU:=by
 refine fK [0,1,4] Tryz.func188 Tryz.ntmps188 (AF Ug (AF zS (AF zT AH))) ?_;rintro w0 O0 ⟨c,b,u⟩ a - -;simp only[zU,AL];repeat'(first|exact trivial|apply eS rfl|refine rX a ?_ ?_)
 exact fI a [.tmp 4] (by unfold Nx;exact eR)
abbrev NF (s:ByteArray) (i:Nat):Int:=((s.data.getD i 0).toNat:Int)
def Ny (s:ByteArray):Bool:=decide ((s.size:Int)<1)||decide (32<(s.size:Int))||CH 48 57 (NF s 0)||NF s 0==45
def BM (s:ByteArray) (a:Bool):Bool:=!Ny s&&(List.range s.size).all λi=>Nx (NF s i) a
def kH:AW:={ ins:=[T9,.bool],pre:=λ_=>True,out:=λ(s,b,_)=>[.p .bool (BM s b)] }
attribute [local go_sem] kH
theorem dL:AY Tryz.prog 174 kH:=by
 refine fK [0,1,4,5,23,27,35] Tryz.func174 Tryz.ntmps174 (AF Ug (AF A3t AH)) ?_;rintro w0 O0 ⟨s,b,u⟩ d - -;simp only[kH,AL];repeat'(first|exact trivial|apply eS rfl|refine rX d ?_ ?_|refine rC ?_ ?_<;>intro a<;>try(cases a;done))
 .constructor
  .intro h;simp only[bY,AAj,TO]at h;have:1<=(s.size:Int):=by omega
   exact this
  intro h;simp only[bY,AAj,TO]at h;have:1<=(s.size:Int):=by omega
  exact this
 .have h1:Ny s=true:=by
   unfold Ny NF;simp only[vW,If,AAc];exact a
  have c:BM s b=false:=by unfold BM;rw[h1];rfl
  exact fI d [.tmp 4] (by rw[c];exact eR)
 have h1:Ny s=false:=by
  unfold Ny NF;simp only[AAj,TO,AAY];exact⟨⟨⟨by omega,by omega⟩,a.1.2⟩,a.2⟩
 have g:s.size<=32:=by omega
 refine AI (ι:={k:Nat//k<=s.size/\((List.range k).all λi=>Nx (NF s i) b)=true}) (λk=>⟨[(0,.p T9 s),(1,.p .bool b),(5,.p (.int .i64) (k.1:Int))],[]⟩) (λk=>s.size-k.1) ⟨0,by simp⟩ (eW []) (λk=>?_)
 obtain⟨k,hk,f⟩:=k;repeat'(first|exact trivial|apply eS rfl|apply AB|refine rX d ?_ ?_|refine rC ?_ ?_<;>intro a<;>try(cases a;done))
 .exact a
 .have e:k<s.size:=by omega
  have c:BM s b=false:=by
   unfold BM;rw[AAO];refine .inr (ABC.2 λh=>?_);have:=ON.1 h k (tO.2 e);rw[show Nx (NF s k) b=false from a]at this;cases this
  exact fI d [.tmp 4] (by rw[c];exact eR)
 .omega
 .have e:k<s.size:=by omega
  refine⟨⟨k+1,by omega,?_⟩,by simp only;omega,AC [] rfl rfl ?_ ?_⟩
  .rw[AAt,ABX,f];rw[ABY,ABj,List.all_nil,Bool.and_true];exact a
  .exact eN
  exact eN
 have e:k=s.size:=by omega
 subst e;have c:BM s b=true:=by unfold BM;rw[h1,f];rfl
 exact fI d [.tmp 4] (by rw[c];exact eR)
def Xe:AW:={ ins:=[T9],pre:=λ_=>True,out:=λ(s,_)=>[.p .bool (BM s false)] }
def PI:AW:={ ins:=[T9],pre:=λ_=>True,out:=λ(s,_)=>[.p .bool (BM s true)] }
theorem oL:AY Tryz.prog 136 Xe:=by
 refine fK [0,2] Tryz.func136 Tryz.ntmps136 (AF dL AH) ?_;rintro w0 O0 ⟨s,u⟩ a - -;simp only[Xe,AL];repeat'(first|exact trivial|apply eS rfl|refine rX a ?_ ?_)
 exact fI a [.tmp 2]
theorem Uh:AY Tryz.prog 146 PI:=by
 refine fK [0,2] Tryz.func146 Tryz.ntmps146 (AF dL AH) ?_;rintro w0 O0 ⟨s,u⟩ a - -;simp only[PI,AL];repeat'(first|exact trivial|apply eS rfl|refine rX a ?_ ?_)
 exact fI a [.tmp 2]
end
section
theorem Me {α:Type} (l:List α) (d:α) (p:α->Bool) (h:k<l.length):(l.take (k+1)).any p=((l.take k).any p||p (l.getD k d)):=by
 rw[Ag l d h,ABJ];simp
theorem IJ {α:Type} (l:List α) (d:α) (p:α->Bool) (h:k<l.length) (a:p (l.getD k d)=true):l.any p=true :=
 To.2 ⟨_,AG l d h,a⟩
def AU (l:List ByteArray) (s:ByteArray):Bool:=l.any λx=>AM x s
def Ip:AW:={ ins:=[CL,T9],pre:=λ_=>True,out:=λ(l,n,_)=>[.p .bool (AU l n)],lend:=true }
attribute [local go_sem] Ip
theorem GZ:AY Tryz.prog 158 Ip:=by
 refine fK [0,1,4,5,9,17] Tryz.func158 Tryz.ntmps158 AH ?_;rintro w0 O0 ⟨l,n,u⟩ a ⟨⟨e,-⟩,-⟩ -;simp only[AO]at e;simp only[Ip,AL];repeat'(first|exact trivial|apply eS rfl|refine rX a ?_ ?_)
 refine AI (ι:={k:Nat//k<=l.length/\(l.take k).any (λx=>AM x n)=false}) (λk=>⟨[(0,.p CL l),(1,.p T9 n),(5,.p (.int .i64) (k.1:Int))],[]⟩) (λk=>l.length-k.1) ⟨0,by simp⟩ (eW []) (λk=>?_)
 obtain⟨k,hk,c⟩:=k;repeat'(first|exact trivial|apply eS rfl|apply AB|refine rX a ?_ ?_|refine rC ?_ ?_<;>intro b<;>try(cases b;done))
 .exact eV
 .have d:k<l.length:=by exact eV
  have h1:AU l n=true:=IJ l ByteArray.empty _ d b;exact fI a [.tmp 4] (by rw[h1];exact eR)
 .exact eV
 .have d:k<l.length:=by exact eV
  refine⟨⟨k+1,by exact eV,?_⟩,by simp only;exact eV,AC [] rfl rfl ?_ ?_⟩
  .rw[Me l ByteArray.empty _ d,c];exact b
  .exact eN
  exact eN
 have hk:l.take k=l:=At (by exact eV);rw[hk]at c;have h1:AU l n=false:=c;exact fI a [.tmp 4] (by rw[h1];exact eR)
def WZ (l:List ByteArray) (s:ByteArray):Nat:=(l.takeWhile λx=>CJ x s).length
theorem kI {α:Type} (p:α->Bool) (d:α):∀(l:List α) (k:Nat),k<=(l.takeWhile p).length->((k<l.length/\p (l.getD k d)=true)↔k+1<=(l.takeWhile p).length)
 | [],k,h=>by simp
 | x :: l,k,h=>by
  by_cases a:p x=true
  .rw[List.takeWhile_cons,BY a]at h ⊢;cases k with
   | zero=>simp[a]
   | succ k =>
    have:=kI p d l k (by simpa using h);simpa using this
  rw[List.takeWhile_cons,As a]at h ⊢;have hk:k=0:=by simpa using h
  subst hk;simp[a]
theorem A5F {α:Type} (p:α->Bool) (l:List α):(l.takeWhile p).length<=l.length:=(List.takeWhile_sublist p).length_le
def Dl (l:List ByteArray) (s:ByteArray):List ByteArray :=
 if (decide (WZ l s<l.length)&&AM (l.getD (WZ l s) ByteArray.empty) s)=true then l else l.take (WZ l s)++[s]++l.drop (WZ l s)
def ZR:AW:={ ins:=[CL,T9],pre:=λ(l,_,_)=>List.length l<=100000,out:=λ(l,n,_)=>[.p CL (Dl l n)] }
attribute [local go_sem] ZR
theorem Qf:AY Tryz.prog 148 ZR:=by
 refine fK [0,1,4,5,6,18,32] Tryz.func148 Tryz.ntmps148 AH ?_;rintro w0 O0 ⟨l,n,u⟩ c-m;have m:l.length<=100000:=m;simp only[ZR,AL];repeat'(first|exact trivial|apply eS rfl|refine rX c ?_ ?_)
 refine AI (ι:={k:Nat//k<=WZ l n}) (λk=>⟨[(0,.p CL l),(1,.p T9 n),(5,.raw (.slice none 0 0)),(6,.p (.int .i64) (k.1:Int))],[]⟩) (λk=>l.length-k.1) ⟨0,by simp⟩ (eW []) (λk=>?_)
 obtain⟨k,hk⟩:=k;have d:=A5F (λx=>CJ x n) l;have i:=kI (λx=>CJ x n) ByteArray.empty l k hk;simp only;repeat'(first|exact trivial|apply eS rfl|apply AB|refine rX c ?_ ?_|refine rC ?_ ?_<;>intro a<;>try(cases a;done))
 .exact λh=>h
 .have h1:k<l.length/\CJ (l.getD k ByteArray.empty) n=true:=⟨by exact eV,a.2⟩;exact eV
 .have h1:k<l.length/\CJ (l.getD k ByteArray.empty) n=true:=⟨by exact eV,a.2⟩;exact⟨⟨k+1,i.1 h1⟩,by simp only;omega,eW []⟩
 .exact λh=>h
 .rename_i f;have g:k=WZ l n:=by
   refine ABU hk (Nat.le_of_not_lt λh=>?_);have:=i.2 h;rw[f (iF.2 this.1)]at this;cases this.2
  have e:Dl l n=l:=by
   unfold Dl;rw[<-g,BY];rw[An,If];exact⟨iF.1 a.1,a.2⟩
  exact fI c [.tmp 4] (by rw[e];exact eR)
 .have j:=AAz k l;have b:k<=l.length:=gO hk d;simp only[AO];exact⟨AAe.2 b,by dsimp only[Ty.den]at *;omega⟩
 .have j:=AAz k l;have b:k<=l.length:=gO hk d;simp only[AO];dsimp only[Ty.den]at *;omega
 .have j:=AAz k l;have b:k<=l.length:=gO hk d;have q:(l.drop k).length<=l.length:=by rw[AB3];omega
  simp only[AO];exact⟨AAe.2 b,by dsimp only[Ty.den]at *;omega⟩
 rename_i f;have g:k=WZ l n:=by
  refine ABU hk (Nat.le_of_not_lt λh=>?_);have:=i.2 h;rw[f (iF.2 this.1)]at this;cases this.2
 have e:Dl l n=l.take k++[n]++l.drop k:=by
  unfold Dl;rw[<-g,As];rw[An,If];intro h;rw[a (iF.2 h.1)]at h;cases h.2
 have b:k<=l.length:=gO hk d;have o:(l.take k).length+1+(l.drop k).length=(l.take k++[n]++l.drop k).length:=by simp only[Do,nO]
 rw[o,<-e];refine CK [38] ?_;exact fI c [.tmp 4]
end
section
def Fq (b:List Int) (i:Int):Int:=if i<b.length then b.getD i.toNat 0 else 0
def dM:AW:={ ins:=[BT,T3],pre:=λ(_,i,_)=>(0:Int)<=i,out:=λ(b,i,_)=>[.p Qc (Fq b i)],lend:=true }
attribute [local go_sem] dM
theorem oM:AY Tryz.prog 166 dM:=by
 refine fK [0,1,4,8] Tryz.func166 Tryz.ntmps166 AH ?_;rintro w0 O0 ⟨b,i,u⟩ c-hi;simp only[dM,AL];repeat'(first|exact trivial|apply eS rfl|refine rX c ?_ ?_|refine rC ?_ ?_<;>intro a<;>try(cases a;done))
 .exact⟨hi,a⟩
 .have h1:Fq b i=b.getD i.toNat 0:=by unfold Fq;rw[BY a]
  exact fI c [.tmp 4] (by rw[h1];exact eR)
 have h1:Fq b i=0:=by unfold Fq;rw[As (AAU.2 a)]
 exact fI c [.tmp 4] (by rw[h1];exact eR)
def CY (b:List Int):Nat->Nat
 | 0=>0
 | n+1=>if b.getD n 0=0 then CY b n else n+1
def BN (b:List Int):List Int:=b.take (CY b b.length)
theorem Ui (b:List Int):∀n,CY b n<=n
 | 0=>Of _
 | n+1=>by
  unfold CY;split
  .exact Nat.le_succ_of_le (Ui b n)
  exact Of _
def J5:AW:={ ins:=[BT],pre:=λ(b,_)=>List.length b<=100000,out:=λ(b,_)=>[.p BT (BN b)] }
attribute [local go_sem] J5
theorem Mf:AY Tryz.prog 151 J5:=by
 refine fK [0,2,3,15] Tryz.func151 Tryz.ntmps151 AH ?_;rintro w0 O0 ⟨b,u⟩ d-f;have f:b.length<=100000:=f;simp only[J5,AL];repeat'(first|exact trivial|apply eS rfl|refine rX d ?_ ?_)
 refine AI (ι:={n:Nat//n<=b.length/\CY b n=CY b b.length}) (λn=>⟨[(0,.p BT b),(3,.p (.int .i64) (n.1:Int))],[]⟩) (λn=>n.1) ⟨b.length,Of _,rfl⟩ (eW []) (λn=>?_)
 obtain⟨n,hn,g⟩:=n;simp only;repeat'(first|apply eS rfl|apply AB|refine rX d ?_ ?_|refine rC ?_ ?_<;>intro c<;>try(cases c;done))
 .constructor
  .exact eV
  intro h;refine⟨?_,?_⟩<;>exact eV
 .exact eV
 .obtain⟨h1,a⟩:=c;obtain⟨m,rfl⟩:∃m,n=m+1:=⟨n-1,by omega⟩;have e:(((m+1:Nat):Int)-1)=(m:Int):=by omega
  rw[e]at a;have a:b.getD m 0=0:=a;have j:CY b m=CY b b.length:=by
   rw[<-g];show _=if b.getD m 0=0 then CY b m else m+1
   rw[BY a]
  refine⟨⟨m,by omega,j⟩,by simp,AC [] rfl rfl ?_ ?_⟩
  .exact eN
  simp only[e];exact eN
 .have k:=AAz n b;simp only[AO];exact⟨AAe.2 hn,by dsimp only[Ty.den]at *;omega⟩
 have i:CY b n=n:=by
  cases n with
  | zero=>rfl
  | succ m =>
   have e:(((m+1:Nat):Int)-1)=(m:Int):=by omega
   rw[e]at c;have a:=c O1;have a:¬b.getD m 0=0:=a;show (if b.getD m 0=0 then CY b m else m+1)=m+1;rw[As a]
 have h1:BN b=b.take n:=by unfold BN;rw[<-g,i]
 rw[<-h1];refine CK [18] ?_;exact fI d [.tmp 2]
end
section
attribute [local go_sem] dM J5
def zV (w:Int) (r:Int):Bool:=Ck .and .u64 (bG .u64 w r) 1==1
def SQ (b:List Int) (i:Int):Bool:=if (decide (i<0)||decide ((b.length:Int)<=i.tdiv 64))=true then false else zV (b.getD (i.tdiv 64).toNat 0) (i.tmod 64)
def zW:AW:={ ins:=[BT,T3],pre:=λ_=>True,out:=λ(b,i,_)=>[.p .bool (SQ b i)],lend:=true }
theorem A72 {w:Int} (h0:0<=w) (r:Int):0<=bG .u64 w r/\bG .u64 w r<=w:=by
 unfold bG;have a:(0:Int)<2 ^ (min r.toNat IntKind.u64.bits):=Int.pow_pos dg;rw[Int.fdiv_eq_ediv_of_nonneg _ (Int.le_of_lt a)];exact⟨Int.ediv_nonneg h0 (Int.le_of_lt a),Int.ediv_le_self _ h0⟩
theorem zX:AY Tryz.prog 162 zW:=by
 refine fK [0,1,4,13] Tryz.func162 Tryz.ntmps162 AH ?_;rintro w0 O0 ⟨b,i,u⟩ d ⟨⟨m,k⟩,e,-⟩ -;have e:H5 .i64 i:=e;rw[O5]at e;have j:0<=i->Int.tdiv i 64=i / 64/\Int.tmod i 64=i % 64:=λh=>⟨AB5 h,ABr h⟩;simp only[zW,AL];repeat'(first|exact trivial|apply eS rfl|refine rX d ?_ ?_|refine rC ?_ ?_<;>intro c<;>try(cases c;done))
 .intro h;have h0:0<=i:=by simpa using h
  obtain⟨a,g⟩:=j h0;rw[a];refine⟨by decide,?_,?_⟩<;>exact eV
 .have h1:SQ b i=false:=by
   unfold SQ;rw[BY];rw[vW,If,If];exact c
  exact fI d [.tmp 4] (by rw[h1];exact eR)
 .obtain⟨h0,l⟩:=c;obtain⟨a,g⟩:=j h0;rw[a]at l;have f:H5 .u64 (b.getD (i / 64).toNat 0):=k _ (AG b 0 (by exact eV));rw[Jy]at f;have hs:=A72 f.1 (i % 64);rw[a,g];refine⟨⟨by decide,by exact eV,by exact eV⟩,⟨by exact eV,by exact eV⟩,⟨by decide,by exact eV,by exact eV⟩,⟨by exact eV,by exact eV⟩,by exact eV,hs.1,ABk hs.2 f.2⟩
 have h1:SQ b i=zV (b.getD (i.tdiv 64).toNat 0) (i.tmod 64):=by
  unfold SQ;rw[As];rw[vW,If,If];rintro (h|h)<;>omega
 exact fI d [.tmp 4] (by rw[h1];unfold zV;exact eR)
end
section
attribute [local go_sem] dM J5
def GA (op:BinOp) (a b:List Int) (n:Nat):List Int:=(List.range n).map λi=>Ck op .u64 (a.getD i 0) (Fq b (i:Int))
theorem ER (op:BinOp) (a b:List Int) (n:Nat):(GA op a b n).length=n:=by simp[GA]
theorem Xf (op:BinOp) (a b:List Int) (n:Nat):GA op a b (n+1)=GA op a b n++[Ck op .u64 (a.getD n 0) (Fq b (n:Int))]:=by simp[GA,AAt]
def D5 (a b:List Int):List Int:=BN (GA .and a b a.length)
def zY:AW:={ ins:=[BT,BT],pre:=λ(a,_,_)=>List.length a<=100000,out:=λ(a,b,_)=>[.p BT (D5 a b)] }
theorem kJ:AY Tryz.prog 150 zY:=by
 refine fK [0,1,4,5,6,10] Tryz.func150 Tryz.ntmps150 (AF oM (AF Mf AH)) ?_;rintro w0 O0 ⟨a,b,u⟩ c-ha;have ha:a.length<=100000:=ha;simp only[zY,AL];repeat'(first|exact trivial|apply eS rfl|refine rX c ?_ ?_)
 refine AI (ι:={n:Nat//n<=a.length}) (λn=>⟨[(0,.p BT a),(1,.p BT b),(5,.sr 23 Qc 0 n.1),(6,.p (.int .i64) (n.1:Int))],[(23,.arr 205 Qc (GA .and a b n.1))]⟩) (λn=>a.length-n.1) ⟨0,By _⟩ (AC [(23,.nil)] rfl rfl ?_ ?_) (λn=>?_)
 .refine eM ?_;rfl
 .exact eN
 obtain⟨n,hn⟩:=n;have g:=ER .and a b n;have hs:=Xf .and a b n;simp only;repeat'(first|exact trivial|apply eS rfl|apply AB|refine rX c ?_ ?_|refine rC ?_ ?_<;>intro d<;>try(cases d;done))
 .refine⟨d,?_⟩;simp only[AO];dsimp only[Ty.den]at *;omega
 .exact eV
 .have e:n<a.length:=by exact eV
  refine⟨⟨n+1,by omega⟩,by simp only;omega,AC [(23,.nm 23)] rfl rfl ?_ ?_⟩
  .simp only[hs];refine eM ?_;rw[At (by rw[g];exact Of _)]
  exact eN
 have e:n=a.length:=by exact eV
 subst e;refine CK [23] ?_;have f:(GA .and a b a.length).take a.length=GA .and a b a.length:=At (by rw[ER];exact Of _);repeat'(first|apply eS rfl|refine rX c ?_ ?_)
 .rw[f,ER];exact ha
 rw[f];exact fI c [.tmp 4] (by unfold D5;exact eR)
def Qg (a b:List Int):List Int:=BN (GA .andNot a b a.length)
def kK:AW:={ ins:=[BT,BT],pre:=λ(a,_,_)=>List.length a<=100000,out:=λ(a,b,_)=>[.p BT (Qg a b)] }
attribute [local go_sem] kK
theorem zZ:AY Tryz.prog 127 kK:=by
 refine fK [0,1,4,5,6,10] Tryz.func127 Tryz.ntmps127 (AF oM (AF Mf AH)) ?_;rintro w0 O0 ⟨a,b,u⟩ c-ha;have ha:a.length<=100000:=ha;simp only[kK,AL];repeat'(first|exact trivial|apply eS rfl|refine rX c ?_ ?_)
 refine AI (ι:={n:Nat//n<=a.length}) (λn=>⟨[(0,.p BT a),(1,.p BT b),(5,.sr 23 Qc 0 n.1),(6,.p (.int .i64) (n.1:Int))],[(23,.arr 205 Qc (GA .andNot a b n.1))]⟩) (λn=>a.length-n.1) ⟨0,By _⟩ (AC [(23,.nil)] rfl rfl ?_ ?_) (λn=>?_)
 .refine eM ?_;rfl
 .exact eN
 obtain⟨n,hn⟩:=n;have g:=ER .andNot a b n;have hs:=Xf .andNot a b n;simp only;repeat'(first|exact trivial|apply eS rfl|apply AB|refine rX c ?_ ?_|refine rC ?_ ?_<;>intro d<;>try(cases d;done))
 .refine⟨d,?_⟩;simp only[AO];dsimp only[Ty.den]at *;omega
 .exact eV
 .have e:n<a.length:=by exact eV
  refine⟨⟨n+1,by omega⟩,by simp only;omega,AC [(23,.nm 23)] rfl rfl ?_ ?_⟩
  .simp only[hs];refine eM ?_;rw[At (by rw[g];exact Of _)]
  exact eN
 have e:n=a.length:=by exact eV
 subst e;refine CK [23] ?_;have f:(GA .andNot a b a.length).take a.length=GA .andNot a b a.length:=At (by rw[ER];exact Of _);repeat'(first|apply eS rfl|refine rX c ?_ ?_)
 .rw[f,ER];exact ha
 rw[f];exact fI c [.tmp 4] (by unfold Qg;exact eR)
def Eb (a b:List Int):Bool:=((Qg a b).length:Int)==0
def PJ:AW:={ ins:=[BT,BT],pre:=λ(a,_,_)=>List.length a<=100000,out:=λ(a,b,_)=>[.p .bool (Eb a b)],lend:=true }
attribute [local go_sem] PJ
theorem Qh:AY Tryz.prog 79 PJ:=by
 refine fK [0,1,4] Tryz.func79 Tryz.ntmps79 (AF zZ AH) ?_;rintro w0 O0 ⟨a,b,u⟩ c-ha;have ha:a.length<=100000:=ha;simp only[PJ,AL];repeat'(first|exact trivial|apply eS rfl|refine rX c ?_ ?_)
 .exact ha
 exact fI c [.tmp 4] (by unfold Eb;exact eR)
def DG (a b:List Int):Bool:=Eb a b&&Eb b a
def ZS:AW:={ ins:=[BT,BT],pre:=λ(a,b,_)=>List.length a<=100000/\List.length b<=100000,out:=λ(a,b,_)=>[.p .bool (DG a b)],lend:=true }
theorem tD:AY Tryz.prog 161 ZS:=by
 refine fK [0,1,4] Tryz.func161 Tryz.ntmps161 (AF Qh AH) ?_;rintro w0 O0 ⟨a,b,u⟩ c-⟨ha,d⟩;simp only[ZS,AL];repeat'(first|exact trivial|apply eS rfl|refine rX c ?_ ?_)
 .exact⟨ha,λ_=>d⟩
 exact fI c [.tmp 4] (by unfold DG;exact eR)
end
section
attribute [local go_sem] zW
def Fs (a b:List Int):Bool:=decide (a=b)
def Uj:AW:={ ins:=[BT,BT],pre:=λ_=>True,out:=λ(a,b,_)=>[.p .bool (Fs a b)],lend:=true }
theorem ZT:AY Tryz.prog 152 Uj:=by
 refine fK [0,1,4,5,10,14,25] Tryz.func152 Tryz.ntmps152 AH ?_;rintro w0 O0 ⟨a,b,u⟩ d ⟨⟨ha,-⟩,-⟩ -;simp only[AO]at ha;simp only[Uj,AL];repeat'(first|exact trivial|apply eS rfl|refine rX d ?_ ?_|refine rC ?_ ?_<;>intro c<;>try(cases c;done))
 .have h1:Fs a b=false:=by
   unfold Fs;rw[TO];rintro rfl;exact c rfl
  exact fI d [.tmp 4] (by rw[h1];exact eR)
 have f:a.length=b.length:=by
  have:(a.length:Int)=(b.length:Int):=by simpa using c
  exact Int.ofNat_inj.1 this
 refine AI (ι:={k:Nat//k<=a.length/\a.take k=b.take k}) (λk=>⟨[(0,.p BT a),(1,.p BT b),(5,.p (.int .i64) (k.1:Int))],[]⟩) (λk=>a.length-k.1) ⟨0,By _,rfl⟩ (eW []) (λk=>?_)
 obtain⟨k,hk,hf⟩:=k;simp only;repeat'(first|exact trivial|apply eS rfl|apply AB|refine rX d ?_ ?_|refine rC ?_ ?_<;>intro c<;>try(cases c;done))
 .exact⟨c,by rw[<-f];exact c⟩
 .have e:k<a.length:=by exact eV
  have h1:Fs a b=false:=by
   unfold Fs;rw[TO];rintro rfl;exact c rfl
  exact fI d [.tmp 4] (by rw[h1];exact eR)
 .exact eV
 .have e:k<a.length:=by exact eV
  have g:a.getD k 0=b.getD k 0:=by simpa using c
  refine⟨⟨k+1,by omega,?_⟩,by simp only;omega,AC [] rfl rfl ?_ ?_⟩
  .rw[Ag a 0 e,Ag b 0 O1,hf];rw[show a.getD k 0=b.getD k 0 from g]
  .exact eN
  exact eN
 have e:k=a.length:=by exact eV
 subst e;rw[oF,f,oF]at hf;have h1:Fs a b=true:=by unfold Fs;rw[hf];simp
 exact fI d [.tmp 4] (by rw[h1];exact eR)
end
section
attribute [local go_sem] zW
def NG (b:List Int) (n:Nat):List Int:=((List.range n).filter λ(i:Nat)=>SQ b (i:Int)).map λ(i:Nat)=>(i:Int)
def Hg (b:List Int):List Int:=NG b (64*b.length)
theorem kL (b:List Int) (n:Nat):NG b (n+1)=NG b n++if SQ b (n:Int)=true then [(n:Int)] else []:=by
 unfold NG;rw[AAt,ABH,AAF]
 congr 1
 rw[AAr,ABW];split<;>rfl
theorem tE (b:List Int) (n:Nat):(NG b n).length<=n:=by
 unfold NG;rw[aS];exact gO (ABb _ _) sc
def z0:AW:={ ins:=[BT],pre:=λ(b,_)=>List.length b<=100000,out:=λ(b,_)=>[.p Br (Hg b)] }
attribute [local go_sem] z0
theorem A3u:AY Tryz.prog 185 z0:=by
 refine fK [0,2,3,4,9,14] Tryz.func185 Tryz.ntmps185 (AF zX AH) ?_;rintro w0 O0 ⟨b,u⟩ c-e;have e:b.length<=100000:=e;simp only[z0,AL];repeat'(first|exact trivial|apply eS rfl|refine rX c ?_ ?_)
 refine AI (ι:={n:Nat//n<=64*b.length}) (λn=>⟨[(0,.p BT b),(3,.sr 18 T3 0 (NG b n.1).length),(4,.p (.int .i64) (n.1:Int))],[(18,.arr 3 T3 (NG b n.1))]⟩) (λn=>64*b.length-n.1) ⟨0,By _⟩ (AC [(18,.nil)] rfl rfl ?_ ?_) (λn=>?_)
 .refine eM ?_;rfl
 .refine eM ?_;rfl
 obtain⟨n,hn⟩:=n;have f:=tE b n;have hs:=kL b n;simp only;repeat'(first|exact trivial|apply eS rfl|apply AB|refine rX c ?_ ?_|refine rC ?_ ?_<;>intro a<;>try(cases a;done))
 .exact eV
 .rw[a,BY rfl]at hs;simp only[AO];dsimp only[Ty.den]at *;omega
 .exact eV
 .have d:n<64*b.length:=by exact eV
  rw[a,BY rfl]at hs;refine⟨⟨n+1,by omega⟩,by simp only;omega,AC [(18,.nm 18)] rfl rfl ?_ ?_⟩
  .simp only[hs];exact eN
  simp only[hs];exact eN
 .exact eV
 .have d:n<64*b.length:=by exact eV
  rw[a,As sc,AAn]at hs;refine⟨⟨n+1,by omega⟩,by simp only;omega,AC [(18,.nm 18)] rfl rfl ?_ ?_⟩
  .simp only[hs];exact eN
  simp only[hs];exact eN
 have d:n=64*b.length:=by exact eV
 subst d;refine CK [18] ?_;exact fI c [.tmp 2] (by unfold Hg;exact eR)
def kM:AW:={ ins:=[BT],pre:=λ(b,_)=>List.length b<=100000,out:=λ(b,_)=>[.p T3 ((Hg b).length:Int)],lend:=true }
theorem z4:AY Tryz.prog 164 kM:=by
 refine fK [0,2] Tryz.func164 Tryz.ntmps164 (AF A3u AH) ?_;rintro w0 O0 ⟨b,u⟩ a-c;simp only[kM,AL];repeat'(first|exact trivial|apply eS rfl|refine rX a ?_ ?_)
 .exact c
 exact fI a [.tmp 2]
end
section
attribute [local go_sem] Ip Xe
abbrev AJ:=ByteArray×List ByteArray×List (ByteArray×ByteArray)
abbrev d0:AJ:=(ByteArray.empty,[],[])
def Cs (s:ByteArray):Nat->List AJ->Int
 | _,[]=>-1
 | k,x :: l=>if AM x.1 s=true then (k:Int) else Cs s (k+1) l
def Ap (l:List AJ) (s:ByteArray):Int:=Cs s 0 l
theorem Ru (s:ByteArray) (l:List AJ) (h:k<l.length):Cs s k (l.drop k)=if AM (l.getD k d0).1 s=true then (k:Int) else Cs s (k+1) (l.drop (k+1)):=by
 rw[OF h];have e:l.getD k d0=l[k]:=by simp[AS,h]
 rw[e];rfl
def Nz:AW:={ ins:=[Et,T9],pre:=λ_=>True,out:=λ(l,s,_)=>[.p T3 (Ap l s)] }
attribute [local go_sem] Nz
theorem Le:AY Tryz.prog 181 Nz:=by
 refine fK [0,1,4,5,9,18] Tryz.func181 Tryz.ntmps181 AH ?_;rintro w0 O0 ⟨l,s,u⟩ c ⟨⟨d,-⟩,-⟩ -;simp only[AO]at d;simp only[Nz,AL];repeat'(first|exact trivial|apply eS rfl|refine rX c ?_ ?_)
 refine AI (ι:={k:Nat//k<=l.length/\Cs s k (l.drop k)=Ap l s}) (λk=>⟨[(0,.p Et l),(1,.p T9 s),(5,.p (.int .i64) (k.1:Int))],[]⟩) (λk=>l.length-k.1) ⟨0,By _,rfl⟩ (eW []) (λk=>?_)
 obtain⟨k,hk,hf⟩:=k;simp only;repeat'(first|exact trivial|apply eS rfl|apply AB|refine rX c ?_ ?_|refine rC ?_ ?_<;>intro b<;>try(cases b;done))
 .exact b
 .have a:k<l.length:=by exact eV
  rw[Ru s l a,BY b]at hf;exact fI c [.tmp 4] (by rw[<-hf];exact eR)
 .exact eV
 .have a:k<l.length:=by exact eV
  rw[Ru s l a,As (by rw[b];simp)]at hf;exact⟨⟨k+1,by omega,hf⟩,by simp only;omega,eW []⟩
 have a:l.drop k=[]:=NO (by exact eV);rw[a]at hf;exact fI c [.tmp 4] (by rw[<-hf];first|exact eR|refine Kv ?_;rfl)
def Lf:List AJ->Int
 | []=>0
 | x :: l=>if 256<x.2.1.length\/256<x.2.2.length then 7 else Lf l
def Ei (l:List AJ):Int:=if 256<l.length then 7 else Lf l
theorem Rv (l:List AJ) (h:k<l.length):Lf (l.drop k)=if 256<(l.getD k d0).2.1.length\/256<(l.getD k d0).2.2.length then 7 else Lf (l.drop (k+1)):=by
 rw[OF h];have e:l.getD k d0=l[k]:=by simp[AS,h]
 rw[e];rfl
def ZU:AW:={ ins:=[Et],pre:=λ_=>True,out:=λ(l,_)=>[.p C6 (Ei l)] }
attribute [local go_sem] ZU
theorem z5:AY Tryz.prog 153 ZU:=by
 refine fK [0,2,3,6,10,28] Tryz.func153 Tryz.ntmps153 AH ?_;rintro w0 O0 ⟨l,u⟩ b ⟨⟨d,-⟩,-⟩ -;simp only[AO]at d;simp only[ZU,AL];repeat'(first|exact trivial|apply eS rfl|refine rX b ?_ ?_|refine rC ?_ ?_<;>intro a<;>try(cases a;done))
 .have h1:Ei l=7:=by unfold Ei;rw[BY (by exact eV)]
  exact fI b [.tmp 2] (by rw[h1];exact eR)
 have h1:Ei l=Lf l:=by unfold Ei;rw[As (by exact eV)]
 refine AI (ι:={k:Nat//k<=l.length/\Lf (l.drop k)=Ei l}) (λk=>⟨[(0,.p Et l),(3,.p (.int .i64) (k.1:Int))],[]⟩) (λk=>l.length-k.1) ⟨0,By _,h1.symm⟩ (eW []) (λk=>?_)
 obtain⟨k,hk,hf⟩:=k;simp only;repeat'(first|exact trivial|apply eS rfl|apply AB|refine rX b ?_ ?_|refine rC ?_ ?_<;>intro a<;>try(cases a;done))
 .exact⟨a,λ_=>a⟩
 .have c:k<l.length:=by exact eV
  rw[Rv l c,BY (by
   rcases a with h|h
   .exact .inl (iF.1 h)
   exact .inr (iF.1 h))]at hf
  exact fI b [.tmp 2] (by rw[<-hf];exact eR)
 .exact eV
 .have c:k<l.length:=by exact eV
  rw[Rv l c,As (by
   rintro (h|h)
   .have:=AAe.1 a.1;exact absurd h (Nat.not_lt.2 this)
   have:=AAe.1 a.2;exact absurd h (Nat.not_lt.2 this))]at hf
  exact⟨⟨k+1,by omega,hf⟩,by simp only;omega,eW []⟩
 have c:l.drop k=[]:=NO (by exact eV);rw[c]at hf;exact fI b [.tmp 2] (by rw[<-hf];first|exact eR|refine Kv ?_;rfl)
theorem Qi {α:Type} (l:List α) (d:α) (p:α->Bool) (h:k<l.length):(l.take (k+1)).all p=((l.take k).all p&&p (l.getD k d)):=by
 rw[Ag l d h,ABX];simp
def Iq (x:AJ) (done:List ByteArray):Bool:=x.2.1.all λs=>AU done s
def ZV:AW:={ ins:=[yG,CL],pre:=λ_=>True,out:=λ(x,l,_)=>[.p .bool (Iq x l)],lend:=true }
attribute [local go_sem] ZV
theorem z6:AY Tryz.prog 182 ZV:=by
 refine fK [0,1,2,4,5,10,20] Tryz.func182 Tryz.ntmps182 (AF GZ AH) ?_;rintro w0 O0 ⟨⟨nm,sup,d⟩,l,u⟩ c ⟨⟨-,⟨e,-⟩,-⟩,-⟩ -;simp only[AO]at e;simp only[ZV,AL];repeat'(first|exact trivial|apply eS rfl|refine rX c ?_ ?_)
 refine AI (ι:={k:Nat//k<=sup.length/\(sup.take k).all (λs=>AU l s)=true}) (λk=>⟨[(1,.p CL l),(2,.bp 2 [] 0),(5,.p (.int .i64) (k.1:Int))],[(2,.box 65 true [.p T9 nm,.p CL sup,.p T63 d])]⟩) (λk=>sup.length-k.1) ⟨0,by simp⟩ (eW [(2,.nm 2)]) (λk=>?_)
 obtain⟨k,hk,hf⟩:=k;simp only;repeat'(first|exact trivial|apply eS rfl|apply AB|refine rX c ?_ ?_|refine rC ?_ ?_<;>intro b<;>try(cases b;done))
 .exact b
 .have a:k<sup.length:=by exact eV
  have h1:Iq (nm,sup,d) l=false:=by
   unfold Iq;refine ABC.2 λh=>?_;have:=ON.1 h _ (AG sup ByteArray.empty a);rw[b]at this;cases this
  exact fI c [.tmp 4] (by rw[h1];exact eR)
 .have:=e;exact eV
 .have a:k<sup.length:=by exact eV
  refine⟨⟨k+1,by omega,?_⟩,by simp only;omega,AC [(2,.nm 2)] rfl rfl ?_ ?_⟩
  .rw[Qi sup ByteArray.empty _ a,hf];exact b
  .exact eN
  exact eN
 have a:sup.take k=sup:=At (by exact eV);rw[a]at hf;have h1:Iq (nm,sup,d) l=true:=hf;exact fI c [.tmp 4] (by rw[h1];exact eR)
def N0 (d:List AJ):Nat->List AJ->Int
 | _,[]=>0
 | k,x :: l=>if BM x.1 false=false then 1 else if Ap d x.1<(k:Int) then 4 else N0 d (k+1) l
def Cf (d:List AJ):Int:=N0 d 0 d
theorem Lg (d l:List AJ) (h:k<l.length):N0 d k (l.drop k)=if BM (l.getD k d0).1 false=false then 1 else if Ap d (l.getD k d0).1<(k:Int) then 4 else N0 d (k+1) (l.drop (k+1)):=by
 rw[OF h];have e:l.getD k d0=l[k]:=by simp[AS,h]
 rw[e];rfl
def ZW:AW:={ ins:=[Et],pre:=λ_=>True,out:=λ(l,_)=>[.p C6 (Cf l)] }
attribute [local go_sem] ZW
theorem z7:AY Tryz.prog 154 ZW:=by
 refine fK [0,2,3,7,16,25] Tryz.func154 Tryz.ntmps154 (AF oL (AF Le AH)) ?_;rintro w0 O0 ⟨l,u⟩ c ⟨⟨e,-⟩,-⟩ -;simp only[AO]at e;simp only[ZW,AL];repeat'(first|exact trivial|apply eS rfl|refine rX c ?_ ?_)
 refine AI (ι:={k:Nat//k<=l.length/\N0 l k (l.drop k)=Cf l}) (λk=>⟨[(0,.p Et l),(3,.p (.int .i64) (k.1:Int))],[]⟩) (λk=>l.length-k.1) ⟨0,By _,rfl⟩ (eW []) (λk=>?_)
 obtain⟨k,hk,hf⟩:=k;simp only;repeat'(first|exact trivial|apply eS rfl|apply AB|refine rX c ?_ ?_|refine rC ?_ ?_<;>intro b<;>try(cases b;done))
 .exact b
 .have a:k<l.length:=by exact eV
  rw[Lg l l a,BY b]at hf;exact fI c [.tmp 2] (by rw[<-hf];exact eR)
 .assumption
 .rename_i d;have a:k<l.length:=by exact eV
  rw[Lg l l a,As (by rw[d];simp),BY b]at hf;exact fI c [.tmp 2] (by rw[<-hf];exact eR)
 .exact eV
 .rename_i d;have a:k<l.length:=by exact eV
  rw[Lg l l a,As (by rw[d];simp),As (AAU.2 b)]at hf;exact⟨⟨k+1,by omega,hf⟩,by simp only;omega,eW []⟩
 have a:l.drop k=[]:=NO (by exact eV);rw[a]at hf;exact fI c [.tmp 2] (by rw[<-hf];first|exact eR|refine Kv ?_;rfl)
def SR (d:List AJ) (l:List ByteArray):Nat->List ByteArray->Int
 | _,[]=>0
 | k,x :: r=>if Ap d x<0 then 5 else if AU (l.take k) x=true then 4 else SR d l (k+1) r
def J6 (d:List AJ):List AJ->Int
 | []=>0
 | x :: l=>if SR d x.2.1 0 x.2.1≠0 then SR d x.2.1 0 x.2.1 else J6 d l
def J7 (d:List AJ):Int:=J6 d d
theorem Qj (d:List AJ) (l:List ByteArray) (h:k<l.length):SR d l k (l.drop k)=if Ap d (l.getD k ByteArray.empty)<0 then 5 else if AU (l.take k) (l.getD k ByteArray.empty)=true then 4 else SR d l (k+1) (l.drop (k+1)):=by
 rw[OF h];have e:l.getD k ByteArray.empty=l[k]:=by simp[AS,h]
 rw[e];rfl
theorem ZX (d l:List AJ) (h:k<l.length):J6 d (l.drop k)=if SR d (l.getD k d0).2.1 0 (l.getD k d0).2.1≠0 then SR d (l.getD k d0).2.1 0 (l.getD k d0).2.1 else J6 d (l.drop (k+1)):=by
 rw[OF h];have e:l.getD k d0=l[k]:=by simp[AS,h]
 rw[e];rfl
def S2:AW:={ ins:=[Et],pre:=λ_=>True,out:=λ(l,_)=>[.p C6 (J7 l)] }
attribute [local go_sem] S2
theorem tF:AY Tryz.prog 155 S2:=by
 refine fK [0,2,3,4,5,9,20,29,37] Tryz.func155 Tryz.ntmps155 (AF GZ (AF Le AH)) ?_;rintro w0 O0 ⟨l,u⟩ d ⟨⟨h,g⟩,-⟩ -;simp only[AO]at h;simp only[S2,AL];repeat'(first|exact trivial|apply eS rfl|refine rX d ?_ ?_)
 refine AI (ι:={i:Nat//i<=l.length/\J6 l (l.drop i)=J7 l}) (λi=>⟨[(0,.p Et l),(3,.p (.int .i64) (i.1:Int))],[]⟩) (λi=>l.length-i.1) ⟨0,By _,rfl⟩ (eW []) (λi=>?_)
 obtain⟨i,hi,hf⟩:=i;simp only;repeat'(first|exact trivial|apply eS rfl|refine rX d ?_ ?_|refine rC ?_ ?_<;>intro b<;>try(cases b;done))
 .exact b
 .have f:i<l.length:=by exact eV
  have j:=g _ (AG l d0 f);have m:(l.getD i d0).2.1.length<=AO:=j.2.1.1;simp only[AO]at m;rw[ZX l l f]at hf;generalize (l.getD i d0).2.1=sup at *;refine AI (ι:={k:Nat//k<=sup.length/\SR l sup k (sup.drop k)=SR l sup 0 sup}) (λk=>⟨[(0,.p Et l),(3,.p (.int .i64) (i:Int)),(4,.p CL sup),(5,.p (.int .i64) (k.1:Int))],[]⟩) (λk=>sup.length-k.1) ⟨0,By _,rfl⟩ (eW []) (λk=>?_)
  obtain⟨k,hk,c⟩:=k;simp only;repeat'(first|exact trivial|apply eS rfl|apply AB|refine rX d ?_ ?_|refine rC ?_ ?_<;>intro b<;>try(cases b;done))
  .exact b
  .have a:k<sup.length:=by exact eV
   rw[Qj l sup a,BY b]at c;rw[<-c,BY dg]at hf;exact fI d [.tmp 2] (by rw[<-hf];exact eR)
  .exact eV
  .rename_i e;have a:k<sup.length:=by exact eV
   rw[Qj l sup a,As (AAU.2 e),BY b]at c;rw[<-c,BY dg]at hf;exact fI d [.tmp 2] (by rw[<-hf];exact eR)
  .exact eV
  .rename_i e;have a:k<sup.length:=by exact eV
   rw[Qj l sup a,As (AAU.2 e),As (by rw[b];simp)]at c;exact⟨⟨k+1,by omega,c⟩,by simp only;omega,eW []⟩
  .exact eV
  have a:sup.drop k=[]:=NO (by exact eV);rw[a]at c;rw[<-c,As (by simp[SR])]at hf;exact⟨⟨i+1,by omega,hf⟩,by simp only;omega,eW []⟩
 have a:l.drop i=[]:=NO (by exact eV);rw[a]at hf;exact fI d [.tmp 2] (by rw[<-hf];first|exact eR|refine Kv ?_;rfl)
end
section
attribute [local go_sem] Nz ZV Ip ZR
theorem Ec {α:Type} (g:X->α->X) (l:List α) (d:α) (t:X) {i:Nat} (hi:i<l.length):(l.take (i+1)).foldl g t=g ((l.take i).foldl g t) (l.getD i d):=by
 rw[Ag l d hi,ABl];rfl
theorem Lh (l:List ByteArray) (s:ByteArray):(Dl l s).length<=l.length+1:=by
 unfold Dl;split
 .omega
 have:=A5F (λx=>CJ x s) l;have a:WZ l s<=l.length:=this;simp only[Do,OR,AB3,nO];omega
def AN (l:List AJ):List ByteArray:=l.foldl (λo x=>Dl o x.1) []
theorem Dm (l:List AJ) (k:Nat):(AN (l.take k)).length<=k:=by
 have key:∀(l:List AJ) (o:List ByteArray),(l.foldl (λo x=>Dl o x.1) o).length<=o.length+l.length:=by
  intro l;induction l with
  | nil=>intro o;simp
  | cons x l b =>
   intro o;have h1:=b (Dl o x.1);have a:=Lh o x.1;simp only[OS,IS];omega
 have h1:=key (l.take k) [];have a:=AAz k l;unfold AN;simp only[AAl]at h1;omega
def PK:AW:={ ins:=[Et],pre:=λ(l,_)=>List.length l<=100000,out:=λ(l,_)=>[.p CL (AN l)] }
attribute [local go_sem] PK
theorem Xg:AY Tryz.prog 112 PK:=by
 refine fK [0,2,3,4,8] Tryz.func112 Tryz.ntmps112 (AF Qf AH) ?_;rintro w0 O0 ⟨l,u⟩ a-d;have d:l.length<=100000:=d;simp only[PK,AL];repeat'(first|exact trivial|apply eS rfl|refine rX a ?_ ?_)
 refine AI (ι:={k:Nat//k<=l.length}) (λk=>⟨[(0,.p Et l),(3,.p CL (AN (l.take k.1))),(4,.p (.int .i64) (k.1:Int))],[]⟩) (λk=>l.length-k.1) ⟨0,By _⟩ (AC [] rfl rfl ?_ ?_) (λk=>?_)
 .exact eN
 .refine eM ?_;rfl
 obtain⟨k,hk⟩:=k;have hn:=Dm l k;have hs:=λh:k<l.length=>Ec (λ(o:List ByteArray) (x:AJ)=>Dl o x.1) l d0 [] h;simp only;repeat'(first|exact trivial|apply eS rfl|apply AB|refine rX a ?_ ?_|refine rC ?_ ?_<;>intro c<;>try(cases c;done))
 .exact⟨c,by omega⟩
 .exact eV
 .have b:k<l.length:=by exact eV
  have e:=hs b;refine⟨⟨k+1,by omega⟩,by simp only;omega,AC [] rfl rfl ?_ ?_⟩
  .exact eN
  simp only;have e:AN (l.take (k+1))=Dl (AN (l.take k)) (l.getD k d0).1:=e;rw[e];exact eN
 have b:l.take k=l:=At (by exact eV);rw[b];exact fI a [.tmp 2]
def IK (out:List ByteArray) (s:Bool×ByteArray) (x:AJ):Bool×ByteArray :=
 if (AU out x.1||!Iq x out)=true then s else (true,if (!s.1||CJ x.1 s.2)=true then x.1 else s.2)
def Hh (d:List AJ) (out:List ByteArray):Bool×ByteArray:=d.foldl (IK out) (false,ByteArray.empty)
def IL (d:List AJ):Nat->List ByteArray->List ByteArray
 | 0,out=>out
 | n+1,out=>if (Hh d out).1=true then IL d n (out++[(Hh d out).2]) else out
def Bh (d:List AJ):List ByteArray:=IL d d.length []
def Hi (d:List AJ) (out:List ByteArray):Nat:=d.countP λx=>!AU out x.1
theorem Ct (s:ByteArray):AM s s=true:=by unfold AM;simp
theorem N1 (out:List ByteArray) (s x:ByteArray):AU (out++[s]) x=(AU out x||AM s x):=by
 unfold AU;simp[ABJ]
theorem tG (d:List AJ) (out:List ByteArray) (h:(Hh d out).1=true):∃x∈d,x.1=(Hh d out).2/\AU out x.1=false:=by
 have key:∀(l:List AJ) (s:Bool×ByteArray),(∀x∈l,x∈d)->(s.1=true->∃x∈d,x.1=s.2/\AU out x.1=false)->(l.foldl (IK out) s).1=true ->
   ∃x∈d,x.1=(l.foldl (IK out) s).2/\AU out x.1=false:=by
  intro l;induction l with
  | nil=>intro s _ hs h;exact hs h
  | cons y l i =>
   intro s e hs h;rw[OS]at h ⊢;refine i _ (λx f=>e x (by simp[f])) (λb=>?_) h;unfold IK at b ⊢;split
   .rename_i a;rw[BY a]at b;exact hs b
   rename_i a;simp only;have g:AU out y.1=false:=by
    cases hh:AU out y.1 with
    | false=>rfl
    | true=>rw[hh]at a;simp at a
   split
   .exact⟨y,e y sc,rfl,g⟩
   rename_i c;have:s.1=true:=by
    cases hh:s.1 with
    | true=>rfl
    | false=>rw[hh]at c;simp at c
   exact hs this
 exact key d _ (λ_ h=>h) (λh=>by cases h) h
theorem dN {d:List AJ} {out:List ByteArray} (h:(Hh d out).1=true):Hi d (out++[(Hh d out).2])<Hi d out:=by
 obtain⟨x,e,h1,c⟩:=tG d out h;generalize (Hh d out).2=s at *;unfold Hi;have key:∀l:List AJ,(l.countP λy=>!AU (out++[s]) y.1)<=l.countP λy=>!AU out y.1:=by
  intro l;refine List.countP_mono_left λy _ a=>?_;rw[N1]at a;cases hh:AU out y.1 with
  | false=>rfl
  | true=>rw[hh]at a;simp at a
 obtain⟨f,g,rfl⟩:=List.append_of_mem e;rw[ACw,ACw,ABs,ABs];have i:=key f;have j:=key g;have b:AU (out++[s]) x.1=true:=by rw[N1,h1,Ct,Bool.or_true]
 rw[b,c];simp only[Bool.not_true,AC9,AAJ];simp only[AAT,AB1];omega
def ZY:AW:={ ins:=[Et],pre:=λ(l,_)=>List.length l<=100000,out:=λ(l,_)=>[.p CL (Bh l)] }
theorem tH:AY Tryz.prog 156 ZY:=by
 refine fK [0,2,3,4,5,6,7,11,29,40,46] Tryz.func156 Tryz.ntmps156 (AF GZ (AF z6 AH)) ?_;rintro w0 O0 ⟨d,u⟩ j-r;have r:d.length<=100000:=r;simp only[ZY,AL];repeat'(first|exact trivial|apply eS rfl|refine rX j ?_ ?_)
 refine AI (ι:={x:Nat×List ByteArray×Bool//x.1+x.2.1.length<=d.length/\(x.2.2=true->Hi d x.2.1<=x.1/\IL d x.1 x.2.1=Bh d)/\(x.2.2=false->x.2.1=Bh d)}) (λx=>⟨[(0,.p Et d),(3,.sr 50 T9 0 x.1.2.1.length),(4,.p .bool x.1.2.2)],[(50,.arr 9 T9 x.1.2.1)]⟩) (λx=>(if x.1.2.2=true then x.1.1+1 else 0)) ⟨(d.length,[],true),by simp,λ_=>⟨List.countP_le_length,rfl⟩,λh=>by cases h⟩ (eW [(50,.nil)]) (λx=>?_)
 obtain⟨⟨n,out,D⟩,s,t,v⟩:=x;simp only at s t v;simp only;repeat'(first|exact trivial|apply eS rfl|refine rX j ?_ ?_|refine rC ?_ ?_<;>intro a<;>try(cases a;done))
 .subst a;obtain⟨hu,w⟩:=t rfl;have C:({ data:=#[] }:ByteArray).size<=AO:=by decide
  rw[BY C];refine AI (ι:={y:Nat×Bool×ByteArray//y.1<=d.length/\(d.take y.1).foldl (IK out) (false,ByteArray.empty)=y.2}) (λy=>⟨[(0,.p Et d),(3,.sr 50 T9 0 out.length),(4,.p .bool y.1.2.1),(5,.p T9 y.1.2.2),(6,.p (.int .i64) (y.1.1:Int))],[(50,.arr 9 T9 out)]⟩) (λy=>d.length-y.1.1) ⟨(0,false,ByteArray.empty),by simp,rfl⟩ (AC [(50,.nm 50)] rfl rfl ?_ ?_) (λy=>?_)
  .exact eN
  .refine eM ?_;rfl
  obtain⟨⟨k,z,b⟩,hk,c⟩:=y;simp only at hk c;have q:∀h:k<d.length,(d.take (k+1)).foldl (IK out) (false,ByteArray.empty)=IK out (z,b) (d.getD k d0):=λh=>by
   rw[Ec (IK out) d d0 _ h,c]
  simp only;repeat'(first|exact trivial|apply eS rfl|apply AB|refine rX j ?_ ?_|refine rC ?_ ?_<;>intro a<;>try(cases a;done))
  .exact⟨a,λ_=>a⟩
  .exact eV
  .have g:k<d.length:=by exact eV
   refine⟨⟨(k+1,z,b),by simp only;omega,?_⟩,by simp only;omega,AC [(50,.nm 50)] rfl rfl ?_ ?_⟩
   .simp only;rw[q g];unfold IK;rw[BY];rw[vW,bY];exact a
   .exact eN
   exact eN
  .exact λ_=>by assumption
  .assumption
  .exact eV
  .rename_i f;have g:k<d.length:=by exact eV
   refine⟨⟨(k+1,true,(d.getD k d0).1),by simp only;omega,?_⟩,by simp only;omega,AC [(50,.nm 50)] rfl rfl ?_ ?_⟩
   .simp only;rw[q g];unfold IK;rw[As (by rw[f.1,f.2];simp),BY (by rw[vW,bY];exact a)]
   .exact eN
   exact eN
  .exact eV
  .rename_i f;have g:k<d.length:=by exact eV
   refine⟨⟨(k+1,true,b),by simp only;omega,?_⟩,by simp only;omega,AC [(50,.nm 50)] rfl rfl ?_ ?_⟩
   .simp only;rw[q g];unfold IK;rw[As (by rw[f.1,f.2];simp),As (by rw[vW,bY];rintro (h|h)<;>simp_all)]
   .exact eN
   exact eN
  .simp only[AO];dsimp only[Ty.den]at *;omega
  .subst a;have l:d.take k=d:=At (by exact eV);rw[l]at c;have i:Hh d out=(true,b):=c;have m:=dN (d:=d) (out:=out) (by rw[i]);rw[i]at m;obtain⟨e,rfl⟩:∃e,n=e+1:=⟨n-1,by omega⟩;have o:IL d e (out++[b])=Bh d:=by
    rw[<-w];show _=if (Hh d out).1=true then IL d e (out++[(Hh d out).2]) else out
    rw[i,BY rfl]
   have m:Hi d (out++[b])<Hi d out:=m;have B:Hi d (out++[b])<=e:=by omega
   exact⟨⟨(e,out++[b],true),by simp only[Do,nO];omega,λ_=>⟨B,o⟩,λh=>by cases h⟩,by simp,eW [(50,.nm 50)]⟩
  subst a;have l:d.take k=d:=At (by exact eV);rw[l]at c;have i:Hh d out=(false,b):=c;have o:out=Bh d:=by
   rw[<-w];cases n with
   | zero=>rfl
   | succ n =>
    show _=if (Hh d out).1=true then IL d n (out++[(Hh d out).2]) else out
    rw[i,As sc]
  exact⟨⟨(n,out,false),s,(λh=>by cases h),λ_=>o⟩,by simp,eW [(50,.nm 50)]⟩
 subst a;have A:=v rfl;rw[A];refine CK [50] ?_;exact fI j [.tmp 2]
end
section
attribute [local go_sem] ZU ZW S2 ZY
def Hj (d:List AJ):Nat:=d.countP λx=>x.2.1.length==0
theorem dP (d:List AJ) (h:k<d.length):Hj (d.take (k+1))=Hj (d.take k)+if ((d.getD k d0).2.1.length==0)=true then 1 else 0:=by
 unfold Hj;rw[Ag d d0 h,ACw,ABs,List.countP_nil];omega
theorem tI (d:List AJ):Hj d<=d.length:=List.countP_le_length
def A7 (d:List AJ):Int :=
 if Ei d≠0 then Ei d else if Cf d≠0 then Cf d else if J7 d≠0 then J7 d else if Hj d≠1 then 1 else if (Bh d).length<d.length then 6 else 0
theorem Rw {d:List AJ} (h:Ei d=0):d.length<=256:=by
 unfold Ei at h;split at h
 .cases h
 omega
def S3:AW:={ ins:=[Et],pre:=λ_=>True,out:=λ(l,_)=>[.p C6 (A7 l)] }
attribute [local go_sem] S3
theorem tJ:AY Tryz.prog 111 S3:=by
 refine fK [0,2,3,4,5,6,7,11,16,21,26,35,39,45] Tryz.func111 Tryz.ntmps111 (AF z5 (AF z7 (AF tF (AF tH AH)))) ?_;rintro w0 O0 ⟨d,u⟩ c - -;simp only[S3,AL];repeat'(first|exact trivial|apply eS rfl|refine rX c ?_ ?_|refine rC ?_ ?_<;>intro a<;>try(cases a;done))
 .have h1:A7 d=Ei d:=by unfold A7;rw[BY a]
  exact fI c [.tmp 2] (by rw[h1];exact eR)
 .rename_i hs;have hs:Ei d=0:=by simpa using hs
  have h1:A7 d=Cf d:=by unfold A7;rw[As (by rw[hs];simp),BY a]
  exact fI c [.tmp 2] (by rw[h1];exact eR)
 .rename_i hs hn;have hs:Ei d=0:=by simpa using hs
  have hn:Cf d=0:=by simpa using hn
  have h1:A7 d=J7 d:=by unfold A7;rw[As (by rw[hs];simp),As (by rw[hn];simp),BY a]
  exact fI c [.tmp 2] (by rw[h1];exact eR)
 rename_i hs hn;have hs:Ei d=0:=by simpa using hs
 have hn:Cf d=0:=by simpa using hn
 have hu:J7 d=0:=by simpa using a
 have i:=Rw hs;have h1:A7 d=if Hj d≠1 then 1 else if (Bh d).length<d.length then 6 else 0:=by
  unfold A7;rw[As (by rw[hs];simp),As (by rw[hn];simp),As (by rw[hu];simp)]
 refine AI (ι:={k:Nat//k<=d.length}) (λk=>⟨[(0,.p Et d),(6,.p (.int .i64) (Hj (d.take k.1):Int)),(7,.p (.int .i64) (k.1:Int))],[]⟩) (λk=>d.length-k.1) ⟨0,By _⟩ (AC [] rfl rfl ?_ ?_) (λk=>?_)
 .exact eN
 .refine eM ?_;rfl
 obtain⟨k,hk⟩:=k;have j:=tI (d.take k);have l:=AAz k d;have g:=λh:k<d.length=>dP d h;simp only;repeat'(first|exact trivial|apply eS rfl|apply AB|refine rX c ?_ ?_|refine rC ?_ ?_<;>intro a<;>try(cases a;done))
 .exact a
 .exact eV
 .exact eV
 .have b:k<d.length:=by exact eV
  have e:=g b;rw[BY (by rw[AAc];exact Int.ofNat_eq_zero.1 a)]at e;refine⟨⟨k+1,by omega⟩,by simp only;omega,AC [] rfl rfl ?_ ?_⟩
  .exact eN
  simp only[e];exact eN
 .exact eV
 .have b:k<d.length:=by exact eV
  have e:=g b;rw[As (by rw[AAc];exact λh=>a (Int.ofNat_eq_zero.2 h))]at e;refine⟨⟨k+1,by omega⟩,by simp only;omega,AC [] rfl rfl ?_ ?_⟩
  .exact eN
  simp only[e];exact eN
 .have b:d.take k=d:=At (by exact eV);rw[b]at a;rw[BY (λh=>a (by rw[h];rfl))]at h1;exact fI c [.tmp 2] (by rw[h1];exact eR)
 .show d.length<=100000;omega
 .rename_i f;have b:d.take k=d:=At (by exact eV);rw[b]at f;have f:(Hj d:Int)=1:=by simpa using f
  rw[As O1,BY (iF.1 a)]at h1;exact fI c [.tmp 2] (by rw[h1];exact eR)
 rename_i f;have b:d.take k=d:=At (by exact eV);rw[b]at f;have f:(Hj d:Int)=1:=by simpa using f
 rw[As O1,As (λh=>absurd (AAe.1 a) (Nat.not_le.2 h))]at h1;exact fI c [.tmp 2] (by rw[h1];exact eR)
end
section
attribute [local go_sem] Nz Ip ZR
def JG (o:List ByteArray) (s:ByteArray):List ByteArray:=if AU o s=true then o else o++[s]
def Li (d:List AJ) (s:ByteArray):List ByteArray:=(d.getD (Ap d s).toNat d0).2.1
def Hk (d:List AJ):Nat->Nat->List ByteArray->List ByteArray
 | 0,_,o=>o
 | n+1,i,o=>if i<o.length then Hk d n (i+1) ((Li d (o.getD i ByteArray.empty)).foldl JG o) else o
def JH (l:List ByteArray):List ByteArray:=l.foldl Dl []
theorem Xh (l:List ByteArray):(JH l).length<=l.length:=by
 have key:∀(l o:List ByteArray),(l.foldl Dl o).length<=o.length+l.length:=by
  intro l;induction l with
  | nil=>intro o;simp
  | cons x l a =>
   intro o;have h1:=a (Dl o x);have b:=Lh o x;simp only[OS,IS];omega
 have:=key l [];simpa[JH] using this
def J8 (d:List AJ) (s:ByteArray):List ByteArray:=if Ap d s<0 then [] else JH (Hk d d.length 0 [s])
def PM (d:List AJ):Prop:=∀x∈d,∀s∈x.2.1,0<=Ap d s
theorem Xi (s:ByteArray):∀(l:List AJ) (k:Nat),Cs s k l=-1\/((k:Int)<=Cs s k l/\Cs s k l<(k:Int)+l.length/\AM (l.getD ((Cs s k l).toNat-k) d0).1 s=true)
 | [],_=>.inl rfl
 | x :: l,k=>by
  simp only[Cs];split
  .rename_i h;right;refine⟨by omega,by simp only[IS];omega,?_⟩;have:((k:Int).toNat-k)=0:=by omega
   rw[this];exact h
  rcases Xi s l (k+1) with h|⟨h1,b,a⟩
  .exact .inl h
  right;refine⟨by omega,by simp only[IS];omega,?_⟩;have:((Cs s (k+1) l).toNat-k)=((Cs s (k+1) l).toNat-(k+1))+1:=by omega
  rw[this];exact a
theorem DH (d:List AJ) (s:ByteArray):Ap d s<0\/(0<=Ap d s/\Ap d s<(d.length:Int)/\AM (d.getD (Ap d s).toNat d0).1 s=true):=by
 rcases Xi s d 0 with h|⟨h1,a,b⟩
 .left;show Cs s 0 d<0;omega
 have a:Ap d s<((0:Nat):Int)+d.length:=a;exact .inr ⟨h1,by omega,b⟩
theorem GB {a b:ByteArray}:AM a b=true↔a.toList=b.toList:=by unfold AM;simp
theorem Bt {a b:ByteArray} (h:AM a b=true):AM b a=true:=GB.2 (GB.1 h).symm
theorem BI {a b c:ByteArray} (h:AM a b=true) (g:AM b c=true):AM a c=true:=GB.2 ((GB.1 h).trans (GB.1 g))
structure ZZ (d:List AJ) (o:List ByteArray):Prop where
 decl:∀s∈o,0<=Ap d s
 nd:o.Pairwise λa b=>AM a b=false
theorem J9 (d:List AJ):∀ {o:List ByteArray},ZZ d o->(o.map λs=>(Ap d s).toNat).Nodup
 | [],_=>by simp
 | s :: o,h=>by
  rw[iS,AAu];have c:=AAo.1 h.nd;refine⟨λi=>?_,J9 d ⟨λx a=>h.decl x (by simp[a]),c.2⟩⟩;obtain⟨x,a,e⟩:=IN.1 i;have h1:=h.decl s sc;have j:=h.decl x (by simp[a]);rcases DH d s with g|⟨_,_,f⟩
  .omega
  rcases DH d x with g|⟨_,_,b⟩
  .omega
  rw[e]at b;have:=c.1 x a;rw[BI (Bt f) b]at this;cases this
theorem ZZ.len {d:List AJ} (h:ZZ d o):o.length<=d.length:=by
 have:=Da d.length (o.map λs=>(Ap d s).toNat) (J9 d h) (λj a=>by
  obtain⟨s,hs,rfl⟩:=IN.1 a;have h1:=h.decl s hs;rcases DH d s with g|⟨_,g,_⟩<;>omega)
 simpa using this
theorem PN (h:AU o s=false):∀x∈o,AM x s=false:=λx a=>by
 cases hh:AM x s with
 | false=>rfl
 | true=>exact absurd h (by rw[show AU o s=true from To.2 ⟨x,a,hh⟩];simp)
theorem oO {d:List AJ} (h:ZZ d o) (hs:0<=Ap d s):ZZ d (JG o s):=by
 unfold JG;split
 .exact h
 rename_i e;have e:AU o s=false:=by simpa using e
 refine⟨λx c=>?_,?_⟩
 .rcases Is.1 c with c|c
  .exact h.decl x c
  have:x=s:=by simpa using c
  rw[this];exact hs
 rw[ABx];refine⟨h.nd,by simp,λa ha b f=>?_⟩;have:b=s:=by simpa using f
 rw[this];exact PN e a ha
theorem dQ {d:List AJ}:∀ {l o:List ByteArray},(∀s∈l,0<=Ap d s)->ZZ d o->ZZ d (l.foldl JG o)/\o.length<=(l.foldl JG o).length
 | [],o,_,h=>⟨h,Of _⟩
 | s :: l,o,a,h=>by
  obtain⟨b,c⟩:=dQ (l:=l) (λx e=>a x (by simp[e])) (oO h (a s sc));refine⟨b,gO ?_ c⟩;unfold JG;split<;>simp
theorem dR {d:List AJ} (b:PM d) (s:ByteArray):∀x∈Li d s,0<=Ap d x:=by
 intro x a;unfold Li at a;by_cases h:(Ap d s).toNat<d.length
 .exact b _ (AG d d0 h) x a
 rw[AS,oS O1]at a;cases a
def kN:AW:={ ins:=[Et,T9],pre:=λ(d,_,_)=>PM d/\List.length d<=256,out:=λ(d,s,_)=>[.p CL (J8 d s)] }
theorem z8:AY Tryz.prog 184 kN:=by
 refine fK [0,1,4,5,6,7,8,9,10,14,20,36,45,56] Tryz.func184 Tryz.ntmps184 (AF Le (AF GZ (AF Qf AH))) ?_;rintro w0 O0 ⟨d,s,u⟩ b ⟨⟨Q,G⟩,-⟩ ⟨O,z⟩;have z:d.length<=256:=z;simp only[kN,AL];repeat'(first|exact trivial|apply eS rfl|refine rX b ?_ ?_|refine rC ?_ ?_<;>intro a<;>try(cases a;done))
 .have h1:J8 d s=[]:=by unfold J8;rw[BY a]
  exact fI b [.tmp 4] (by rw[h1];exact eR)
 have h1:J8 d s=JH (Hk d d.length 0 [s]):=by unfold J8;rw[As (AAU.2 a)]
 have F:ZZ d [s]:=⟨λx y=>by
  have:x=s:=by simpa using y
  rw[this];exact a,by simp⟩
 refine AI (ι:={x:Nat×List ByteArray//x.1<=x.2.length/\ZZ d x.2/\Hk d (d.length-x.1) x.1 x.2=Hk d d.length 0 [s]}) (λx=>⟨[(0,.p Et d),(1,.p T9 s),(5,.sr 16 T9 0 x.1.2.length),(6,.p (.int .i64) (x.1.1:Int))],[(16,.arr 9 T9 x.1.2)]⟩) (λx=>d.length-x.1.1) ⟨(0,[s]),by simp,F,rfl⟩ (eW [(16,.nm 16)]) (λx=>?_)
 obtain⟨⟨i,o⟩,hi,c,t⟩:=x;simp only at hi c t;have U:=c.len;simp only;repeat'(first|exact trivial|apply eS rfl|refine rX b ?_ ?_|refine rC ?_ ?_<;>intro a<;>try(cases a;done))
 .have q:i<o.length:=by exact eV
  have A:=c.decl _ (AG o ByteArray.empty q);refine⟨a,A,?_⟩;rcases DH d (o.getD i ByteArray.empty) with g|⟨_,g,_⟩
  .omega
  exact g
 .have q:i<o.length:=by exact eV
  have A:=c.decl _ (AG o ByteArray.empty q);have K:=dR O (o.getD i ByteArray.empty);have C:Hk d (d.length-(i+1)) (i+1) ((Li d (o.getD i ByteArray.empty)).foldl JG o)=Hk d d.length 0 [s]:=by
   rw[<-t];obtain⟨m,B⟩:∃m,d.length-i=m+1:=⟨d.length-i-1,by omega⟩;have H:d.length-(i+1)=m:=by omega
   rw[B,H];show _=if i<o.length then Hk d m (i+1) ((Li d (o.getD i ByteArray.empty)).foldl JG o) else o
   rw[BY q]
  have M:(Li d (o.getD i ByteArray.empty)).length<=AO:=by
   rcases DH d (o.getD i ByteArray.empty) with g|⟨_,g,_⟩
   .omega
   exact(G _ (AG d d0 (k:=(Ap d (o.getD i ByteArray.empty)).toNat) O1)).2.1.1
  have N:(List.getD d (Ap d (o.getD i ByteArray.empty)).toNat (ByteArray.empty,[],[])).2.1=Li d (o.getD i ByteArray.empty):=rfl;rw[N];generalize Li d (o.getD i ByteArray.empty)=sup at *;simp only[AO]at M;refine AI (ι:={k:Nat//k<=sup.length}) (λk=>⟨[(0,.p Et d),(1,.p T9 s),(5,.sr 16 T9 0 ((sup.take k.1).foldl JG o).length),(6,.p (.int .i64) (i:Int)),(7,.p CL sup),(8,.p (.int .i64) (k.1:Int))],[(16,.arr 9 T9 ((sup.take k.1).foldl JG o))]⟩) (λk=>sup.length-k.1) ⟨0,By _⟩ (AC [(16,.nm 16)] rfl rfl ?_ ?_) (λk=>?_)
  .refine eM ?_;rfl
  .refine eM ?_;rfl
  obtain⟨k,hk⟩:=k;have w:=dQ (l:=sup.take k) (o:=o) (λx y=>K x (AAp y)) c;have S:=w.1.len;have E:=λh:k<sup.length=>Ec JG sup ByteArray.empty o h;simp only;generalize D:(sup.take k).foldl JG o=n at *;repeat'(first|exact trivial|apply eS rfl|apply AB|refine rX b ?_ ?_|refine rC ?_ ?_<;>intro a<;>try(cases a;done))
  .exact a
  .refine⟨by exact eV,?_⟩;simp only[AO];dsimp only[Ty.den]at *;omega
  .exact eV
  .have f:k<sup.length:=by exact eV
   have e:=E f;have r:JG n (sup.getD k ByteArray.empty)=n++[sup.getD k ByteArray.empty]:=by unfold JG;rw[As (by rw[a];simp)]
   rw[r]at e;refine⟨⟨k+1,by omega⟩,by simp only;omega,AC [(16,.nm 16)] rfl rfl ?_ ?_⟩
   .simp only[e];exact eN
   simp only[e];exact eN
  .exact eV
  .have f:k<sup.length:=by exact eV
   have e:=E f;have r:JG n (sup.getD k ByteArray.empty)=n:=by unfold JG;rw[BY a]
   rw[r]at e;refine⟨⟨k+1,by omega⟩,by simp only;omega,AC [(16,.nm 16)] rfl rfl ?_ ?_⟩
   .simp only[e];exact eN
   simp only[e];exact eN
  .exact eV
  have f:sup.take k=sup:=At (by exact eV);rw[f]at D;rw[D]at C;have J:=w.1;have T:=w.2;exact⟨⟨(i+1,n),by simp only;omega,J,C⟩,by simp only;omega,eW [(16,.nm 16)]⟩
 have I:o=Hk d d.length 0 [s]:=by
  rw[<-t];cases B:d.length-i with
  | zero=>rfl
  | succ m =>
   show _=if i<o.length then _ else o
   rw[As (by exact eV)]
 rw[<-I]at h1;refine AI (ι:={j:Nat//j<=o.length}) (λj=>⟨[(0,.p Et d),(5,.sr 16 T9 0 o.length),(9,.p CL ((o.take j.1).foldl Dl [])),(10,.p (.int .i64) (j.1:Int))],[(16,.arr 9 T9 o)]⟩) (λj=>o.length-j.1) ⟨0,By _⟩ (AC [(16,.nm 16)] rfl rfl ?_ ?_) (λj=>?_)
 .exact eN
 .refine eM ?_;rfl
 obtain⟨j,R⟩:=j;have L:=λh:j<o.length=>Ec Dl o ByteArray.empty [] h;simp only;repeat'(first|exact trivial|apply eS rfl|apply AB|refine rX b ?_ ?_|refine rC ?_ ?_<;>intro a<;>try(cases a;done))
 .refine⟨a,?_⟩;have:=Xh (o.take j);have P:=AAz j o;unfold JH at this;dsimp only[Ty.den]at *;omega
 .exact eV
 .have v:j<o.length:=by exact eV
  have e:=L v;refine⟨⟨j+1,by omega⟩,by simp only;omega,AC [(16,.nm 16)] rfl rfl ?_ ?_⟩
  .exact eN
  simp only[e];exact eN
 have v:o.take j=o:=At (by exact eV);rw[v];exact fI b [.tmp 4] (by rw[h1];unfold JH;exact eR)
end
section
attribute [local go_sem] Nz Ip ZR
def Eu (s:ByteArray) (o:List ByteArray) (x:AJ):List ByteArray:=if (AU x.2.1 s&&!AU o x.1)=true then o++[x.1] else o
def Cg (d:List AJ):Nat->Nat->List ByteArray->List ByteArray
 | 0,_,o=>o
 | n+1,i,o=>if i<o.length then Cg d n (i+1) (d.foldl (Eu (o.getD i ByteArray.empty)) o) else o
def Ci (d:List AJ) (s:ByteArray):List ByteArray:=if Ap d s<0 then [] else JH (Cg d d.length 0 [s])
theorem Uk (s:ByteArray):∀(l:List AJ) (k:Nat) (x:AJ),x∈l->AM x.1 s=true->0<=Cs s k l
 | y :: l,k,x,a,h=>by
  simp only[Cs];split
  .omega
  rename_i b;rcases DO.1 a with rfl|a
  .exact absurd h b
  exact Uk s l (k+1) x a h
theorem DN {d:List AJ} {x:AJ} (a:x∈d):0<=Ap d x.1:=Uk x.1 d 0 x a (Ct _)
theorem A3v {d:List AJ} (h:ZZ d o) (s:ByteArray) {x:AJ} (b:x∈d):ZZ d (Eu s o x):=by
 unfold Eu;split
 .rename_i a;rw[An,bY]at a;have:=oO h (DN b);unfold JG at this
  rwa [As (by rw[a.2];simp)]at this
 exact h
theorem Ul {d:List AJ} (s:ByteArray):∀ {l:List AJ} {o:List ByteArray},(∀x∈l,x∈d)->ZZ d o->ZZ d (l.foldl (Eu s) o)/\o.length<=(l.foldl (Eu s) o).length
 | [],o,_,h=>⟨h,Of _⟩
 | x :: l,o,a,h=>by
  obtain⟨b,c⟩:=Ul s (l:=l) (λy e=>a y (by simp[e])) (A3v h s (a x sc));refine⟨b,gO ?_ c⟩;unfold Eu;split<;>simp
theorem Qk (s:ByteArray) {i:Nat}:∀ {l:List AJ} {o:List ByteArray},i<o.length->(l.foldl (Eu s) o).getD i ByteArray.empty=o.getD i ByteArray.empty
 | [],_,_=>rfl
 | x :: l,o,h=>by
  have a:i<(Eu s o x).length/\(Eu s o x).getD i ByteArray.empty=o.getD i ByteArray.empty:=by
   unfold Eu;split
   .refine⟨by rw[Do];omega,?_⟩;simp only[AS];rw[AA8 h]
   exact⟨h,rfl⟩
  rw[OS,Qk s a.1,a.2]
def Za:AW:={ ins:=[Et,T9],pre:=λ(d,_,_)=>List.length d<=256,out:=λ(d,s,_)=>[.p CL (Ci d s)] }
attribute [local go_sem] Za
theorem z9:AY Tryz.prog 157 Za:=by
 refine fK [0,1,4,5,6,7,8,9,13,19,25,47,59] Tryz.func157 Tryz.ntmps157 (AF Le (AF GZ (AF Qf AH))) ?_;rintro w0 O0 ⟨d,s,u⟩ b-y;have y:d.length<=256:=y;simp only[Za,AL];repeat'(first|exact trivial|apply eS rfl|refine rX b ?_ ?_|refine rC ?_ ?_<;>intro a<;>try(cases a;done))
 .have h1:Ci d s=[]:=by unfold Ci;rw[BY a]
  exact fI b [.tmp 4] (by rw[h1];exact eR)
 have h1:Ci d s=JH (Cg d d.length 0 [s]):=by unfold Ci;rw[As (AAU.2 a)]
 have F:ZZ d [s]:=⟨λx v=>by
  have:x=s:=by simpa using v
  rw[this];exact a,by simp⟩
 refine AI (ι:={x:Nat×List ByteArray//x.1<=x.2.length/\ZZ d x.2/\Cg d (d.length-x.1) x.1 x.2=Cg d d.length 0 [s]}) (λx=>⟨[(0,.p Et d),(5,.sr 15 T9 0 x.1.2.length),(6,.p (.int .i64) (x.1.1:Int))],[(15,.arr 9 T9 x.1.2)]⟩) (λx=>d.length-x.1.1) ⟨(0,[s]),by simp,F,rfl⟩ (eW [(15,.nm 15)]) (λx=>?_)
 obtain⟨⟨i,o⟩,hi,q,r⟩:=x;simp only at hi q r;have P:=q.len;simp only;repeat'(first|exact trivial|apply eS rfl|refine rX b ?_ ?_|refine rC ?_ ?_<;>intro a<;>try(cases a;done))
 .have z:i<o.length:=by exact eV
  have B:Cg d (d.length-(i+1)) (i+1) (d.foldl (Eu (o.getD i ByteArray.empty)) o)=Cg d d.length 0 [s]:=by
   rw[<-r];obtain⟨m,A⟩:∃m,d.length-i=m+1:=⟨d.length-i-1,by omega⟩;have G:d.length-(i+1)=m:=by omega
   rw[A,G];show _=if i<o.length then Cg d m (i+1) (d.foldl (Eu (o.getD i ByteArray.empty)) o) else o
   rw[BY z]
  refine AI (ι:={k:Nat//k<=d.length}) (λk=>⟨[(0,.p Et d),(5,.sr 15 T9 0 ((d.take k.1).foldl (Eu (o.getD i ByteArray.empty)) o).length),(6,.p (.int .i64) (i:Int)),(7,.p (.int .i64) (k.1:Int))],[(15,.arr 9 T9 ((d.take k.1).foldl (Eu (o.getD i ByteArray.empty)) o))]⟩) (λk=>d.length-k.1) ⟨0,By _⟩ (AC [(15,.nm 15)] rfl rfl ?_ ?_) (λk=>?_)
  .refine eM ?_;rfl
  .refine eM ?_;rfl
  obtain⟨k,hk⟩:=k;have g:=Ul (o.getD i ByteArray.empty) (l:=d.take k) (o:=o) (λx v=>AAp v) q;have N:=g.1.len;have E:=λh:k<d.length=>Ec (Eu (o.getD i ByteArray.empty)) d d0 o h;have D:((d.take k).foldl (Eu (o.getD i ByteArray.empty)) o).getD i ByteArray.empty=o.getD i ByteArray.empty:=Qk _ z;simp only;generalize C:(d.take k).foldl (Eu (o.getD i ByteArray.empty)) o=f at *;repeat'(first|exact trivial|apply eS rfl|apply AB|refine rX b ?_ ?_|refine rC ?_ ?_<;>intro a<;>try(cases a;done))
  .have M:=g.2;refine⟨a,?_,λ_=>a⟩;dsimp only[Ty.den]at *;omega
  .refine⟨by assumption,?_⟩;simp only[AO];dsimp only[Ty.den]at *;omega
  .exact eV
  .have c:k<d.length:=by exact eV
   have e:=E c;rw[D]at a;have n:Eu (o.getD i ByteArray.empty) f (d.getD k d0)=f++[(d.getD k d0).1]:=by
    unfold Eu;rw[BY (by rw[An,bY];exact a)]
   rw[n]at e;refine⟨⟨k+1,by omega⟩,by simp only;omega,AC [(15,.nm 15)] rfl rfl ?_ ?_⟩
   .simp only[e];exact eN
   simp only[e];exact eN
  .exact eV
  .have c:k<d.length:=by exact eV
   have e:=E c;rw[D]at a;have n:Eu (o.getD i ByteArray.empty) f (d.getD k d0)=f:=by
    unfold Eu;rw[As];rw[An,bY];rintro⟨h1,w⟩;rw[a h1]at w;cases w
   rw[n]at e;refine⟨⟨k+1,by omega⟩,by simp only;omega,AC [(15,.nm 15)] rfl rfl ?_ ?_⟩
   .simp only[e];exact eN
   simp only[e];exact eN
  .exact eV
  have c:d.take k=d:=At (by exact eV);rw[c]at C;rw[C]at B;have I:=g.1;have O:=g.2;exact⟨⟨(i+1,f),by simp only;omega,I,B⟩,by simp only;omega,eW [(15,.nm 15)]⟩
 have H:o=Cg d d.length 0 [s]:=by
  rw[<-r];cases A:d.length-i with
  | zero=>rfl
  | succ m =>
   show _=if i<o.length then _ else o
   rw[As (by exact eV)]
 rw[<-H]at h1;refine AI (ι:={j:Nat//j<=o.length}) (λj=>⟨[(0,.p Et d),(5,.sr 15 T9 0 o.length),(8,.p CL ((o.take j.1).foldl Dl [])),(9,.p (.int .i64) (j.1:Int))],[(15,.arr 9 T9 o)]⟩) (λj=>o.length-j.1) ⟨0,By _⟩ (AC [(15,.nm 15)] rfl rfl ?_ ?_) (λj=>?_)
 .exact eN
 .refine eM ?_;rfl
 obtain⟨j,L⟩:=j;have J:=λh:j<o.length=>Ec Dl o ByteArray.empty [] h;simp only;repeat'(first|exact trivial|apply eS rfl|apply AB|refine rX b ?_ ?_|refine rC ?_ ?_<;>intro a<;>try(cases a;done))
 .refine⟨a,?_⟩;have:=Xh (o.take j);have K:=AAz j o;unfold JH at this;dsimp only[Ty.den]at *;omega
 .exact eV
 .have t:j<o.length:=by exact eV
  have e:=J t;refine⟨⟨j+1,by omega⟩,by simp only;omega,AC [(15,.nm 15)] rfl rfl ?_ ?_⟩
  .exact eN
  simp only[e];exact eN
 have t:o.take j=o:=At (by exact eV);rw[t];exact fI b [.tmp 4] (by rw[h1];unfold JH;exact eR)
end
section
attribute [local go_sem] Nz ZR kN Ip
def Ew (d:List AJ) (o:List ByteArray) (x:ByteArray):List ByteArray:=if 0<=Ap d x then Dl o x else o
def Bc (d:List AJ) (l:List ByteArray):List ByteArray:=l.foldl (Ew d) []
theorem Ir (d:List AJ) (l:List ByteArray):(Bc d l).length<=l.length:=by
 have key:∀(l o:List ByteArray),(l.foldl (Ew d) o).length<=o.length+l.length:=by
  intro l;induction l with
  | nil=>intro o;simp
  | cons x l a =>
   intro o;have h1:=a (Ew d o x);have b:(Ew d o x).length<=o.length+1:=by
    unfold Ew;split
    .exact Lh o x
    omega
   simp only[OS,IS];omega
 have:=key l [];simpa[Bc] using this
def Ql:AW:={ ins:=[Et,CL],pre:=λ(_,l,_)=>List.length l<=100000,out:=λ(d,l,_)=>[.p CL (Bc d l)] }
attribute [local go_sem] Ql
theorem dS:AY Tryz.prog 183 Ql:=by
 refine fK [0,1,4,5,6,10,19] Tryz.func183 Tryz.ntmps183 (AF Le (AF Qf AH)) ?_;rintro w0 O0 ⟨d,l,u⟩ c-f;have f:l.length<=100000:=f;simp only[Ql,AL];repeat'(first|exact trivial|apply eS rfl|refine rX c ?_ ?_)
 refine AI (ι:={k:Nat//k<=l.length}) (λk=>⟨[(0,.p Et d),(1,.p CL l),(5,.p CL (Bc d (l.take k.1))),(6,.p (.int .i64) (k.1:Int))],[]⟩) (λk=>l.length-k.1) ⟨0,By _⟩ (AC [] rfl rfl ?_ ?_) (λk=>?_)
 .exact eN
 .refine eM ?_;rfl
 obtain⟨k,hk⟩:=k;have hn:=Ir d (l.take k);have g:=AAz k l;have hs:=λh:k<l.length=>Ec (Ew d) l ByteArray.empty [] h;simp only;repeat'(first|exact trivial|apply eS rfl|apply AB|refine rX c ?_ ?_|refine rC ?_ ?_<;>intro b<;>try(cases b;done))
 .exact b
 .exact⟨by assumption,by omega⟩
 .exact eV
 .have a:k<l.length:=by exact eV
  have e:Bc d (l.take (k+1))=Ew d (Bc d (l.take k)) (l.getD k ByteArray.empty):=hs a;unfold Ew at e;rw[BY b]at e;refine⟨⟨k+1,by omega⟩,by simp only;omega,AC [] rfl rfl ?_ ?_⟩
  .exact eN
  simp only[e];exact eN
 .exact eV
 .have a:k<l.length:=by exact eV
  have e:Bc d (l.take (k+1))=Ew d (Bc d (l.take k)) (l.getD k ByteArray.empty):=hs a;unfold Ew at e;rw[As (ACO.2 b)]at e;refine⟨⟨k+1,by omega⟩,by simp only;omega,AC [] rfl rfl ?_ ?_⟩
  .exact eN
  simp only[e];exact eN
 have a:l.take k=l:=At (by exact eV);rw[a];exact fI c [.tmp 4]
def oP (d:List AJ) (all:List ByteArray) (i:Nat) (k:Nat):Bool:=(k:Int)==(i:Int)||!AU (J8 d (all.getD i ByteArray.empty)) (all.getD k ByteArray.empty)
def PO (d:List AJ) (all:List ByteArray) (i n:Nat):Bool:=(List.range n).all (oP d all i)
def PP (d:List AJ) (all:List ByteArray) (n:Nat):List ByteArray:=((List.range n).filter λi=>PO d all i all.length).map λi=>all.getD i ByteArray.empty
def A3 (d:List AJ) (l:List ByteArray):List ByteArray:=PP d (Bc d l) (Bc d l).length
theorem tK (d:List AJ) (all:List ByteArray) (n:Nat):PP d all (n+1)=PP d all n++if PO d all n all.length=true then [all.getD n ByteArray.empty] else []:=by
 unfold PP;rw[AAt,ABH,AAF]
 congr 1
 rw[AAr,ABW];split<;>rfl
theorem dT (d:List AJ) (all:List ByteArray) (n:Nat):(PP d all n).length<=n:=by
 unfold PP;rw[aS];exact gO (ABb _ _) sc
theorem kO (d:List AJ) (all:List ByteArray) (i n:Nat):PO d all i (n+1)=(PO d all i n&&oP d all i n):=by
 unfold PO;rw[AAt,ABX];simp
def Lj:AW:={ ins:=[Et,CL],pre:=λ(d,l,_)=>PM d/\List.length d<=256/\List.length l<=100000,out:=λ(d,l,_)=>[.p CL (A3 d l)] }
attribute [local go_sem] Lj
theorem Um:AY Tryz.prog 163 Lj:=by
 refine fK [0,1,4,5,6,7,8,9,10,17,29,47] Tryz.func163 Tryz.ntmps163 (AF dS (AF z8 (AF GZ AH))) ?_;rintro w0 O0 ⟨d,l,u⟩ c-⟨n,f,g⟩;have f:d.length<=256:=f;have g:l.length<=100000:=g;have m:A3 d l=PP d (Bc d l) (Bc d l).length:=rfl;have o:=Ir d l;simp only[Lj,AL];repeat'(first|exact trivial|apply eS rfl|refine rX c ?_ ?_)
 .exact g
 rw[m];generalize Bc d l=all at *;refine AI (ι:={i:Nat//i<=all.length}) (λi=>⟨[(0,.p Et d),(5,.sr 54 T9 0 (PP d all i.1).length),(6,.p CL all),(7,.p (.int .i64) (i.1:Int))],[(54,.arr 9 T9 (PP d all i.1))]⟩) (λi=>all.length-i.1) ⟨0,By _⟩ (AC [(54,.nil)] rfl rfl ?_ ?_) (λi=>?_)
 .refine eM ?_;rfl
 .refine eM ?_;rfl
 obtain⟨i,hi⟩:=i;have q:=dT d all i;have b:=tK d all i;simp only;repeat'(first|exact trivial|apply eS rfl|refine rX c ?_ ?_|refine rC ?_ ?_<;>intro a<;>try(cases a;done))
 .exact⟨a,n,f⟩
 .have h:i<all.length:=by exact eV
  refine AI (ι:={k:Nat//k<=all.length}) (λk=>⟨[(0,.p Et d),(5,.sr 54 T9 0 (PP d all i).length),(6,.p CL all),(7,.p (.int .i64) (i:Int)),(8,.p CL (J8 d (all.getD i ByteArray.empty))),(9,.p .bool (PO d all i k.1)),(10,.p (.int .i64) (k.1:Int))],[(54,.arr 9 T9 (PP d all i))]⟩) (λk=>all.length-k.1) ⟨0,By _⟩ (AC [(54,.nm 54)] rfl rfl ?_ ?_) (λk=>?_)
  .exact eN
  .refine eM ?_;rfl
  obtain⟨k,hk⟩:=k;have j:=kO d all i k;simp only;repeat'(first|exact trivial|apply eS rfl|apply AB|refine rX c ?_ ?_|refine rC ?_ ?_<;>intro a<;>try(cases a;done))
  .exact λ_=>a
  .exact eV
  .have e:k<all.length:=by exact eV
   refine⟨⟨k+1,by omega⟩,by simp only;omega,AC [(54,.nm 54)] rfl rfl ?_ ?_⟩
   .exact eN
   simp only[j];unfold oP;exact eN
  .refine⟨by assumption,?_⟩;simp only[AO];omega
  .exact eV
  .have e:k=all.length:=by exact eV
   subst e;rw[a,BY rfl]at b;refine⟨⟨i+1,by omega⟩,by simp only;omega,AC [(54,.nm 54)] rfl rfl ?_ ?_⟩
   .simp only[b];exact eN
   simp only[b];exact eN
  .exact eV
  have e:k=all.length:=by exact eV
  subst e;rw[a,As sc,AAn]at b;refine⟨⟨i+1,by omega⟩,by simp only;omega,AC [(54,.nm 54)] rfl rfl ?_ ?_⟩
  .simp only[b];exact eN
  simp only[b];exact eN
 have h:i=all.length:=by exact eV
 subst h;refine CK [54] ?_;exact fI c [.tmp 4]
end
section
attribute [local go_sem] J5
def tL (b:List Int) (x:Int):List Int:=b.set (x.tdiv 64).toNat (Ck .or .u64 (b.getD (x.tdiv 64).toNat 0) (Yt .u64 1 (x.tmod 64)))
def vY (l:List Int):List Int:=l.foldl tL (List.replicate 64 0)
def okB (x:Int):Bool:=!(decide (x<0)||decide (4095<x))
def ofF (l:List Int):List Int×Int:=if l.all okB=true then (BN (vY l),0) else ([],2)
theorem PQ (l:List Int):(vY l).length=64:=by
 have key:∀(l b:List Int),(l.foldl tL b).length=b.length:=by
  intro l;induction l with
  | nil=>intro b;rfl
  | cons x l a =>
   intro b;rw[OS,a];simp[tL]
 unfold vY;rw[key];simp
def ofS:AW:={ ins:=[Br],pre:=λ_=>True,out:=λ(l,_)=>[.p BT (ofF l).1,.p C6 (ofF l).2] }
theorem A8Z:AY Tryz.prog 159 ofS:=by
 refine fK [0,2,3,4,5,10,24] Tryz.func159 Tryz.ntmps159 (AF Mf AH) ?_;rintro w0 O0 ⟨l,u⟩ c ⟨⟨g,-⟩,-⟩ -;simp only[AO]at g;simp only[ofS,AL];repeat'(first|exact trivial|apply eS rfl|refine rX c ?_ ?_)
 .simp only[AO];omega
 refine AI (ι:={k:Nat//k<=l.length/\(l.take k).all okB=true}) (λk=>⟨[(0,.p Br l),(4,.sr 6 Qc 0 (vY (l.take k.1)).length),(5,.p (.int .i64) (k.1:Int))],[(6,.arr 205 Qc (vY (l.take k.1)))]⟩) (λk=>l.length-k.1) ⟨0,By _,rfl⟩ (AC [(6,.nm 6)] rfl rfl ?_ ?_) (λk=>?_)
 .refine eM ?_;rfl
 .refine eM ?_;rfl
 obtain⟨k,hk,hf⟩:=k;have i:=PQ (l.take k);have hs:∀h:k<l.length,vY (l.take (k+1))=tL (vY (l.take k)) (l.getD k 0):=λh=>Ec tL l 0 _ h;simp only;repeat'(first|exact trivial|apply eS rfl|apply AB|refine rX c ?_ ?_|refine rC ?_ ?_<;>intro a<;>try(cases a;done))
 .exact⟨a,λ_=>a⟩
 .have b:k<l.length:=by exact eV
  have h1:ofF l=([],2):=by
   unfold ofF;rw[As];intro h;have:=ON.1 h _ (AG l 0 b);unfold okB at this;rw[bY,AAj,TO,TO]at this;rcases a with h|h
   .exact this.1 h
   exact this.2 h
  exact fI c [.tmp 2,.tmp 3] (by rw[h1];exact eR)
 .obtain⟨h0,h1⟩:=a;have d:Int.tdiv (l.getD k 0) 64=l.getD k 0 / 64:=AB5 h0;have f:Int.tmod (l.getD k 0) 64=l.getD k 0 % 64:=ABr h0;rw[d,f,i];refine⟨?_,⟨by decide,?_,?_⟩,?_,⟨by decide,?_,?_⟩,⟨?_,?_⟩,?_,⟨by decide,?_,?_⟩,⟨?_,?_⟩,?_,?_,?_⟩<;>exact eV
 .exact eV
 .have b:k<l.length:=by exact eV
  have e:=hs b;refine⟨⟨k+1,by omega,?_⟩,by simp only;omega,AC [(6,.nm 6)] rfl rfl ?_ ?_⟩
  .rw[Qi l 0 _ b,hf,ABY];unfold okB;rw[bY,AAj,TO,TO];exact⟨AAU.2 a.1,AAU.2 a.2⟩
  .simp only[e];refine eM ?_;rfl
  simp only[e];refine eM ?_;rw[<-e,PQ,PQ]
 have b:l.take k=l:=At (by exact eV);rw[b]at hf ⊢;have h1:ofF l=(BN (vY l),0):=by unfold ofF;rw[BY hf]
 have j:=PQ l;refine CK [6] ?_;repeat'(first|apply eS rfl|refine rX c ?_ ?_)
 .rw[j];decide
 exact fI c [.tmp 2,.tmp 3] (by rw[h1];exact eR)
end
section
attribute [local go_sem] Uj PJ
def kP (l:List (List Int)) (b:List Int):Bool:=l.any λx=>Fs x b
def A73:AW:={ ins:=[SP,BT],pre:=λ_=>True,out:=λ(l,b,_)=>[.p .bool (kP l b)],lend:=true }
theorem A74:AY Tryz.prog 160 A73:=by
 refine fK [0,1,4,5,9,17] Tryz.func160 Tryz.ntmps160 (AF ZT AH) ?_;rintro w0 O0 ⟨l,n,u⟩ a ⟨⟨e,-⟩,-⟩ -;simp only[AO]at e;simp only[A73,AL];repeat'(first|exact trivial|apply eS rfl|refine rX a ?_ ?_)
 refine AI (ι:={k:Nat//k<=l.length/\(l.take k).any (λx=>Fs x n)=false}) (λk=>⟨[(0,.p SP l),(1,.p BT n),(5,.p (.int .i64) (k.1:Int))],[]⟩) (λk=>l.length-k.1) ⟨0,by simp⟩ (eW []) (λk=>?_)
 obtain⟨k,hk,c⟩:=k;repeat'(first|exact trivial|apply eS rfl|apply AB|refine rX a ?_ ?_|refine rC ?_ ?_<;>intro b<;>try(cases b;done))
 .exact eV
 .have d:k<l.length:=by exact eV
  have h1:kP l n=true:=IJ l [] _ d b;exact fI a [.tmp 4] (by rw[h1];exact eR)
 .exact eV
 .have d:k<l.length:=by exact eV
  refine⟨⟨k+1,by exact eV,?_⟩,by simp only;exact eV,AC [] rfl rfl ?_ ?_⟩
  .rw[Me l [] _ d,c];exact b
  .exact eN
  exact eN
 have hk:l.take k=l:=At (by exact eV);rw[hk]at c;have h1:kP l n=false:=c;exact fI a [.tmp 4] (by rw[h1];exact eR)
abbrev AQ:=ByteArray×List Int
abbrev c0:AQ:=(ByteArray.empty,[])
def Kg (l:List AQ) (i j:Int):Bool:=Eb (l.getD j.toNat c0).2 (l.getD i.toNat c0).2
def oQ:AW:={ ins:=[JF,T3,T3],pre:=λ(l,i,j,_)=>((0:Int)<=i/\i<(List.length l:Int))/\((0:Int)<=j/\j<(List.length l:Int))/\(∀x∈(l:List AQ),x.2.length<=100000),out:=λ(l,i,j,_)=>[.p .bool (Kg l i j)],lend:=true }
theorem oT:AY Tryz.prog 117 oQ:=by
 refine fK [0,1,2,6] Tryz.func117 Tryz.ntmps117 (AF Qh AH) ?_;rintro w0 O0 ⟨l,i,j,u⟩ a-⟨hi,b,c⟩;simp only[oQ,AL];repeat'(first|exact trivial|apply eS rfl|refine rX a ?_ ?_)
 .exact⟨b,hi,c _ (AG (l:List AQ) c0 (by exact eV))⟩
 exact fI a [.tmp 6] (by unfold Kg;exact eR)
end
section
attribute [local go_sem] Uj
def KA (s:ByteArray):Nat->List AQ->Int
 | _,[]=>-1
 | k,x :: l=>if AM x.1 s=true then (k:Int) else KA s (k+1) l
def BH (l:List AQ) (s:ByteArray):Int:=KA s 0 l
theorem Xj (s:ByteArray) (l:List AQ) (h:k<l.length):KA s k (l.drop k)=if AM (l.getD k c0).1 s=true then (k:Int) else KA s (k+1) (l.drop (k+1)):=by
 rw[OF h];have e:l.getD k c0=l[k]:=by simp[AS,h]
 rw[e];rfl
def S4:AW:={ ins:=[JF,T9],pre:=λ_=>True,out:=λ(l,s,_)=>[.p T3 (BH l s)],lend:=true }
theorem Xk:AY Tryz.prog 119 S4:=by
 refine fK [0,1,4,5,9,18] Tryz.func119 Tryz.ntmps119 AH ?_;rintro w0 O0 ⟨l,s,u⟩ c ⟨⟨d,-⟩,-⟩ -;simp only[AO]at d;simp only[S4,AL];repeat'(first|exact trivial|apply eS rfl|refine rX c ?_ ?_)
 refine AI (ι:={k:Nat//k<=l.length/\KA s k (l.drop k)=BH l s}) (λk=>⟨[(0,.p JF l),(1,.p T9 s),(5,.p (.int .i64) (k.1:Int))],[]⟩) (λk=>l.length-k.1) ⟨0,By _,rfl⟩ (eW []) (λk=>?_)
 obtain⟨k,hk,hf⟩:=k;simp only;repeat'(first|exact trivial|apply eS rfl|apply AB|refine rX c ?_ ?_|refine rC ?_ ?_<;>intro b<;>try(cases b;done))
 .exact b
 .have a:k<l.length:=by exact eV
  rw[Xj s l a,BY b]at hf;exact fI c [.tmp 4] (by rw[<-hf];exact eR)
 .exact eV
 .have a:k<l.length:=by exact eV
  rw[Xj s l a,As (by rw[b];simp)]at hf;exact⟨⟨k+1,by omega,hf⟩,by simp only;omega,eW []⟩
 have a:l.drop k=[]:=NO (by exact eV);rw[a]at hf;exact fI c [.tmp 4] (by rw[<-hf];first|exact eR|refine Kv ?_;rfl)
end
section
attribute [local go_sem] Uj J5
def PR (s:List Int):Nat->List AQ->Int
 | _,[]=>-1
 | k,x :: l=>if Fs x.2 s=true then (k:Int) else PR s (k+1) l
def Gp (l:List AQ) (b:List Int):Int:=PR (BN b) 0 l
theorem Un (s:List Int) (l:List AQ) (h:k<l.length):PR s k (l.drop k)=if Fs (l.getD k c0).2 s=true then (k:Int) else PR s (k+1) (l.drop (k+1)):=by
 rw[OF h];have e:l.getD k c0=l[k]:=by simp[AS,h]
 rw[e];rfl
def kQ:AW:={ ins:=[JF,BT],pre:=λ(_,b,_)=>List.length b<=100000,out:=λ(l,b,_)=>[.p T3 (Gp l b)],lend:=true }
theorem A00:AY Tryz.prog 110 kQ:=by
 refine fK [0,1,4,5,6,12,21] Tryz.func110 Tryz.ntmps110 (AF Mf (AF ZT AH)) ?_;rintro w0 O0 ⟨l,b,u⟩ d ⟨⟨g,-⟩,-⟩ e;simp only[AO]at g;simp only[kQ,AL];repeat'(first|exact trivial|apply eS rfl|refine rX d ?_ ?_)
 .exact e
 have f:Gp l b=PR (BN b) 0 l:=rfl;rw[f];generalize BN b=s at *;refine AI (ι:={k:Nat//k<=l.length/\PR s k (l.drop k)=PR s 0 l}) (λk=>⟨[(0,.p JF l),(5,.p BT s),(6,.p (.int .i64) (k.1:Int))],[]⟩) (λk=>l.length-k.1) ⟨0,By _,rfl⟩ (eW []) (λk=>?_)
 obtain⟨k,hk,hf⟩:=k;simp only;repeat'(first|exact trivial|apply eS rfl|apply AB|refine rX d ?_ ?_|refine rC ?_ ?_<;>intro c<;>try(cases c;done))
 .exact c
 .have a:k<l.length:=by exact eV
  rw[Un s l a,BY c]at hf;exact fI d [.tmp 4] (by rw[<-hf];exact eR)
 .exact eV
 .have a:k<l.length:=by exact eV
  rw[Un s l a,As (by rw[c];simp)]at hf;exact⟨⟨k+1,by omega,hf⟩,by simp only;omega,eW []⟩
 have a:l.drop k=[]:=NO (by exact eV);rw[a]at hf;exact fI d [.tmp 4] (by rw[<-hf];first|exact eR|refine Kv ?_;rfl)
end
section
attribute [local go_sem] Uj
def dU (s:ByteArray):List (ByteArray×ByteArray)->ByteArray×Bool
 | []=>(ByteArray.empty,false)
 | x :: l=>if AM x.1 s=true then (x.2,true) else dU s l
def C8 (x:AJ) (s:ByteArray):ByteArray×Bool:=dU s x.2.2
theorem Xl (s:ByteArray) (l:List (ByteArray×ByteArray)) (h:k<l.length):dU s (l.drop k)=if AM (l.getD k (ByteArray.empty,ByteArray.empty)).1 s=true then ((l.getD k (ByteArray.empty,ByteArray.empty)).2,true) else dU s (l.drop (k+1)):=by
 rw[OF h];have e:l.getD k (ByteArray.empty,ByteArray.empty)=l[k]:=by simp[AS,h]
 rw[e];rfl
def Zb:AW:={ ins:=[yG,T9],pre:=λ_=>True,out:=λ(x,s,_)=>[.p T9 (C8 x s).1,.p .bool (C8 x s).2],lend:=true }
theorem dV:AY Tryz.prog 149 Zb:=by
 refine fK [0,1,2,4,5,6,11,21] Tryz.func149 Tryz.ntmps149 AH ?_;rintro w0 O0 ⟨⟨nm,sup,a⟩,s,u⟩ d ⟨⟨-,-,f,-⟩,-⟩ -;simp only[AO]at f;simp only[Zb,AL];repeat'(first|exact trivial|apply eS rfl|refine rX d ?_ ?_)
 have e:({ data:=#[] }:ByteArray).size<=AO:=by decide
 rw[BY e];refine AI (ι:={k:Nat//k<=a.length/\dU s (a.drop k)=C8 (nm,sup,a) s}) (λk=>⟨[(1,.p T9 s),(2,.bp 2 [] 0),(6,.p (.int .i64) (k.1:Int))],[(2,.box 65 true [.p T9 nm,.p CL sup,.p T63 a])]⟩) (λk=>a.length-k.1) ⟨0,By _,rfl⟩ (eW [(2,.nm 2)]) (λk=>?_)
 obtain⟨k,hk,hf⟩:=k;simp only;repeat'(first|exact trivial|apply eS rfl|apply AB|refine rX d ?_ ?_|refine rC ?_ ?_<;>intro c<;>try(cases c;done))
 .exact c
 .assumption
 .have b:k<a.length:=by exact eV
  rw[Xl s a b,BY c]at hf;exact fI d [.tmp 4,.tmp 5] (by rw[<-hf];exact eR)
 .exact eV
 .have b:k<a.length:=by exact eV
  rw[Xl s a b,As (by rw[c];simp)]at hf;exact⟨⟨k+1,by omega,hf⟩,by simp only;omega,eW [(2,.nm 2)]⟩
 have b:a.drop k=[]:=NO (by exact eV);rw[b]at hf;rw[BY e];exact fI d [.tmp 4,.tmp 5] (by rw[<-hf];first|exact eR|refine Kv ?_;exact⟨rfl,rfl⟩)
end
section
attribute [local go_sem] kM
def FY (a b:AQ):Bool:=decide (((Hg b.2).length:Int)<((Hg a.2).length:Int))||((Hg a.2).length:Int)==((Hg b.2).length:Int)&&CJ a.1 b.1
def Zc:AW:={ ins:=[ZP,ZP],pre:=λ(a,b,_)=>List.length (a:AQ).2<=100000/\List.length (b:AQ).2<=100000,out:=λ(a,b,_)=>[.p .bool (FY a b)],lend:=true }
theorem tM:AY Tryz.prog 116 Zc:=by
 refine fK [0,1,2,3,4,5,6] Tryz.func116 Tryz.ntmps116 (AF z4 AH) ?_;rintro w0 O0 ⟨⟨c,ac⟩,⟨e,d⟩,u⟩ a-⟨ha,b⟩;simp only[Zc,AL];repeat'(first|exact trivial|apply eS rfl|refine rX a ?_ ?_)
 .exact ha
 .exact b
 exact fI a [.tmp 4] (by unfold FY;exact eR)
end
section
attribute [local go_sem] Za Ip ofS
def N2 (low all:List ByteArray) (n:Nat):List Int:=((List.range n).filter λ(i:Nat)=>AU low (all.getD i ByteArray.empty)).map λ(i:Nat)=>(i:Int)
theorem tN (low all:List ByteArray) (n:Nat):N2 low all (n+1)=N2 low all n++if AU low (all.getD n ByteArray.empty)=true then [(n:Int)] else []:=by
 unfold N2;rw[AAt,ABH,AAF]
 congr 1
 rw[AAr,ABW];split<;>rfl
theorem A01 (low all:List ByteArray) (n:Nat):(N2 low all n).length<=n:=by
 unfold N2;rw[aS];exact gO (ABb _ _) sc
def ET (d:List AJ) (all:List ByteArray) (s:ByteArray):List Int:=(ofF (N2 (Ci d s) all all.length)).1
def A02:AW:={ ins:=[Et,CL,T9],pre:=λ(d,l,_,_)=>List.length d<=256/\List.length l<=100000,out:=λ(d,l,s,_)=>[.p BT (ET d l s)] }
theorem A3x:AY Tryz.prog 113 A02:=by
 refine fK [0,1,2,6,7,8,9,10,18,26] Tryz.func113 Tryz.ntmps113 (AF z9 (AF GZ (AF A8Z AH))) ?_;rintro w0 O0 ⟨d,l,s,u⟩ b-⟨g,e⟩;have e:l.length<=100000:=e;have f:ET d l s=(ofF (N2 (Ci d s) l l.length)).1:=rfl;simp only[A02,AL];repeat'(first|exact trivial|apply eS rfl|refine rX b ?_ ?_)
 .exact g
 rw[f];generalize Ci d s=low at *;refine AI (ι:={n:Nat//n<=l.length}) (λn=>⟨[(0,.p Et d),(1,.p CL l),(2,.p T9 s),(7,.p CL low),(8,.sr 30 T3 0 (N2 low l n.1).length),(9,.p (.int .i64) (n.1:Int))],[(30,.arr 3 T3 (N2 low l n.1))]⟩) (λn=>l.length-n.1) ⟨0,By _⟩ (AC [(30,.nil)] rfl rfl ?_ ?_) (λn=>?_)
 .refine eM ?_;rfl
 .refine eM ?_;rfl
 obtain⟨n,hn⟩:=n;have h:=A01 low l n;have hs:=tN low l n;simp only;repeat'(first|exact trivial|apply eS rfl|apply AB|refine rX b ?_ ?_|refine rC ?_ ?_<;>intro a<;>try(cases a;done))
 .exact a
 .rw[a,BY rfl]at hs;simp only[AO];dsimp only[Ty.den]at *;omega
 .exact eV
 .have c:n<l.length:=by exact eV
  rw[a,BY rfl]at hs;refine⟨⟨n+1,by omega⟩,by simp only;omega,AC [(30,.nm 30)] rfl rfl ?_ ?_⟩
  .simp only[hs];exact eN
  simp only[hs];exact eN
 .exact eV
 .have c:n<l.length:=by exact eV
  rw[a,As sc,AAn]at hs;refine⟨⟨n+1,by omega⟩,by simp only;omega,AC [(30,.nm 30)] rfl rfl ?_ ?_⟩
  .simp only[hs];exact eN
  simp only[hs];exact eN
 have c:n=l.length:=by exact eV
 subst c;refine CK [30] ?_;repeat'(first|exact trivial|apply eS rfl|refine rX b ?_ ?_)
 exact fI b [.tmp 6]
end
section
attribute [local go_sem] ZR
def JJ (o:List ByteArray) (f:ByteArray×ByteArray):List ByteArray:=Dl o f.1
def It (o:List ByteArray) (x:AJ):List ByteArray:=x.2.2.foldl JJ o
def BG (d:List AJ):List ByteArray:=d.foldl It []
theorem Xm (l:List (ByteArray×ByteArray)):∀o:List ByteArray,(l.foldl JJ o).length<=o.length+l.length:=by
 induction l with
 | nil=>intro o;simp
 | cons x l a =>
  intro o;have h1:=a (JJ o x);have b:(JJ o x).length<=o.length+1:=Lh o x.1;simp only[OS,IS];omega
theorem kR {d:List AJ} (h:∀x∈d,x.2.2.length<=256):∀(l:List AJ),(∀x∈l,x∈d)->∀o:List ByteArray,(l.foldl It o).length<=o.length+256*l.length:=by
 intro l;induction l with
 | nil=>intro _ o;simp
 | cons x l c =>
  intro a o;have h1:=c (λy b=>a y (by simp[b])) (It o x);have e:=Xm x.2.2 o;have f:=h x (a x sc);have g:(It o x).length=(x.2.2.foldl JJ o).length:=rfl;simp only[OS,IS];omega
def Uo:AW:={ ins:=[Et],pre:=λ(d,_)=>List.length d<=256/\(∀x∈(d:List AJ),x.2.2.length<=256),out:=λ(d,_)=>[.p CL (BG d)] }
theorem Uq:AY Tryz.prog 108 Uo:=by
 refine fK [0,2,3,4,5,9,19] Tryz.func108 Tryz.ntmps108 (AF Qf AH) ?_;rintro w0 O0 ⟨d,u⟩ c-⟨f,m⟩;have f:d.length<=256:=f;simp only[Uo,AL];repeat'(first|exact trivial|apply eS rfl|refine rX c ?_ ?_)
 refine AI (ι:={i:Nat//i<=d.length}) (λi=>⟨[(0,.p Et d),(3,.p CL (BG (d.take i.1))),(4,.p (.int .i64) (i.1:Int))],[]⟩) (λi=>d.length-i.1) ⟨0,By _⟩ (AC [] rfl rfl ?_ ?_) (λi=>?_)
 .exact eN
 .refine eM ?_;rfl
 obtain⟨i,hi⟩:=i;have l:=kR m (d.take i) (λx h=>AAp h) [];have t:=AAz i d;have hs:=λh:i<d.length=>Ec It d d0 [] h;have g:∀e,BG e=e.foldl It []:=λ_=>rfl;simp only;repeat'(first|exact trivial|apply eS rfl|refine rX c ?_ ?_|refine rC ?_ ?_<;>intro a<;>try(cases a;done))
 .have j:i<d.length:=by exact eV
  have v:=m _ (AG d d0 j);have hs:=hs j;rw[<-g,<-g]at hs;rw[<-g]at l;generalize BG (d.take i)=o at *;refine AI (ι:={k:Nat//k<=(d.getD i d0).2.2.length}) (λk=>⟨[(0,.p Et d),(3,.p CL (((d.getD i d0).2.2.take k.1).foldl JJ o)),(4,.p (.int .i64) (i:Int)),(5,.p (.int .i64) (k.1:Int))],[]⟩) (λk=>(d.getD i d0).2.2.length-k.1) ⟨0,By _⟩ (AC [] rfl rfl ?_ ?_) (λk=>?_)
  .exact eN
  .refine eM ?_;rfl
  obtain⟨k,hk⟩:=k;have r:k<=(d.getD i d0).2.2.length:=hk;have q:=Xm ((d.getD i d0).2.2.take k) o;have s:=AAz k (d.getD i d0).2.2;have n:=λh:k<(d.getD i d0).2.2.length=>Ec JJ (d.getD i d0).2.2 (ByteArray.empty,ByteArray.empty) o h;simp only;repeat'(first|apply eS rfl|apply AB|refine rX c ?_ ?_|refine rC ?_ ?_<;>intro a<;>try(cases a;done))
  .assumption
  .refine⟨by assumption,a,?_⟩;simp only[AAl]at l;dsimp only[Ty.den]at *;omega
  .have h1:(k:Int)<((d.getD i d0).2.2.length:Int):=a;exact eV
  .have b:k<(d.getD i d0).2.2.length:=iF.1 a;have e:=n b;refine⟨⟨k+1,b⟩,by simp only;omega,AC [] rfl rfl ?_ ?_⟩
   .exact eN
   simp only[e];unfold JJ;exact eN
  .have:=f;exact eV
  have b:(d.getD i d0).2.2.take k=(d.getD i d0).2.2:=At (AAe.1 a);have e:BG (d.take (i+1))=((d.getD i d0).2.2.take k).foldl JJ o:=by rw[b];exact hs
  refine⟨⟨i+1,j⟩,by simp only;omega,AC [] rfl rfl ?_ ?_⟩
  .exact eN
  simp only[e];exact eN
 have b:d.take i=d:=At (by exact eV);rw[b];exact fI c [.tmp 2]
end
theorem Xn {d:List AJ} {l:List ByteArray}:∀ {r:List ByteArray} {k:Nat},SR d l k r=0->∀s∈r,0<=Ap d s
 | [],_,_,s,hs=>by cases hs
 | x :: r,k,h,s,hs=>by
  simp only[SR]at h;split at h
  .cases h
  rename_i h1;split at h
  .cases h
  rcases DO.1 hs with rfl|hs
  .omega
  exact Xn h s hs
theorem PS {d:List AJ}:∀ {l:List AJ},J6 d l=0->∀x∈l,∀s∈x.2.1,0<=Ap d s
 | [],_,x,a=>by cases a
 | y :: l,h,x,a=>by
  simp only[J6]at h;split at h
  .rename_i h1;exact absurd h h1
  rename_i h1;rcases DO.1 a with rfl|a
  .exact Xn (GO h1)
  exact PS h x a
theorem A03 {d:List AJ} (h:J7 d=0):PM d:=PS h
theorem Az {d:List AJ} (h:A7 d=0):PM d/\d.length<=256/\Hj d=1/\Cf d=0/\d.length<=(Bh d).length:=by
 unfold A7 at h;split at h
 .rename_i h1;exact absurd h h1
 rename_i h1;split at h
 .rename_i a;exact absurd h a
 rename_i a;split at h
 .rename_i b;exact absurd h b
 rename_i b;split at h
 .cases h
 rename_i c;split at h
 .cases h
 rename_i e;exact⟨A03 (GO b),Rw (GO h1),GO c,GO a,by omega⟩
section
attribute [local go_sem] A73 zY
def GC (l:List (List Int)) (i k:Nat):List (List Int) :=
 if (decide (0<((D5 (l.getD i []) (l.getD k [])).length:Int))&&!kP l (D5 (l.getD i []) (l.getD k [])))=true then l++[D5 (l.getD i []) (l.getD k [])] else l
def GD (i:Nat):Nat->Nat->List (List Int)->List (List Int)
 | 0,_,l=>l
 | n+1,k,l=>if l.length<=256 then GD i n (k+1) (GC l i k) else l
def Hl:Nat->Nat->List (List Int)->List (List Int)
 | 0,_,l=>l
 | n+1,i,l=>if i<l.length/\l.length<=256 then Hl n (i+1) (GD i i 0 l) else l
def Aw (c:List (List Int)):List (List Int):=Hl 257 0 c
theorem dW (a b:List Int):(D5 a b).length<=a.length:=by
 unfold D5 BN;have:=ER .and a b a.length;rw[OR];omega
structure A5G (l:List (List Int)):Prop where
 len:l.length<=257
 wid:∀c∈l,c.length<=64
theorem Lk (h:∀c∈l,c.length<=64) (k:Nat):(l.getD k []).length<=64:=by
 rw[AS];cases hh:l[k]? with
 | none=>simp
 | some x=>exact h x (AAy hh)
theorem dX (h:∀c∈l,c.length<=64) (i k:Nat):∀c∈GC l i k,c.length<=64:=by
 unfold GC;split
 .intro c a;rcases Is.1 a with a|a
  .exact h c a
  have:c=D5 (l.getD i []) (l.getD k []):=by simpa using a
  rw[this];exact gO (dW _ _) (Lk h i)
 exact h
theorem A04 (l:List (List Int)) (i k:Nat):l.length<=(GC l i k).length/\(GC l i k).length<=l.length+1:=by
 unfold GC;split
 .simp
 exact⟨Of _,Nat.le_succ _⟩
def Zd:AW:={ ins:=[SP],pre:=λ(c,_)=>List.length c<=256/\∀x∈(c:List (List Int)),x.length<=64,out:=λ(c,_)=>[.p SP (Aw c)] }
theorem tP:AY Tryz.prog 114 Zd:=by
 refine fK [0,2,3,4,5,6,18,28,48] Tryz.func114 Tryz.ntmps114 (AF kJ (AF A74 AH)) ?_;rintro w0 O0 ⟨c,u⟩ d-⟨n,t⟩;have n:c.length<=256:=n;simp only[Zd,AL];repeat'(first|exact trivial|apply eS rfl|refine rX d ?_ ?_)
 .simp only[AO];dsimp only[Ty.den]at *;omega
 refine AI (ι:={x:Nat×List (List Int)//x.1<=256/\A5G x.2/\Hl (257-x.1) x.1 x.2=Aw c}) (λx=>⟨[(3,.sr 7 BT 0 x.1.2.length),(4,.p (.int .i64) (x.1.1:Int))],[(7,.arr 111 BT x.1.2)]⟩) (λx=>257-x.1.1) ⟨(0,c),by simp,⟨by simp only;omega,t⟩,rfl⟩ (eW [(7,.nm 7)]) (λx=>?_)
 obtain⟨⟨i,l⟩,hi,⟨q,s⟩,f⟩:=x;simp only at hi q s f;simp only;repeat'(first|exact trivial|apply eS rfl|refine rX d ?_ ?_|refine rC ?_ ?_<;>intro a<;>try(cases a;done))
 .have w:i<l.length:=by omega
  have z:l.length<=256:=by omega
  have o:Hl (256-i) (i+1) (GD i i 0 l)=Aw c:=by
   have e:257-i=(256-i)+1:=by omega
   rw[<-f,e];show _=if i<l.length/\l.length<=256 then Hl (256-i) (i+1) (GD i i 0 l) else l
   rw[BY ⟨w,z⟩]
  refine AI (ι:={y:Nat×List (List Int)//y.1<=i/\A5G y.2/\l.length<=y.2.length/\GD i (i-y.1) y.1 y.2=GD i i 0 l}) (λy=>⟨[(3,.sr 7 BT 0 y.1.2.length),(4,.p (.int .i64) (i:Int)),(5,.p (.int .i64) (y.1.1:Int))],[(7,.arr 111 BT y.1.2)]⟩) (λy=>i-y.1.1) ⟨(0,l),by simp,⟨q,s⟩,Of _,rfl⟩ (eW [(7,.nm 7)]) (λy=>?_)
  obtain⟨⟨k,m⟩,hk,⟨g,b⟩,r,hf⟩:=y;simp only at hk g b r hf;simp only;repeat'(first|exact trivial|apply eS rfl|apply AB|refine rX d ?_ ?_|refine rC ?_ ?_<;>intro a<;>try(cases a;done))
  .exact⟨by exact eV,by exact eV,gO (Lk b i) dg⟩
  .simp only[AO];omega
  .omega
  .have e:GC m i k=m++[D5 (m.getD i []) (m.getD k [])]:=by
    unfold GC;rw[BY];rw[An,If,bY];exact a
   have C:=dX b i k;have D:=A04 m i k;refine⟨⟨(k+1,GC m i k),by simp only;omega,⟨by simp only;omega,C⟩,by simp only;omega,?_⟩,by simp only;omega,AC [(7,.nm 7)] rfl rfl ?_ ?_⟩
   .simp only;rw[<-hf,show i-k=(i-(k+1))+1 by omega];show _=if m.length<=256 then GD i (i-(k+1)) (k+1) (GC m i k) else m
    rw[BY O1]
   .simp only[e];exact eN
   simp only[e];exact eN
  .omega
  .have e:GC m i k=m:=by
    unfold GC;rw[As];rw[An,If,bY];intro h;rw[a h.1]at h;exact absurd h.2 sc
   refine⟨⟨(k+1,m),by simp only;omega,⟨g,b⟩,r,?_⟩,by simp only;omega,AC [(7,.nm 7)] rfl rfl ?_ ?_⟩
   .simp only;rw[<-hf,show i-k=(i-(k+1))+1 by omega];show _=if m.length<=256 then GD i (i-(k+1)) (k+1) (GC m i k) else m
    rw[BY O1,e]
   .exact eN
   exact eN
  .omega
  have B:m=GD i i 0 l:=by
   rw[<-hf];cases A:i-k with
   | zero=>rfl
   | succ j =>
    show _=if m.length<=256 then _ else m
    rw[As O1]
  rw[<-B]at o;refine⟨⟨(i+1,m),by simp only;omega,⟨g,b⟩,?_⟩,by simp only;omega,AC [(7,.nm 7)] rfl rfl ?_ ?_⟩
  .simp only;rw[show 257-(i+1)=256-i by omega];exact o
  .exact eN
  exact eN
 have v:l=Aw c:=by
  rw[<-f];cases A:257-i with
  | zero=>rfl
  | succ m =>
   show _=if i<l.length/\l.length<=256 then _ else l
   rw[As O1]
 rw[<-v];refine CK [7] ?_;exact fI d [.tmp 2]
theorem Kw {α:Type} (x y:α):(if ({ data:=#[] }:ByteArray).size<=AO then x else y)=x:=BY (by show 0<=AO;decide)
theorem Kh {α:Type} (a:UInt8) (x y:α):(if ({ data:=#[a] }:ByteArray).size<=AO then x else y)=x:=BY (by show 1<=AO;decide)
theorem cs2 {α:Type} (a b:UInt8) (x y:α):(if ({ data:=#[a,b] }:ByteArray).size<=AO then x else y)=x:=BY (by show 2<=AO;decide)
theorem My {α:Type} (a b c:UInt8) (x y:α):(if ({ data:=#[a,b,c] }:ByteArray).size<=AO then x else y)=x:=BY (by show 3<=AO;decide)
theorem Jc {α:Type} (a b c d:UInt8) (x y:α):(if ({ data:=#[a,b,c,d] }:ByteArray).size<=AO then x else y)=x:=BY (by show 4<=AO;decide)
theorem Iu {α:Type} (a b c d e:UInt8) (x y:α):(if ({ data:=#[a,b,c,d,e] }:ByteArray).size<=AO then x else y)=x:=BY (by show 5<=AO;decide)
theorem NH {α:Type} (a b c d e f:UInt8) (x y:α):(if ({ data:=#[a,b,c,d,e,f] }:ByteArray).size<=AO then x else y)=x:=BY (by show 6<=AO;decide)
theorem cs7 {α:Type} (a b c d e f g:UInt8) (x y:α):(if ({ data:=#[a,b,c,d,e,f,g] }:ByteArray).size<=AO then x else y)=x:=BY (by show 7<=AO;decide)
theorem cs8 {α:Type} (a b c d e f g h:UInt8) (x y:α):(if ({ data:=#[a,b,c,d,e,f,g,h] }:ByteArray).size<=AO then x else y)=x:=BY (by show 8<=AO;decide)
end
section
attribute [local go_sem] Kh
abbrev ST:=ByteArray×Int
abbrev G8:=ByteArray×Int×List ST
abbrev SU:=Int×Int
abbrev Bj:=Int×Int×List ByteArray×List G8×List SU
abbrev e0D:G8:=(ByteArray.empty,0,[])
theorem Mg {α:Type} (f:α->X) (l:List α) (d:α) (h:k<l.length):(l.take (k+1)).map f=(l.take k).map f++[f (l.getD k d)]:=by
 rw[Ag l d h];simp
theorem tk2 {α:Type} (A B:List α) (x y:α):(A++B++[x]).take (A.length+B.length+1)++[y]=A++(B++[x]++[y]):=by
 rw[At (by simp only[Do,IS,AAl];omega)];simp
def H6 (n:Int):Nat->List Int->Int
 | _,[]=>-1
 | k,x :: r=>if x=n then (k:Int) else H6 n (k+1) r
def oU (l:List Int) (n:Int):Int:=H6 n 0 l
theorem A05 (n:Int) (l:List Int) (h:k<l.length):H6 n k (l.drop k)=if l.getD k 0=n then (k:Int) else H6 n (k+1) (l.drop (k+1)):=by
 rw[OF h];have e:l.getD k 0=l[k]:=by simp[AS,h]
 rw[e];rfl
def JK:AW:={ ins:=[Br,T3],pre:=λ_=>True,out:=λ(l,n,_)=>[.p T3 (oU l n)],lend:=true }
attribute [local go_sem] JK
theorem Ur:AY Tryz.prog 90 JK:=by
 refine fK [0,1,4,5,9,17] Tryz.func90 Tryz.ntmps90 AH ?_;rintro w0 O0 ⟨l,n,u⟩ d ⟨⟨f,-⟩,-⟩ -;simp only[AO]at f;simp only[JK,AL];repeat'(first|exact trivial|apply eS rfl|apply AB|refine rX d ?_ ?_|refine rC ?_ ?_<;>intro a<;>try(cases a;done))
 refine AI (ι:={k:Nat//k<=l.length/\H6 n k (l.drop k)=oU l n}) (λk=>⟨[(0,.p Br l),(1,.p T3 n),(5,.p (.int .i64) (k.1:Int))],[]⟩) (λk=>l.length-k.1) ⟨0,By _,rfl⟩ (eW []) (λk=>?_)
 obtain⟨k,hk,b⟩:=k;have e:=λh:k<l.length=>A05 n l h;simp only;repeat'(first|exact trivial|apply eS rfl|apply AB|refine rX d ?_ ?_|refine rC ?_ ?_<;>intro a<;>try(cases a;done))
 .exact a
 .have c:k<l.length:=by exact eV
  rw[e c,BY a]at b;exact fI d [.tmp 4] (by rw[<-b];exact eR)
 .omega
 .have c:k<l.length:=by exact eV
  rw[e c,As a]at b;exact⟨⟨k+1,by omega,b⟩,by simp only;omega,eW []⟩
 have c:l.drop k=[]:=NO (by exact eV);rw[c]at b;exact fI d [.tmp 4] (by rw[<-b];first|exact eR|refine Kv ?_;rfl)
def Ze (s:ByteArray):Bool:=AM s ⟨#[104]⟩||AM s ⟨#[101]⟩||AM s ⟨#[120]⟩||AM s ⟨#[105]⟩
def JL:AW:={ ins:=[T9],pre:=λ_=>True,out:=λ(s,_)=>[.p .bool (Ze s)] }
attribute [local go_sem] JL
theorem Rx:AY Tryz.prog 102 JL:=by
 refine fK [0,2] Tryz.func102 Tryz.ntmps102 AH ?_;rintro w0 O0 ⟨s,u⟩ a - -;simp only[JL,AL];repeat'(first|exact trivial|apply eS rfl|apply AB|refine rX a ?_ ?_|refine rC ?_ ?_<;>intro b<;>try(cases b;done))
 exact fI a [.tmp 2] (by first|exact eR|refine Kv ?_;rfl)
def kS (e:G8):List Int:=e.2.1 :: e.2.2.map (·.2)
def JM (q:SU):List Int:=[q.1,q.2]
def Ex (m:Bj):List Int:=[m.1,m.2.1]++m.2.2.2.1.flatMap kS++m.2.2.2.2.flatMap JM
def Mz (m:Bj):Prop:=True/\m.2.2.2.1.length<=200000/\(∀e∈m.2.2.2.1,e.2.2.length<=100000)/\m.2.2.2.2.length<=200000
theorem IM {α b:Type} (f:α->List b) (B:Nat):∀l:List α,(∀e∈l,(f e).length<=B)->(l.flatMap f).length<=l.length*B
 | [],_=>by simp
 | x :: l,h=>by
  have h1:=h x iT;have c:=IM f B l λe a=>h e (IF _ a);simp only[ABz,Do,IS,AC4];omega
def A3y:AW:={ ins:=[XZ],pre:=λ(m,_)=>Mz m,out:=λ(m,_)=>[.p Br (Ex m)] }
attribute [local go_sem] A3y
def iU (tp ix:Int) (a:List G8) (i:Nat):List Int:=[tp,ix]++(a.take i).flatMap kS
theorem A06 (tp ix:Int) (a:List G8) {i:Nat} (h:i<a.length):iU tp ix a (i+1)=iU tp ix a i++[(a.getD i e0D).2.1]++(a.getD i e0D).2.2.map (·.2):=by
 unfold iU;rw[Ag a e0D h,ABq];simp[kS]
theorem oV {tp ix:Int} {a:List G8} (h1:a.length<=200000) (b:∀e∈a,e.2.2.length<=100000) (i:Nat):(iU tp ix a i).length<=20000200002:=by
 have:=IM kS 100001 (a.take i) λe d=>by
  have:=b e (AAp d);simp only[kS,IS,aS];omega
 have c:(a.take i).length<=200000:=by simp only[OR];omega
 have f:=AAb 100001 c;simp only[iU,Do,IS,AAl];omega
theorem A07:AY Tryz.prog 104 A3y:=by
 refine fK [0,1,2,3,4,5,6,16,36,56] Tryz.func104 Tryz.ntmps104 AH ?_;rintro w0 O0 ⟨⟨tp,ix,m,a,cs⟩,u⟩ d-⟨-,h1,f,n⟩;have h1:a.length<=200000:=h1;have f:∀e∈a,e.2.2.length<=100000:=f;have n:cs.length<=200000:=n;have v:=oV (tp:=tp) (ix:=ix) h1 f;simp only[A3y,AL];repeat'(first|exact trivial|apply eS rfl|apply AB|refine rX d ?_ ?_|refine rC ?_ ?_<;>intro c<;>try(cases c;done))
 refine AI (ι:={i:Nat//i<=a.length}) (λi=>⟨[(1,.bp 1 [] 0),(3,.sr 11 T3 0 (iU tp ix a i.1).length),(4,.p (.int .i64) (i.1:Int))],[(11,.arr 3 T3 (iU tp ix a i.1)),(1,.box 41 true [.p T3 tp,.p T3 ix,.p CL m,.p JE a,.p Ke cs])]⟩) (λi=>a.length-i.1) ⟨0,By _⟩ (AC [(1,.nm 1),(11,.nm 11)] rfl rfl ?_ ?_) (λi=>?_)
 .first|exact eN|refine eM ?_
  rfl
 .first|exact eN|refine eM ?_
  rfl
 obtain⟨i,hi⟩:=i;have A:=v i;have l:=λh:i<a.length=>A06 tp ix a h;simp only;repeat'(first|exact trivial|apply eS rfl|apply AB|refine rX d ?_ ?_|refine rC ?_ ?_<;>intro c<;>try(cases c;done))
 .refine⟨c,?_⟩;simp only[AO];omega
 .have g:i<a.length:=by exact eV
  have l:=l g;have y:(a.getD i (ByteArray.empty,0,[])).2.2.length<=100000:=f _ (AG a e0D g);refine AI (ι:={k:Nat//k<=(a.getD i (ByteArray.empty,0,[])).2.2.length}) (λk=>⟨[(1,.bp 1 [] 0),(3,.sr 11 T3 0 (iU tp ix a i++[(a.getD i (ByteArray.empty,0,[])).2.1]++((a.getD i (ByteArray.empty,0,[])).2.2.take k.1).map (·.2)).length),(4,.p (.int .i64) (i:Int)),(5,.p (.int .i64) (k.1:Int))],[(11,.arr 3 T3 (iU tp ix a i++[(a.getD i (ByteArray.empty,0,[])).2.1]++((a.getD i (ByteArray.empty,0,[])).2.2.take k.1).map (·.2))),(1,.box 41 true [.p T3 tp,.p T3 ix,.p CL m,.p JE a,.p Ke cs])]⟩) (λk=>(a.getD i (ByteArray.empty,0,[])).2.2.length-k.1) ⟨0,By _⟩ (AC [(1,.nm 1),(11,.nm 11)] rfl rfl ?_ ?_) (λk=>?_)
  .first|exact eN|refine eM ?_
  .first|exact eN|refine eM ?_
  obtain⟨k,hk⟩:=k;simp only;repeat'(first|exact trivial|apply eS rfl|apply AB|refine rX d ?_ ?_|refine rC ?_ ?_<;>intro c<;>try(cases c;done))
  .omega
  .refine⟨iF.2 g,c,?_⟩;simp only[AO,aS,OR];omega
  .omega
  .have q:k<(a.getD i (ByteArray.empty,0,[])).2.2.length:=by exact eV
   have b:=Mg (λx:ST=>x.2) (a.getD i (ByteArray.empty,0,[])).2.2 (ByteArray.empty,0) q;refine⟨⟨k+1,q⟩,by simp only;omega,AC [(1,.nm 1),(11,.nm 11)] rfl rfl ?_ ?_⟩
   .simp only[b];first|exact eN|refine eM ?_
    rw[At (by simp only[Do,IS,AAl];omega)];simp only[AA9]
   simp only[b];first|exact eN|refine eM ?_
   rfl
  .omega
  have b:(a.getD i (ByteArray.empty,0,[])).2.2.take k=(a.getD i (ByteArray.empty,0,[])).2.2:=At (by exact eV);refine⟨⟨i+1,g⟩,by simp only;omega,AC [(1,.nm 1),(11,.nm 11)] rfl rfl ?_ ?_⟩
  .simp only[b,l];first|exact eN|refine eM ?_
  simp only[b,l];first|exact eN|refine eM ?_
 have t:iU tp ix a i=[tp,ix]++a.flatMap kS:=by
  have b:a.take i=a:=At (by exact eV);unfold iU;rw[b]
 have s:=λj:Nat=>IM JM 2 (cs.take j) λ_ _=>Of 2;refine AI (ι:={j:Nat//j<=cs.length}) (λj=>⟨[(1,.bp 1 [] 0),(3,.sr 11 T3 0 (iU tp ix a i++(cs.take j.1).flatMap JM).length),(6,.p (.int .i64) (j.1:Int))],[(11,.arr 3 T3 (iU tp ix a i++(cs.take j.1).flatMap JM)),(1,.box 41 true [.p T3 tp,.p T3 ix,.p CL m,.p JE a,.p Ke cs])]⟩) (λj=>cs.length-j.1) ⟨0,By _⟩ (AC [(1,.nm 1),(11,.nm 11)] rfl rfl ?_ ?_) (λj=>?_)
 .first|exact eN|refine eM ?_
 .first|exact eN|refine eM ?_
 obtain⟨j,z⟩:=j;have r:=s j;simp only[OR]at r;simp only;repeat'(first|exact trivial|apply eS rfl|apply AB|refine rX d ?_ ?_|refine rC ?_ ?_<;>intro c<;>try(cases c;done))
 .refine⟨c,?_⟩;simp only[AO];omega
 .refine⟨c,?_⟩;simp only[AO];omega
 .omega
 .have o:j<cs.length:=by exact eV
  have b:(cs.take (j+1)).flatMap JM=(cs.take j).flatMap JM++[(cs.getD j (0,0)).1]++[(cs.getD j (0,0)).2]:=by
   rw[Ag cs (0,0) o,ABq];simp[JM]
  refine⟨⟨j+1,o⟩,by simp only;omega,AC [(1,.nm 1),(11,.nm 11)] rfl rfl ?_ ?_⟩
  .simp only[b];first|exact eN|refine eM ?_
   exact tk2 _ _ _ _
  simp only[b];first|exact eN|refine eM ?_
  omega
 have b:cs.take j=cs:=At (by exact eV);have w:Ex (tp,ix,m,a,cs)=iU tp ix a i++cs.flatMap JM:=by rw[t];rfl
 simp only[b]at *;refine CK [11] ?_;exact fI d [.tmp 2] (by rw[w];exact eR)
def Wo (e:G8):List Int:=[e.2.1]
def Us (m:Bj):List Int:=[m.1]++m.2.2.2.1.flatMap Wo++m.2.2.2.2.flatMap JM
def A3z:AW:={ ins:=[XZ],pre:=λ(m,_)=>Mz m,out:=λ(m,_)=>[.p Br (Us m)] }
attribute [local go_sem] A3z
theorem A75:AY Tryz.prog 105 A3z:=by
 refine fK [0,1,2,3,4,5,13,29] Tryz.func105 Tryz.ntmps105 AH ?_;rintro w0 O0 ⟨⟨tp,ix,e,a,cs⟩,u⟩ d-⟨-,h1,s,f⟩;have h1:a.length<=200000:=h1;have f:cs.length<=200000:=f;have r:=λj:Nat=>IM Wo 1 (a.take j) λ_ _=>Of 1;have m:=λj:Nat=>IM JM 2 (cs.take j) λ_ _=>Of 2;simp only[A3z,AL];repeat'(first|exact trivial|apply eS rfl|apply AB|refine rX d ?_ ?_|refine rC ?_ ?_<;>intro b<;>try(cases b;done))
 refine AI (ι:={i:Nat//i<=a.length}) (λi=>⟨[(1,.bp 1 [] 0),(3,.sr 8 T3 0 ([tp]++(a.take i.1).flatMap Wo).length),(4,.p (.int .i64) (i.1:Int))],[(8,.arr 3 T3 ([tp]++(a.take i.1).flatMap Wo)),(1,.box 41 true [.p T3 tp,.p T3 ix,.p CL e,.p JE a,.p Ke cs])]⟩) (λi=>a.length-i.1) ⟨0,By _⟩ (AC [(1,.nm 1),(8,.nm 8)] rfl rfl ?_ ?_) (λi=>?_)
 .first|exact eN|refine eM ?_
 .first|exact eN|refine eM ?_
 obtain⟨i,hi⟩:=i;have o:=r i;simp only[OR]at o;simp only;repeat'(first|exact trivial|apply eS rfl|apply AB|refine rX d ?_ ?_|refine rC ?_ ?_<;>intro b<;>try(cases b;done))
 .refine⟨b,?_⟩;simp only[AO];omega
 .omega
 .have g:i<a.length:=by exact eV
  have c:(a.take (i+1)).flatMap Wo=(a.take i).flatMap Wo++[(a.getD i (ByteArray.empty,0,[])).2.1]:=by
   rw[Ag a (ByteArray.empty,0,[]) g,ABq];simp[Wo]
  refine⟨⟨i+1,g⟩,by simp only;omega,AC [(1,.nm 1),(8,.nm 8)] rfl rfl ?_ ?_⟩
  .simp only[c];first|exact eN|refine eM ?_
  simp only[c];first|exact eN|refine eM ?_
 have n:a.take i=a:=At (by exact eV);simp only[n]at *;generalize k:a.flatMap Wo=A at *;refine AI (ι:={j:Nat//j<=cs.length}) (λj=>⟨[(1,.bp 1 [] 0),(3,.sr 8 T3 0 ([tp]++A++(cs.take j.1).flatMap JM).length),(5,.p (.int .i64) (j.1:Int))],[(8,.arr 3 T3 ([tp]++A++(cs.take j.1).flatMap JM)),(1,.box 41 true [.p T3 tp,.p T3 ix,.p CL e,.p JE a,.p Ke cs])]⟩) (λj=>cs.length-j.1) ⟨0,By _⟩ (AC [(1,.nm 1),(8,.nm 8)] rfl rfl ?_ ?_) (λj=>?_)
 .first|exact eN|refine eM ?_
 .first|exact eN|refine eM ?_
 obtain⟨j,t⟩:=j;have l:=m j;simp only[OR]at l;simp only;repeat'(first|exact trivial|apply eS rfl|apply AB|refine rX d ?_ ?_|refine rC ?_ ?_<;>intro b<;>try(cases b;done))
 .refine⟨b,?_⟩;simp only[AO];omega
 .refine⟨b,?_⟩;simp only[AO];omega
 .omega
 .have h:j<cs.length:=by exact eV
  have c:(cs.take (j+1)).flatMap JM=(cs.take j).flatMap JM++[(cs.getD j (0,0)).1]++[(cs.getD j (0,0)).2]:=by
   rw[Ag cs (0,0) h,ABq];simp[JM]
  refine⟨⟨j+1,h⟩,by simp only;omega,AC [(1,.nm 1),(8,.nm 8)] rfl rfl ?_ ?_⟩
  .simp only[c];first|exact eN|refine eM ?_
   exact AAS (tp :: ·) (tk2 A _ _ _)
  simp only[c];first|exact eN|refine eM ?_
  rfl
 have c:cs.take j=cs:=At (by exact eV);have q:Us (tp,ix,e,a,cs)=[tp]++A++cs.flatMap JM:=by rw[<-k];rfl
 simp only[c]at *;refine CK [8] ?_;exact fI d [.tmp 2] (by rw[q];exact eR)
def Ej (out:List Int) (x:Int):List Int:=if oU out x<0 then out++[x] else out
def fsL (l:List Int):List Int:=l.foldl Ej []
def fsS:AW:={ ins:=[XZ],pre:=λ(m,_)=>Mz m,out:=λ(m,_)=>[.p Br (fsL (Ex m))] }
attribute [local go_sem] fsS
theorem Zf {m:Bj} (h:Mz m):(Ex m).length<=20000600002:=by
 obtain⟨-,h1,a,b⟩:=h;have e:Ex m=iU m.1 m.2.1 m.2.2.2.1 m.2.2.2.1.length++m.2.2.2.2.flatMap JM:=by simp[Ex,iU]
 have c:=oV (tp:=m.1) (ix:=m.2.1) h1 a m.2.2.2.1.length;have d:=IM JM 2 m.2.2.2.2 λ_ _=>Of 2;rw[e,Do];omega
theorem dY {α:Type} (g:X->α->X) (l:List α) (d:α) (b:X) (h:k<l.length):(l.take (k+1)).foldl g b=g ((l.take k).foldl g b) (l.getD k d):=by
 rw[Ag l d h,ABl];rfl
theorem A09 (l:List Int):∀(out:List Int),(l.foldl Ej out).length<=out.length+l.length:=by
 induction l with
 | nil=>intro out;simp
 | cons x l a =>
  intro out;have h1:=a (Ej out x);have b:(Ej out x).length<=out.length+1:=by
   unfold Ej;split<;>simp
  simp only[OS,IS];omega
theorem A91:AY Tryz.prog 62 fsS:=by
 refine fK [0,1,2,3,4,5,12,21] Tryz.func62 Tryz.ntmps62 (AF A07 (AF Ur AH)) ?_;rintro w0 O0 ⟨m,u⟩ e-d;have d:Mz m:=d;have n:=Zf d;simp only[fsS,AL];repeat'(first|exact trivial|apply eS rfl|apply AB|refine rX e ?_ ?_|refine rC ?_ ?_<;>intro b<;>try(cases b;done))
 .exact d
 have g:(m.1,m.2.1,m.2.2.1,m.2.2.2.1,m.2.2.2.2)=m:=rfl;simp only[g]at *;generalize Ex m=l at *;refine AI (ι:={i:Nat//i<=l.length}) (λi=>⟨[(3,.p Br l),(4,.sr 8 T3 0 ((l.take i.1).foldl Ej []).length),(5,.p (.int .i64) (i.1:Int))],[(8,.arr 3 T3 ((l.take i.1).foldl Ej []))]⟩) (λi=>l.length-i.1) ⟨0,By _⟩ (AC [(8,.nm 8)] rfl rfl ?_ ?_) (λi=>?_)
 .first|exact eN|refine eM ?_
  rfl
 .first|exact eN|refine eM ?_
  rfl
 obtain⟨i,hi⟩:=i;have j:=A09 (l.take i) [];simp only[OR,AAl]at j;have a:=λh:i<l.length=>dY Ej l 0 [] h;generalize f:(l.take i).foldl Ej []=A at *;simp only;repeat'(first|exact trivial|apply eS rfl|apply AB|refine rX e ?_ ?_|refine rC ?_ ?_<;>intro b<;>try(cases b;done))
 .exact b
 .refine⟨by assumption,?_⟩;simp only[AO];omega
 .omega
 .have c:i<l.length:=by exact eV
  have a:=(a c).trans (BY b);refine⟨⟨i+1,c⟩,by simp only;omega,AC [(8,.nm 8)] rfl rfl ?_ ?_⟩
  .simp only[a];first|exact eN|refine eM ?_
  simp only[a];first|exact eN|refine eM ?_
 .omega
 .have c:i<l.length:=by exact eV
  have a:=(a c).trans (As (AAU.2 b));refine⟨⟨i+1,c⟩,by simp only;omega,AC [(8,.nm 8)] rfl rfl ?_ ?_⟩
  .simp only[a];first|exact eN|refine eM ?_
  simp only[a];first|exact eN|refine eM ?_
 have k:fsL l=A:=by rw[<-f,At (by exact eV)];rfl
 refine CK [8] ?_;exact fI e [.tmp 2] (by rw[k];exact eR)
end
section
attribute [local go_sem] JK JL A3y A3z fsS Xe PI Kh Iu
def BC {β:Type} (g:Nat->Option β) (d:β):Nat->Nat->β
 | 0,_=>d
 | k+1,i=>match g i with
  | some r=>r
  | none=>BC g d k (i+1)
theorem CU {a:Type} {g:Nat->Option a} {d r s:a} {n:Nat} (h:BC g d (n-i) i=s) (hi:i<n) (b:g i=some r):s=r:=by
 rw[show n-i=(n-(i+1))+1 by omega]at h;rw[<-h,BC,b]
theorem DB {a:Type} {g:Nat->Option a} {d s:a} {n:Nat} (h:BC g d (n-i) i=s) (hi:i<n) (b:g i=none):BC g d (n-(i+1)) (i+1)=s:=by
 rw[show n-i=(n-(i+1))+1 by omega]at h;rw[<-h,BC,b]
theorem Dx {g:Nat->Option Z} {d s:Z} {n:Nat} (h:BC g d (n-i) i=s) (hi:n<=i):s=d:=by
 rw[show n-i=0 by omega]at h;exact h.symm
theorem JN {c:Type} {g:Nat->Option c} {d:c} (b:∀i r,g i=some r->r≠d):∀k i,BC g d k i=d->∀j,i<=j->j<i+k->g j=none
 | 0,i,_,j,h1,f=>by omega
 | k+1,i,h,j,h1,f=>by
  cases a:g i with
  | some r=>rw[BC,a]at h;exact absurd h (b i r a)
  | none =>
   rw[BC,a]at h;by_cases e:j=i
   .rw[e];exact a
   exact JN b k (i+1) h j O1 O1
def A0a (xs:List ST) (i:Nat):Option Int :=
 if BM (xs.getD i (ByteArray.empty,0)).1 true=false\/AM (xs.getD i (ByteArray.empty,0)).1 ⟨#[76,65,66,69,76]⟩=true then some 1
 else if 0<(i:Int)/\(CJ (xs.getD i (ByteArray.empty,0)).1 (xs.getD (i-1) (ByteArray.empty,0)).1=true\/AM (xs.getD i (ByteArray.empty,0)).1 (xs.getD (i-1) (ByteArray.empty,0)).1=true) then some 3 else none
def dZ (e:G8):Int:=if BM e.1 false=true then BC (A0a e.2.2) 0 e.2.2.length 0 else 1
def A76:AW:={ ins:=[T54],pre:=λ_=>True,out:=λ(e,_)=>[.p C6 (dZ e)],lend:=true }
attribute [local go_sem] A76
theorem A77:AY Tryz.prog 103 A76:=by
 refine fK [0,1,2,3,7,12,31,49] Tryz.func103 Tryz.ntmps103 (AF oL (AF Uh AH)) ?_;rintro w0 O0 ⟨⟨e,f,xs⟩,u⟩ b ⟨⟨-,-,g,-⟩,-⟩ -;simp only[AO]at g;simp only[A76,AL];repeat'(first|exact trivial|apply eS rfl|apply AB|refine rX b ?_ ?_|refine rC ?_ ?_<;>intro a<;>try(cases a;done))
 .have h:dZ (e,f,xs)=1:=As (by rw[a];simp);exact fI b [.tmp 2] (by rw[h];exact eR)
 have hn:BM e false=true:=a;refine AI (ι:={i:Nat//i<=xs.length/\BC (A0a xs) 0 (xs.length-i) i=dZ (e,f,xs)}) (λi=>⟨[(1,.bp 1 [] 0),(3,.p (.int .i64) (i.1:Int))],[(1,.box 54 true [.p T9 e,.p T3 f,.p T52 xs])]⟩) (λi=>xs.length-i.1) ⟨0,By _,(BY hn).symm⟩ (AC [(1,.nm 1)] rfl rfl ?_ ?_) (λi=>?_)
 .first|exact eN|refine eM ?_
 .first|exact eN|refine eM ?_
 obtain⟨i,hi,d⟩:=i;have h1:((i:Int)-1).toNat=i-1:=by omega
 simp only;repeat'(first|exact trivial|apply eS rfl|apply AB|refine rX b ?_ ?_|refine rC ?_ ?_<;>intro a<;>try(cases a;done))
 all_goals try simp only[h1]at a
 .exact⟨a,λ_=>a⟩
 .rw[CU d (by exact eV) (BY a)];exact fI b [.tmp 2]
 .exact⟨λ_=>by exact eV,λ_=>by exact eV,λ_=>by exact eV⟩
 .rename_i c;rw[CU d (by exact eV) ((As (by rw[c.1,c.2];simp)).trans (BY a))];exact fI b [.tmp 2]
 .omega
 .rename_i c;refine⟨⟨i+1,by exact eV,DB d (by exact eV) ((As (by rw[c.1,c.2];simp)).trans (As λq=>?_))⟩,by simp only;omega,AC [(1,.nm 1)] rfl rfl ?_ ?_⟩
  .obtain⟨j,k⟩:=a q.1;rw[j,k]at q;simp at q
  .first|exact eN|refine eM ?_
  first|exact eN|refine eM ?_
 rw[Dx d (by exact eV)];exact fI b [.tmp 2]
def tQ (a:List ByteArray) (i:Nat):Option Int:=if Ze (a.getD i ByteArray.empty)=true then none else some 1
def d5 (a:List G8) (i:Nat):Option Int:=if dZ (a.getD i (ByteArray.empty,0,[]))=0 then none else some (dZ (a.getD i (ByteArray.empty,0,[])))
def kT (n:Int) (l:List Int) (i:Nat):Option Int:=if l.getD i 0<0\/n<=l.getD i 0 then some 2 else none
def A3A (a:List ByteArray) (l:List Int) (i:Nat):Option Int:=if AM (a.getD (l.getD i 0).toNat ByteArray.empty) ⟨#[104]⟩=true then none else some 2
def FZ (m:Bj):Int :=
 if 16<(m.2.2.2.1.length:Int)\/16<(m.2.2.2.2.length:Int)\/256<(m.2.2.1.length:Int) then 7
 else if BC (tQ m.2.2.1) 0 m.2.2.1.length 0≠0 then 1
 else if BC (d5 m.2.2.2.1) 0 m.2.2.2.1.length 0≠0 then BC (d5 m.2.2.2.1) 0 m.2.2.2.1.length 0
 else if BC (kT m.2.2.1.length (Ex m)) 0 (Ex m).length 0≠0 then 2
 else BC (A3A m.2.2.1 (Us m)) 0 (Us m).length 0
def kU:AW:={ ins:=[XZ],pre:=λ(m,_)=>Mz m,out:=λ(m,_)=>[.p C6 (FZ m)] }
theorem A3B (m:Bj):∀x∈Us m,x∈Ex m:=by
 intro x a;simp only[Us,Ex,Is,ABe,DO,Wo,kS]at a ⊢;rcases a with (a|⟨e,b,a⟩)|a
 .exact .inl (.inl (.inl (by simpa using a)))
 .exact .inl (.inr ⟨e,b,.inl (by simpa using a)⟩)
 exact .inr a
theorem oW {l:List Int} (h:BC (kT n l) 0 l.length 0=0):∀x∈l,0<=x/\x<n:=by
 intro x c;obtain⟨j,b,rfl⟩:=AAq.1 c;have h1:=JN (λi r a=>by unfold kT at a;split at a<;>cases a;decide) _ 0 h j (By _) O1;unfold kT at h1;split at h1
 .cases h1
 rename_i q;have e:l.getD j 0=l[j]:=by simp[AS,b]
 rw[e]at q;omega
theorem A0b:AY Tryz.prog 61 kU:=by
 refine fK [0,1,2,3,4,5,6,7,8,9,25,30,39,44,54,61,78,84,95] Tryz.func61 Tryz.ntmps61 (AF A07 (AF A75 (AF Rx (AF A77 AH)))) ?_;rintro w0 O0 ⟨⟨tp,ix,a,b,cs⟩,u⟩ e ⟨⟨-,-,⟨h0,-⟩,-,-⟩,-⟩ g;have g:Mz (tp,ix,a,b,cs):=g;obtain⟨-,h1,A,m⟩:=id g;simp only[AO]at h0;have h1:b.length<=200000:=h1;have m:cs.length<=200000:=m;have k:FZ (tp,ix,a,b,cs)=if 16<(b.length:Int)\/16<(cs.length:Int)\/256<(a.length:Int) then 7 else if BC (tQ a) 0 a.length 0≠0 then 1 else if BC (d5 b) 0 b.length 0≠0 then BC (d5 b) 0 b.length 0
  else if BC (kT a.length (Ex (tp,ix,a,b,cs))) 0 (Ex (tp,ix,a,b,cs)).length 0≠0 then 2 else BC (A3A a (Us (tp,ix,a,b,cs))) 0 (Us (tp,ix,a,b,cs)).length 0:=rfl
 have F:=Zf g;have B:(Us (tp,ix,a,b,cs)).length<=600001:=by
  have I:=IM Wo 1 b λ_ _=>Of 1;have J:=IM JM 2 cs λ_ _=>Of 2;simp only[Us,Do,IS,AAl];omega
 simp only[kU,AL];repeat'(first|exact trivial|apply eS rfl|apply AB|refine rX e ?_ ?_|refine rC ?_ ?_<;>intro c<;>try(cases c;done))
 .rw[k,BY O1];exact fI e [.tmp 2]
 rw[k,As O1];clear k;generalize t:BC (tQ a) 0 a.length 0=V;generalize s:BC (d5 b) 0 b.length 0=R;generalize r:Ex (tp,ix,a,b,cs)=ol at *;generalize o:Us (tp,ix,a,b,cs)=f at *;have y:∀x∈f,x∈ol:=by rw[<-r,<-o];exact A3B _
 generalize h:BC (kT a.length ol) 0 ol.length 0=C;generalize v:BC (A3A a f) 0 f.length 0=H;refine AI (ι:={i:Nat//i<=a.length/\BC (tQ a) 0 (a.length-i) i=V}) (λi=>⟨[(1,.bp 1 [] 0),(3,.p (.int .i64) (i.1:Int))],[(1,.box 41 true [.p T3 tp,.p T3 ix,.p CL a,.p JE b,.p Ke cs])]⟩) (λi=>a.length-i.1) ⟨0,By _,t⟩ (AC [(1,.nm 1)] rfl rfl ?_ ?_) (λi=>?_)
 .first|exact eN|refine eM ?_
 .first|exact eN|refine eM ?_
 obtain⟨i,hi,d⟩:=i;simp only;repeat'(first|exact trivial|apply eS rfl|apply AB|refine rX e ?_ ?_|refine rC ?_ ?_<;>intro c<;>try(cases c;done))
 .exact c
 .rw[CU d (by exact eV) (As (by rw[c];simp)),BY dg];exact fI e [.tmp 2]
 .omega
 .refine⟨⟨i+1,by exact eV,DB d (by exact eV) (BY c)⟩,by simp only;omega,AC [(1,.nm 1)] rfl rfl ?_ ?_⟩
  .first|exact eN|refine eM ?_
  first|exact eN|refine eM ?_
 rw[Dx d (by exact eV),As dg];clear t d;refine AI (ι:={j:Nat//j<=b.length/\BC (d5 b) 0 (b.length-j) j=R}) (λj=>⟨[(1,.bp 1 [] 0),(4,.p (.int .i64) (j.1:Int))],[(1,.box 41 true [.p T3 tp,.p T3 ix,.p CL a,.p JE b,.p Ke cs])]⟩) (λj=>b.length-j.1) ⟨0,By _,s⟩ (AC [(1,.nm 1)] rfl rfl ?_ ?_) (λj=>?_)
 .first|exact eN|refine eM ?_
 .first|exact eN|refine eM ?_
 obtain⟨j,D,d⟩:=j;simp only;repeat'(first|exact trivial|apply eS rfl|apply AB|refine rX e ?_ ?_|refine rC ?_ ?_<;>intro c<;>try(cases c;done))
 .exact c
 .rw[CU d (by exact eV) (As c),BY c];exact fI e [.tmp 2]
 .omega
 .refine⟨⟨j+1,by exact eV,DB d (by exact eV) (BY (by simpa using c))⟩,by simp only;omega,AC [(1,.nm 1)] rfl rfl ?_ ?_⟩
  .first|exact eN|refine eM ?_
  first|exact eN|refine eM ?_
 .exact g
 simp only[r]at *;rw[Dx d (by exact eV),As dg];clear s d;refine AI (ι:={l:Nat//l<=ol.length/\BC (kT a.length ol) 0 (ol.length-l) l=C}) (λl=>⟨[(1,.bp 1 [] 0),(6,.p Br ol),(7,.p (.int .i64) (l.1:Int))],[(1,.box 41 true [.p T3 tp,.p T3 ix,.p CL a,.p JE b,.p Ke cs])]⟩) (λl=>ol.length-l.1) ⟨0,By _,h⟩ (AC [(1,.nm 1)] rfl rfl ?_ ?_) (λl=>?_)
 .first|exact eN|refine eM ?_
 .first|exact eN|refine eM ?_
 obtain⟨l,E,d⟩:=l;simp only;repeat'(first|exact trivial|apply eS rfl|apply AB|refine rX e ?_ ?_|refine rC ?_ ?_<;>intro c<;>try(cases c;done))
 .exact⟨c,λ_=>c⟩
 .rw[CU d (by exact eV) (BY c),BY dg];exact fI e [.tmp 2]
 .omega
 .refine⟨⟨l+1,by exact eV,DB d (by exact eV) (As O1)⟩,by simp only;omega,AC [(1,.nm 1)] rfl rfl ?_ ?_⟩
  .first|exact eN|refine eM ?_
  first|exact eN|refine eM ?_
 .exact g
 have n:=Dx d (by exact eV);rw[n,As dg];have w:∀x∈f,0<=x/\x<(a.length:Int):=λx z=>oW (h.trans n) x (y x z);simp only[o]at *;clear d h;refine AI (ι:={q:Nat//q<=f.length/\BC (A3A a f) 0 (f.length-q) q=H}) (λq=>⟨[(1,.bp 1 [] 0),(8,.p Br f),(9,.p (.int .i64) (q.1:Int))],[(1,.box 41 true [.p T3 tp,.p T3 ix,.p CL a,.p JE b,.p Ke cs])]⟩) (λq=>f.length-q.1) ⟨0,By _,v⟩ (AC [(1,.nm 1)] rfl rfl ?_ ?_) (λq=>?_)
 .first|exact eN|refine eM ?_
 .first|exact eN|refine eM ?_
 obtain⟨q,G,d⟩:=q;simp only;repeat'(first|exact trivial|apply eS rfl|apply AB|refine rX e ?_ ?_|refine rC ?_ ?_<;>intro c<;>try(cases c;done))
 .refine⟨c,w _ ?_⟩;exact AG f 0 (by exact eV)
 .rw[CU d (by exact eV) (As (by rw[c];simp))];exact fI e [.tmp 2]
 .omega
 .refine⟨⟨q+1,by exact eV,DB d (by exact eV) (BY c)⟩,by simp only;omega,AC [(1,.nm 1)] rfl rfl ?_ ?_⟩
  .first|exact eN|refine eM ?_
  first|exact eN|refine eM ?_
 rw[Dx d (by exact eV)];exact fI e [.tmp 2]
end
section
attribute [local go_sem] JK fsS kU Kh Iu
def A3C (l:List Int) (i:Nat):Option Int:=if l.getD i 0=i then none else some 3
def N3 (m:Bj):Int:=if FZ m≠0 then FZ m else if (fsL (Ex m)).length≠m.2.2.1.length then 3 else BC (A3C (fsL (Ex m))) 0 (fsL (Ex m)).length 0
def Qm:AW:={ ins:=[XZ],pre:=λ(m,_)=>Mz m,out:=λ(m,_)=>[.p C6 (N3 m)] }
theorem d6:AY Tryz.prog 26 Qm:=by
 refine fK [0,1,2,3,4,5,9,18,22,30] Tryz.func26 Tryz.ntmps26 (AF A0b (AF A91 AH)) ?_;rintro w0 O0 ⟨m,u⟩ c-e;have e:Mz m:=e;have k:=Zf e;have j:=A09 (Ex m) [];have f:N3 m=if FZ m≠0 then FZ m else if (fsL (Ex m)).length≠m.2.2.1.length then 3 else BC (A3C (fsL (Ex m))) 0 (fsL (Ex m)).length 0:=rfl
 have d:(m.1,m.2.1,m.2.2.1,m.2.2.2.1,m.2.2.2.2)=m:=rfl;have h:(Ex m).foldl Ej []=fsL (Ex m):=rfl;simp only[h,AAl]at j;simp only[Qm,AL];repeat'(first|exact trivial|apply eS rfl|apply AB|refine rX c ?_ ?_|refine rC ?_ ?_<;>intro a<;>try(cases a;done))
 all_goals try simp only[d]at *
 .exact e
 .rw[f,BY a];exact fI c [.tmp 2]
 .exact e
 .rename_i b;have b:FZ m=0:=by simpa using b
  rw[f,As (by rw[b];simp),BY (by exact eV)];exact fI c [.tmp 2]
 rename_i b;have b:FZ m=0:=by simpa using b
 have hn:((fsL (Ex m)).length:Int)=(m.2.2.1.length:Int):=by simpa using a
 rw[f,As (by rw[b];simp),As O1];clear f;generalize fsL (Ex m)=l at *;generalize g:BC (A3C l) 0 l.length 0=S;refine AI (ι:={i:Nat//i<=l.length/\BC (A3C l) 0 (l.length-i) i=S}) (λi=>⟨[(4,.p Br l),(5,.p (.int .i64) (i.1:Int))],[]⟩) (λi=>l.length-i.1) ⟨0,By _,g⟩ (eW []) (λi=>?_)
 obtain⟨i,hi,d⟩:=i;simp only;repeat'(first|exact trivial|apply eS rfl|apply AB|refine rX c ?_ ?_|refine rC ?_ ?_<;>intro a<;>try(cases a;done))
 .exact a
 .rw[CU d (by exact eV) (As a)];exact fI c [.tmp 2]
 .omega
 .exact⟨⟨i+1,by exact eV,DB d (by exact eV) (BY (by simpa using a))⟩,by simp only;omega,eW []⟩
 rw[Dx d (by exact eV)];exact fI c [.tmp 2]
end
def BE (b:List Int) (i:Nat):Bool:=(b.getD (i / 64) 0).toNat.testBit (i % 64)
def U64 (x:Int):Prop:=0<=x/\x<18446744073709551616
theorem FF {x:Int} (h:U64 x):(BitVec.ofInt 64 x).toNat=x.toNat:=by
 rw[BitVec.toNat_ofInt];have h1:=h.1;have a:=h.2;rw[Int.emod_eq_of_lt h1 (by simpa using a)]
theorem PT {n:Nat} (h:n<18446744073709551616):IntKind.u64.wrap (n:Int)=n:=Js (by rw[Jy];omega)
theorem A3D {x:Int} (a:U64 x) (b:U64 y):Ck .or .u64 x y=((x.toNat ||| y.toNat:Nat):Int):=by
 have h1:(BitVec.ofInt IntKind.u64.bits x ||| BitVec.ofInt IntKind.u64.bits y).toNat=x.toNat ||| y.toNat:=by
  rw[BitVec.toNat_or];show (BitVec.ofInt 64 x).toNat ||| (BitVec.ofInt 64 y).toNat=_
  rw[FF a,FF b]
 unfold Ck;simp only;rw[h1];have e:(18446744073709551616:Nat)=2 ^ 64:=by decide
 refine PT ?_;rw[e];refine Nat.or_lt_two_pow ?_ ?_
 .have:=a.2;have:=a.1;omega
 have:=b.2;have:=b.1;omega
theorem Hm {x:Int} (a:U64 x) (b:U64 y):Ck .and .u64 x y=((x.toNat &&& y.toNat:Nat):Int):=by
 have h1:(BitVec.ofInt IntKind.u64.bits x &&& BitVec.ofInt IntKind.u64.bits y).toNat=x.toNat &&& y.toNat:=by
  rw[BitVec.toNat_and];show (BitVec.ofInt 64 x).toNat &&& (BitVec.ofInt 64 y).toNat=_;rw[FF a,FF b]
 unfold Ck;simp only;rw[h1];refine PT (ACp ACl ?_);have:=a.2;have:=a.1;omega
theorem Qn {x:Int}:Ck .andNot .u64 x y=((BitVec.ofInt 64 x &&& ~~~BitVec.ofInt 64 y).toNat:Int):=by
 show IntKind.u64.wrap ((BitVec.ofInt 64 x &&& ~~~BitVec.ofInt 64 y).toNat:Int)=_;exact PT (BitVec.isLt _)
theorem Ry {x:Int} (d:U64 x) (e:U64 y) (h:Ck .andNot .u64 x y=0) {r:Nat} (c:r<64) (b:x.toNat.testBit r=true):y.toNat.testBit r=true:=by
 rw[Qn]at h;have h1:(BitVec.ofInt 64 x &&& ~~~BitVec.ofInt 64 y).toNat=0:=by omega
 have a:(BitVec.ofInt 64 x &&& ~~~BitVec.ofInt 64 y).toNat.testBit r=false:=by rw[h1];exact Nat.zero_testBit r
 rw[ABy,BitVec.getLsbD_and,BitVec.getLsbD_not,<-ABy,<-ABy,FF d,FF e,b]at a;simpa[c] using a
theorem Rz {x:Int}:Ck .andNot .u64 x x=0:=by
 rw[Qn];simp
theorem N4 {b:List Int}:∀ {n:Nat},∀k,CY b n<=k->k<n->b.getD k 0=0
 | 0,k,_,h=>by omega
 | n+1,k,h1,c=>by
  unfold CY at h1;split at h1
  .rename_i a;by_cases hk:k=n
   .rw[hk];exact a
   exact N4 k h1 O1
  omega
theorem PU (b:List Int) (k:Nat):(BN b).getD k 0=b.getD k 0:=by
 unfold BN;by_cases h:k<CY b b.length
 .simp[AS,AAg,h]
 have h1:(List.take (CY b b.length) b).getD k 0=0:=by
  rw[AS,AAg,As h];rfl
 rw[h1];by_cases a:k<b.length
 .exact(N4 k O1 a).symm
 rw[AS,oS O1];rfl
theorem N5 (b:List Int) (i:Nat):BE (BN b) i=BE b i:=by unfold BE;rw[PU]
def Hn (b:List Int):Prop:=∀x∈b,U64 x
theorem BJ {b:List Int} (h:Hn b) (k:Nat):U64 (b.getD k 0):=by
 rw[AS];cases hh:b[k]? with
 | none=>exact⟨by simp,by simp⟩
 | some x=>exact h x (AAy hh)
theorem N6 {b:List Int} (h:Hn b):Hn (BN b):=λx a=>h x (AAp a)
theorem HK (b:List Int) (k:Nat):Fq b (k:Int)=b.getD k 0:=by
 unfold Fq;split
 .simp
 rename_i h;rw[AS,oS O1];rfl
theorem Mh (op:BinOp) (a b:List Int) {n k:Nat} (h:k<n):(GA op a b n).getD k 0=Ck op .u64 (a.getD k 0) (b.getD k 0):=by
 unfold GA;rw[AS,AAw,ABp h];show Ck op .u64 (a.getD k 0) (Fq b (k:Int))=_;rw[HK]
theorem Zg (h:Eb a b=true) (hk:k<a.length):Ck .andNot .u64 (a.getD k 0) (b.getD k 0)=0:=by
 unfold Eb Qg BN at h;have h1:(List.take (CY (GA .andNot a b a.length) (GA .andNot a b a.length).length) (GA .andNot a b a.length)).length=0:=by
  have:=AAc.1 h;omega
 rw[OR,ER]at h1;have d:=Ui (GA .andNot a b a.length) a.length;have c:=N4 (b:=GA .andNot a b a.length) (n:=a.length) k O1 hk;rw[Mh _ _ _ hk]at c;exact c
theorem Ll (ha:Hn a) (c:Hn b) (h:Eb a b=true) {i:Nat} (hi:BE a i=true):BE b i=true:=by
 by_cases hk:i / 64<a.length
 .exact Ry (BJ ha _) (BJ c _) (Zg h hk) (ACN _ dg) hi
 exfalso;unfold BE at hi;rw[AS,oS O1]at hi;simp at hi
theorem Qo {b:List Int}:∀ {n:Nat},(∀k,k<n->b.getD k 0=0)->CY b n=0
 | 0,_=>rfl
 | n+1,h=>by
  unfold CY;rw[BY (h n O1)];exact Qo λk hk=>h k O1
theorem d7 (a:List Int):Eb a a=true:=by
 unfold Eb Qg BN;have h1:CY (GA .andNot a a a.length) (GA .andNot a a a.length).length=0:=by
  rw[ER];exact Qo λk hk=>by rw[Mh _ _ _ hk];exact Rz
 rw[h1];rfl
theorem d8 (a:List Int):DG a a=true:=by unfold DG;rw[d7];rfl
theorem A3E {b:List Int} (j:Hn b) (l:b.length=64) {x:Int} (h0:0<=x) (h1:x<=4095) (i:Nat):BE (tL b x) i=(BE b i||decide (x=(i:Int))):=by
 have d:Int.tdiv x 64=x / 64:=AB5 h0;have e:Int.tmod x 64=x % 64:=ABr h0;obtain⟨n,rfl⟩:∃n:Nat,x=(n:Int):=⟨x.toNat,by omega⟩;have hs:Yt .u64 1 ((n:Int) % 64)=((2 ^ (n % 64):Nat):Int):=by
  unfold Yt;have f:min ((n:Int) % 64).toNat IntKind.u64.bits=n % 64:=by
   have:((n:Int) % 64).toNat=n % 64:=by omega
   rw[this];have:IntKind.u64.bits=64:=rfl;omega
  rw[f,Int.one_mul];have:(2:Int) ^ (n % 64)=((2 ^ (n % 64):Nat):Int):=by simp
  rw[this];refine PT ?_;have a:(2:Nat) ^ (n % 64)<2 ^ 64:=Nat.pow_lt_pow_right dg (ACN _ dg);exact a
 have hu:U64 (Yt .u64 1 ((n:Int) % 64)):=by
  rw[hs];have a:(2:Nat) ^ (n % 64)<2 ^ 64:=Nat.pow_lt_pow_right dg (ACN _ dg);have g:(2:Nat) ^ 64=18446744073709551616:=by decide
  refine⟨AAh _,?_⟩;rw[g]at a;exact iF.2 a
 have hn:((n:Int) / 64).toNat=n / 64:=by omega
 unfold tL BE;rw[d,e,hn];by_cases c:i / 64=n / 64
 .have k:n / 64<b.length:=by omega
  rw[c];have:(b.set (n / 64) (Ck .or .u64 (b.getD (n / 64) 0) (Yt .u64 1 ((n:Int) % 64)))).getD (n / 64) 0=Ck .or .u64 (b.getD (n / 64) 0) (Yt .u64 1 ((n:Int) % 64)):=by
   simp[AS,k]
  rw[this,A3D (BJ j _) hu,hs];simp only[iN,Nat.testBit_or,Nat.testBit_two_pow]
  congr 1
  rw[decide_eq_decide];omega
 have:(b.set (n / 64) (Ck .or .u64 (b.getD (n / 64) 0) (Yt .u64 1 ((n:Int) % 64)))).getD (i / 64) 0=b.getD (i / 64) 0:=by
  simp[AS,AAM,ACQ c]
 rw[this];have:decide ((n:Int)=(i:Int))=false:=by
  rw[TO];intro h;exact c O1
 rw[this,ABZ]
theorem A3F {b:List Int} (c:Hn b) (x:Int):Hn (tL b x):=by
 intro y a;unfold tL at a;rcases AAV a with h|h
 .exact c y h
 rw[h];have:=MQ .u64 ((BitVec.ofInt IntKind.u64.bits (b.getD (x.tdiv 64).toNat 0) ||| BitVec.ofInt IntKind.u64.bits (Yt .u64 1 (x.tmod 64))).toNat:Int);rw[Jy]at this;exact⟨this.1,by have:=this.2;show _<_;exact ACx this dg⟩
theorem A3G {l:List Int} (h:l.all okB=true) (i:Nat):BE (vY l) i=decide ((i:Int)∈l)/\Hn (vY l):=by
 have key:∀(l b:List Int),l.all okB=true->Hn b->b.length=64->BE (l.foldl tL b) i=(BE b i||decide ((i:Int)∈l))/\Hn (l.foldl tL b):=by
  intro l;induction l with
  | nil=>intro b _ a _;simp[a]
  | cons x l m =>
   intro b c a d;rw[ABj,An]at c;have e:=c.1;unfold okB at e;rw[bY,AAj,TO,TO]at e;obtain⟨f,g⟩:=m (tL b x) c.2 (A3F a x) (by simp[tL,d]);rw[OS];refine⟨?_,g⟩;rw[f,A3E a d O1 O1,Bool.or_assoc]
   congr 1
   rw[<-Bool.decide_or,decide_eq_decide,DO,eq_comm]
 have j:Hn (List.replicate 64 (0:Int)):=by
  intro y k;rw[(List.mem_replicate.1 k).2];exact⟨by decide,by decide⟩
 have h1:=key l (List.replicate 64 0) h j sc;refine⟨?_,h1.2⟩;unfold vY;rw[h1.1];have:BE (List.replicate 64 (0:Int)) i=false:=by
  unfold BE;have:(List.replicate 64 (0:Int)).getD (i / 64) 0=0:=by
   rw[AS,ABi];split<;>rfl
  rw[this];simp
 rw[this,Bool.false_or]
theorem A0d {low all:List ByteArray} {n:Nat}:((i:Int)∈N2 low all n)↔i<n/\AU low (all.getD i ByteArray.empty)=true:=by
 unfold N2;rw[IN];constructor
 .rintro⟨j,a,e⟩;have:j=i:=by omega
  subst this;rw[AAW,tO]at a;exact a
 rintro⟨h1,b⟩;exact⟨i,by rw[AAW,tO];exact⟨h1,b⟩,rfl⟩
theorem A3H {low all:List ByteArray} {n:Nat} (hn:n<=4096):(N2 low all n).all okB=true:=by
 rw[ON];intro x a;unfold N2 at a;obtain⟨j,b,rfl⟩:=IN.1 a;rw[AAW,tO]at b;unfold okB;rw[bY,AAj,TO,TO];exact⟨by omega,by omega⟩
theorem B6 {d:List AJ} {all:List ByteArray} (c:all.length<=4096) (s:ByteArray) (i:Nat):(BE (ET d all s) i=true↔i<all.length/\AU (Ci d s) (all.getD i ByteArray.empty)=true)/\Hn (ET d all s)/\(ET d all s).length<=64:=by
 have h1:=A3H (low:=Ci d s) (all:=all) c;have b:=A3G h1 i;have a:ET d all s=BN (vY (N2 (Ci d s) all all.length)):=by
  unfold ET ofF;rw[BY h1]
 refine⟨?_,?_,?_⟩
 .rw[a,N5,b.1,If,A0d]
 .rw[a];exact N6 b.2
 rw[a];unfold BN;have:=PQ (N2 (Ci d s) all all.length);rw[OR];omega
theorem X1 (d:List AJ) {t:ByteArray} (h:AM s t=true):Ap d s=Ap d t:=by
 have key:∀(l:List AJ) (k:Nat),Cs s k l=Cs t k l:=by
  intro l;induction l with
  | nil=>intro k;rfl
  | cons x l a =>
   intro k;simp only[Cs];have:AM x.1 s=AM x.1 t:=by grind [AM,BI,Bt]
   rw[this,a]
 exact key d 0
theorem Ar {α:Type} {l:List α} {d:α} (h:k<l.length):l.getD k d∈l:=by grind
theorem B7 {α:Type} {l:List α} (d:α) {x:α} (h:x∈l):∃k,k<l.length/\l.getD k d=x:=by
 obtain⟨k,hk,e⟩:=AAq.1 h;exact⟨k,hk,by rw[AS,AT hk];exact e⟩
theorem IP {d:List AJ}:∀ {r:List AJ} {k:Nat},N0 d k r=0->∀j,j<r.length->¬Ap d (r.getD j d0).1<((k+j:Nat):Int)/\BM (r.getD j d0).1 false=true
 | [],_,_,j,a=>by simp at a
 | x :: r,k,h,j,a=>by
  simp only[N0]at h;split at h
  .cases h
  rename_i h1;split at h
  .cases h
  rename_i b;cases j with
  | zero=>exact⟨b,by simpa using h1⟩
  | succ j =>
   have:=IP h j (by simpa using a);have e:k+(j+1)=k+1+j:=by omega
   rw[e];exact this
theorem PW (s:ByteArray):∀(l:List AJ) (k j:Nat),j<l.length->AM (l.getD j d0).1 s=true->Cs s k l<=((k+j:Nat):Int)
 | [],_,j,h,_=>by simp at h
 | x :: l,k,j,h,e=>by
  simp only[Cs];split
  .omega
  rename_i h1;cases j with
  | zero=>exact absurd e h1
  | succ j =>
   have:=PW s l (k+1) j (by simpa using h) e;omega
theorem Lm {d:List AJ} (h:Cf d=0) {j:Nat} (b:j<d.length):Ap d (d.getD j d0).1=(j:Int):=by
 have h1:=(IP h j b).1;have a:=PW (d.getD j d0).1 d 0 j b (Ct _);rw[AAH]at h1 a;have a:Ap d (d.getD j d0).1<=(j:Int):=a;omega
theorem PX {d:List AJ} (h:Cf d=0) {x y:AJ} (a:x∈d) (b:y∈d) (e:AM x.1 y.1=true):x=y:=by
 obtain⟨i,hi,rfl⟩:=B7 d0 a;obtain⟨j,c,rfl⟩:=B7 d0 b;grind [Lm,X1]
theorem kV (d:List AJ) (out:List ByteArray) (h:(Hh d out).1=true):∃x∈d,x.1=(Hh d out).2/\AU out x.1=false/\Iq x out=true:=by
 have key:∀(l:List AJ) (s:Bool×ByteArray),(∀x∈l,x∈d)->(s.1=true->∃x∈d,x.1=s.2/\AU out x.1=false/\Iq x out=true)->(l.foldl (IK out) s).1=true ->
   ∃x∈d,x.1=(l.foldl (IK out) s).2/\AU out x.1=false/\Iq x out=true:=by
  intro l;induction l with
  | nil=>intro s _ hs h;exact hs h
  | cons y l e =>
   intro s a hs h;rw[OS]at h ⊢;refine e _ (λx c=>a x (by simp[c])) (λb=>?_) h;unfold IK at b ⊢;split
   .grind
   grind
 exact key d _ (λ_ h=>h) (λh=>by cases h) h
def PL (d:List AJ) (o:List ByteArray):Prop:=∀j,j<o.length->∃x∈d,x.1=o.getD j ByteArray.empty/\AU (o.take j) x.1=false/\Iq x (o.take j)=true
theorem PL.snoc {d:List AJ} (h:PL d o) {x:AJ} (i:x∈d) (h1:AU o x.1=false) (f:Iq x o=true):PL d (o++[x.1]):=by
 intro j g;by_cases a:j<o.length
 .obtain⟨y,k,b,c,e⟩:=h j a;grind
 grind
theorem Ut {d:List AJ}:∀ {n:Nat} {o:List ByteArray},PL d o->PL d (IL d n o)
 | 0,_,h=>h
 | n+1,o,h=>by
  unfold IL;split
  .rename_i b;obtain⟨x,c,e,h1,a⟩:=kV d o b;rw[<-e];exact Ut (h.snoc c h1 a)
  exact h
theorem Xo (d:List AJ):PL d (Bh d):=Ut λj a=>by simp at a
theorem PL.ok {d:List AJ} (h:PL d o):ZZ d o:=by
 refine⟨λs hs=>?_,?_⟩
 .obtain⟨j,a,rfl⟩:=B7 ByteArray.empty hs;obtain⟨x,b,e,-⟩:=h j a;rw[<-e];exact DN b
 rw[oR];intro i j hi a f;obtain⟨x,b,e,h1,-⟩:=h j a;have c:=PN h1 o[i] (by rw[ABv];exact⟨i,by omega,rfl⟩);grind
theorem kW {n:Nat} {l:List Nat} (h:l.Nodup) (c:∀j∈l,j<n) (hn:n<=l.length) {k:Nat} (hk:k<n):k∈l:=by
 refine GO λb=>?_;have:=Da n (k :: l) (AAu.2 ⟨b,h⟩) (λj a=>by
  rcases DO.1 a with rfl|a
  .exact hk
  exact c j a)
 simp at this;omega
theorem kX {d:List AJ} (f:d.length<=(Bh d).length) {x:AJ} (h:x∈d):∃s∈Bh d,AM s x.1=true:=by
 have a:=(Xo d).ok;have h1:=J9 d a;have h0:=DN h;have l:=DH d x.1;have b:=kW (n:=d.length) h1 (λj c=>by
  obtain⟨s,hs,rfl⟩:=IN.1 c;have h1:=a.decl s hs;rcases DH d s with g|⟨_,g,_⟩<;>omega) (by simpa using f) (k:=(Ap d x.1).toNat) O1
 obtain⟨s,hs,e⟩:=IN.1 b;refine⟨s,hs,?_⟩;rcases DH d s with g|⟨_,_,i⟩
 .have:=a.decl s hs;omega
 grind [BI,Bt]
def Ft (d:List AJ) (s:ByteArray):Nat:=(Bh d).findIdx λx=>AM x s
theorem Ho (d:List AJ) {t:ByteArray} (h:AM s t=true):Ft d s=Ft d t:=by grind [Ft,AM,BI,Bt]
theorem KB {d:List AJ} (hn:Cf d=0) (o:d.length<=(Bh d).length) {x:AJ} (g:x∈d) (hs:AU x.2.1 s=true):Ft d s<Ft d x.1:=by
 obtain⟨t,q,e⟩:=kX o g;have c:Ft d x.1<(Bh d).length:=List.findIdx_lt_length_of_exists ⟨t,q,e⟩;have heq:AM ((Bh d)[Ft d x.1]) x.1=true:=List.findIdx_getElem (w:=c);obtain⟨y,r,a,-,j⟩:=Xo d (Ft d x.1) c;rw[AS,AT c]at a;have a:y.1=(Bh d)[Ft d x.1]:=a;rw[<-a]at heq;have z:=PX hn r g heq;subst z;obtain⟨u,hu,h⟩:=To.1 hs;have k:AU ((Bh d).take (Ft d y.1)) u=true:=ON.1 j u hu;obtain⟨v,f,ev⟩:=To.1 k;rw[ABv]at f;obtain⟨i,hi,rfl⟩:=f;have n:i<Ft d y.1:=by omega
 refine ACp ?_ n;refine GO λm=>?_;have b:=List.not_of_lt_findIdx (p:=λx=>AM x s) (xs:=Bh d) (i:=i) (by unfold Ft at m;omega);have l:AM ((Bh d)[i]) s=true:=BI ev h;try simp only at b
 rw[l]at b;exact absurd b sc
def Wp (d:List AJ) (s x:ByteArray):Prop:=AM s x=true\/Ft d s<Ft d x
theorem tR {d:List AJ} (hn:Cf d=0) (f:d.length<=(Bh d).length) {c:ByteArray} (b:Wp d s c) (e:∀x∈o,Wp d s x) {x:AJ} (g:x∈d):∀y∈Eu c o x,Wp d s y:=by
 intro y a;unfold Eu at a;split at a
 .rename_i h;rw[An]at h;rcases Is.1 a with a|a
  .exact e y a
  have:y=x.1:=by simpa using a
  subst this;have h1:=KB hn f g h.1;right;rcases b with b|b
  .rw[Ho d b];exact h1
  omega
 exact e y a
theorem Uu {d:List AJ} (hn:Cf d=0) (e:d.length<=(Bh d).length) {s c:ByteArray} (b:Wp d s c):∀ {l:List AJ} {o:List ByteArray},(∀x∈l,x∈d)->(∀x∈o,Wp d s x)->∀y∈l.foldl (Eu c) o,Wp d s y
 | [],_,_,a=>a
 | x :: l,o,f,a=>by
  rw[OS];exact Uu hn e b (λy g=>f y (by simp[g])) (tR hn e b a (f x sc))
theorem R1 {d:List AJ} (hn:Cf d=0) (b:d.length<=(Bh d).length) {s:ByteArray}:∀ {n i:Nat} {o:List ByteArray},(∀x∈o,Wp d s x)->∀y∈Cg d n i o,Wp d s y
 | 0,_,_,a=>a
 | n+1,i,o,a=>by
  unfold Cg;split
  .rename_i hi;exact R1 hn b (Uu hn b (a _ (Ar hi)) (λ_ h=>h) a)
  exact a
theorem A0e {c:ByteArray} {x:AJ} {y:ByteArray} (h:y∈o):y∈Eu c o x:=by grind [Eu]
theorem Mi {c:ByteArray} {y:ByteArray}:∀ {l:List AJ} {o:List ByteArray},y∈o->y∈l.foldl (Eu c) o
 | [],_,h=>h
 | x :: l,o,h=>by rw[OS];exact Mi (A0e h)
theorem KC {d:List AJ} {y:ByteArray}:∀ {n i:Nat} {o:List ByteArray},y∈o->y∈Cg d n i o
 | 0,_,_,h=>h
 | n+1,i,o,h=>by
  unfold Cg;split
  .exact KC (Mi h)
  exact h
theorem Fa {l:List ByteArray} (h:x∈Dl l s):x∈l\/x=s:=by grind [Dl]
theorem JO {l:List ByteArray} (h:x∈l):x∈Dl l s:=by
 unfold Dl;split
 .exact h
 have a:x∈l.take (WZ l s)\/x∈l.drop (WZ l s):=Is.1 (by rw[ABt];exact h);grind
theorem Ln {l:List ByteArray}:AU (Dl l s) s=true:=by
 unfold Dl;grind [IJ,WZ,AM,AU,Ct]
theorem FG {l:List ByteArray} (h:s∈l):AU l s=true:=To.2 ⟨s,h,Ct s⟩
theorem HL {l:List ByteArray} (hs:∀x∈l,x∈m) (h:AU l s=true):AU m s=true:=by
 obtain⟨x,a,e⟩:=To.1 h;exact To.2 ⟨x,hs x a,e⟩
theorem Uv:∀ {l o:List ByteArray} {x:ByteArray},x∈l.foldl Dl o->x∈o\/x∈l
 | [],_,_,h=>.inl h
 | y :: l,o,x,h=>by
  rw[OS]at h;rcases Uv h with h|h
  .grind [Fa]
  grind
theorem Xp:∀ {l o:List ByteArray} {x:ByteArray},x∈o->x∈l.foldl Dl o
 | [],_,_,h=>h
 | y :: l,o,x,h=>by rw[OS];exact Xp (JO h)
theorem PY:∀ {l o:List ByteArray} {x:ByteArray},x∈l->AU (l.foldl Dl o) x=true
 | [],_,_,h=>by cases h
 | y :: l,o,x,h=>by
  rw[OS];rcases DO.1 h with rfl|h
  .grind [HL,Xp,Ln]
  exact PY h
theorem N7 {d:List AJ} (h:0<=Ap d s):AU (Ci d s) s=true:=by
 unfold Ci;rw[As O1];exact PY (KC sc)
theorem Uw {d:List AJ} (hn:Cf d=0) (c:d.length<=(Bh d).length) (h:AU (Ci d s) x=true):Wp d s x:=by
 obtain⟨y,a,e⟩:=To.1 h;have b:Wp d s y:=by
  unfold Ci at a;split at a
  .cases a
  rcases Uv a with a|a
  .cases a
  refine R1 hn c (λz f=>?_) y a;have:z=s:=by simpa using f
  rw[this];exact .inl (Ct s)
 rcases b with b|b
 .exact .inl (BI b e)
 rw[Ho d e]at b;exact .inr b
theorem DP {d:List AJ} (h:s∈AN d):∃x∈d,x.1=s:=by
 have key:∀(l:List AJ) (o:List ByteArray),s∈l.foldl (λo x=>Dl o x.1) o->s∈o\/∃x∈l,x.1=s:=by
  intro l;induction l with
  | nil=>intro o h;exact .inl h
  | cons x l a =>
   intro o h;rw[OS]at h;rcases a _ h with h|⟨y,b,e⟩
   .grind [Fa]
   grind
 rcases key d [] h with h|h
 .cases h
 exact h
theorem N8 {d:List AJ} {x:AJ} (h:x∈d):AU (AN d) x.1=true:=by
 have b:∀(l:List AJ) (o:List ByteArray),∀y∈o,y∈l.foldl (λo x=>Dl o x.1) o:=by
  intro l;induction l with
  | nil=>intro o y h;exact h
  | cons x l a=>intro o y h;rw[OS];exact a _ y (JO h)
 have key:∀(l:List AJ) (o:List ByteArray),x∈l->AU (l.foldl (λo x=>Dl o x.1) o) x.1=true:=by
  intro l;induction l with
  | nil=>intro o h;cases h
  | cons y l a =>
   intro o h;rw[OS];rcases DO.1 h with rfl|h
   .grind [HL,Ln]
   exact a _ h
 exact key d [] h
theorem d9 {d:List AJ} (hn:Cf d=0) (g:d.length<=(Bh d).length) (r:d.length<=256) {i j:Nat} (hi:i<(AN d).length) (f:j<(AN d).length)
  (h:DG (ET d (AN d) ((AN d).getD i ByteArray.empty)) (ET d (AN d) ((AN d).getD j ByteArray.empty))=true):AM ((AN d).getD i ByteArray.empty) ((AN d).getD j ByteArray.empty)=true:=by
 have o:=Dm d d.length;rw[oF]at o;have a:(AN d).length<=4096:=by omega
 generalize hs:(AN d).getD i ByteArray.empty=s at *;generalize b:(AN d).getD j ByteArray.empty=t at *;have p:0<=Ap d s:=by
  obtain⟨x,c,e⟩:=DP (s:=s) (by rw[<-hs];exact Ar hi);rw[<-e];exact DN c
 have q:0<=Ap d t:=by
  obtain⟨x,c,e⟩:=DP (s:=t) (by rw[<-b];exact Ar f);rw[<-e];exact DN c
 obtain⟨c1,k,-⟩:=B6 (d:=d) a s i;obtain⟨c2,l,-⟩:=B6 (d:=d) a t i;obtain⟨m,-,-⟩:=B6 (d:=d) a s j;obtain⟨n,-,-⟩:=B6 (d:=d) a t j;unfold DG at h;rw[An]at h;have b1:=Uw hn g (c2.1 (Ll k l h.1 (c1.2 ⟨hi,by rw[hs];exact N7 p⟩))).2;have b2:=Uw hn g (m.1 (Ll l k h.2 (n.2 ⟨f,by rw[b];exact N7 q⟩))).2;rw[hs]at b1;rw[b]at b2;rcases b1 with b1|b1
 .exact Bt b1
 rcases b2 with b2|b2
 .exact b2
 omega
section
attribute [local go_sem] ZS zW Lj Kw Kh
def oX (d:List AJ) (all:List ByteArray) (codes:List (List Int)) (b:List Int):Nat->Nat->List ByteArray->ByteArray ⊕ List ByteArray
 | 0,_,l=>.inr l
 | n+1,i,l=>if DG (codes.getD i []) b=true then .inl (all.getD i ByteArray.empty) else oX d all codes b n (i+1) (if SQ b (i:Int)=true then l++[all.getD i ByteArray.empty] else l)
def Xq (l:List ByteArray) (s:ByteArray) (i:Nat):ByteArray:=(if 0<(i:Int) then s++ByteArray.mk #[38] else s)++l.getD i ByteArray.empty
def eA (l:List ByteArray):ByteArray:=(List.range l.length).foldl (Xq l) ByteArray.empty
def Ga (d:List AJ) (all:List ByteArray) (codes:List (List Int)) (b:List Int):ByteArray :=
 match oX d all codes b all.length 0 [] with
 | .inl s=>s
 | .inr l=>eA (A3 d l)
theorem NI {d:List AJ} {x:ByteArray}:∀ {l o:List ByteArray},x∈l.foldl (Ew d) o->x∈o\/x∈l
 | [],_,h=>.inl h
 | y :: l,o,h=>by
  rw[OS]at h;rcases NI h with h|h
  .unfold Ew at h;split at h
   .rcases Fa h with h|h
    .exact .inl h
    exact .inr (by simp[h])
   exact .inl h
  exact .inr (by simp[h])
theorem G9 {d:List AJ} {l:List ByteArray} {x:ByteArray} (h:x∈A3 d l):x∈l:=by
 unfold A3 PP at h;obtain⟨i,hi,rfl⟩:=IN.1 h;rw[AAW,tO]at hi;rcases NI (Ar (d:=ByteArray.empty) hi.1) with h|h
 .cases h
 exact h
theorem Zh (d:List AJ) (l:List ByteArray):(A3 d l).length<=l.length:=gO (dT _ _ _) (Ir d l)
theorem kY {l:List ByteArray} (h:∀s∈l,s.size<=32) (k:Nat):(l.getD k ByteArray.empty).size<=32:=by
 rw[AS];cases hh:l[k]? with
 | none=>simp
 | some x=>exact h x (AAy hh)
def PZ (l:List ByteArray) (n:Nat):ByteArray:=(List.range n).foldl (Xq l) ByteArray.empty
theorem N9 (l:List ByteArray) (n:Nat):PZ l (n+1)=Xq l (PZ l n) n:=by
 unfold PZ;rw[AAt,ABl];rfl
theorem Ux {l:List ByteArray} (h:∀s∈l,s.size<=32):∀n,(PZ l n).size<=33*n
 | 0=>by simp[PZ]
 | n+1=>by
  have h1:=Ux h n;have a:=kY h n;rw[N9];unfold Xq;split
  .rw[ABu,ABu];have:(ByteArray.mk #[38]).size=1:=rfl;omega
  rw[ABu];omega
def Zi:AW:={ ins:=[Et,CL,SP,BT],pre:=λ(d,all,codes,b,_)=>PM d/\List.length d<=256/\List.length all<=256/\List.length codes=List.length all/\(∀s∈(all:List ByteArray),s.size<=32)/\(∀x∈(codes:List (List Int)),x.length<=64)/\List.length b<=64,out:=λ(d,all,codes,b,_)=>[.p T9 (Ga d all codes b)] }
theorem tS:AY Tryz.prog 115 Zi:=by
 refine fK [0,1,2,3,8,9,10,11,12,16,24,31,45,49] Tryz.func115 Tryz.ntmps115 (AF tD (AF zX (AF Um AH))) ?_;rintro w0 O0 ⟨d,all,codes,b,u⟩ e-⟨hs,z,t,q,C,y,w⟩;have t:all.length<=256:=t;have q:codes.length=all.length:=q;simp only[Zi,AL];repeat'(first|exact trivial|apply eS rfl|refine rX e ?_ ?_)
 refine AI (ι:={x:Nat×List ByteArray//x.1<=all.length/\x.2.length<=x.1/\(∀s∈x.2,s.size<=32)/\oX d all codes b (all.length-x.1) x.1 x.2=oX d all codes b all.length 0 []}) (λx=>⟨[(0,.p Et d),(1,.p CL all),(2,.p SP codes),(3,.p BT b),(9,.sr 38 T9 0 x.1.2.length),(10,.p (.int .i64) (x.1.1:Int))],[(38,.arr 9 T9 x.1.2)]⟩) (λx=>all.length-x.1.1) ⟨(0,[]),by simp,by simp,by simp,rfl⟩ (eW [(38,.nil)]) (λx=>?_)
 obtain⟨⟨i,l⟩,hi,B,o,f⟩:=x;simp only at hi B o f;have r:i<all.length->oX d all codes b (all.length-i) i l=if DG (codes.getD i []) b=true then .inl (all.getD i ByteArray.empty) else oX d all codes b (all.length-(i+1)) (i+1) (if SQ b (i:Int)=true then l++[all.getD i ByteArray.empty] else l):=by
  intro h;rw[show all.length-i=(all.length-(i+1))+1 by omega];rfl
 simp only;repeat'(first|exact trivial|apply eS rfl|apply AB|refine rX e ?_ ?_|refine rC ?_ ?_<;>intro a<;>try(cases a;done))
 .exact⟨by rw[q];exact a,gO (Lk y i) dg,gO w dg⟩
 .assumption
 .have c:i<all.length:=by exact eV
  have j:Ga d all codes b=all.getD i ByteArray.empty:=by
   unfold Ga;rw[<-f,r c,BY a]
  exact fI e [.tmp 8] (by rw[j];exact eR)
 .have c:i<all.length:=by exact eV
  exact⟨iF.2 c,by simp only[AO];omega⟩
 .exact eV
 .have c:i<all.length:=by exact eV
  have hn:=r c;rw[As (by rw[‹DG _ _=false›];simp),BY a]at hn;refine⟨⟨(i+1,l++[all.getD i ByteArray.empty]),by simp only;omega,by simp only[Do,nO];omega,?_,hn.symm.trans f⟩,by simp only;omega,AC [(38,.nm 38)] rfl rfl ?_ ?_⟩
  .intro s hs;rcases Is.1 hs with hs|hs
   .exact o s hs
   have:s=all.getD i ByteArray.empty:=by simpa using hs
   rw[this];exact kY C i
  .exact eN
  exact eN
 .exact eV
 .have c:i<all.length:=by exact eV
  have hn:=r c;rw[As (by rw[‹DG _ _=false›];simp),As (by rw[a];simp)]at hn;exact⟨⟨(i+1,l),by simp only;omega,by simp only;omega,o,hn.symm.trans f⟩,by simp only;omega,eW [(38,.nm 38)]⟩
 have j:Ga d all codes b=eA (A3 d l):=by
  unfold Ga;rw[<-f];have:all.length-i=0:=by exact eV
  rw[this];rfl
 refine CK [38] ?_;repeat'(first|exact trivial|apply eS rfl|refine rX e ?_ ?_)
 .exact⟨hs,z,by omega⟩
 have v:∀s∈A3 d l,s.size<=32:=λs h=>o s (G9 h);have E:=Zh d l;have A:eA (A3 d l)=PZ (A3 d l) (A3 d l).length:=rfl;rw[A]at j;generalize A3 d l=m at *;refine AI (ι:={k:Nat//k<=m.length}) (λk=>⟨[(9,.p CL m),(11,.p T9 (PZ m k.1)),(12,.p (.int .i64) (k.1:Int))],[]⟩) (λk=>m.length-k.1) ⟨0,By _⟩ (AC [] rfl rfl ?_ ?_) (λk=>?_)
 .exact eN
 .refine eM ?_;rfl
 obtain⟨k,hk⟩:=k;have hk:k<=m.length:=hk;have D:=Ux v k;have n:=N9 m k;have F:=kY v k;unfold Xq at n;simp only;repeat'(first|exact trivial|apply eS rfl|apply AB|refine rX e ?_ ?_|refine rC ?_ ?_<;>intro a<;>try(cases a;done))
 .have h1:(ByteArray.mk #[38]).size=1:=rfl;rw[h1];simp only[AO];exact eV
 .refine⟨by assumption,?_⟩;have h1:(ByteArray.mk #[38]).size=1:=rfl;rw[ABu,h1];simp only[AO];exact eV
 .exact eV
 .have g:k<m.length:=by exact eV
  rw[BY a]at n;refine⟨⟨k+1,g⟩,by simp only;omega,AC [] rfl rfl ?_ ?_⟩
  .exact eN
  simp only[n];exact eN
 .refine⟨by assumption,?_⟩;simp only[AO];exact eV
 .exact eV
 .have g:k<m.length:=by exact eV
  rw[As (AAU.2 a)]at n;refine⟨⟨k+1,g⟩,by simp only;omega,AC [] rfl rfl ?_ ?_⟩
  .exact eN
  simp only[n];exact eN
 have g:k=m.length:=by exact eV
 rw[<-g]at j;exact fI e [.tmp 8] (by rw[j];exact eR)
end
section
attribute [local go_sem] S3 PK A02 Zd Zi Zc
def FH (x:AQ) (out:List AQ):Nat->Nat
 | 0=>0
 | n+1=>if FY x (out.getD n c0)=true then FH x out n else n+1
def Zj (out:List AQ) (x:AQ):List AQ:=out.take (FH x out out.length)++[x]++out.drop (FH x out out.length)
def AR (d:List AJ):List (List Int):=(AN d).map λs=>ET d (AN d) s
def GE (d:List AJ) (all:List ByteArray) (codes:List (List Int)) (out:List AQ) (b:List Int):List AQ:=Zj out (Ga d all codes b,b)
def Qp (d:List AJ):List AQ->List Int->List AQ:=GE d (AN d) (AR d)
theorem OA (d:List AJ) (all:List ByteArray) (codes:List (List Int)):∀(l:List (List Int)) (o:List AQ),(l.foldl (GE d all codes) o).length=o.length+l.length
 | [],o=>by simp
 | b :: l,o=>by
  rw[OS,OA d all codes l];unfold GE Zj;simp only[Do,OR,AB3,IS,AAl];omega
theorem Uy {d:List AJ} {all:List ByteArray} {codes:List (List Int)}:∀ {l:List (List Int)} {o:List AQ},(∀c∈l,c.length<=64)->(∀y∈o,y.2.length<=64)->∀y∈l.foldl (GE d all codes) o,y.2.length<=64
 | [],_,_,e=>e
 | b :: l,o,f,e=>by
  rw[OS];refine Uy (λc g=>f c (by simp[g])) (λy a=>?_);unfold GE Zj at a;simp only[Is,oN]at a;rcases a with (a|a)|a
  .exact e y (AAp a)
  .rw[a];exact f b sc
  exact e y (ABg a)
theorem eB (x:AQ) (out:List AQ):∀n,FH x out n<=n
 | 0=>Of _
 | n+1=>by
  unfold FH;split
  .exact Nat.le_succ_of_le (eB x out n)
  exact Of _
def AK (d:List AJ):List AQ:=(Aw (AR d)).foldl (Qp d) []
def B8 (d:List AJ):List AQ×Int :=
 if A7 d≠0 then ([],A7 d) else if 256<(Aw (AR d)).length then ([],7) else (AK d,0)
theorem kZ {b:Bool} (h:BM s b=true):s.size<=32:=by
 unfold BM at h;rw[An]at h;have h1:=h.1;unfold Ny at h1;simp only[bY,AAj,TO]at h1;have:=h1.1.1.2;omega
theorem eC {d:List AJ} (hn:Cf d=0):∀s∈AN d,s.size<=32:=by
 intro s hs;obtain⟨x,b,rfl⟩:=DP hs;obtain⟨j,a,rfl⟩:=B7 d0 b;exact kZ (IP hn j a).2
def KD (d:List AJ) (n:Nat):List (List Int):=((AN d).take n).map λs=>ET d (AN d) s
theorem k5 {d:List AJ} {n:Nat} (h:n<=(AN d).length):(KD d n).length=n:=by simp[KD,h]
theorem eD {d:List AJ} {n:Nat} (h:n<(AN d).length):KD d (n+1)=KD d n++[ET d (AN d) ((AN d).getD n ByteArray.empty)]:=by
 unfold KD;rw[Ag _ ByteArray.empty h,AAF];rfl
theorem k6 (d:List AJ):KD d (AN d).length=AR d:=by simp[KD,AR]
theorem k7 (d:List AJ):(AR d).length=(AN d).length:=by simp[AR]
theorem OB {d:List AJ} (h:d.length<=256):∀c∈AR d,c.length<=64:=by
 intro c a;unfold AR at a;obtain⟨s,-,rfl⟩:=IN.1 a;have b:=Dm d d.length;rw[oF]at b;exact(B6 (d:=d) (all:=AN d) O1 s 0).2.2
theorem eF {i:Nat}:∀ {n k:Nat} {l:List (List Int)},(∀c∈l,c.length<=64)->∀c∈GD i n k l,c.length<=64
 | 0,_,_,h=>h
 | n+1,k,l,h=>by
  unfold GD;split
  .exact eF (dX h i k)
  exact h
theorem Pa:∀ {n i:Nat} {l:List (List Int)},(∀c∈l,c.length<=64)->∀c∈Hl n i l,c.length<=64
 | 0,_,_,h=>h
 | n+1,i,l,h=>by
  unfold Hl;split
  .exact Pa (eF h)
  exact h
theorem eG {out:List AQ} {x y:AQ}:y∈Zj out x↔y=x\/y∈out:=by
 unfold Zj;rw[Is,Is,oN];have h:=Is (a:=y) (s:=out.take (FH x out out.length)) (t:=out.drop (FH x out out.length));rw[ABt]at h;rw[h];constructor
 .rintro ((h|h)|h)
  .exact .inr (.inl h)
  .exact .inl h
  exact .inr (.inr h)
 rintro (h|h|h)
 .exact .inl (.inr h)
 .exact .inl (.inl h)
 exact .inr h
def Qq:AW:={ ins:=[Et],pre:=λ_=>True,out:=λ(d,_)=>[.p JF (B8 d).1,.p C6 (B8 d).2] }
theorem Pb:AY Tryz.prog 65 Qq:=by
 refine fK [0,2,3,4,5,6,7,8,9,10,11,12,13,17,24,41,45,73] Tryz.func65 Tryz.ntmps65 (AF tJ (AF Xg (AF A3x (AF tP (AF tS (AF tM AH)))))) ?_;rintro w0 O0 ⟨d,u⟩ g - -;simp only[Qq,AL];repeat'(first|exact trivial|apply eS rfl|refine rX g ?_ ?_|refine rC ?_ ?_<;>intro a<;>try(cases a;done))
 .have h1:B8 d=([],A7 d):=by unfold B8;rw[BY a]
  exact fI g [.tmp 2,.tmp 3] (by rw[h1];exact eR)
 .have i:A7 d=0:=by simpa using a
  obtain⟨-,E,-⟩:=Az i;exact gO E dg
 have i:A7 d=0:=by simpa using a
 obtain⟨M,s,-,hn,-⟩:=Az i;have F:=Dm d d.length;rw[oF]at F;have N:=eC hn;refine AI (ι:={n:Nat//n<=(AN d).length}) (λn=>⟨[(0,.p Et d),(5,.p CL (AN d)),(6,.sr 36 BT 0 (KD d n.1).length),(7,.p (.int .i64) (n.1:Int))],[(36,.arr 111 BT (KD d n.1))]⟩) (λn=>(AN d).length-n.1) ⟨0,By _⟩ (AC [(36,.nil)] rfl rfl ?_ ?_) (λn=>?_)
 .refine eM ?_;rfl
 .refine eM ?_;rfl
 obtain⟨n,I⟩:=n;have Q:=k5 I;have hs:=λh=>eD (d:=d) (n:=n) h;simp only;repeat'(first|exact trivial|apply eS rfl|apply AB|refine rX g ?_ ?_|refine rC ?_ ?_<;>intro a<;>try(cases a;done))
 .refine⟨a,⟨s,by dsimp only[Ty.den]at *;omega⟩,?_⟩;simp only[AO];dsimp only[Ty.den]at *;omega
 .exact eV
 .have w:n<(AN d).length:=by exact eV
  have e:=hs w;refine⟨⟨n+1,by omega⟩,by simp only;omega,AC [(36,.nm 36)] rfl rfl ?_ ?_⟩
  .simp only[e];exact eN
  simp only[e];exact eN
 have w:n=(AN d).length:=by exact eV
 subst w;rw[k6];have H:=k7 d;have x:=OB s;have t:∀c∈Aw (AR d),c.length<=64:=Pa x;refine CK [36] ?_;repeat'(first|exact trivial|apply eS rfl|refine rX g ?_ ?_|refine rC ?_ ?_<;>intro a<;>try(cases a;done))
 .exact⟨by omega,x⟩
 .have h1:B8 d=([],7):=by
   unfold B8;rw[As (by rw[i];simp),BY O1]
  exact fI g [.tmp 2,.tmp 3] (by rw[h1];exact eR)
 have D:B8 d=((Aw (AR d)).foldl (GE d (AN d) (AR d)) [],0):=by
  unfold B8;rw[As (by rw[i];simp),As O1];rfl
 generalize Aw (AR d)=f at *;generalize AR d=codes at *;generalize AN d=all at *;refine AI (ι:={k:Nat//k<=f.length}) (λk=>⟨[(0,.p Et d),(5,.p CL all),(6,.p SP codes),(8,.p SP f),(9,.sr 9 ZP 0 ((f.take k.1).foldl (GE d all codes) []).length),(10,.p (.int .i64) (k.1:Int))],[(9,.arr 127 ZP ((f.take k.1).foldl (GE d all codes) []))]⟩) (λk=>f.length-k.1) ⟨0,By _⟩ (AC [(9,.nil)] rfl rfl ?_ ?_) (λk=>?_)
 .refine eM ?_;rfl
 .refine eM ?_;rfl
 obtain⟨k,hk⟩:=k;have C:=OA d all codes (f.take k) [];have O:(f.take k).length=k:=by rw[OR];exact ABo hk
 have J:=Uy (d:=d) (all:=all) (codes:=codes) (l:=f.take k) (o:=[]) (λc g=>t c (AAp g)) sc;have L:=λh:k<f.length=>Ec (GE d all codes) f [] [] h;rw[O]at C;simp only[AAl,AAH]at C;generalize B:(f.take k).foldl (GE d all codes) []=out at *;simp only;repeat'(first|exact trivial|apply eS rfl|refine rX g ?_ ?_|refine rC ?_ ?_<;>intro a<;>try(cases a;done))
 .exact⟨a,⟨M,s,by omega,H,N,x,Lk t k⟩,a⟩
 .have v:k<f.length:=by exact eV
  have e:=L v;have G:=Lk t k;generalize f.getD k []=b at *;unfold GE at e;generalize Ga d all codes b=nm at *;refine AI (ι:={q:Nat//q<=out.length/\FH (nm,b) out q=FH (nm,b) out out.length}) (λq=>⟨[(0,.p Et d),(5,.p CL all),(6,.p SP codes),(8,.p SP f),(9,.sr 9 ZP 0 out.length),(10,.p (.int .i64) (k:Int)),(11,.bp 11 [] 0),(12,.p (.int .i64) (q.1:Int))],[(9,.arr 127 ZP out),(11,.box 127 true [.p T9 nm,.p BT b])]⟩) (λq=>q.1) ⟨out.length,Of _,rfl⟩ (eW [(9,.nm 9),(11,.nm 11)]) (λq=>?_)
  obtain⟨q,j,A⟩:=q;have j:q<=out.length:=j;simp only;repeat'(first|exact trivial|apply eS rfl|apply AB|refine rX g ?_ ?_|refine rC ?_ ?_<;>intro a<;>try(cases a;done))
  .refine⟨λh=>by omega,λh=>by exact eV,λh=>⟨gO G dg,gO (J _ (AG out c0 (k:=((q:Int)-1).toNat) O1)) dg⟩⟩
  .omega
  .obtain⟨P,z⟩:=a;obtain⟨q,rfl⟩:∃r,q=r+1:=⟨q-1,by omega⟩;have m:((q+1:Nat):Int)-1=(q:Int):=by omega
   refine⟨⟨q,by omega,?_⟩,AAX q,AC [(9,.nm 9),(11,.nm 11)] rfl rfl ?_ ?_⟩
   .rw[<-A];rw[m,iN]at z;show _=if FY (nm,b) (out.getD q c0)=true then FH (nm,b) out q else q+1
    rw[BY z]
   .exact eN
   refine eM ?_;show (q:Int)+1-1=q;omega
  .refine⟨AAe.2 j,?_⟩;rw[OR];simp only[AO];omega
  .rw[OR];simp only[AO];omega
  .refine⟨AAe.2 j,?_⟩;rw[OR,AB3];simp only[AO];omega
  .omega
  have K:FH (nm,b) out q=q:=by
   cases q with
   | zero=>rfl
   | succ q =>
    have m:((q+1:Nat):Int)-1=(q:Int):=by omega
    have:=a O1;rw[m,iN]at this;show (if FY (nm,b) (out.getD q c0)=true then FH (nm,b) out q else q+1)=q+1;rw[As (by rw[this];simp)]
  unfold Zj at e;rw[<-A,K]at e;refine⟨⟨k+1,by omega⟩,by simp only;omega,AC [(9,.nm 80)] rfl rfl ?_ ?_⟩
  .refine eM ?_;exact e.symm
  refine eM ?_;have y:=AAS List.length e;rw[Do,Do]at y;exact y.symm
 have v:k=f.length:=by exact eV
 rw[v,oF]at B;rw[B]at D;refine CK [9] ?_;exact fI g [.tmp 2,.tmp 3] (by rw[D];exact eR)
end
theorem Xr {d:List AJ}:∀ {l:List (List Int)} {o:List AQ} {y:AQ},y∈l.foldl (Qp d) o↔y∈o\/∃b∈l,y=(Ga d (AN d) (AR d) b,b)
 | [],o,y=>by simp
 | b :: l,o,y=>by
  rw[OS,Xr];unfold Qp GE;rw[eG];simp only[DO];constructor
  .rintro ((h|h)|⟨c,a,e⟩)
   .exact .inr ⟨b,.inl rfl,h⟩
   .exact .inl h
   exact .inr ⟨c,.inr a,e⟩
  rintro (h|⟨c,rfl|a,e⟩)
  .exact .inl (.inr h)
  .exact .inl (.inl e)
  exact .inr ⟨c,a,e⟩
theorem DQ {d:List AJ} {y:AQ}:y∈AK d↔∃b∈Aw (AR d),y=(Ga d (AN d) (AR d) b,b):=by
 unfold AK;rw[Xr];simp
theorem Hp (d:List AJ):(AK d).length=(Aw (AR d)).length:=by
 have h:=OA d (AN d) (AR d) (Aw (AR d)) [];rw[AAl,AAH]at h;exact h
theorem A0f {i k:Nat} {c:List Int} (h:c∈l):c∈GC l i k:=by
 unfold GC;split
 .exact Is.2 (.inl h)
 exact h
theorem eH {i:Nat} {c:List Int}:∀ {n k:Nat} {l:List (List Int)},c∈l->c∈GD i n k l
 | 0,_,_,h=>h
 | n+1,k,l,h=>by
  unfold GD;split
  .exact eH (A0f h)
  exact h
theorem eI {c:List Int}:∀ {n i:Nat} {l:List (List Int)},c∈l->c∈Hl n i l
 | 0,_,_,h=>h
 | n+1,i,l,h=>by
  unfold Hl;split
  .exact eI (eH h)
  exact h
theorem IQ (d:List AJ) {i:Nat} (h:i<(AN d).length):(AR d).getD i []=ET d (AN d) ((AN d).getD i ByteArray.empty):=by
 unfold AR;simp[AS,h]
theorem oY {d:List AJ} (hn:Cf d=0) (f:d.length<=(Bh d).length) (c:d.length<=256) {j:Nat} (b:j<(AN d).length):∀(m i:Nat) (l:List ByteArray),i+m=(AN d).length->i<=j ->
  ∃s,oX d (AN d) (AR d) ((AR d).getD j []) m i l=.inl s/\AM s ((AN d).getD j ByteArray.empty)=true
 | 0,i,l,h,g=>by omega
 | m+1,i,l,h,g=>by
  unfold oX;split
  .rename_i a;refine⟨_,rfl,?_⟩;rw[IQ d O1,IQ d b]at a;exact d9 hn f c O1 b a
  rename_i a;have k:i≠j:=by
   intro e;subst e;exact a (d8 _)
  exact oY hn f c b m (i+1) _ O1 O1
theorem oZ (s:ByteArray):∀(l:List AQ) (k:Nat),KA s k l<((k+l.length:Nat):Int)
 | [],k=>by simp only[KA];omega
 | x :: l,k=>by
  simp only[KA];split
  .simp only[IS];omega
  have:=oZ s l (k+1);simp only[IS];omega
theorem o0 (s:ByteArray):∀(l:List AQ) (k:Nat) (x:AQ),x∈l->AM x.1 s=true->0<=KA s k l
 | [],_,_,h,_=>by cases h
 | y :: l,k,x,h,e=>by
  simp only[KA];split
  .omega
  rename_i a;rcases DO.1 h with rfl|h
  .exact absurd e a
  exact o0 s l (k+1) x h e
theorem Hq (l:List AQ) (s:ByteArray):BH l s<(l.length:Int):=by
 have:=oZ s l 0;rw[AAH]at this;exact this
theorem Gb {d:List AJ} (h:A7 d=0) (hs:AU (AN d) s=true):0<=BH (AK d) s:=by
 obtain⟨-,b,-,hn,f⟩:=Az h;obtain⟨t,g,e⟩:=To.1 hs;obtain⟨j,c,rfl⟩:=B7 ByteArray.empty g;obtain⟨u,hu,a⟩:=oY hn f b c (AN d).length 0 [] O1 O1;have i:(AR d).length=(AN d).length:=by simp[AR]
 refine o0 s (AK d) 0 (u,(AR d).getD j []) ?_ (BI a e);rw[DQ];refine⟨(AR d).getD j [],eI (Ar O1),?_⟩;unfold Ga;rw[hu]
theorem Lp {d:List AJ} (h:A7 d=0) {x:AJ} (a:x∈d):0<=BH (AK d) x.1:=Gb h (N8 a)
theorem BZ {d:List AJ} (h:(B8 d).2=0):A7 d=0/\(Aw (AR d)).length<=256/\(B8 d).1=AK d:=by
 unfold B8 at h ⊢;split at h
 .rename_i h1;exact absurd h h1
 rename_i h1;split at h
 .cases h
 rename_i a;exact⟨GO h1,by omega,by rw[As h1,As a]⟩
theorem o4 {d:List AJ} (h:A7 d=0):0<(AK d).length:=by
 obtain⟨-,-,a,-,-⟩:=Az h;cases d with
 | nil=>cases a
 | cons x d =>
  have:=Lp h (x:=x) sc;have b:=Hq (AK (x :: d)) x.1;omega
section
attribute [local go_sem] oQ
def A78 (l:List AQ) (i k:Int) (m:Nat):Bool:=(m:Int)==i||(m:Int)==k||!Kg l k (m:Int)||!Kg l (m:Int) i
def tT (l:List AQ) (i k:Int) (n:Nat):Bool:=(List.range n).all (A78 l i k)
def tU (l:List AQ) (i:Int) (k:Nat):Bool:=!((k:Int)==i||!Kg l (k:Int) i)&&tT l i (k:Int) l.length
def NJ (l:List AQ) (i:Int) (n:Nat):List Int:=((List.range n).filter λ(k:Nat)=>tU l i k).map λ(k:Nat)=>(k:Int)
def Xs (l:List AQ) (i:Int):List Int:=NJ l i l.length
theorem k8 (l:List AQ) (i:Int) (n:Nat):NJ l i (n+1)=NJ l i n++if tU l i n=true then [(n:Int)] else []:=by
 unfold NJ;rw[AAt,ABH,AAF]
 congr 1
 rw[AAr,ABW];split<;>rfl
theorem tV (l:List AQ) (i:Int) (n:Nat):(NJ l i n).length<=n:=by
 unfold NJ;rw[aS];exact gO (ABb _ _) sc
theorem tW (l:List AQ) (i k:Int) (n:Nat):tT l i k (n+1)=(tT l i k n&&A78 l i k n):=by
 unfold tT;rw[AAt,ABX];simp
def A0g:AW:={ ins:=[JF,T3],pre:=λ(l,i,_)=>((0:Int)<=i/\i<(List.length l:Int))/\List.length l<=256/\(∀x∈(l:List AQ),x.2.length<=64),out:=λ(l,i,_)=>[.p Br (Xs l i)] }
theorem A3I:AY Tryz.prog 66 A0g:=by
 refine fK [0,1,4,5,6,7,8,12,24,28,56] Tryz.func66 Tryz.ntmps66 (AF oT AH) ?_;rintro w0 O0 ⟨l,i,u⟩ c-⟨hi,g,o⟩;have g:l.length<=256:=g;have f:∀x∈(l:List AQ),x.2.length<=100000:=λx h=>gO (o x h) dg;simp only[A0g,AL];repeat'(first|exact trivial|apply eS rfl|refine rX c ?_ ?_)
 refine AI (ι:={k:Nat//k<=l.length}) (λk=>⟨[(0,.p JF l),(1,.p T3 i),(5,.sr 60 T3 0 (NJ l i k.1).length),(6,.p (.int .i64) (k.1:Int))],[(60,.arr 3 T3 (NJ l i k.1))]⟩) (λk=>l.length-k.1) ⟨0,By _⟩ (AC [(60,.nil)] rfl rfl ?_ ?_) (λk=>?_)
 .refine eM ?_;rfl
 .refine eM ?_;rfl
 obtain⟨k,hk⟩:=k;have hk:k<=l.length:=hk;have q:=tV l i k;have hs:=k8 l i k;simp only;repeat'(first|exact trivial|apply eS rfl|apply AB|refine rX c ?_ ?_|refine rC ?_ ?_<;>intro a<;>try(cases a;done))
 .intro h;exact⟨by assumption,hi,f⟩
 .exact eV
 .have e:k<l.length:=by exact eV
  have b:tU l i k=false:=by
   unfold tU;rw[AAO];left;rw[ABI,vW,AAc,bY];exact a
  rw[b,As sc,AAn]at hs;refine⟨⟨k+1,by omega⟩,by simp only;omega,AC [(60,.nm 60)] rfl rfl ?_ ?_⟩
  .simp only[hs];exact eN
  simp only[hs];exact eN
 .have e:k<l.length:=by exact eV
  have b:tU l i k=tT l i (k:Int) l.length:=by
   unfold tU;rw[show ((k:Int)==i||!Kg l (k:Int) i)=false by
    rw[AAj,AAY,ABI];exact a]
   rfl
  refine AI (ι:={m:Nat//m<=l.length}) (λm=>⟨[(0,.p JF l),(1,.p T3 i),(5,.sr 60 T3 0 (NJ l i k).length),(6,.p (.int .i64) (k:Int)),(7,.p .bool (tT l i (k:Int) m.1)),(8,.p (.int .i64) (m.1:Int))],[(60,.arr 3 T3 (NJ l i k))]⟩) (λm=>l.length-m.1) ⟨0,By _⟩ (AC [(60,.nm 60)] rfl rfl ?_ ?_) (λm=>?_)
  .exact eN
  .refine eM ?_;rfl
  obtain⟨m,j⟩:=m;have j:m<=l.length:=j;have n:=tW l i (k:Int) m;simp only;repeat'(first|exact trivial|apply eS rfl|apply AB|refine rX c ?_ ?_|refine rC ?_ ?_<;>intro a<;>try(cases a;done))
  .exact⟨λh=>⟨by assumption,a,f⟩,λh=>⟨a,hi,f⟩⟩
  .exact eV
  .have d:m<l.length:=by exact eV
   refine⟨⟨m+1,by omega⟩,by simp only;omega,AC [(60,.nm 60)] rfl rfl ?_ ?_⟩
   .exact eN
   simp only[n];unfold A78;exact eN
  .simp only[AO];dsimp only[Ty.den]at *;omega
  .exact eV
  .have d:m=l.length:=by exact eV
   subst d;rw[b,BY a]at hs;refine⟨⟨k+1,by omega⟩,by simp only;omega,AC [(60,.nm 60)] rfl rfl ?_ ?_⟩
   .simp only[hs];exact eN
   simp only[hs];exact eN
  .exact eV
  have d:m=l.length:=by exact eV
  subst d;rw[b,As (by rw[a];simp),AAn]at hs;refine⟨⟨k+1,by omega⟩,by simp only;omega,AC [(60,.nm 60)] rfl rfl ?_ ?_⟩
  .simp only[hs];exact eN
  simp only[hs];exact eN
 have e:k=l.length:=by exact eV
 subst e;refine CK [60] ?_;exact fI c [.tmp 4] (by unfold Xs;exact eR)
end
section
attribute [local go_sem] PK PI Ip
abbrev FV:=ByteArray×ByteArray
abbrev f0V:FV:=(ByteArray.empty,ByteArray.empty)
def o5 (all:List ByteArray) (l:List FV):Nat->List FV->Int
 | _,[]=>0
 | k,x :: r=>if BM x.1 true=false then 1 else if ((l.take k).any λy=>AM y.1 x.1)=true then 4 else if AU all x.2=false then 5 else o5 all l (k+1) r
def Uz (all:List ByteArray):List AJ->Int
 | []=>0
 | x :: l=>if o5 all x.2.2 0 x.2.2≠0 then o5 all x.2.2 0 x.2.2 else Uz all l
def KE (d:List AJ):Int:=Uz (AN d) d
theorem A0h (all:List ByteArray) (l:List FV) (h:k<l.length):o5 all l k (l.drop k)=if BM (l.getD k f0V).1 true=false then 1 else if ((l.take k).any λy=>AM y.1 (l.getD k f0V).1)=true then 4 else if AU all (l.getD k f0V).2=false then 5 else o5 all l (k+1) (l.drop (k+1)):=by
 rw[OF h];have e:l.getD k f0V=l[k]:=by simp[AS,h]
 rw[e];rfl
theorem tX (all:List ByteArray) (l:List AJ) (h:k<l.length):Uz all (l.drop k)=if o5 all (l.getD k d0).2.2 0 (l.getD k d0).2.2≠0 then o5 all (l.getD k d0).2.2 0 (l.getD k d0).2.2 else Uz all (l.drop (k+1)):=by
 rw[OF h];have e:l.getD k d0=l[k]:=by simp[AS,h]
 rw[e];rfl
def k9:AW:={ ins:=[Et],pre:=λ(d,_)=>List.length d<=256,out:=λ(d,_)=>[.p C6 (KE d)] }
theorem A0i:AY Tryz.prog 147 k9:=by
 refine fK [0,2,3,4,5,6,7,13,24,33,36,49,57] Tryz.func147 Tryz.ntmps147 (AF Xg (AF Uh (AF GZ AH))) ?_;rintro w0 O0 ⟨d,u⟩ c ⟨⟨x,v⟩,-⟩ j;have j:d.length<=256:=j;simp only[k9,AL];repeat'(first|exact trivial|apply eS rfl|refine rX c ?_ ?_)
 .exact gO j dg
 have w:KE d=Uz (AN d) d:=rfl;rw[w];generalize AN d=all at *;refine AI (ι:={i:Nat//i<=d.length/\Uz all (d.drop i)=Uz all d}) (λi=>⟨[(0,.p Et d),(3,.p CL all),(4,.p (.int .i64) (i.1:Int))],[]⟩) (λi=>d.length-i.1) ⟨0,By _,rfl⟩ (eW []) (λi=>?_)
 obtain⟨i,hi,hf⟩:=i;simp only;repeat'(first|exact trivial|apply eS rfl|refine rX c ?_ ?_|refine rC ?_ ?_<;>intro a<;>try(cases a;done))
 .exact a
 .have o:i<d.length:=by exact eV
  rw[tX all d o]at hf;have A:(d.getD i d0).2.2.length<=AO:=(v _ (AG d d0 o)).2.2.1;have z:(List.getD d i (ByteArray.empty,[],[])).2.2=(d.getD i d0).2.2:=rfl;rw[z];generalize (d.getD i d0).2.2=l at *;simp only[AO]at A;refine AI (ι:={k:Nat//k<=l.length/\o5 all l k (l.drop k)=o5 all l 0 l}) (λk=>⟨[(0,.p Et d),(3,.p CL all),(4,.p (.int .i64) (i:Int)),(5,.p T63 l),(6,.p (.int .i64) (k.1:Int))],[]⟩) (λk=>l.length-k.1) ⟨0,By _,rfl⟩ (eW []) (λk=>?_)
  obtain⟨k,hk,b⟩:=k;have r:=λh:k<l.length=>A0h all l h;simp only;repeat'(first|exact trivial|apply eS rfl|apply AB|refine rX c ?_ ?_|refine rC ?_ ?_<;>intro a<;>try(cases a;done))
  .exact a
  .have e:k<l.length:=by exact eV
   rw[r e,BY a]at b;rw[<-b,BY dg]at hf;exact fI c [.tmp 2] (by rw[<-hf];exact eR)
  .have e:k<l.length:=by exact eV
   have q:(k:Int)<(l.length:Int):=iF.2 e;rw[r e,As (by rw[a];simp)]at b;refine AI (ι:={m:Nat//m<=k/\((l.take m).any λy=>AM y.1 (l.getD k f0V).1)=false}) (λm=>⟨[(0,.p Et d),(3,.p CL all),(4,.p (.int .i64) (i:Int)),(5,.p T63 l),(6,.p (.int .i64) (k:Int)),(7,.p (.int .i64) (m.1:Int))],[]⟩) (λm=>k-m.1) ⟨0,By _,rfl⟩ (eW []) (λm=>?_)
   obtain⟨m,B,g⟩:=m;have s:=λh:m<l.length=>Me l f0V (λy=>AM y.1 (l.getD k f0V).1) h;simp only;repeat'(first|exact trivial|apply eS rfl|apply AB|refine rX c ?_ ?_|refine rC ?_ ?_<;>intro a<;>try(cases a;done))
   .have h1:(m:Int)<(k:Int):=a;exact⟨by exact eV,q⟩
   .have f:m<k:=iF.1 (by assumption);have n:=s O1;have t:((l.take k).any λy=>AM y.1 (l.getD k f0V).1)=true:=by
     rw[To];exact⟨l.getD m f0V,by
      rw[ABv];refine⟨m,by omega,?_⟩;simp[AS,show m<l.length by omega],a⟩
    rw[BY t]at b;rw[<-b,BY dg]at hf;exact fI c [.tmp 2] (by rw[<-hf];exact eR)
   .omega
   .have f:m<k:=iF.1 (by assumption);have n:=s O1;refine⟨⟨m+1,by omega,?_⟩,by simp only;omega,AC [] rfl rfl ?_ ?_⟩
    .rw[n,g];exact a
    .exact eN
    exact eN
   .exact q
   .have f:m=k:=by omega
    subst f;rw[As (by rw[g];simp),BY a]at b;rw[<-b,BY dg]at hf;exact fI c [.tmp 2] (by rw[<-hf];exact eR)
   .have:=x;simp only[AO]at this;omega
   have f:m=k:=by omega
   subst f;rw[As (by rw[g];simp),As (by rw[a];simp)]at b;exact⟨⟨m+1,by omega,b⟩,by simp only;omega,eW []⟩
  .omega
  have e:l.drop k=[]:=NO (AAe.1 a);rw[e]at b;rw[<-b,As (by simp[o5])]at hf;exact⟨⟨i+1,by omega,hf⟩,by simp only;omega,eW []⟩
 have e:d.drop i=[]:=NO (by exact eV);rw[e]at hf;exact fI c [.tmp 2] (by rw[<-hf];first|exact eR|refine Kv ?_;rfl)
end
section
attribute [local go_sem] Zb ZR Lj Kw
def Gv (s:ByteArray) (o:List ByteArray) (x:AJ):List ByteArray:=if (C8 x s).2=true then Dl o x.1 else o
def E6 (d:List AJ) (s:ByteArray):List ByteArray:=d.foldl (Gv s) []
theorem lA (s:ByteArray) (d:List AJ) (k:Nat):(E6 (d.take k) s).length<=k:=by
 have key:∀(l:List AJ) (o:List ByteArray),(l.foldl (Gv s) o).length<=o.length+l.length:=by
  intro l;induction l with
  | nil=>intro o;simp
  | cons x l b =>
   intro o;have h1:=b (Gv s o x);have a:(Gv s o x).length<=o.length+1:=by
    unfold Gv;split
    .exact Lh o x.1
    omega
   simp only[OS,IS];omega
 have h1:=key (d.take k) [];have a:=AAz k d;unfold E6;simp only[AAl]at h1;omega
def DR (d:List AJ) (s:ByteArray):ByteArray×Bool:=if (A3 d (E6 d s)).length=1 then ((A3 d (E6 d s)).getD 0 ByteArray.empty,true) else (ByteArray.empty,false)
def Zk:AW:={ ins:=[Et,T9],pre:=λ(d,_,_)=>PM d/\List.length d<=256,out:=λ(d,s,_)=>[.p T9 (DR d s).1,.p .bool (DR d s).2] }
theorem eJ:AY Tryz.prog 118 Zk:=by
 refine fK [0,1,4,5,6,7,9,10,14,26,39] Tryz.func118 Tryz.ntmps118 (AF dV (AF Qf (AF Um AH))) ?_;rintro w0 O0 ⟨d,s,u⟩ c-⟨l,f⟩;have f:d.length<=256:=f;simp only[Zk,AL];repeat'(first|exact trivial|apply eS rfl|refine rX c ?_ ?_)
 refine AI (ι:={i:Nat//i<=d.length}) (λi=>⟨[(0,.p Et d),(1,.p T9 s),(6,.p CL (E6 (d.take i.1) s)),(7,.p (.int .i64) (i.1:Int))],[]⟩) (λi=>d.length-i.1) ⟨0,By _⟩ (AC [] rfl rfl ?_ ?_) (λi=>?_)
 .exact eN
 .refine eM ?_;rfl
 obtain⟨i,hi⟩:=i;have hi:i<=d.length:=hi;have hn:=lA s d i;have hs:=λh:i<d.length=>Ec (Gv s) d d0 [] h;have j:∀e,E6 e s=e.foldl (Gv s) []:=λ_=>rfl;rw[<-j,<-j]at hs;unfold Gv at hs;simp only;repeat'(first|exact trivial|apply eS rfl|apply AB|refine rX c ?_ ?_|refine rC ?_ ?_<;>intro a<;>try(cases a;done))
 .exact a
 .exact⟨by assumption,by omega⟩
 .exact eV
 .have b:i<d.length:=by exact eV
  have e:=hs b;rw[BY a]at e;refine⟨⟨i+1,by omega⟩,by simp only;omega,AC [] rfl rfl ?_ ?_⟩
  .exact eN
  simp only[e];exact eN
 .exact eV
 .have b:i<d.length:=by exact eV
  have e:=hs b;rw[As (by rw[a];simp)]at e;refine⟨⟨i+1,by omega⟩,by simp only;omega,AC [] rfl rfl ?_ ?_⟩
  .exact eN
  simp only[e];exact eN
 .exact⟨l,f,by omega⟩
 .have b:d.take i=d:=At (by exact eV);rw[b]at a ⊢;have h1:DR d s=(ByteArray.empty,false):=by
   unfold DR;rw[As O1]
  exact fI c [.tmp 4,.tmp 5] (by rw[h1];first|exact eR|refine Kv ?_;first|rfl|exact⟨rfl,rfl⟩)
 .have g:((A3 d (E6 (d.take i) s)).length:Int)=1:=by simpa using a
  have k:(0:Int)<((A3 d (E6 (d.take i) s)).length:Int):=by rw[g];decide
  exact k
 have b:d.take i=d:=At (by exact eV);rw[b]at a ⊢;have g:((A3 d (E6 d s)).length:Int)=1:=by simpa using a
 have h1:DR d s=((A3 d (E6 d s)).getD 0 ByteArray.empty,true):=by
  unfold DR;rw[BY O1]
 exact fI c [.tmp 4,.tmp 5] (by rw[h1];exact eR)
end
section
attribute [local go_sem] Zb S4 oQ zY
def JP (l:List AQ) (t:Int) (s:ByteArray) (o:List Int×Bool) (x:AJ):List Int×Bool :=
 if (!(C8 x s).2||!Kg l (BH l x.1) t)=true then o else (D5 o.1 (l.getD (BH l (C8 x s).1).toNat c0).2,true)
def E7 (d:List AJ) (l:List AQ) (t:Int) (s:ByteArray):List Int×Bool:=d.foldl (JP l t s) ((l.getD 0 c0).2,false)
def lB (d:List AJ) (l:List AQ):Prop:=(∀x∈d,0<=BH l x.1)/\∀x∈d,∀y∈x.2.2,0<=BH l y.2
theorem eK (s:ByteArray):∀(l:List (ByteArray×ByteArray)),(dU s l).2=true->∃y∈l,y.2=(dU s l).1
 | [],h=>by cases h
 | x :: l,h=>by
  simp only[dU]at h ⊢;split at h
  .rename_i h1;rw[BY h1];exact⟨x,by simp,rfl⟩
  rename_i h1;rw[As h1];obtain⟨y,a,e⟩:=eK s l h;exact⟨y,by simp[a],e⟩
theorem lB.value {d:List AJ} {l:List AQ} (h:lB d l) {x:AJ} (b:x∈d) (a:(C8 x s).2=true):0<=BH l (C8 x s).1:=by
 obtain⟨y,c,e⟩:=eK s x.2.2 a;have:=h.2 x b y c;rw[e]at this;exact this
theorem A0j {l:List AQ} (t:Int) (s:ByteArray) (x:AJ) {o:List Int×Bool} (h:o.1.length<=64):(JP l t s o x).1.length<=64:=by
 unfold JP;split
 .exact h
 exact gO (dW _ _) h
theorem U0 {l:List AQ} (t:Int) (s:ByteArray):∀(d:List AJ) {o:List Int×Bool},o.1.length<=64->(d.foldl (JP l t s) o).1.length<=64
 | [],_,h=>h
 | x :: d,_,h=>by rw[OS];exact U0 t s d (A0j t s x h)
theorem eL (s:ByteArray):∀(l:List AQ) (k:Nat),KA s k l<((k+l.length:Nat):Int)
 | [],k=>by simp only[KA];omega
 | x :: l,k=>by
  simp only[KA];split
  .simp only[IS];omega
  have:=eL s l (k+1);simp only[IS];omega
theorem R2 (l:List AQ) (s:ByteArray):BH l s<(l.length:Int):=by
 have:=eL s l 0;rw[AAH]at this;exact this
def A3K:AW:={ ins:=[Et,JF,T3,T9],pre:=λ(d,l,t,_,_)=>lB d l/\((0:Int)<=t/\t<(List.length l:Int))/\List.length l<=256/\(∀x∈(l:List AQ),x.2.length<=64),out:=λ(d,l,t,s,_)=>[.p BT (E7 d l t s).1,.p .bool (E7 d l t s).2] }
theorem A0k:AY Tryz.prog 109 A3K:=by
 refine fK [0,1,2,3,8,9,10,11,12,13,14,22,48] Tryz.func109 Tryz.ntmps109 (AF dV (AF Xk (AF oT (AF kJ AH)))) ?_;rintro w0 O0 ⟨d,l,t,s,u⟩ f ⟨⟨A,G⟩,-⟩ ⟨r,j,n,w⟩;have n:l.length<=256:=n;have F:∀x∈(l:List AQ),x.2.length<=100000:=λx h=>gO (w x h) dg;have q:0<List.length l:=iF.1 (ACx j.1 j.2);simp only[AO]at A;simp only[A3K,AL];repeat'(first|exact trivial|apply eS rfl|refine rX f ?_ ?_)
 .exact iF.2 q
 have m:E7 d l t s=d.foldl (JP l t s) ((l.getD 0 c0).2,false):=rfl;have y:(l.getD 0 c0).2.length<=64:=w _ (AG l c0 q);have z:(List.getD l 0 (ByteArray.empty,[])).2=(l.getD 0 c0).2:=rfl;rw[z];generalize (l.getD 0 c0).2=c at *;refine AI (ι:={i:Nat//i<=d.length}) (λi=>⟨[(0,.p Et d),(1,.p JF l),(2,.p T3 t),(3,.p T9 s),(10,.p .bool ((d.take i.1).foldl (JP l t s) (c,false)).2),(11,.p BT ((d.take i.1).foldl (JP l t s) (c,false)).1),(12,.p (.int .i64) (i.1:Int))],[]⟩) (λi=>d.length-i.1) ⟨0,By _⟩ (AC [] rfl rfl ?_ ?_) (λi=>?_)
 .exact eN
 .refine eM ?_;exact⟨rfl,rfl⟩
 obtain⟨i,hi⟩:=i;have hi:i<=d.length:=hi;have B:=U0 (l:=l) t s (d.take i) (o:=(c,false)) y;have hs:=λh:i<d.length=>Ec (JP l t s) d d0 (c,false) h;have E:=λh:i<d.length=>r.1 _ (AG d d0 h);have D:=λ(h:i<d.length) (g:(C8 (d.getD i d0) s).2=true)=>r.value (AG d d0 h) g;have k:∀o x,JP l t s o x=(if (!(C8 x s).2||!Kg l (BH l x.1) t)=true then o else (D5 o.1 (l.getD (BH l (C8 x s).1).toNat c0).2,true)):=λ_ _=>rfl;generalize v:(d.take i).foldl (JP l t s) (c,false)=o at *;simp only;repeat'(first|exact trivial|apply eS rfl|apply AB|refine rX f ?_ ?_|refine rC ?_ ?_<;>intro a<;>try(cases a;done))
 .exact a
 .have b:i<d.length:=iF.1 a;exact⟨λ_=>a,λ_=>⟨⟨E b,R2 _ _⟩,j,F⟩⟩
 .exact eV
 .have b:i<d.length:=iF.1 (by assumption);have e:=hs b;rw[k,BY (by rw[vW,bY,bY];exact a)]at e;refine⟨⟨i+1,by omega⟩,by simp only;omega,AC [] rfl rfl ?_ ?_⟩
  .exact eN
  refine eM ?_;rw[e];exact⟨rfl,rfl⟩
 .have b:i<d.length:=iF.1 (by assumption);exact⟨⟨D b a.1,R2 _ _⟩,gO B dg⟩
 .exact eV
 .have b:i<d.length:=iF.1 (by assumption);have e:=hs b;have C:¬(!(C8 (d.getD i d0) s).2||!Kg l (BH l (d.getD i d0).1) t)=true:=by
   rw[vW,bY,bY];rintro (h|h)
   .rw[show (C8 (d.getD i d0) s).2=true from a.1]at h;cases h
   rw[show Kg l (BH l (d.getD i d0).1) t=true from a.2]at h;cases h
  rw[k,As C]at e;refine⟨⟨i+1,by omega⟩,by simp only;omega,AC [] rfl rfl ?_ ?_⟩
  .exact eN
  refine eM ?_;rw[e];exact⟨rfl,rfl⟩
 have b:d.take i=d:=At (AAe.1 a);rw[b]at v;rw[v]at m;exact fI f [.tmp 8,.tmp 9] (by rw[m];exact eR)
end
theorem R3:∀ {l:List AJ},Lf l=0->∀x∈l,x.2.1.length<=256/\x.2.2.length<=256
 | [],_,x,a=>by cases a
 | y :: l,h,x,a=>by
  simp only[Lf]at h;split at h
  .cases h
  rename_i h1;rcases DO.1 a with rfl|a
  .exact⟨by omega,by omega⟩
  exact R3 h x a
theorem KF {d:List AJ} (h:A7 d=0):∀x∈d,x.2.1.length<=256/\x.2.2.length<=256:=by
 have h1:Ei d=0:=by
  unfold A7 at h;split at h
  .rename_i h1;exact absurd h h1
  rename_i h1;exact GO h1
 unfold Ei at h1;split at h1
 .cases h1
 exact R3 h1
theorem OC {d:List AJ} (h:A7 d=0):∀x∈AK d,x.2.length<=64:=by
 intro x e;obtain⟨-,a,-⟩:=Az h;obtain⟨b,c,rfl⟩:=DQ.1 e;exact Pa (OB a) b c
theorem eO {all:List ByteArray} {l:List FV}:∀ {r:List FV} {k:Nat},o5 all l k r=0->∀y∈r,AU all y.2=true
 | [],_,_,y,a=>by cases a
 | x :: r,k,h,y,a=>by
  simp only[o5]at h;split at h
  .cases h
  split at h
  .cases h
  split at h
  .cases h
  rename_i b;rcases DO.1 a with rfl|a
  .simpa using b
  exact eO h y a
theorem Xt {all:List ByteArray}:∀ {l:List AJ},Uz all l=0->∀x∈l,∀y∈x.2.2,AU all y.2=true
 | [],_,x,a=>by cases a
 | z :: l,h,x,a=>by
  simp only[Uz]at h;split at h
  .rename_i h1;exact absurd h h1
  rename_i h1;rcases DO.1 a with rfl|a
  .exact eO (GO h1)
  exact Xt h x a
theorem Pc {d:List AJ} (h:A7 d=0) (b:KE d=0):lB d (AK d) :=
 ⟨λx a=>Lp h a,λx a y c=>Gb h (Xt b x a y c)⟩
section
attribute [local go_sem] Qq Uo k9 Zk A3K
def KG (d:List AJ) (l:List AQ) (t:Nat) (s:ByteArray):Bool:=(E7 d l (t:Int) s).2&&((E7 d l (t:Int) s).1.length:Int)==0
def Zl (d:List AJ) (l:List AQ) (f:List ByteArray) (t:Nat):Bool:=f.any (KG d l t)
def Hr (d:List AJ) (l:List AQ) (f:List ByteArray) (n:Nat):Bool:=(List.range n).any (Zl d l f)
theorem eP (d:List AJ) (l:List AQ) (f:List ByteArray) (n:Nat):Hr d l f (n+1)=(Hr d l f n||Zl d l f n):=by
 unfold Hr;rw[AAt,ABJ];simp
def Am (d:List AJ):Int :=
 if (B8 d).2≠0 then (B8 d).2 else if 64<(BG d).length then 7 else if KE d≠0 then KE d else
 if ((BG d).all λs=>(DR d s).2)=false then 10 else if Hr d (B8 d).1 (BG d) (B8 d).1.length=true then 11 else 0
def S5:AW:={ ins:=[Et],pre:=λ_=>True,out:=λ(d,_)=>[.p C6 (Am d)] }
theorem Xu:AY Tryz.prog 107 S5:=by
 refine fK [0,2,3,4,5,6,7,9,10,11,12,13,20,26,30,35,48,52,58,77] Tryz.func107 Tryz.ntmps107 (AF Pb (AF Uq (AF A0i (AF eJ (AF A0k AH))))) ?_;rintro w0 O0 ⟨d,u⟩ b - -;simp only[S5,AL];repeat'(first|exact trivial|apply eS rfl|refine rX b ?_ ?_|refine rC ?_ ?_<;>intro a<;>try(cases a;done))
 .have h1:Am d=(B8 d).2:=by unfold Am;rw[BY a]
  exact fI b [.tmp 2] (by rw[h1];exact eR)
 .have c:(B8 d).2=0:=by simpa using a
  obtain⟨e,-,-⟩:=BZ c;obtain⟨-,r,-⟩:=Az e;exact⟨r,λx L=>(KF e x L).2⟩
 .have c:(B8 d).2=0:=by simpa using ‹((B8 d).2 != 0)=false›
  have h1:Am d=7:=by
   unfold Am;rw[As (by rw[c];simp),BY O1]
  exact fI b [.tmp 2] (by rw[h1];exact eR)
 .have c:(B8 d).2=0:=by simpa using ‹((B8 d).2 != 0)=false›
  obtain⟨e,-,-⟩:=BZ c;exact(Az e).2.1
 .have c:(B8 d).2=0:=by simpa using ‹((B8 d).2 != 0)=false›
  have h1:Am d=KE d:=by
   unfold Am;rw[As (by rw[c];simp),As O1,BY a]
  exact fI b [.tmp 2] (by rw[h1];exact eR)
 have c:(B8 d).2=0:=by simpa using ‹((B8 d).2 != 0)=false›
 have v:KE d=0:=by simpa using a
 obtain⟨e,C,B⟩:=BZ c;obtain⟨H,r,-⟩:=Az e;have E:=Pc e v;have K:=OC e;have M:=o4 e;have D:(AK d).length<=256:=by rw[Hp];exact C
 have g:Am d=if ((BG d).all λs=>(DR d s).2)=false then 10 else if Hr d (B8 d).1 (BG d) (B8 d).1.length=true then 11 else 0:=by
  unfold Am;rw[As (by rw[c];simp),As O1,As (by rw[v];simp)]
 rw[B]at g ⊢;generalize AK d=l at *;generalize BG d=f at *;refine AI (ι:={i:Nat//i<=f.length/\((f.take i).all λs=>(DR d s).2)=true}) (λi=>⟨[(0,.p Et d),(3,.p JF l),(5,.p CL f),(7,.p (.int .i64) (i.1:Int))],[]⟩) (λi=>f.length-i.1) ⟨0,By _,rfl⟩ (eW []) (λi=>?_)
 obtain⟨i,hi,n⟩:=i;have G:=λh:i<f.length=>Qi f ByteArray.empty (λs=>(DR d s).2) h;simp only;repeat'(first|exact trivial|apply eS rfl|apply AB|refine rX b ?_ ?_|refine rC ?_ ?_<;>intro a<;>try(cases a;done))
 .exact⟨a,H,r⟩
 .have j:i<f.length:=iF.1 (by assumption);have z:(f.all λs=>(DR d s).2)=false:=by
   rw[ABC];intro h;have:=ON.1 h _ (AG f ByteArray.empty j);rw[show (DR d (f.getD i ByteArray.empty)).2=false from a]at this;cases this
  rw[BY z]at g;exact fI b [.tmp 2] (by rw[g];exact eR)
 .omega
 .have j:i<f.length:=iF.1 (by assumption);refine⟨⟨i+1,j,?_⟩,by simp only;omega,AC [] rfl rfl ?_ ?_⟩
  .rw[G j,n];exact a
  .exact eN
  exact eN
 have j:f.take i=f:=At (AAe.1 a);rw[j]at n;rw[As (by rw[n];simp)]at g;refine AI (ι:={t:Nat//t<=l.length/\Hr d l f t=false}) (λt=>⟨[(0,.p Et d),(3,.p JF l),(5,.p CL f),(10,.p (.int .i64) (t.1:Int))],[]⟩) (λt=>l.length-t.1) ⟨0,By _,rfl⟩ (eW []) (λt=>?_)
 obtain⟨t,N,y⟩:=t;have J:=eP d l f t;simp only;repeat'(first|exact trivial|apply eS rfl|refine rX b ?_ ?_|refine rC ?_ ?_<;>intro a<;>try(cases a;done))
 .have w:t<l.length:=iF.1 a;refine AI (ι:={k:Nat//k<=f.length/\(f.take k).any (KG d l t)=false}) (λk=>⟨[(0,.p Et d),(3,.p JF l),(5,.p CL f),(10,.p (.int .i64) (t:Int)),(11,.p (.int .i64) (k.1:Int))],[]⟩) (λk=>f.length-k.1) ⟨0,By _,rfl⟩ (eW []) (λk=>?_)
  obtain⟨k,hk,o⟩:=k;have F:=λh:k<f.length=>Me f ByteArray.empty (KG d l t) h;simp only;repeat'(first|exact trivial|apply eS rfl|apply AB|refine rX b ?_ ?_|refine rC ?_ ?_<;>intro a<;>try(cases a;done))
  .exact⟨a,E,by assumption,D,K⟩
  .have m:k<f.length:=iF.1 (by assumption);have q:KG d l t (f.getD k ByteArray.empty)=true:=by
    unfold KG;rw[An,AAc];exact a
   have A:Hr d l f l.length=true:=by
    unfold Hr;rw[To];exact⟨t,tO.2 w,IJ f ByteArray.empty _ m q⟩
   rw[BY A]at g;exact fI b [.tmp 2] (by rw[g];exact eR)
  .omega
  .have m:k<f.length:=iF.1 (by assumption);have q:KG d l t (f.getD k ByteArray.empty)=false:=by
    rw[ABC];unfold KG;intro h;rw[An,AAc]at h;exact a h.1 h.2
   refine⟨⟨k+1,m,?_⟩,by simp only;omega,AC [] rfl rfl ?_ ?_⟩
   .rw[F m,o,q];rfl
   .exact eN
   exact eN
  .omega
  have m:f.take k=f:=At (AAe.1 a);rw[m]at o;refine⟨⟨t+1,w,?_⟩,by simp only;omega,AC [] rfl rfl ?_ ?_⟩
  .rw[J,y];exact o
  .exact eN
  exact eN
 have I:t=l.length:=by exact eV
 subst I;rw[As (by rw[y];simp)]at g;exact fI b [.tmp 2] (by rw[g];exact eR)
end
section
attribute [local go_sem] S5 Qq Uo Zk S4
abbrev R4:=ByteArray×Int
theorem CC {d:List AJ} (h:Am d=0):(B8 d).2=0/\(BG d).length<=64/\KE d=0:=by
 unfold Am at h;split at h
 .rename_i h1;exact absurd h h1
 rename_i h1;split at h
 .cases h
 rename_i b;split at h
 .rename_i a;exact absurd h a
 rename_i a;exact⟨GO h1,by omega,GO a⟩
def Lq (d:List AJ) (s:ByteArray):R4:=(s,BH (AK d) (DR d s).1)
def DC (d:List AJ):List R4×Int:=if Am d≠0 then ([],Am d) else ((BG d).map (Lq d),0)
theorem Wq {α:Type} (f:α->X) (l:List α) (d:α) (h:k<l.length):(l.take (k+1)).map f=(l.take k).map f++[f (l.getD k d)]:=by
 rw[Ag l d h,AAF];rfl
theorem Zm {α:Type} (f:α->X) (l:List α) (h:k<=l.length):((l.take k).map f).length=k:=by simp[h]
def Qr:AW:={ ins:=[Et],pre:=λ_=>True,out:=λ(d,_)=>[.p QC (DC d).1,.p C6 (DC d).2] }
theorem eQ:AY Tryz.prog 67 Qr:=by
 refine fK [0,2,3,4,5,7,8,9,10,15,27] Tryz.func67 Tryz.ntmps67 (AF Xu (AF Pb (AF Uq (AF eJ (AF Xk AH))))) ?_;rintro w0 O0 ⟨d,u⟩ g - -;simp only[Qr,AL];repeat'(first|exact trivial|apply eS rfl|refine rX g ?_ ?_|refine rC ?_ ?_<;>intro a<;>try(cases a;done))
 .have h1:DC d=([],Am d):=by unfold DC;rw[BY a]
  exact fI g [.tmp 2,.tmp 3] (by rw[h1];exact eR)
 .have c:Am d=0:=by simpa using a
  obtain⟨k,-,-⟩:=CC c;obtain⟨b,-,-⟩:=BZ k;exact⟨(Az b).2.1,λx r=>(KF b x r).2⟩
 have c:Am d=0:=by simpa using a
 obtain⟨k,s,-⟩:=CC c;obtain⟨b,-,m⟩:=BZ k;obtain⟨q,l,-⟩:=Az b;have o:DC d=((BG d).map (Lq d),0):=by unfold DC;rw[As (by rw[c];simp)]
 rw[m];generalize BG d=f at *;refine AI (ι:={i:Nat//i<=f.length}) (λi=>⟨[(0,.p Et d),(5,.p JF (AK d)),(7,.p CL f),(8,.sr 49 yF 0 ((f.take i.1).map (Lq d)).length),(9,.p (.int .i64) (i.1:Int))],[(49,.arr 172 yF ((f.take i.1).map (Lq d)))]⟩) (λi=>f.length-i.1) ⟨0,By _⟩ (eW [(49,.nil)]) (λi=>?_)
 obtain⟨i,hi⟩:=i;have n:=Zm (Lq d) f hi;have hs:=λh:i<f.length=>Wq (Lq d) f ByteArray.empty h;simp only;repeat'(first|exact trivial|apply eS rfl|apply AB|refine rX g ?_ ?_|refine rC ?_ ?_<;>intro a<;>try(cases a;done))
 .exact⟨a,q,l⟩
 .refine⟨a,?_⟩;rw[n];simp only[AO];omega
 .omega
 .have j:i<f.length:=iF.1 a;have e:=hs j;refine⟨⟨i+1,j⟩,by simp only;omega,AC [(49,.nm 49)] rfl rfl ?_ ?_⟩
  .simp only[e];refine eM ?_;rfl
  simp only[e];exact eN
 have j:f.take i=f:=At (AAe.1 a);rw[j];refine CK [49] ?_;exact fI g [.tmp 2,.tmp 3] (by rw[o];exact eR)
end
section
attribute [local go_sem] S5 Qq Uo A3K kQ
def SV (d:List AJ) (l:List AQ) (f:List ByteArray) (t:Nat) (n:Nat):List (Int×Int) :=
 ((List.range n).filter λ(i:Nat)=>(E7 d l (t:Int) (f.getD i ByteArray.empty)).2).map λ(i:Nat)=>((i:Int),Gp l (E7 d l (t:Int) (f.getD i ByteArray.empty)).1)
def JQ (d:List AJ) (l:List AQ) (f:List ByteArray) (n:Nat):List (List (Int×Int)):=(List.range n).map λt=>SV d l f t f.length
def A4 (d:List AJ):List (List (Int×Int))×Int:=if Am d≠0 then ([],Am d) else (JQ d (AK d) (BG d) (AK d).length,0)
theorem Xv (d:List AJ) (l:List AQ) (f:List ByteArray) (t n:Nat):SV d l f t (n+1)=SV d l f t n++if (E7 d l (t:Int) (f.getD n ByteArray.empty)).2=true then [((n:Int),Gp l (E7 d l (t:Int) (f.getD n ByteArray.empty)).1)] else []:=by
 unfold SV;rw[AAt,ABH,AAF]
 congr 1
 rw[AAr,ABW];split<;>rfl
theorem A0l (d:List AJ) (l:List AQ) (f:List ByteArray) (t n:Nat):(SV d l f t n).length<=n:=by
 unfold SV;rw[aS];exact gO (ABb _ _) sc
theorem lC (d:List AJ) (l:List AQ) (f:List ByteArray) (n:Nat):JQ d l f (n+1)=JQ d l f n++[SV d l f n f.length]:=by simp[JQ,AAt]
theorem Xw (d:List AJ) (l:List AQ) (f:List ByteArray) (n:Nat):(JQ d l f n).length=n:=by simp[JQ]
theorem A0m {d:List AJ} {l:List AQ} (h:∀x∈l,x.2.length<=64) (t:Int) (s:ByteArray):(E7 d l t s).1.length<=64:=by
 unfold E7;refine U0 t s d ?_;rw[AS];cases hh:l[0]? with
 | none=>simp
 | some x=>exact h x (AAy hh)
def U1:AW:={ ins:=[Et],pre:=λ_=>True,out:=λ(d,_)=>[.p A3r (A4 d).1,.p C6 (A4 d).2] }
theorem lD:AY Tryz.prog 64 U1:=by
 refine fK [0,2,3,4,5,7,8,9,10,11,12,13,17,29,35,49] Tryz.func64 Tryz.ntmps64 (AF Xu (AF Pb (AF Uq (AF A0k (AF A00 AH))))) ?_;rintro w0 O0 ⟨d,u⟩ e - -;simp only[U1,AL];repeat'(first|exact trivial|apply eS rfl|refine rX e ?_ ?_|refine rC ?_ ?_<;>intro a<;>try(cases a;done))
 .have h1:A4 d=([],Am d):=by unfold A4;rw[BY a]
  exact fI e [.tmp 2,.tmp 3] (by rw[h1];exact eR)
 .have h:Am d=0:=by simpa using a
  obtain⟨m,-,-⟩:=CC h;obtain⟨b,-,-⟩:=BZ m;exact⟨(Az b).2.1,λx z=>(KF b x z).2⟩
 have h:Am d=0:=by simpa using a
 obtain⟨m,B,o⟩:=CC h;obtain⟨b,j,r⟩:=BZ m;obtain⟨D,A,-⟩:=Az b;have y:A4 d=(JQ d (AK d) (BG d) (AK d).length,0):=by unfold A4;rw[As (by rw[h];simp)]
 have w:=Pc b o;have n:=OC b;have v:(AK d).length<=256:=by rw[Hp];exact j
 rw[r];generalize AK d=l at *;generalize BG d=f at *;have q:=λt s=>A0m (d:=d) n t s;refine AI (ι:={t:Nat//t<=l.length}) (λt=>⟨[(0,.p Et d),(5,.p JF l),(7,.p CL f),(8,.sr 61 Wn 0 (JQ d l f t.1).length),(9,.p (.int .i64) (t.1:Int))],[(61,.arr 112 Wn (JQ d l f t.1))]⟩) (λt=>l.length-t.1) ⟨0,By _⟩ (AC [(61,.nil)] rfl rfl ?_ ?_) (λt=>?_)
 .refine eM ?_;rfl
 .refine eM ?_;rfl
 obtain⟨t,E⟩:=t;have j:=Xw d l f t;have hs:=lC d l f t;simp only;repeat'(first|exact trivial|apply eS rfl|refine rX e ?_ ?_|refine rC ?_ ?_<;>intro a<;>try(cases a;done))
 .refine AI (ι:={i:Nat//i<=f.length}) (λi=>⟨[(0,.p Et d),(5,.p JF l),(7,.p CL f),(8,.sr 61 Wn 0 (JQ d l f t).length),(9,.p (.int .i64) (t:Int)),(10,.sr 57 yE 0 (SV d l f t i.1).length),(11,.p (.int .i64) (i.1:Int))],[(61,.arr 112 Wn (JQ d l f t)),(57,.arr 149 yE (SV d l f t i.1))]⟩) (λi=>f.length-i.1) ⟨0,By _⟩ (AC [(61,.nm 61),(57,.nil)] rfl rfl ?_ ?_) (λi=>?_)
  .refine eM ?_;rfl
  .refine eM ?_;rfl
  obtain⟨i,hi⟩:=i;have C:=A0l d l f t i;have c:=Xv d l f t i;simp only;repeat'(first|exact trivial|apply eS rfl|apply AB|refine rX e ?_ ?_|refine rC ?_ ?_<;>intro a<;>try(cases a;done))
  .exact⟨a,w,by assumption,v,n⟩
  .refine⟨gO (q _ _) dg,?_⟩;simp only[AO];omega
  .omega
  .have g:i<f.length:=iF.1 (by assumption);rw[BY a]at c;refine⟨⟨i+1,g⟩,by simp only;omega,AC [(61,.nm 61),(57,.nm 57)] rfl rfl ?_ ?_⟩
   .simp only[c];exact eN
   simp only[c];exact eN
  .omega
  .have g:i<f.length:=iF.1 (by assumption);rw[As (by rw[a];simp),AAn]at c;refine⟨⟨i+1,g⟩,by simp only;omega,AC [(61,.nm 61),(57,.nm 57)] rfl rfl ?_ ?_⟩
   .simp only[c];exact eN
   simp only[c];exact eN
  .rw[j];simp only[AO];omega
  .omega
  have k:t<l.length:=iF.1 (by assumption);have g:i=f.length:=by omega
  subst g;refine⟨⟨t+1,k⟩,by simp only;omega,AC [(61,.nm 61)] rfl rfl ?_ ?_⟩
  .simp only[hs];exact eN
  simp only[hs];exact eN
 have k:t=l.length:=by omega
 subst k;refine CK [61] ?_;exact fI e [.tmp 2,.tmp 3] (by rw[y];exact eR)
end
section
attribute [local go_sem] Kw
def Ki (l:List ByteArray) (n:Nat):List FV:=(List.range n).map λk=>(l.getD (2*k) ByteArray.empty,l.getD (2*k+1) ByteArray.empty)
theorem U2 (l:List ByteArray) (n:Nat):Ki l (n+1)=Ki l n++[(l.getD (2*n) ByteArray.empty,l.getD (2*n+1) ByteArray.empty)]:=by simp[Ki,AAt]
theorem Xx (l:List ByteArray) (n:Nat):(Ki l n).length=n:=by simp[Ki]
def Zn (s:ByteArray):List ByteArray:=if AM s ByteArray.empty=true then [] else [s]
def Fu (n s:ByteArray) (l:List ByteArray):AJ:=(n,Zn s,Ki l (l.length / 2))
def o6:AW:={ ins:=[T9,T9,CL],pre:=λ(_,_,l,_)=>List.length l<=1000,out:=λ(n,s,l,_)=>[.p yG (Fu n s l)] }
theorem o7:AY Tryz.prog 68 o6:=by
 refine fK [0,1,2,6,7,8,12,20] Tryz.func68 Tryz.ntmps68 AH ?_;rintro w0 O0 ⟨n,s,l,u⟩ b-i;have i:l.length<=1000:=i;simp only[o6,AL];repeat'(first|exact trivial|apply eS rfl|apply AB|refine rX b ?_ ?_|refine rC ?_ ?_<;>intro a<;>try(cases a;done))
 .have f:=a;refine CK [14] ?_;refine AI (ι:={k:Nat//2*k<=l.length}) (λk=>⟨[(2,.p CL l),(6,.bp 6 [] 0),(7,.bp 7 [] 0),(8,.p (.int .i64) ((2*k.1:Nat):Int))],[(6,.box 65 true [.p T9 ByteArray.empty,.raw (.slice none 0 0),.raw (.slice none 0 0)]),(7,.box 65 true [.p T9 n,.p CL [s],.sr 36 kD 0 (Ki l k.1).length]),(36,.arr 196 kD (Ki l k.1))]⟩) (λk=>l.length-2*k.1) ⟨0,By _⟩ (AC [(6,.nm 6),(7,.nm 7),(36,.nil)] rfl rfl ?_ ?_) (λk=>?_)
  .first|exact eN|refine eM ?_
   exact⟨rfl,rfl⟩
  .first|exact eN|refine eM ?_
  obtain⟨k,hk⟩:=k;have g:=Xx l k;have d:=U2 l k;simp only;repeat'(first|exact trivial|apply eS rfl|apply AB|refine rX b ?_ ?_|refine rC ?_ ?_<;>intro a<;>try(cases a;done))
  .exact eV
  .refine⟨by exact eV,⟨by exact eV,by exact eV⟩,⟨by exact eV,by exact eV⟩,?_⟩;rw[g];simp only[AO];exact eV
  .exact eV
  .have c:2*k+1<l.length:=by exact eV
   have e:((2*k:Nat):Int)+1=((2*k+1:Nat):Int):=by omega
   refine⟨⟨k+1,by omega⟩,by simp only;omega,AC [(6,.nm 6),(7,.nm 7),(36,.nm 36)] rfl rfl ?_ ?_⟩
   .simp only[d];first|exact eN|refine eM ?_
    rw[e];rfl
   simp only[d];first|exact eN|refine eM ?_
   show ((2*k:Nat):Int)+2=((2*(k+1):Nat):Int);omega
  have c:k=l.length / 2:=by exact eV
  refine CK [36] ?_;have h:Fu n s l=(n,[s],Ki l k):=by
   unfold Fu Zn;rw[<-c,As (by rw[show AM s ByteArray.empty=false from f];simp)]
  exact fI b [.cell 6 65] (by rw[h];exact eR)
 have f:=a;refine AI (ι:={k:Nat//2*k<=l.length}) (λk=>⟨[(2,.p CL l),(6,.bp 6 [] 0),(7,.bp 7 [] 0),(8,.p (.int .i64) ((2*k.1:Nat):Int))],[(6,.box 65 true [.p T9 ByteArray.empty,.raw (.slice none 0 0),.raw (.slice none 0 0)]),(7,.box 65 true [.p T9 n,.p CL ([]:List ByteArray),.sr 36 kD 0 (Ki l k.1).length]),(36,.arr 196 kD (Ki l k.1))]⟩) (λk=>l.length-2*k.1) ⟨0,By _⟩ (AC [(6,.nm 6),(7,.nm 7),(36,.nil)] rfl rfl ?_ ?_) (λk=>?_)
 .first|exact eN|refine eM ?_
  exact⟨rfl,rfl⟩
 .first|exact eN|refine eM ?_
 obtain⟨k,hk⟩:=k;have g:=Xx l k;have d:=U2 l k;simp only;repeat'(first|exact trivial|apply eS rfl|apply AB|refine rX b ?_ ?_|refine rC ?_ ?_<;>intro a<;>try(cases a;done))
 .exact eV
 .refine⟨by exact eV,⟨by exact eV,by exact eV⟩,⟨by exact eV,by exact eV⟩,?_⟩;rw[g];simp only[AO];exact eV
 .exact eV
 .have c:2*k+1<l.length:=by exact eV
  have e:((2*k:Nat):Int)+1=((2*k+1:Nat):Int):=by omega
  refine⟨⟨k+1,by omega⟩,by simp only;omega,AC [(6,.nm 6),(7,.nm 7),(36,.nm 36)] rfl rfl ?_ ?_⟩
  .simp only[d];first|exact eN|refine eM ?_
   rw[e];rfl
  simp only[d];first|exact eN|refine eM ?_
  show ((2*k:Nat):Int)+2=((2*(k+1):Nat):Int);omega
 have c:k=l.length / 2:=by exact eV
 refine CK [36] ?_;have h:Fu n s l=(n,([]:List ByteArray),Ki l k):=by
  unfold Fu Zn;rw[<-c,BY (show AM s ByteArray.empty=true from f)]
 exact fI b [.cell 6 65] (by rw[h];exact eR)
end
section
attribute [local go_sem] o6 Kw Kh cs2 My Jc Iu NH cs7 cs8
def Bm:List AJ:=[
 Fu { data:=#[116,111,112] } { data:=#[] } [],
 Fu { data:=#[108,105,115,116] } { data:=#[116,111,112] } [],
 Fu { data:=#[99,111,110,115] } { data:=#[108,105,115,116] } [{ data:=#[70,73,82,83,84] },{ data:=#[116,111,112] },{ data:=#[82,69,83,84] },{ data:=#[108,105,115,116] }],
 Fu { data:=#[110,117,108,108] } { data:=#[108,105,115,116] } [],
 Fu { data:=#[100,108,105,115,116] } { data:=#[116,111,112] } [{ data:=#[76,73,83,84] },{ data:=#[108,105,115,116] },{ data:=#[76,65,83,84] },{ data:=#[108,105,115,116] }],
 Fu { data:=#[105,110,100,101,120] } { data:=#[116,111,112] } [],
 Fu { data:=#[104,97,110,100,108,101] } { data:=#[105,110,100,101,120] } [],
 Fu { data:=#[101,118,101,110,116] } { data:=#[105,110,100,101,120] } [],
 Fu { data:=#[101,110,116,105,116,121] } { data:=#[105,110,100,101,120] } [],
 Fu { data:=#[114,101,108] } { data:=#[116,111,112] } [{ data:=#[76,65,66,69,76] },{ data:=#[104,97,110,100,108,101] }],
 Fu { data:=#[113,101,113] } { data:=#[116,111,112] } [{ data:=#[72,73,71,72] },{ data:=#[104,97,110,100,108,101] },{ data:=#[76,79,87] },{ data:=#[104,97,110,100,108,101] }],
 Fu { data:=#[115,101,109] } { data:=#[116,111,112] } [{ data:=#[84,79,80] },{ data:=#[104,97,110,100,108,101] },{ data:=#[73,78,68,69,88] },{ data:=#[105,110,100,101,120] },{ data:=#[82,69,76,83] },{ data:=#[100,108,105,115,116] },{ data:=#[67,79,78,83] },{ data:=#[100,108,105,115,116] }],
 Fu { data:=#[115,105,103,110] } { data:=#[116,111,112] } [{ data:=#[83,69,77] },{ data:=#[115,101,109] },{ data:=#[65,82,71,83] },{ data:=#[108,105,115,116] }]]
def Hs:AW:={ ins:=[],pre:=λ_=>True,out:=λ_=>[.p Et Bm] }
theorem lE:AY Tryz.prog 29 Hs:=by
 refine fKP [0] [3,6,12,14,16,18,20] [] Tryz.func29 Tryz.ntmps29 (AF o7 AH) ?_;rintro w0 O0 u a - -;simp only[Hs,AL];repeat'(first|exact trivial|apply eS rfl|refine rX a ?_ ?_)
 exact fI a [.tmp 0] (by unfold Bm;exact eR)
end
section
attribute [local go_sem] U1 Qq A0g Qr
abbrev EU:=ByteArray×List Int×List Int×List (Int×Int)
abbrev AE:=List EU×List R4
def EA (l:List AQ) (v:List (List (Int×Int))) (n:Nat):List EU:=(List.range n).map λi=>((l.getD i c0).1,(l.getD i c0).2,Xs l (i:Int),v.getD i [])
theorem lF (l:List AQ) (v:List (List (Int×Int))) (n:Nat):EA l v (n+1)=EA l v n++[((l.getD n c0).1,(l.getD n c0).2,Xs l (n:Int),v.getD n [])]:=by simp[EA,AAt]
theorem JR (l:List AQ) (v:List (List (Int×Int))) (n:Nat):(EA l v n).length=n:=by simp[EA]
def Bi (d:List AJ):AE:=(EA (AK d) (A4 d).1 (AK d).length,(DC d).1)
def Ab (d:List AJ):AE×Int:=if (A4 d).2≠0 then (([],[]),(A4 d).2) else (Bi d,0)
def Fb:AW:={ ins:=[Et],pre:=λ_=>True,out:=λ(d,_)=>[.p FK (Ab d).1,.p C6 (Ab d).2] }
theorem U3:AY Tryz.prog 28 Fb:=by
 refine fK [0,2,3,4,5,6,8,9,10,18,29] Tryz.func28 Tryz.ntmps28 (AF lD (AF Pb (AF A3I (AF eQ AH)))) ?_;rintro w0 O0 ⟨d,u⟩ b - -;simp only[Fb,AL];repeat'(first|exact trivial|apply eS rfl|refine rX b ?_ ?_|refine rC ?_ ?_<;>intro a<;>try(cases a;done))
 .have h1:Ab d=(([],[]),(A4 d).2):=by unfold Ab;rw[BY a]
  exact fI b [.cell 2 26,.tmp 3] (by rw[h1];exact eR)
 have c:(A4 d).2=0:=by simpa using a
 have f:Am d=0:=by
  unfold A4 at c;split at c
  .rename_i h;exact absurd c h
  rename_i h;exact GO h
 obtain⟨t,x,w⟩:=CC f;obtain⟨j,m,k⟩:=BZ t;have g:Ab d=(Bi d,0):=by unfold Ab;rw[As (by rw[c];simp)]
 have r:(A4 d).1.length=(AK d).length:=by
  unfold A4;rw[As (by rw[f];simp)];exact Xw _ _ _ _
 have s:=OC j;have o:(AK d).length<=256:=by rw[Hp];exact m
 unfold Bi at g;rw[k];generalize AK d=l at *;generalize (A4 d).1=v at *;refine AI (ι:={n:Nat//n<=l.length}) (λn=>⟨[(0,.p Et d),(2,.bp 2 [] 0),(4,.p A3r v),(6,.p JF l),(8,.bp 8 [] 0),(9,.p (.int .i64) (n.1:Int))],[(2,.box 26 true [.raw (.slice none 0 0),.raw (.slice none 0 0)]),(8,.box 26 true [.sr 53 kE 0 (EA l v n.1).length,.raw (.slice none 0 0)]),(53,.arr 114 kE (EA l v n.1))]⟩) (λn=>l.length-n.1) ⟨0,By _⟩ (AC [(2,.nm 2),(8,.nm 8),(53,.nil)] rfl rfl ?_ ?_) (λn=>?_)
 .refine eM ?_;exact⟨rfl,rfl⟩
 .exact eN
 obtain⟨n,hn⟩:=n;have q:=JR l v n;have i:=lF l v n;simp only;repeat'(first|exact trivial|apply eS rfl|apply AB|refine rX b ?_ ?_|refine rC ?_ ?_<;>intro a<;>try(cases a;done))
 .refine⟨a,a,⟨a,o,s⟩,by rw[r];exact a,?_⟩;rw[q];simp only[AO];omega
 .omega
 .have e:n<l.length:=iF.1 a;refine⟨⟨n+1,e⟩,by simp only;omega,AC [(2,.nm 2),(8,.nm 8),(53,.nm 53)] rfl rfl ?_ ?_⟩
  .simp only[i];exact eN
  simp only[i];exact eN
 have e:n=l.length:=by omega
 subst e;refine CK [53] ?_;exact fI b [.cell 2 26,.tmp 3] (by rw[g];exact eR)
end
section
def lG:AW:={ ins:=[BT,T3],pre:=λ(_,i,_)=>(0:Int)<=i,out:=λ(b,i,_)=>[.p Qc (Fq b i)],lend:=true }
attribute [local go_sem] lG
theorem A0n:AY Tryz.prog 125 lG:=by
 refine fK [0,1,4,8] Tryz.func125 Tryz.ntmps125 AH ?_;rintro w0 O0 ⟨b,i,u⟩ c-hi;simp only[lG,AL];repeat'(first|exact trivial|apply eS rfl|refine rX c ?_ ?_|refine rC ?_ ?_<;>intro a<;>try(cases a;done))
 .exact⟨hi,a⟩
 .have h1:Fq b i=b.getD i.toNat 0:=by unfold Fq;rw[BY a]
  exact fI c [.tmp 4] (by rw[h1];exact eR)
 have h1:Fq b i=0:=by unfold Fq;rw[As (AAU.2 a)]
 exact fI c [.tmp 4] (by rw[h1];exact eR)
def Lr (a b:List Int):Bool:=(List.range a.length).all λi=>Ck .andNot .u64 (a.getD i 0) (Fq b (i:Int))==0
def eU (a b:List Int) (n:Nat):Bool:=(List.range n).all λi=>Ck .andNot .u64 (a.getD i 0) (Fq b (i:Int))==0
theorem lH (a b:List Int) (n:Nat):eU a b (n+1)=(eU a b n&&Ck .andNot .u64 (a.getD n 0) (Fq b (n:Int))==0):=by
 unfold eU;rw[AAt,ABX];simp
def Pd:AW:={ ins:=[BT,BT],pre:=λ_=>True,out:=λ(a,b,_)=>[.p .bool (Lr a b)],lend:=true }
attribute [local go_sem] Pd
theorem U4:AY Tryz.prog 75 Pd:=by
 refine fK [0,1,4,5,6,7,8,9,10,19] Tryz.func75 Tryz.ntmps75 (AF A0n AH) ?_;rintro w0 O0 ⟨a,b,u⟩ e ⟨⟨g,-⟩,-⟩ -;simp only[AO]at g;simp only[Pd,AL];repeat'(first|exact trivial|apply eS rfl|refine rX e ?_ ?_)
 have h:Lr a b=eU a b a.length:=rfl;refine AI (ι:={n:Nat//n<=a.length/\eU a b n=true}) (λn=>⟨[(1,.p BT b),(7,.p BT a),(8,.p (.int .i64) (a.length:Int)),(9,.p (.int .i64) (n.1:Int))],[]⟩) (λn=>a.length-n.1) ⟨0,By _,rfl⟩ (eW []) (λn=>?_)
 obtain⟨n,hn,f⟩:=n;have hs:=lH a b n;simp only;repeat'(first|exact trivial|apply eS rfl|apply AB|refine rX e ?_ ?_|refine rC ?_ ?_<;>intro d<;>try(cases d;done))
 .exact d
 .have c:n<a.length:=by exact eV
  have h1:Lr a b=false:=by
   unfold Lr;rw[List.all_eq_false];exact⟨n,tO.2 c,by simpa using d⟩
  exact fI e [.tmp 4] (by rw[h1];exact eR)
 .exact eV
 .have c:n<a.length:=by exact eV
  refine⟨⟨n+1,c,?_⟩,by simp only;omega,AC [] rfl rfl ?_ ?_⟩
  .rw[hs,f];simpa using d
  .exact eN
  exact eN
 have c:n=a.length:=by exact eV
 subst c;exact fI e [.tmp 4] (by rw[h,f];exact eR)
abbrev NK:EU:=(ByteArray.empty,[],[],[])
def Aa (h:AE) (a b:Int):Bool:=Lr (h.1.getD b.toNat NK).2.1 (h.1.getD a.toNat NK).2.1
def NL:AW:={ ins:=[FK,T3,T3],pre:=λ(h,a,b,_)=>((0:Int)<=a/\a<(List.length (h:AE).1:Int))/\((0:Int)<=b/\b<(List.length (h:AE).1:Int)),out:=λ(h,a,b,_)=>[.p .bool (Aa h a b)],lend:=true }
theorem Pe:AY Tryz.prog 32 NL:=by
 refine fK [0,1,2,3,6] Tryz.func32 Tryz.ntmps32 (AF U4 AH) ?_;rintro w0 O0 ⟨⟨e,hf⟩,a,b,u⟩ c-⟨ha,d⟩;simp only[NL,AL];repeat'(first|exact trivial|apply eS rfl|refine rX c ?_ ?_)
 .exact⟨d,ha⟩
 exact fI c [.tmp 6] (by unfold Aa;exact eR)
end
section
attribute [local go_sem] Pd
def U5:AW:={ ins:=[BT],pre:=λ(b,_)=>List.length b<=100000,out:=λ(b,_)=>[.p BT (BN b)] }
attribute [local go_sem] U5
theorem lI:AY Tryz.prog 210 U5:=by
 refine fK [0,2,3,15] Tryz.func210 Tryz.ntmps210 AH ?_;rintro w0 O0 ⟨b,u⟩ d-f;have f:b.length<=100000:=f;simp only[U5,AL];repeat'(first|exact trivial|apply eS rfl|refine rX d ?_ ?_)
 refine AI (ι:={n:Nat//n<=b.length/\CY b n=CY b b.length}) (λn=>⟨[(0,.p BT b),(3,.p (.int .i64) (n.1:Int))],[]⟩) (λn=>n.1) ⟨b.length,Of _,rfl⟩ (eW []) (λn=>?_)
 obtain⟨n,hn,g⟩:=n;simp only;repeat'(first|apply eS rfl|apply AB|refine rX d ?_ ?_|refine rC ?_ ?_<;>intro c<;>try(cases c;done))
 .constructor
  .exact eV
  intro h;refine⟨?_,?_⟩<;>exact eV
 .exact eV
 .obtain⟨h1,a⟩:=c;obtain⟨m,rfl⟩:∃m,n=m+1:=⟨n-1,by omega⟩;have e:(((m+1:Nat):Int)-1)=(m:Int):=by omega
  rw[e]at a;have a:b.getD m 0=0:=a;have j:CY b m=CY b b.length:=by
   rw[<-g];show _=if b.getD m 0=0 then CY b m else m+1
   rw[BY a]
  refine⟨⟨m,by omega,j⟩,by simp,AC [] rfl rfl ?_ ?_⟩
  .exact eN
  simp only[e];exact eN
 .exact AAe.2 hn
 have i:CY b n=n:=by
  cases n with
  | zero=>rfl
  | succ m =>
   have e:(((m+1:Nat):Int)-1)=(m:Int):=by omega
   rw[e]at c;have a:=c O1;have a:¬b.getD m 0=0:=a;show (if b.getD m 0=0 then CY b m else m+1)=m+1;rw[As a]
 have h1:BN b=b.take n:=by unfold BN;rw[<-g,i]
 rw[<-h1];exact fI d [.tmp 2]
def Gc (g:Nat->Int) (n i:Nat):List Int:=(List.range n).map λj=>if j<i then g j else 0
theorem Xy (g:Nat->Int) (n i:Nat):(Gc g n i).length=n:=by simp[Gc]
theorem lJ (g:Nat->Int) (n:Nat):Gc g n 0=List.replicate n 0:=by
 apply AAx
 .simp[Gc]
 intro j h1 a;simp[Gc]
theorem tY (g:Nat->Int) (n i:Nat):(Gc g n i).set i (g i)=Gc g n (i+1):=by
 apply AAx
 .simp[Gc]
 intro j h1 b;simp only[Gc,List.getElem_set,ABQ,ABV];split
 .rename_i e;rw[BY O1,e]
 rename_i e;by_cases a:j<i
 .rw[BY a,BY O1]
 rw[As a,As O1]
def Zo (a b:List Int) (i:Nat):Int:=Ck .and .u64 (a.getD i 0) (b.getD i 0)
def Fc (a b:List Int):List Int:=BN (Gc (Zo a b) (min a.length b.length) (min a.length b.length))
def A0o:AW:={ ins:=[BT,BT],pre:=λ(a,_,_)=>List.length a<=100000,out:=λ(a,b,_)=>[.p BT (Fc a b)] }
attribute [local go_sem] A0o
theorem A3L:AY Tryz.prog 193 A0o:=by
 refine fK [0,1,4,5,6,14,15,16] Tryz.func193 Tryz.ntmps193 (AF lI AH) ?_;rintro w0 O0 ⟨a,b,u⟩ d-ha;have ha:a.length<=100000:=ha;simp only[A0o,AL];repeat'(first|exact trivial|apply eS rfl|refine rX d ?_ ?_)
 .split<;>simp only[AO]<;>dsimp only[Ty.den]at *<;>omega
 have h:Int.toNat (if ((List.length b:Nat):Int)<((List.length a:Nat):Int) then ((List.length b:Nat):Int) else ((List.length a:Nat):Int))=min (List.length a) (List.length b):=by split<;>omega
 rw[h];have j:Fc a b=BN (Gc (Zo a b) (min a.length b.length) (min a.length b.length)):=rfl;have k:min a.length b.length<=a.length:=Nat.min_le_left _ _;have l:min a.length b.length<=b.length:=Nat.min_le_right _ _;generalize min a.length b.length=n at *;refine AI (ι:={i:Nat//i<=n}) (λi=>⟨[(0,.p BT a),(1,.p BT b),(5,.sr 12 Qc 0 n),(14,.p (.int .i64) (n:Int)),(15,.p (.int .i64) (i.1:Int))],[(12,.arr 205 Qc (Gc (Zo a b) n i.1))]⟩) (λi=>n-i.1) ⟨0,By _⟩ (AC [(12,.nm 12)] rfl rfl ?_ ?_) (λi=>?_)
 .refine eM ?_;rw[lJ]
 .exact eN
 obtain⟨i,hi⟩:=i;have f:=Xy (Zo a b) n i;simp only;repeat'(first|exact trivial|apply eS rfl|apply AB|refine rX d ?_ ?_|refine rC ?_ ?_<;>intro c<;>try(cases c;done))
 .have e:i<n:=iF.1 c;exact⟨by exact eV,by exact eV,c⟩
 .exact eV
 .have e:i<n:=iF.1 c;refine⟨⟨i+1,e⟩,by simp only;omega,AC [(12,.nm 12)] rfl rfl ?_ ?_⟩
  .simp only[<-tY];refine eM ?_;rfl
  exact eN
 have e:i=n:=by omega
 subst e;have g:(Gc (Zo a b) i i).take i=Gc (Zo a b) i i:=At (by rw[f];exact Of _);refine CK [12] ?_;repeat'(first|apply eS rfl|refine rX d ?_ ?_)
 .rw[g,f];dsimp only[Ty.den]at *;omega
 rw[g];exact fI d [.tmp 4] (by rw[j];exact eR)
def Dn (a b:List Int):Bool:=Lr a b&&Lr b a
def Zp:AW:={ ins:=[BT,BT],pre:=λ_=>True,out:=λ(a,b,_)=>[.p .bool (Dn a b)],lend:=true }
attribute [local go_sem] Zp
theorem tZ:AY Tryz.prog 195 Zp:=by
 refine fK [0,1,4] Tryz.func195 Tryz.ntmps195 (AF U4 AH) ?_;rintro w0 O0 ⟨a,b,u⟩ c - -;simp only[Zp,AL];repeat'(first|exact trivial|apply eS rfl|refine rX c ?_ ?_)
 exact fI c [.tmp 4] (by unfold Dn;exact eR)
def Eg (c:List Int):Nat->List EU->Int
 | _,[]=>-1
 | k,t :: l=>if Dn t.2.1 c=true then (k:Int) else Eg c (k+1) l
theorem lK (c:List Int) (l:List EU) (h:k<l.length):Eg c k (l.drop k)=if Dn (l.getD k NK).2.1 c=true then (k:Int) else Eg c (k+1) (l.drop (k+1)):=by
 rw[OF h];have e:l.getD k NK=l[k]:=by simp[AS,h]
 rw[e];rfl
theorem A0p (c:List Int) (t:EU):A5 Tryz.prog 194 [.p kE t,.bp 1 [] 0] [(1,.box 111 false [.p BT c])] [1] (λres b=>res=.p .bool (Dn t.2.1 c)/\b=[(1,.box 111 false [.p BT c])]):=by
 refine Ix [0,1,2,3] [] [] Tryz.func194 Tryz.ntmps194 (AF tZ AH) ?_;intro w0 K O0 ρ0 a d e;simp only[Ai];repeat'(first|exact trivial|apply eS rfl|refine rX a ?_ ?_)
 refine Ev.ent (σ':=⟨[(3,.p .bool (Dn t.2.1 c))],[(1,.box 111 false [.p BT c])]⟩) ?_ (AC [(1,.nm 1)] rfl rfl ?_ ?_)
 .exact fM a [.tmp 3] (.p .bool (Dn t.2.1 c)) eT ⟨rfl,rfl⟩
 .exact eN
 exact eN
theorem t4 (l:List EU) (c:List Int) (i:l.length<=100000):A5 Tryz.prog 76 [.p OW l,.clo 194 [1]] [(1,.box 111 false [.p BT c])] [1] (λres g=>res=.p T3 (Eg c 0 l)/\g=[(1,.box 111 false [.p BT c])]):=by
 refine Ix [0,1,4,5,7,8,9,16] [] [] Tryz.func76 Tryz.ntmps76 AH ?_;intro w0 K O0 ρ0 b j m;simp only[Ai];repeat'(first|exact trivial|apply eS rfl|refine rX b ?_ ?_)
 refine AI (ι:={k:Nat//k<=l.length/\Eg c k (l.drop k)=Eg c 0 l}) (λk=>⟨[(0,.p OW l),(1,.clo 194 [1]),(7,.p (.int .i64) (l.length:Int)),(8,.p (.int .i64) (k.1:Int))],[(1,.box 111 false [.p BT c])]⟩) (λk=>l.length-k.1) ⟨0,By _,rfl⟩ (eW [(1,.nm 1)]) (λk=>?_)
 obtain⟨k,hk,hf⟩:=k;have f:=λh:k<l.length=>lK c l h;simp only;repeat'(first|exact trivial|apply eS rfl|refine rX b ?_ ?_|refine rC ?_ ?_<;>intro a<;>try(cases a;done))
 .have d:k<l.length:=iF.1 a;have e:=f d;refine cP 5 b ?_ ?_
  .exact a
  refine rM b (A0p c (l.getD k NK)) [(1,.nm 1)] [] ?_ ?_ ?_
  .exact eN
  .exact eN
  rintro _ _ ⟨rfl,rfl⟩;refine⟨[(1,.nm 1)],.p .bool (Dn (l.getD k NK).2.1 c),[(1,.box 111 false [.p BT c])],rfl,rfl,?_,?_,rfl,rfl,E2 ?_⟩
  .exact eN
  .exact eN
  repeat'(first|exact trivial|apply eS rfl|apply AB|refine rX b ?_ ?_|refine rC ?_ ?_<;>intro a<;>try(cases a;done))
  .have a:Dn (l.getD k NK).2.1 c=true:=a;rw[BY a,hf]at e;refine Ev.ent (σ':=⟨[(4,.p (.int .i64) (k:Int))],[(1,.box 111 false [.p BT c])]⟩) ?_ (AC [(1,.nm 1)] rfl rfl ?_ ?_)
   .exact fM b [.tmp 4] (.p T3 (k:Int)) eT ⟨by rw[e],rfl⟩
   .exact eN
   exact eN
  .omega
  have a:Dn (l.getD k NK).2.1 c=false:=a;rw[As (by rw[a];simp)]at e;exact⟨⟨k+1,d,e.symm.trans hf⟩,by simp only;omega,eW [(1,.nm 1)]⟩
 have d:l.drop k=[]:=NO (AAe.1 a);rw[d]at hf;have hf:(-1:Int)=Eg c 0 l:=hf;refine Ev.ent (σ':=⟨[(4,.p (.int .i64) (-1))],[(1,.box 111 false [.p BT c])]⟩) ?_ (AC [(1,.nm 1)] rfl rfl ?_ ?_)
 .exact fM b [.tmp 4] (.p T3 (-1)) eT ⟨by rw[hf],rfl⟩
 .exact eN
 exact eN
def BO (h:AE) (t:Int):List Int:=(h.1.getD t.toNat NK).2.1
def Cn (h:AE) (a b:Int):Int×Bool :=
 if (Fc (BO h a) (BO h b)).length=0 then (0,false) else if Eg (Fc (BO h a) (BO h b)) 0 h.1<0 then (0,false) else (Eg (Fc (BO h a) (BO h b)) 0 h.1,true)
def o8:AW:={ ins:=[FK,T3,T3],pre:=λ(h,a,b,_)=>((0:Int)<=a/\a<(List.length (h:AE).1:Int))/\((0:Int)<=b/\b<(List.length (h:AE).1:Int))/\List.length (h:AE).1<=100000/\(∀x∈(h:AE).1,x.2.1.length<=100000),out:=λ(h,a,b,_)=>[.p T3 (Cn h a b).1,.p .bool (Cn h a b).2],lend:=true }
theorem A3M:AY Tryz.prog 179 o8:=by
 refine fK [0,1,2,3,6,7,8,9,25,31] Tryz.func179 Tryz.ntmps179 (AF A3L AH) ?_;rintro w0 O0 ⟨⟨d,hf⟩,a,b,u⟩ e-⟨ha,i,k,n⟩;simp only[o8,AL];refine Ev.ent (σ':=⟨[(0,.p FK (d,hf)),(1,.p T3 a),(2,.p T3 b)],[]⟩) ?_ (AC [] rfl rfl ?_ ?_)
 .repeat'(first|exact trivial|apply eS rfl|refine rX e ?_ ?_|refine rC ?_ ?_<;>intro f<;>try(cases f;done))
  .refine⟨ha,i,?_⟩;have h1:Int.toNat a<List.length d:=(ACe ha.1).2 ha.2;exact n _ (AG (d:List EU) NK h1)
  .have l:Cn (d,hf) a b=(0,false):=by
    unfold Cn;rw[BY (by unfold BO;exact Int.ofNat.inj f)]
   exact fI e [.tmp 6,.tmp 7] (by rw[l];exact eR)
  have j:∀c,c=Fc (List.getD d (Int.toNat a) (ByteArray.empty,[],[],[])).2.1 (List.getD d (Int.toNat b) (ByteArray.empty,[],[],[])).2.1->c=Fc (BO (d,hf) a) (BO (d,hf) b):=λc h=>h;have g:Cn (d,hf) a b=if Eg (Fc (BO (d,hf) a) (BO (d,hf) b)) 0 d<0 then (0,false) else (Eg (Fc (BO (d,hf) a) (BO (d,hf) b)) 0 d,true):=by
   unfold Cn;rw[As (λh=>f (by unfold BO at h;exact AAS Int.ofNat h))]
  generalize o:Fc (List.getD d (Int.toNat a) (ByteArray.empty,[],[],[])).2.1 (List.getD d (Int.toNat b) (ByteArray.empty,[],[],[])).2.1=c at *;rw[<-j c rfl]at g;refine cP 3 e ?_ ?_
  .trivial
  refine rM e (t4 d c k) [(1,.nm 8)] [] ?_ ?_ ?_
  .exact eN
  .exact eN
  rintro _ _ ⟨rfl,rfl⟩;refine⟨[(8,.nm 1)],.p T3 (Eg c 0 d),[(8,.box 111 false [.p BT c])],rfl,rfl,?_,?_,rfl,rfl,?_⟩
  .exact eN
  .exact eN
  generalize Eg c 0 d=m at *;refine rL e ?_ ?_
  .trivial
  repeat'(first|exact trivial|apply eS rfl|refine rX e ?_ ?_|refine rC ?_ ?_<;>intro f<;>try(cases f;done))
  .rw[BY f]at g;exact fI e [.tmp 6,.tmp 7] (by rw[g];exact eR)
  rw[As (AAU.2 f)]at g;exact fI e [.tmp 6,.tmp 7] (by rw[g];exact eR)
 .exact eN
 exact eN
end
theorem U6 (l:List (List Int)) (i k:Nat):l <+: GC l i k:=by
 unfold GC;split
 .exact ACt _ _
 exact AB2 _
theorem U7 (i:Nat):∀(n k:Nat) (l:List (List Int)),l <+: GD i n k l
 | 0,_,l=>AB2 l
 | n+1,k,l=>by
  unfold GD;split
  .exact(U6 l i k).trans (U7 i n (k+1) _)
  exact AB2 l
theorem Pf:∀(n i:Nat) (l:List (List Int)),l <+: Hl n i l
 | 0,_,l=>AB2 l
 | n+1,i,l=>by
  unfold Hl;split
  .exact(U7 i i 0 l).trans (Pf n (i+1) _)
  exact AB2 l
theorem Pg {m:List (List Int)} (h:l <+: m) (hk:k<l.length):m.getD k []=l.getD k []:=by
 obtain⟨t,rfl⟩:=h;simp only[AS];rw[AA8 hk]
def Kj (l:List (List Int)) (q p:Nat):Prop:=D5 (l.getD q []) (l.getD p [])=[]\/D5 (l.getD q []) (l.getD p [])∈l
theorem Kj.pre {m:List (List Int)} (h:l <+: m) {q p:Nat} (c:q<l.length) (b:p<l.length) (a:Kj l q p):Kj m q p:=by
 unfold Kj at a ⊢;rw[Pg h c,Pg h b];rcases a with a|a
 .exact .inl a
 exact .inr (h.subset a)
theorem A3N {b:List Int} (h:kP l b=true):b∈l:=by
 obtain⟨x,a,e⟩:=To.1 h;have:x=b:=by simpa[Fs] using e
 rw[<-this];exact a
theorem lL {i k:Nat} (hi:i<l.length) (hk:k<l.length):Kj (GC l i k) i k:=by
 have b:=U6 l i k;unfold Kj;rw[Pg b hi,Pg b hk];unfold GC;split
 .right;simp
 rename_i a;rw[An,If,bY]at a;by_cases h0:0<((D5 (l.getD i []) (l.getD k [])).length:Int)
 .right;cases hh:kP l (D5 (l.getD i []) (l.getD k [])) with
  | true=>exact A3N hh
  | false=>exact absurd ⟨h0,hh⟩ a
 left;exact AAa O1
theorem U8 {i:Nat}:∀ {n k:Nat} {l:List (List Int)},n+k=i->i<l.length->(GD i n k l).length<=256->(∀p,p<k->Kj l i p)->∀p,p<i->Kj (GD i n k l) i p
 | 0,k,l,hn,hi,a,h=>λp c=>h p O1
 | n+1,k,l,hn,hi,a,h=>by
  unfold GD at a ⊢;split at a
  .rename_i b;rw[BY b];have c:=U6 l i k;refine U8 O1 (AAB hi c.length_le) a λp d=>?_;by_cases e:p=k
   .subst e;exact lL hi O1
   exact(h p O1).pre c hi O1
  rename_i b;exact absurd (by omega:l.length<=256) b
theorem U9:∀ {n i:Nat} {l:List (List Int)},257<=n+i->(Hl n i l).length<=256->i<=l.length->(∀q p,p<q->q<i->Kj l q p)->∀q p,p<q->q<(Hl n i l).length->Kj (Hl n i l) q p
 | 0,i,l,hn,a,g,h=>λq p c f=>by
  have k:l.length<=256:=a;omega
 | n+1,i,l,hn,a,g,h=>by
  unfold Hl at a ⊢;split at a
  .rename_i b;rw[BY b];have d:=U7 i i 0 l;have m:=d.length_le;have j:=(Pf n (i+1) (GD i i 0 l)).length_le;refine U9 O1 a O1 λq p c f=>?_;by_cases e:q=i
   .subst e;exact U8 O1 b.1 O1 (λp d=>by omega) p c
   exact(h q p c O1).pre d O1 O1
  rename_i b;rw[As b];intro q p c f;exact h q p c (by
   refine GO λhh=>b ⟨by omega,a⟩)
theorem Zq {c:List (List Int)} (a:(Aw c).length<=256):∀q p,p<q->q<(Aw c).length->Kj (Aw c) q p :=
 U9 O1 a (By _) (λq p _ h=>by omega)
theorem A0q (a b:List Int) (k:Nat):(D5 a b).getD k 0=if k<a.length then Ck .and .u64 (a.getD k 0) (b.getD k 0) else 0:=by
 unfold D5;rw[PU];split
 .rename_i h;exact Mh .and a b h
 rename_i h;rw[AS,oS (by rw[ER];omega)];rfl
theorem Gd {b:List Int} (h:¬k<b.length):b.getD k 0=0:=by
 rw[AS,oS O1];rfl
theorem KH (ha:Hn a) (c:Hn b) (i:Nat):BE (D5 a b) i=(BE a i&&BE b i):=by
 unfold BE;rw[A0q];split
 .rw[Hm (BJ ha _) (BJ c _),iN,Nat.testBit_and]
 rename_i h;rw[Gd h];simp
theorem Mj (ha:Hn a) (d:Hn b):Hn (D5 a b):=by
 refine N6 λx c=>?_;unfold GA at c;obtain⟨i,-,rfl⟩:=IN.1 c;rw[HK,Hm (BJ ha _) (BJ d _)];have h1:=BJ ha i;have e:(a.getD i 0).toNat &&& (b.getD i 0).toNat<=(a.getD i 0).toNat:=ACl;have f:=h1.1;have g:=h1.2;exact⟨AAh _,by omega⟩
theorem Qs (b:List Int):∀n,CY b n=0\/b.getD (CY b n-1) 0≠0
 | 0=>.inl rfl
 | n+1=>by
  unfold CY;split
  .exact Qs b n
  rename_i h;right;simpa using h
theorem A3O {n:Nat} (h0:n≠0) (h1:n<18446744073709551616):∃r,r<64/\n.testBit r=true:=by
 refine GO λb=>h0 ?_;refine Nat.eq_of_testBit_eq λr=>?_;rw[Nat.zero_testBit];by_cases c:r<64
 .cases a:n.testBit r with
  | false=>rfl
  | true=>exact absurd ⟨r,c,a⟩ b
 have e:(18446744073709551616:Nat)=2 ^ 64:=by decide
 rw[e]at h1;exact Nat.testBit_lt_two_pow (AAB h1 (Nat.pow_le_pow_right dg O1))
theorem eX {b:List Int} (a:Hn b) (h:b.getD k 0≠0):∃i,BE b i=true:=by
 have hu:=BJ a k;have h1:=hu.1;have d:=hu.2;obtain⟨r,e,c⟩:=A3O (n:=(b.getD k 0).toNat) O1 O1;refine⟨64*k+r,?_⟩;unfold BE;rw[show (64*k+r) / 64=k by omega,show (64*k+r) % 64=r by omega];exact c
theorem lM {b:List Int} (a:Hn b) (h:BN b≠[]):∃i,BE b i=true:=by
 rcases Qs b b.length with h1|h1
 .exact absurd (by unfold BN;rw[h1];rfl) h
 exact eX a h1
theorem Xz (ha:Hn a) (c:Hn b) (h:∀i,BE a i=true->BE b i=true) (k:Nat):Ck .andNot .u64 (a.getD k 0) (b.getD k 0)=0:=by
 rw[Qn];have:(BitVec.ofInt 64 (a.getD k 0) &&& ~~~BitVec.ofInt 64 (b.getD k 0))=0#64:=by
  apply BitVec.eq_of_getLsbD_eq;intro r e;rw[BitVec.getLsbD_and,BitVec.getLsbD_not,<-ABy,<-ABy,FF (BJ ha k),FF (BJ c k)];have hk:=h (64*k+r);unfold BE at hk;rw[show (64*k+r) / 64=k by omega,show (64*k+r) % 64=r by omega]at hk;cases d:(a.getD k 0).toNat.testBit r with
  | false=>simp
  | true=>rw[hk d];simp
 rw[this];rfl
theorem E8 (ha:Hn a) (c:Hn b):Eb a b=true↔∀i,BE a i=true->BE b i=true:=by
 constructor
 .exact λh i hi=>Ll ha c h hi
 intro h;unfold Eb Qg BN;have h1:CY (GA .andNot a b a.length) (GA .andNot a b a.length).length=0:=by
  rw[ER];exact Qo λk hk=>by rw[Mh _ _ _ hk];exact Xz ha c h k
 rw[h1];rfl
structure IR (l:List (List Int)):Prop where
 wds:∀c∈l,Hn c
 some:∀c∈l,∃i,BE c i=true
 wid:∀c∈l,c.length<=64
 meet:∀a∈l,∀b∈l,(∃i,BE a i=true/\BE b i=true)->∃t∈l,∀i,BE t i=(BE a i&&BE b i)
structure Bs (l:List (List Int)):Prop where
 wds:∀c∈l,Hn c
 some:∀c∈l,∃i,BE c i=true
theorem Qt (h:¬k<l.length):l.getD k []=[]:=by
 rw[AS,oS O1];rfl
theorem Bs.get (h:Bs l) (k:Nat):Hn (l.getD k []):=by
 by_cases hk:k<l.length
 .exact h.wds _ (Ar hk)
 rw[Qt hk];intro x a;cases a
theorem A3P (h:Bs l) (i k:Nat):Bs (GC l i k):=by
 unfold GC;split
 .rename_i b;rw[An,If]at b;refine⟨λc a=>?_,λc a=>?_⟩
  .rcases Is.1 a with a|a
   .exact h.wds c a
   have:c=D5 (l.getD i []) (l.getD k []):=by simpa using a
   rw[this];exact Mj (h.get i) (h.get k)
  rcases Is.1 a with a|a
  .exact h.some c a
  have:c=D5 (l.getD i []) (l.getD k []):=by simpa using a
  rw[this];have g:D5 (l.getD i []) (l.getD k [])≠[]:=by
   intro e;rw[e]at b;exact absurd b.1 sc
  have m:Hn (GA .and (l.getD i []) (l.getD k []) (l.getD i []).length):=by
   intro x d;unfold GA at d;obtain⟨j,-,rfl⟩:=IN.1 d;rw[HK,Hm (BJ (h.get i) _) (BJ (h.get k) _)];have h1:=BJ (h.get i) j;have n:((l.getD i []).getD j 0).toNat &&& ((l.getD k []).getD j 0).toNat<=((l.getD i []).getD j 0).toNat:=ACl;have o:=h1.1;have p:=h1.2;exact⟨AAh _,by omega⟩
  obtain⟨j,f⟩:=lM m g;exact⟨j,by unfold D5;rw[N5];exact f⟩
 exact h
theorem o9 {i:Nat}:∀ {n k:Nat} {l:List (List Int)},Bs l->Bs (GD i n k l)
 | 0,_,_,h=>h
 | n+1,k,l,h=>by
  unfold GD;split
  .exact o9 (A3P h i k)
  exact h
theorem pA:∀ {n i:Nat} {l:List (List Int)},Bs l->Bs (Hl n i l)
 | 0,_,_,h=>h
 | n+1,i,l,h=>by
  unfold Hl;split
  .exact pA (o9 h)
  exact h
theorem t5 {d:List AJ} (f:A7 d=0):Bs (AR d):=by
 obtain⟨-,l,-⟩:=Az f;have h:=Dm d d.length;rw[oF]at h;have b:(AN d).length<=4096:=by omega
 refine⟨λc a=>?_,λc a=>?_⟩
 .unfold AR at a;obtain⟨s,-,rfl⟩:=IN.1 a;exact(B6 (d:=d) b s 0).2.1
 unfold AR at a;obtain⟨s,hs,rfl⟩:=IN.1 a;obtain⟨j,g,e⟩:=B7 ByteArray.empty hs;have i:0<=Ap d s:=by
  obtain⟨x,k,e⟩:=DP hs;rw[<-e];exact DN k
 exact⟨j,(B6 (d:=d) b s j).1.2 ⟨g,by rw[e];exact N7 i⟩⟩
theorem VA {d:List AJ} (m:A7 d=0) (u:(Aw (AR d)).length<=256):IR (Aw (AR d)):=by
 obtain⟨-,r,-⟩:=Az m;have g:Bs (Aw (AR d)):=pA (t5 m);have o:=Zq u;refine⟨g.wds,g.some,Pa (OB r),λa ha b s hi=>?_⟩;obtain⟨q,f,rfl⟩:=B7 [] ha;obtain⟨p,j,rfl⟩:=B7 [] s;have key:∀q p,q<(Aw (AR d)).length->p<(Aw (AR d)).length->Kj (Aw (AR d)) q p->(∃i,BE ((Aw (AR d)).getD q []) i=true/\BE ((Aw (AR d)).getD p []) i=true) ->
   ∃t∈Aw (AR d),∀i,BE t i=(BE ((Aw (AR d)).getD q []) i&&BE ((Aw (AR d)).getD p []) i):=by
  intro q p f j c hi;have n:=KH (g.get q) (g.get p);rcases c with c|c
  .obtain⟨i,k,l⟩:=hi;have:=n i;rw[c,k,l]at this;unfold BE at this;simp at this
  exact⟨_,c,n⟩
 rcases AC3 p q with h|h|h
 .exact key q p f j (o q p h f) hi
 .subst h;exact⟨_,Ar f,λi=>by rw[Bool.and_self]⟩
 obtain⟨t,v,e⟩:=key p q j f (o p q h j) (by obtain⟨i,k,l⟩:=hi;exact⟨i,l,k⟩);exact⟨t,v,λi=>by rw[e i,Bool.and_comm]⟩
def Fd (h:AE):Prop:=IR (h.1.map λt=>t.2.1)/\h.1.length<=256
theorem Ge (d:List AJ):Fd (Ab d).1:=by
 unfold Ab;split
 .exact⟨⟨λc h=>(by cases h),λc h=>(by cases h),λc h=>(by cases h),λc h=>(by cases h)⟩,by simp⟩
 rename_i g;have g:(A4 d).2=0:=GO g;have m:Am d=0:=by
  unfold A4 at g;split at g
  .rename_i h;exact absurd g h
  rename_i h;exact GO h
 obtain⟨p,-,-⟩:=CC m;obtain⟨l,k,-⟩:=BZ p;have hf:=VA l k;have f:∀c,c∈((Bi d).1.map λt=>t.2.1)↔c∈Aw (AR d):=by
  intro c;have e:((Bi d).1.map λt=>t.2.1)=(AK d).map λx=>x.2:=by
   show ((EA _ _ _).map λt=>t.2.1)=_;unfold EA;rw[ABa];apply AAx
   .simp
   intro i h1 q;simp[AS,show i<(AK d).length by simpa using h1]
  rw[e];constructor
  .intro h;obtain⟨x,o,rfl⟩:=IN.1 h;obtain⟨b,j,rfl⟩:=DQ.1 o;exact j
  intro h;exact IN.2 ⟨_,DQ.2 ⟨c,h,rfl⟩,rfl⟩
 refine⟨⟨λc h=>hf.wds c ((f c).1 h),λc h=>hf.some c ((f c).1 h),λc h=>hf.wid c ((f c).1 h),λa ha b j hi=>?_⟩,?_⟩
 .obtain⟨t,n,e⟩:=hf.meet a ((f a).1 ha) b ((f b).1 j) hi;exact⟨t,(f t).2 n,e⟩
 show (EA _ _ _).length<=256;rw[JR,Hp];exact k
theorem Be {h:AE} {t:Int} (a:0<=t) (b:t<(h.1.length:Int)):BO h t∈h.1.map λt=>t.2.1 :=
 IN.2 ⟨_,AG h.1 NK (k:=t.toNat) O1,rfl⟩
theorem VB (ha:Hn a) (c:Hn b):Lr a b=true↔∀i,BE a i=true->BE b i=true:=by
 constructor
 .intro h i hi;by_cases hk:i / 64<a.length
  .have h1:=ON.1 h (i / 64) (tO.2 hk);rw[AAc,HK]at h1;exact Ry (BJ ha _) (BJ c _) h1 (ACN _ dg) hi
  exfalso;unfold BE at hi;rw[Gd hk]at hi;simp at hi
 intro h;unfold Lr;rw[ON];intro k _;rw[AAc,HK];exact Xz ha c h k
theorem A0r (ha:Hn a) (c:Hn b) (i:Nat):BE (Fc a b) i=(BE a i&&BE b i):=by
 unfold Fc;rw[N5];unfold BE;have:(Gc (Zo a b) (min a.length b.length) (min a.length b.length)).getD (i / 64) 0=Ck .and .u64 (a.getD (i / 64) 0) (b.getD (i / 64) 0):=by
  by_cases h:i / 64<min a.length b.length
  .unfold Gc;rw[AS,AAw,ABp h];show (if i / 64<min a.length b.length then Zo a b (i / 64) else 0)=_;rw[BY h];rfl
  rw[Gd (by rw[Xy];exact h),Hm (BJ ha _) (BJ c _)];by_cases h1:i / 64<a.length
  .rw[Gd (b:=b) O1];simp
  rw[Gd (b:=a) h1];simp
 rw[this,Hm (BJ ha _) (BJ c _),iN,Nat.testBit_and]
theorem A0s (ha:Hn a) (d:Hn b):Hn (Fc a b):=by
 refine N6 λx c=>?_;unfold Gc at c;obtain⟨j,-,rfl⟩:=IN.1 c;split
 .unfold Zo;rw[Hm (BJ ha _) (BJ d _)];have h1:=BJ ha j;have e:(a.getD j 0).toNat &&& (b.getD j 0).toNat<=(a.getD j 0).toNat:=ACl;have f:=h1.1;have g:=h1.2;exact⟨AAh _,by omega⟩
 exact⟨by decide,by decide⟩
theorem VC (c:List Int):∀(l:List EU) (k:Nat),(Eg c k l=-1/\∀t∈l,Dn t.2.1 c=false)\/((k:Int)<=Eg c k l/\Eg c k l<(k:Int)+l.length/\Dn (l.getD ((Eg c k l).toNat-k) NK).2.1 c=true)
 | [],k=>.inl ⟨rfl,λt a=>by cases a⟩
 | x :: l,k=>by
  simp only[Eg];split
  .rename_i h;right;refine⟨by omega,by simp only[IS];omega,?_⟩;rw[show ((k:Int).toNat-k)=0 by omega];exact h
  rename_i h;have h:Dn x.2.1 c=false:=by simpa using h
  rcases VC c l (k+1) with ⟨h1,b⟩|⟨h1,b,d⟩
  .left;refine⟨h1,λt a=>?_⟩;rcases DO.1 a with rfl|a
   .exact h
   exact b t a
  right;refine⟨by omega,by simp only[IS];omega,?_⟩;rw[show ((Eg c (k+1) l).toNat-k)=((Eg c (k+1) l).toNat-(k+1))+1 by omega];exact d
def eY (h:AE) (t:Int) (i:Nat):Bool:=BE (BO h t) i
theorem BQ {h:AE} (hk:Fd h) {a b:Int} (c:0<=a) (d:a<(h.1.length:Int)) (e:0<=b) (b1:b<(h.1.length:Int)):Aa h a b=true↔∀i,eY h b i=true->eY h a i=true :=
 VB (hk.1.wds _ (Be e b1)) (hk.1.wds _ (Be c d))
theorem A0t {h:AE} (hk:Fd h) {a b:Int} (g:0<=a) (j:a<(h.1.length:Int)) (l:0<=b) (b1:b<(h.1.length:Int)) :
  ((Cn h a b).2=true->0<=(Cn h a b).1/\(Cn h a b).1<(h.1.length:Int)/\∀i,eY h (Cn h a b).1 i=(eY h a i&&eY h b i))/\((∃i,eY h a i=true/\eY h b i=true)->(Cn h a b).2=true):=by
 have s:=hk.1.wds _ (Be g j);have u:=hk.1.wds _ (Be l b1);have c:=A0r s u;have o:=A0s s u;have heq:∀t∈h.1,Dn t.2.1 (Fc (BO h a) (BO h b))=true↔∀i,BE t.2.1 i=BE (Fc (BO h a) (BO h b)) i:=by
  intro t d;have wt:=hk.1.wds t.2.1 (IN.2 ⟨t,d,rfl⟩);unfold Dn;rw[An,VB wt o,VB o wt];constructor
  .rintro⟨v,w⟩ i;rw[ABB];exact⟨v i,w i⟩
  intro e;exact⟨λi hi=>by rw[<-e i];exact hi,λi hi=>by rw[e i];exact hi⟩
 unfold Cn;by_cases f:(Fc (BO h a) (BO h b)).length=0
 .rw[BY f];refine⟨λe=>(by cases e),?_⟩;rintro⟨i,q,r⟩;exfalso;have:=c i;rw[AAa f]at this;unfold eY at q r;rw[q,r]at this;unfold BE at this;simp at this
 rw[As f];rcases VC (Fc (BO h a) (BO h b)) h.1 0 with ⟨h1,m⟩|⟨h1,m,n⟩
 .rw[BY O1];refine⟨λe=>(by cases e),λhi=>?_⟩;exfalso;obtain⟨t,d,e⟩:=hk.1.meet _ (Be g j) _ (Be l b1) hi;obtain⟨x,p,rfl⟩:=IN.1 d;have:=(heq x p).2 (λi=>by rw[c i];exact e i);rw[m x p]at this;cases this
 have h1:0<=Eg (Fc (BO h a) (BO h b)) 0 h.1:=by omega
 rw[As O1];refine⟨λ_=>⟨h1,by simp only;omega,λi=>?_⟩,λ_=>rfl⟩;rw[Nat.sub_zero]at n;have y:=AG h.1 NK (k:=(Eg (Fc (BO h a) (BO h b)) 0 h.1).toNat) O1;have:=(heq _ y).1 n i;rw[c i]at this;exact this
theorem Ls {h:AE} (hk:Fd h) {a b:Int} (l:0<=a) (m:a<(h.1.length:Int)) (n:0<=b) (b1:b<(h.1.length:Int)) :
  ((Cn h a b).2=true->0<=(Cn h a b).1/\(Cn h a b).1<(h.1.length:Int)/\Aa h a (Cn h a b).1=true/\Aa h b (Cn h a b).1=true) /\
  ∀x,0<=x->x<(h.1.length:Int)->Aa h a x=true->Aa h b x=true->(Cn h a b).2=true/\Aa h (Cn h a b).1 x=true:=by
 obtain⟨r,u⟩:=A0t hk l m n b1;refine⟨λe=>?_,λx g k s t=>?_⟩
 .obtain⟨c,d,f⟩:=r e;refine⟨c,d,(BQ hk l m c d).2 λi hi=>?_,(BQ hk n b1 c d).2 λi hi=>?_⟩
  .rw[f i,An]at hi;exact hi.1
  rw[f i,An]at hi;exact hi.2
 have o:=(BQ hk l m g k).1 s;have p:=(BQ hk n b1 g k).1 t;obtain⟨i,hi⟩:=hk.1.some _ (Be g k);have e:=u ⟨i,o i hi,p i hi⟩;obtain⟨c,d,f⟩:=r e;refine⟨e,(BQ hk c d g k).2 λj q=>?_⟩;rw[f j,An];exact⟨o j q,p j q⟩
def Nrm (c:List Int):Prop:=c.length=0\/c.getD (c.length-1) 0≠0
theorem KI (b:List Int):Nrm (BN b):=by
 unfold Nrm BN;have a:=Ui b b.length;rw[OR,ABo a];rcases Qs b b.length with h|h
 .exact .inl h
 by_cases h0:CY b b.length=0
 .exact .inl h0
 right;rw[AS,List.getElem?_take_of_lt O1,<-AS];exact h
theorem A3Q (ha:Hn a) (g:Hn b) (h:∀i,BE a i=BE b i) (k:Nat):a.getD k 0=b.getD k 0:=by
 have d:=BJ ha k;have f:=BJ g k;have l:=d.1;have m:=d.2;have o:=f.1;have p:=f.2;have e:(a.getD k 0).toNat=(b.getD k 0).toNat:=by
  refine Nat.eq_of_testBit_eq λr=>?_;by_cases j:r<64
  .have:=h (64*k+r);unfold BE at this;rw[show (64*k+r) / 64=k by omega,show (64*k+r) % 64=r by omega]at this;exact this
  have c:∀n:Nat,n<18446744073709551616->n.testBit r=false:=λn hn=>by
   have e:(18446744073709551616:Nat)=2 ^ 64:=by decide
   rw[e]at hn;exact Nat.testBit_lt_two_pow (AAB hn (Nat.pow_le_pow_right dg O1))
  rw[c _ O1,c _ O1]
 omega
theorem pB (d:∀k,a.getD k 0=b.getD k 0) (c:Nrm b):b.length<=a.length:=by
 rcases c with h|h
 .omega
 refine GO λe=>h ?_;rw[<-d];exact Gd O1
theorem Zr (ha:Hn a) (e:Hn b) (g:Nrm a) (j:Nrm b) (h:∀i,BE a i=BE b i):a=b:=by
 have c:=A3Q ha e h;have f:a.length=b.length:=ABU (pB (λk=>(c k).symm) g) (pB c j);refine AAx f λi h1 d=>?_;have:=c i;simpa[AS,h1,d] using this
theorem eZ {α:Type} (l:List α) (x:α) (n:Nat):List.Perm (l.take n++[x]++l.drop n) (x :: l):=by
 have h:l.take n++[x]++l.drop n=l.take n++x :: l.drop n:=by simp
 rw[h];refine ACI.trans ?_;rw[ABt]
def pC (l:List ByteArray):Prop:=l.Pairwise λa b=>AM a b=false
theorem IT {a b:ByteArray} (h:AM a b=false):AM b a=false:=by
 cases hh:AM b a with
 | false=>rfl
 | true=>rw[Bt hh]at h;cases h
theorem VD {l:List ByteArray} (h:pC l) (hs:∀x∈l,AM x s=false):pC (Dl l s):=by
 unfold Dl;split
 .exact h
 refine(List.Perm.pairwise_iff (λb=>IT b) (eZ l s _)).2 ?_;exact AAo.2 ⟨λx a=>IT (hs x a),h⟩
theorem VE {d:List AJ} (hn:Cf d=0):pC (AN d):=by
 have key:∀k,k<=d.length->pC (AN (d.take k))/\∀s∈AN (d.take k),∃i,i<k/\(d.getD i d0).1=s:=by
  intro k;induction k with
  | zero =>
   intro _;exact⟨.nil,λs hs=>by cases hs⟩
  | succ k c =>
   intro hk;obtain⟨h1,a⟩:=c O1;have e:AN (d.take (k+1))=Dl (AN (d.take k)) (d.getD k d0).1:=by
    have:d.take (k+1)=d.take k++[d.getD k d0]:=Ag d d0 O1;rw[this];unfold AN;rw[ABl];rfl
   rw[e];refine⟨VD h1 λx b=>?_,λs hs=>?_⟩
   .obtain⟨i,hi,rfl⟩:=a x b;cases hh:AM (d.getD i d0).1 (d.getD k d0).1 with
    | false=>rfl
    | true =>
     have g:=X1 d hh;rw[Lm hn (j:=i) O1,Lm hn (j:=k) O1]at g;omega
   rcases Fa hs with hs|hs
   .obtain⟨i,hi,e⟩:=a s hs;exact⟨i,by omega,e⟩
   exact⟨k,by omega,hs.symm⟩
 have:=(key d.length (Of _)).1
 rwa [oF]at this
structure Nd (l:List (List Int)):Prop where
 nd:l.Nodup
 nrm:∀c∈l,Nrm c
theorem A3R {c:List Int} (h:Nd l) (b:c∉l) (hn:Nrm c):Nd (l++[c]):=by
 refine⟨?_,λx a=>?_⟩
 .rw[AAR];refine⟨h.nd,by simp,λx a y d e=>b ?_⟩;have:y=c:=by simpa using d
  rw[<-this,<-e];exact a
 rcases Is.1 a with a|a
 .exact h.nrm x a
 have:x=c:=by simpa using a
 rw[this];exact hn
theorem A3S (h:Nd l) (i k:Nat):Nd (GC l i k):=by
 unfold GC;split
 .rename_i a;rw[An,bY]at a;refine A3R h (λb=>?_) (KI _);have:kP l (D5 (l.getD i []) (l.getD k []))=true:=To.2 ⟨_,b,by unfold Fs;exact AB0 rfl⟩;rw[this]at a;cases a.2
 exact h
theorem pD {i:Nat}:∀ {n k:Nat} {l:List (List Int)},Nd l->Nd (GD i n k l)
 | 0,_,_,h=>h
 | n+1,k,l,h=>by
  unfold GD;split
  .exact pD (A3S h i k)
  exact h
theorem S6:∀ {n i:Nat} {l:List (List Int)},Nd l->Nd (Hl n i l)
 | 0,_,_,h=>h
 | n+1,i,l,h=>by
  unfold Hl;split
  .exact S6 (pD h)
  exact h
theorem Qu {d:List AJ} (m:A7 d=0):Nd (AR d):=by
 obtain⟨-,l,-,hn,p⟩:=Az m;have q:=Dm d d.length;rw[oF]at q;have hap:=VE hn;refine⟨?_,λc n=>?_⟩
 .unfold AR List.Nodup;rw[AAA,oR];intro i j hi a o e;have h1:=(oR.1 hap) i j hi a o;have g:∀k,(hk:k<(AN d).length)->(AN d).getD k ByteArray.empty=(AN d)[k]:=λk hk=>by simp[AS,hk]
  have f:=(B6 (d:=d) (all:=AN d) O1 (AN d)[j] 0).2.1;have b:=d9 hn p l hi a (by
   rw[g i hi,g j a,e];unfold DG;have:=(E8 f f).2 λ_ h=>h;rw[this];rfl)
  rw[g i hi,g j a,h1]at b;cases b
 obtain⟨s,hs,rfl⟩:=IN.1 n;unfold ET ofF;split
 .exact KI _
 exact .inl rfl
theorem Lt {d:List AJ}:∀ {l:List (List Int)} {o:List AQ},(o.map (·.2)++l).Nodup->((l.foldl (Qp d) o).map (·.2)).Nodup
 | [],o,h=>by simpa using h
 | b :: l,o,h=>by
  rw[OS];refine Lt ?_;unfold Qp GE Zj;have c:=(eZ o (Ga d (AN d) (AR d) b,b) (FH (Ga d (AN d) (AR d) b,b) o o.length)).map (λx:AQ=>x.2);have e:List.Perm ((o.take (FH (Ga d (AN d) (AR d) b,b) o o.length)++[(Ga d (AN d) (AR d) b,b)]++o.drop (FH (Ga d (AN d) (AR d) b,b) o o.length)).map (λx:AQ=>x.2)++l) (o.map (·.2)++b :: l) :=
   (c.append_right l).trans (ACI (a:=b)).symm
  exact e.nodup_iff.2 h
def HA (h:AE):Prop:=∀a b,0<=a->a<(h.1.length:Int)->0<=b->b<(h.1.length:Int)->Aa h a b=true->Aa h b a=true->a=b
theorem A79 {h:AE} (hk:Fd h) (hn:Nd (h.1.map λt=>t.2.1)):HA h:=by
 intro a b c d f b1 h1 l;have n:=hk.1.wds _ (Be c d);have o:=hk.1.wds _ (Be f b1);have e:BO h a=BO h b:=Zr n o (hn.nrm _ (Be c d)) (hn.nrm _ (Be f b1)) λi=>by
  rw[ABB];exact⟨(BQ hk f b1 c d).1 l i,(BQ hk c d f b1).1 h1 i⟩
 have j:=oR.1 hn.nd;have g:∀k:Int,0<=k->(hk:k<(h.1.length:Int))->BO h k=(h.1.map λt=>t.2.1)[k.toNat]'(by rw[aS];omega):=λk p q=>by
  unfold BO;simp[AS,show k.toNat<h.1.length by omega]
 rw[g a c d,g b f b1]at e;rcases Int.lt_trichotomy a b with m|heq|m
 .exact absurd e (j a.toNat b.toNat (by rw[aS];omega) (by rw[aS];omega) O1)
 .exact heq
 exact absurd e.symm (j b.toNat a.toNat (by rw[aS];omega) (by rw[aS];omega) O1)
theorem R5 (d:List AJ):HA (Ab d).1:=by
 refine A79 (Ge d) ?_;unfold Ab;split
 .exact⟨.nil,λc h=>(by cases h)⟩
 rename_i a;have a:(A4 d).2=0:=GO a;have g:Am d=0:=by
  unfold A4 at a;split at a
  .rename_i h;exact absurd a h
  rename_i h;exact GO h
 obtain⟨m,-,-⟩:=CC g;obtain⟨f,o,-⟩:=BZ m;have hf:Nd (Aw (AR d)):=S6 (Qu f);have e:((Bi d).1.map λt=>t.2.1)=(AK d).map λx=>x.2:=by
  show ((EA _ _ _).map λt=>t.2.1)=_;unfold EA;rw[ABa];apply AAx
  .simp
  intro i h1 n;simp[AS,show i<(AK d).length by simpa using h1]
 show Nd ((Bi d).1.map λt=>t.2.1);rw[e];refine⟨Lt (by simpa using hf.nd),λc k=>?_⟩;obtain⟨x,l,rfl⟩:=IN.1 k;obtain⟨b,j,rfl⟩:=DQ.1 l;exact hf.nrm b j
section
attribute [local go_sem] o8
def Dy (f:Int):List (Int×Int)->Int×Bool
 | []=>(0,false)
 | x :: l=>if x.1=f then (x.2,true) else Dy f l
theorem VG (f:Int) (l:List (Int×Int)) (h:k<l.length):Dy f (l.drop k)=if (l.getD k (0,0)).1=f then ((l.getD k (0,0)).2,true) else Dy f (l.drop (k+1)):=by
 rw[OF h];have e:l.getD k (0,0)=l[k]:=by simp[AS,h]
 rw[e];rfl
def Zs (h:AE) (t:Int):List (Int×Int):=(h.1.getD t.toNat NK).2.2.2
def Bx (h:AE) (t f:Int):Int×Bool:=Dy f (Zs h t)
def NM:AW:={ ins:=[FK,T3,T3],pre:=λ(h,t,_,_)=>(0:Int)<=t/\t<(List.length (h:AE).1:Int),out:=λ(h,t,f,_)=>[.p T3 (Bx h t f).1,.p .bool (Bx h t f).2],lend:=true }
attribute [local go_sem] NM
theorem A3T:AY Tryz.prog 142 NM:=by
 refine fK [0,1,2,3,6,7,9,15,16,17,18,26] Tryz.func142 Tryz.ntmps142 AH ?_;rintro w0 O0 ⟨⟨d,hf⟩,t,f,u⟩ a q ⟨j,m⟩;simp only[NM,AL];refine Ev.ent (σ':=⟨[(0,.p FK (d,hf)),(1,.p T3 t),(2,.p T3 f)],[]⟩) ?_ (AC [] rfl rfl ?_ ?_)
 .repeat'(first|exact trivial|apply eS rfl|refine rX a ?_ ?_)
  .exact⟨j,m⟩
  have o:∀l,l=(List.getD d (Int.toNat t) (ByteArray.empty,[],[],[])).2.2.2->Bx (d,hf) t f=Dy f l:=λl e=>by rw[e];rfl
  have r:List.length (List.getD d (Int.toNat t) (ByteArray.empty,[],[],[])).2.2.2<=140737488355328:=(q.1.1.2 _ (AG (d:List EU) NK ((ACe j).2 m))).2.2.2.1;generalize (List.getD d (Int.toNat t) (ByteArray.empty,[],[],[])).2.2.2=l at *;rw[o l rfl];refine AI (ι:={k:Nat//k<=List.length l/\Dy f l=Dy f (l.drop k)}) (λk=>⟨[(2,.p T3 f),(15,.p Wn l),(16,.p (.int .i64) (List.length l:Int)),(17,.p (.int .i64) (k.1:Int))],[]⟩) (λk=>List.length l-k.1) ⟨0,By _,rfl⟩ (eW []) (λk=>?_)
  obtain⟨k,hk,b⟩:=k;have i:=λh:k<List.length l=>VG f l h;simp only;repeat'(first|exact trivial|apply eS rfl|refine rX a ?_ ?_|refine rC ?_ ?_<;>intro c<;>try(cases c;done))
  .exact c
  .refine cP 5 a ?_ ?_
   .trivial
   refine A9N a ?_;refine rL a ?_ ?_
   .trivial
   repeat'(first|exact trivial|apply eS rfl|apply AB|refine rX a ?_ ?_|refine rC ?_ ?_<;>intro c<;>try(cases c;done))
   .have g:k<List.length l:=by exact eV
    rw[i g,BY c]at b;exact fI a [.tmp 6,.tmp 7] (by rw[b];exact eR)
   .omega
   have g:k<List.length l:=by exact eV
   rw[i g,As c]at b;exact⟨⟨k+1,g,b⟩,by simp only;omega,eW []⟩
  have n:List.drop k (l:List (Int×Int))=[]:=NO (by exact eV);rw[n]at b;have b:Dy f l=(0,false):=b;exact fI a [.tmp 6,.tmp 7] (by rw[b];exact eR)
 .exact eN
 exact eN
abbrev D6:=List Int×List Int
def C9 (h:AE) (s:D6) (n t:Int):Option D6 :=
 if (Cn h (s.1.getD n.toNat 0) t).2=true then some (if (Cn h (s.1.getD n.toNat 0) t).1=s.1.getD n.toNat 0 then s else (s.1.set n.toNat (Cn h (s.1.getD n.toNat 0) t).1,s.2++[n])) else none
def Dp (h:AE) (s:D6):List (Nat×Obj):=[(1,.box 163 true [.p FK h,.sr 2 T3 0 s.1.length,.p Br s.2]),(2,.arr 3 T3 s.1)]
theorem e9 (h:AE) (hk:Fd h) (s:D6) {t:Int} (n0:0<=n) (n1:n<(s.1.length:Int)) (f:0<=s.1.getD n.toNat 0) (ty1:s.1.getD n.toNat 0<(h.1.length:Int)) (k:0<=t) (l:t<(h.1.length:Int)) (i:s.2.length<=1000000000) :
  A5 Tryz.prog 141 [.bp 1 [] 0,.p T3 n,.p T3 t] (Dp h s) [1]
  (λres d=>(C9 h s n t=none/\res=.p .bool false/\d=Dp h s)\/∃e,C9 h s n t=some e/\res=.p .bool true/\d=Dp h e):=by
 obtain⟨ty,w⟩:=s;simp only at n1 f ty1 i;have hh:h.1.length<=100000:=gO hk.2 O1;have g:∀x∈h.1,x.2.1.length<=100000:=λx j=>gO (hk.1.wid x.2.1 (IN.2 ⟨x,j,rfl⟩)) O1;refine Ix [0,1,2,6,7,8,26,35] [] [] Tryz.func141 Tryz.ntmps141 (AF A3M AH) ?_;intro w0 K O0 ρ0 c o q;simp only[Dp,Ai];repeat'(first|exact trivial|apply eS rfl|refine rX c ?_ ?_|refine rC ?_ ?_<;>intro b<;>try(cases b;done))
 .exact⟨⟨n0,n1⟩,⟨f,ty1⟩,⟨k,l⟩,hh,g⟩
 .have a:C9 h (ty,w) n t=none:=by unfold C9;rw[As (by simp only;rw[b];simp)]
  refine Ev.ent (σ':=⟨[(6,.p .bool false)],Dp h (ty,w)⟩) ?_ (AC [(1,.nm 1),(2,.nm 2)] rfl rfl ?_ ?_)
  .exact fM c [.tmp 6] (.p .bool false) eT (.inl ⟨a,rfl,rfl⟩)
  .unfold Dp;exact eN
  exact eN
 .exact⟨n0,n1⟩
 .exact⟨n0,n1⟩
 .simp only[AO];omega
 .have a:C9 h (ty,w) n t=some (ty.set n.toNat (Cn h (ty.getD n.toNat 0) t).1,w++[n]):=by unfold C9;rw[BY (by assumption),As b]
  generalize (Cn h (ty.getD n.toNat 0) t).1=m at *;have r:(w++[n]).take (w.length+1)=w++[n]:=At sc;refine CK [61] ?_;refine Ev.ent (σ':=⟨[(6,.p .bool true)],Dp h (ty.set n.toNat m,w++[n])⟩) ?_ (AC [(1,.nm 1),(2,.nm 2)] rfl rfl ?_ ?_)
  .exact fM c [.tmp 6] (.p .bool true) eT (.inr ⟨_,a,rfl,rfl⟩)
  .unfold Dp;simp only[AAk];exact eN
  exact eN
 have a:C9 h (ty,w) n t=some (ty,w):=by unfold C9;rw[BY (by assumption),BY (by simpa using b)]
 refine Ev.ent (σ':=⟨[(6,.p .bool true)],Dp h (ty,w)⟩) ?_ (AC [(1,.nm 1),(2,.nm 2)] rfl rfl ?_ ?_)
 .exact fM c [.tmp 6] (.p .bool true) eT (.inr ⟨_,a,rfl,rfl⟩)
 .unfold Dp;exact eN
 exact eN
end
section
variable {α:Type}
structure SO (o:α->α->Int):Prop where
 anti:∀a b,o b a=- o a b
 trans:∀ {a b c},o a b<0->o b c<0->o a c<0
variable {o:α->α->Int} {d:α}
def fA (d:α) (l:List α) (i j:Nat):List α:=(l.set i (l.getD j d)).set j (l.getD i d)
theorem fB {l:List α} {i j:Nat} (hi:i<l.length) (c:j<l.length) (k:Nat):(fA d l i j).getD k d=if k=j then l.getD i d else if k=i then l.getD j d else l.getD k d:=by
 unfold fA;simp only[AS,AAM,AAk];by_cases a:j=k
 .rw[BY a,BY O1,BY a.symm];rfl
 rw[As a,As (show ¬k=j by omega)];by_cases b:i=k
 .rw[BY b,BY O1,BY b.symm];rfl
 rw[As b,As (show ¬k=i by omega)]
theorem t7 {l:List α} {i j:Nat} (hi:i<l.length) (a:j<l.length):(fA d l i j).Perm l:=by
 have b:l.getD i d=l[i]:=by rw[AS,AT hi];rfl
 have c:l.getD j d=l[j]:=by rw[AS,AT a];rfl
 unfold fA;rw[b,c];exact List.set_set_perm hi a
structure X0 (d:α) (a b:Nat) (l r:List α):Prop where
 perm:r.Perm l
 out:∀k,k<a\/b<=k->r.getD k d=l.getD k d
 inn:∀i,a<=i->i<b->∃j,a<=j/\j<b/\r.getD i d=l.getD j d
theorem X0.len {a b:Nat} {l r:List α} (h:X0 d a b l r):r.length=l.length:=h.perm.length_eq
theorem X0.refl (a b:Nat) (l:List α):X0 d a b l l:=⟨List.Perm.refl _,λ_ _=>rfl,λi h1 c=>⟨i,h1,c,rfl⟩⟩
theorem X0.trans {a b:Nat} {l r s:List α} (h:X0 d a b l r) (c:X0 d a b r s):X0 d a b l s:=⟨c.perm.trans h.perm,λk hk=>(c.out k hk).trans (h.out k hk),λi h1 g=>by
 obtain⟨j,m,n,e⟩:=c.inn i h1 g;obtain⟨k,o,p,f⟩:=h.inn j m n;exact⟨k,o,p,e.trans f⟩⟩
theorem X0.mono {a b:Nat} {l r:List α} (h:X0 d a b l r) (ha:c<=a) (m:b<=f):X0 d c f l r:=⟨h.perm,λk hk=>h.out k O1,λi h1 g=>by
 by_cases hi:a<=i/\i<b
 .obtain⟨j,n,o,e⟩:=h.inn i hi.1 hi.2;exact⟨j,by omega,by omega,e⟩
 exact⟨i,h1,g,h.out i O1⟩⟩
theorem X0.swap {a b:Nat} (l:List α) {i j:Nat} (g:a<=i) (h:i<b) (m:a<=j) (n:j<b) (q:b<=l.length):X0 d a b l (fA d l i j):=by
 have f:=fB (d:=d) (l:=l) (i:=i) (j:=j) O1 O1;refine⟨t7 O1 O1,λk hk=>?_,λk o p=>?_⟩
 .rw[f k,As O1,As O1]
 rw[f k];by_cases c:k=j
 .rw[BY c];exact⟨i,g,h,rfl⟩
 rw[As c];by_cases e:k=i
 .rw[BY e];exact⟨j,m,n,rfl⟩
 rw[As e];exact⟨k,o,p,rfl⟩
def Dst (o:α->α->Int) (d:α) (l:List α):Prop:=∀i j,i<l.length->j<l.length->i≠j->o (l.getD i d) (l.getD j d)≠0
theorem pE (so:SO o) (l:List α):Dst o d l↔l.Pairwise λa b=>o a b≠0:=by
 have e:∀i (h:i<l.length),l.getD i d=l[i]:=λi h=>by rw[AS,AT h];rfl
 rw[oR];constructor
 .intro h i j hi c f;have:=h i j hi c O1
  rwa [e i hi,e j c]at this
 intro h i j hi c f;rw[e i hi,e j c];rcases Nat.lt_or_gt_of_ne f with h1|h1
 .exact h i j hi c h1
 have g:=h j i c hi h1;rw[so.anti];omega
theorem Dst.perm (so:SO o) {l r:List α} (h:Dst o d l) (c:r.Perm l):Dst o d r:=by
 rw[pE so]at h ⊢;refine(c.symm.pairwise_iff ?_).1 h;intro a b e;rw[so.anti];omega
theorem Dst.lt (so:SO o) {l:List α} (h:Dst o d l) {i j:Nat} (hi:i<l.length) (b:j<l.length) (a:i≠j) (hn:¬o (l.getD i d) (l.getD j d)<0):o (l.getD j d) (l.getD i d)<0:=by
 have h1:=h i j hi b a;rw[so.anti];omega
def pF (o:α->α->Int) (d:α) (a b:Nat) (l:List α):Prop:=∀i j,a<=i->i<j->j<b->o (l.getD i d) (l.getD j d)<0
theorem A3U (a:Nat) (l:List α):pF o d a (a+1) l:=λi j h1 b c=>by omega
theorem X2 {a b:Nat} {l r:List α} (h:pF o d a b l) (e:∀k,a<=k->k<b->r.getD k d=l.getD k d):pF o d a b r:=λi j h1 f c=>by
 rw[e i h1 O1,e j O1 c];exact h i j h1 f c
def A0u (o:α->α->Int) (d:α) (a i j:Nat) (m:List α):Prop:=(∀x y,a<=x->x<y->y<=i->x≠j->y≠j->o (m.getD x d) (m.getD y d)<0)/\∀y,j<y->y<=i->o (m.getD j d) (m.getD y d)<0
theorem lN {a:Nat} {m:List α} (h:pF o d a i m):A0u o d a i i m:=⟨λx y h0 h1 b c e=>h x y h0 h1 O1,λy h1 b=>by omega⟩
theorem A0v (so:SO o) {a j:Nat} {m:List α} (h:A0u o d a i j m) (k:a<=j) (l:j<=i) (b:j=a\/o (m.getD (j-1) d) (m.getD j d)<0):pF o d a (i+1) m:=by
 intro x y h0 h1 g;by_cases c:x=j
 .subst c;exact h.2 y h1 O1
 by_cases e:y=j
 .subst e;rcases b with b|b
  .omega
  by_cases f:x=y-1
  .subst f;exact b
  exact so.trans (h.1 x (y-1) h0 O1 O1 c O1) b
 exact h.1 x y h0 h1 O1 c e
theorem t8 {a j:Nat} {m:List α} (h:A0u o d a i j m) (h0:a<j) (q:j<=i) (hi:i<m.length) (p:o (m.getD j d) (m.getD (j-1) d)<0):A0u o d a i (j-1) (fA d m j (j-1)):=by
 have f:=fB (d:=d) (l:=m) (i:=j) (j:=j-1) O1 O1;refine⟨λx y g h1 e k n=>?_,λy h1 e=>?_⟩
 .rw[f x,f y,As k,As n];by_cases c:x=j
  .subst c;rw[BY rfl,As O1];exact h.1 (x-1) y O1 O1 e O1 O1
  rw[As c];by_cases b:y=j
  .rw[BY b];exact h.1 x (j-1) g O1 O1 c O1
  rw[As b];exact h.1 x y g h1 e c b
 rw[f (j-1),f y,BY rfl,As O1];by_cases b:y=j
 .rw[BY b];exact p
 rw[As b];exact h.2 y O1 e
structure PtE (o:α->α->Int) (d:α) (a b p:Nat) (m:List α):Prop where
 l:a<=p
 r:p<b
 lo:∀x,a<=x->x<p->o (m.getD x d) (m.getD p d)<0
 hi:∀x,p<x->x<b->o (m.getD p d) (m.getD x d)<0
structure Cut (o:α->α->Int) (d:α) (a0 b0 a b:Nat) (m:List α):Prop where
 s1:pF o d a0 a m
 s2:pF o d b b0 m
 c1:∀x y,a0<=x->x<a->a<=y->y<b0->o (m.getD x d) (m.getD y d)<0
 c2:∀x y,a0<=x->x<b->b<=y->y<b0->o (m.getD x d) (m.getD y d)<0
 ab:a0<=a/\a<=b/\b<=b0
theorem Cut.pin {n p a b:Nat} {m r:List α} (h:Cut o d n p a b m) (g:X0 d a b m r):Cut o d n p a b r:=by
 obtain⟨A,C,B⟩:=h.ab;have key:∀(P:α->Prop) (lo hi:Nat),lo<=a->b<=hi->(∀y,lo<=y->y<hi->P (m.getD y d))->∀y,lo<=y->y<hi->P (r.getD y d):=λP lo hi h1 q s y c f=>by
  obtain⟨j,t,u,e⟩:=(g.mono h1 q).inn y c f;rw[e];exact s j t u
 refine⟨X2 h.s1 λk v w=>g.out k O1,X2 h.s2 λk v w=>g.out k O1,λx y i l c f=>?_,λx y i l c f=>?_,h.ab⟩
 .rw[g.out x O1];exact key (λz=>o (m.getD x d) z<0) a p (Of _) B (λy c f=>h.c1 x y i l c f) y c f
 rw[g.out y O1];exact key (λz=>o z (m.getD y d)<0) n b A (Of _) (λx i l=>h.c2 x y i l c f) x i l
theorem Cut.done {g k a b:Nat} {m:List α} (h:Cut o d g k a b m) (hs:pF o d a b m):pF o d g k m:=by
 obtain⟨n,p,q⟩:=h.ab;intro i j h1 c e;by_cases hi:i<a
 .by_cases f:j<a
  .exact h.s1 i j h1 c f
  exact h.c1 i j h1 hi O1 e
 by_cases f:j<b
 .exact hs i j O1 c f
 by_cases l:i<b
 .exact h.c2 i j h1 l O1 e
 exact h.s2 i j O1 c e
theorem Cut.left (so:SO o) {f g a b p:Nat} {m:List α} (h:Cut o d f g a b m) (c:PtE o d a b p m) (hs:pF o d a p m):Cut o d f g (p+1) b m:=by
 obtain⟨A,B,C⟩:=h.ab;have w:=c.l;have z:=c.r;refine⟨λi j h1 k v=>?_,h.s2,λx y q D E s=>?_,h.c2,by omega⟩
 .by_cases hi:i<a
  .by_cases e:j<a
   .exact h.s1 i j h1 k e
   exact h.c1 i j h1 hi O1 O1
  by_cases e:j=p
  .rw[e];exact c.lo i O1 O1
  exact hs i j O1 k O1
 by_cases t:x<a
 .exact h.c1 x y q t O1 s
 by_cases n:y<b
 .by_cases u:x=p
  .rw[u];exact c.hi y O1 n
  exact so.trans (c.lo x O1 O1) (c.hi y O1 n)
 exact h.c2 x y q O1 O1 s
theorem Cut.right (so:SO o) {n a b p:Nat} {m:List α} (h:Cut o d k n a b m) (c:PtE o d a b p m) (hs:pF o d (p+1) b m):Cut o d k n a p m:=by
 obtain⟨C,D,E⟩:=h.ab;have A:=c.l;have B:=c.r;refine⟨h.s1,λi j h1 q s=>?_,λx y e f u g=>h.c1 x y e f u g,λx y e f u g=>?_,by omega⟩
 .by_cases t:j<b
  .by_cases hi:i=p
   .rw[hi];exact c.hi j O1 t
   exact hs i j O1 q t
  by_cases v:i<b
  .exact h.c2 i j O1 v O1 s
  exact h.s2 i j O1 q s
 by_cases z:y<b
 .by_cases w:x<a
  .exact h.c1 x y e w O1 g
  by_cases hyp:y=p
  .rw[hyp];exact c.lo x O1 f
  exact so.trans (c.lo x O1 f) (c.hi y O1 z)
 exact h.c2 x y e O1 O1 g
def Bf (o:α->α->Int) (d:α) (a b:Nat) (m:List α):Prop:=a=0\/∀y,a<=y->y<b->o (m.getD (a-1) d) (m.getD y d)<0
theorem Bf.pin {a b:Nat} {m r:List α} (h:Bf o d a b m) (c:X0 d a b m r):Bf o d a b r:=by
 rcases h with h|h
 .exact .inl h
 by_cases h0:a=0
 .exact .inl h0
 right;intro y i k;rw[c.out (a-1) O1];obtain⟨j,f,g,e⟩:=c.inn y i k;rw[e];exact h j f g
theorem Bf.sub {a b:Nat} {m:List α} (h:Bf o d a b m) (f:c<=b):Bf o d a c m:=h.imp id λh y e g=>h y e O1
end
section
def lO:AW:={ ins:=[T3],pre:=λ_=>True,out:=λ_=>[.p .bool false] }
attribute [local go_sem] lO
def Ph (a b:Int):Int:=if a<b then -1 else if b<a then 1 else 0
def Gf:AW:={ ins:=[T3,T3],pre:=λ_=>True,out:=λ(a,b,_)=>[.p T3 (Ph a b)] }
attribute [local go_sem] Gf
def Ht:AW:={ ins:=[C7,C7],pre:=λ_=>True,out:=λ(a,b,_)=>[.p T3 (Ph (Prod.fst a) (Prod.fst b))] }
attribute [local go_sem] Ht
theorem A0x:AY Tryz.prog 192 lO:=by
 refine fK [0,2] Tryz.func192 Tryz.ntmps192 AH ?_;rintro w0 O0 ⟨x,u⟩ a - -;simp only[lO,AL];repeat'(first|exact trivial|apply eS rfl|refine rX a ?_ ?_)
 exact fI a [.tmp 2]
theorem Wr:AY Tryz.prog 178 Gf:=by
 refine fK [0,1,4,5,6,11,12,13,16,19] Tryz.func178 Tryz.ntmps178 (AF A0x AH) ?_;rintro w0 O0 ⟨a,b,u⟩ c - -;simp only[Gf,AL];repeat'(first|exact trivial|apply eS rfl|refine rX c ?_ ?_|refine rC ?_ ?_<;>intro d<;>try(cases d;done))
 .have e:Ph a b=-1:=BY d;exact fI c [.tmp 4] (by rw[e];exact eR)
 .have e:Ph a b=1:=by unfold Ph;rw[As O1,BY d]
  exact fI c [.tmp 4] (by rw[e];exact eR)
 have e:Ph a b=0:=by unfold Ph;rw[As O1,As O1]
 exact fI c [.tmp 4] (by rw[e];exact eR)
theorem KJ:AY Tryz.prog 140 Ht:=by
 refine fK [0,1,2,3,4] Tryz.func140 Tryz.ntmps140 (AF Wr AH) ?_;rintro w0 O0 ⟨a,b,u⟩ c - -;simp only[Ht,AL];repeat'(first|exact trivial|apply eS rfl|refine rX c ?_ ?_)
 exact fI c [.tmp 4]
def Pi (l:List (Int×Int)):Prop:=∀i,i+1<l.length->(l.getD i (0,0)).1<(l.getD (i+1) (0,0)).1
end
section
attribute [local go_sem] Ht
def Qv (a b:Int×Int):Int:=Ph a.1 b.1
theorem pG:SO Qv:=⟨λa b=>by unfold Qv Ph;(repeat' split)<;>omega,λ{a b c} h1 d=>by
 unfold Qv Ph at *
 (repeat' split at h1)<;>(repeat' split at d)<;>(repeat' split)<;>omega⟩
theorem A3V (l:List (Int×Int)) (N:l.length<=100000) (z:Dst Qv (0,0) l) (a b:Nat) (I:a<=100000) (J:b<=l.length):A5 Tryz.prog 200 [.sr 1000000 C7 0 l.length,.p T3 (a:Int),.p T3 (b:Int),.fn 140] [(1000000,.arr 59 C7 l)] [1000000] (λres G=>res=.raw (.tuple #[])/\∃r,G=[(1000000,.arr 59 C7 r)]/\X0 (0,0) a b l r/\pF Qv (0,0) a b r):=by
 refine Ix [0,1,2,3,8,9,14,34] [] [] Tryz.func200 Tryz.ntmps200 (AF KJ AH) ?_;intro w0 K O0 ρ0 d P Q;simp only[Ai];repeat'(first|exact trivial|apply eS rfl|apply AB|refine rX d ?_ ?_|refine rC ?_ ?_<;>intro e<;>try(cases e;done))
 .omega
 refine AI (ι:={s:Nat×List (Int×Int)//a+1<=s.1/\(s.1=a+1\/s.1<=b)/\X0 (0,0) a b l s.2/\pF Qv (0,0) a s.1 s.2}) (λs=>⟨[(0,.sr 1000000 C7 0 l.length),(1,.p T3 (a:Int)),(2,.p T3 (b:Int)),(3,.fn 140),(8,.p (.int .i64) (s.1.1:Int))],[(1000000,.arr 59 C7 s.1.2)]⟩) (λs=>b-s.1.1) ⟨(a+1,l),Of _,.inl rfl,X0.refl a b l,A3U a l⟩ (AC [(1000000,.nm 1000000)] rfl rfl ?_ ?_) (λs=>?_)
 .first|exact eN|refine eM ?_
 .first|exact eN|refine eM ?_
 obtain⟨⟨i,m⟩,C,D,n,hs⟩:=s;simp only at C D n hs ⊢;have O:=n.len;repeat'(first|exact trivial|apply eS rfl|apply AB|refine rX d ?_ ?_|refine rC ?_ ?_<;>intro e<;>try(cases e;done))
 .have E:i<b:=by exact eV
  refine AI (ι:={t:Nat×List (Int×Int)//a<=t.1/\t.1<=i/\X0 (0,0) a b l t.2/\A0u Qv (0,0) a i t.1 t.2}) (λt=>⟨[(0,.sr 1000000 C7 0 l.length),(1,.p T3 (a:Int)),(2,.p T3 (b:Int)),(3,.fn 140),(8,.p (.int .i64) (i:Int)),(9,.p (.int .i64) (t.1.1:Int))],[(1000000,.arr 59 C7 t.1.2)]⟩) (λt=>t.1.1) ⟨(i,m),by omega,Of i,n,lN hs⟩ (AC [(1000000,.nm 1000000)] rfl rfl ?_ ?_) (λt=>?_)
  .first|exact eN|refine eM ?_
  .first|exact eN|refine eM ?_
  obtain⟨⟨j,c⟩,ha,u,g,q⟩:=t;simp only at ha u g q ⊢;have L:=g.len;have A:=z.perm pG g.perm;repeat'(first|exact trivial|apply eS rfl|apply AB|refine rX d ?_ ?_)
  .dsimp only[Ty.den]at *;exact⟨λ_=>by omega,λ_=>⟨by omega,by omega⟩,λ_=>⟨by omega,by omega⟩⟩
  have o:a<j->((j:Int)-1).toNat=j-1:=λ_=>by omega
  refine Tw (by simp only[go_sem,Nat.reduceEqDiff,reduceCtorEq,Nat.reduceAdd,Nat.reduceSub,Nat.reduceMul,Nat.reduceLeDiff,Nat.reduceLT,Int.reduceLE,Int.reduceToNat,Int.reduceNeg,↓reduceIte];rfl) ?_ ?_
  .intro f;simp only[An,If]at f;have k:a<j:=by omega
   have v:Qv (c.getD j (0,0)) (c.getD ((j:Int)-1).toNat (0,0))<0:=f.2;rw[o k]at v;have F:fA (0,0) c j (j-1)=(c.set j (c.getD (j-1) (0,0))).set (j-1) (c.getD j (0,0)):=rfl;repeat'(first|exact trivial|apply eS rfl|apply AB|refine rP d ?_ ?_|fail)
   (refine J3 drawsAny d 16 [([0,1,5,6,7,8,9,10,11,12,13,14],15)] [2,3,4] (by kernel_rfl) (mxA ?_ ?_);(next=>exact j8);refine mxL d [] ?_ ?_;(next=>exact j8);refine mxE d ?_ ?_ ?_;(next=>exact j8);(next=>exact j8))
   rw[o k];repeat'(first|exact trivial|apply eS rfl|apply AB|refine rX d ?_ ?_|refine rC ?_ ?_<;>intro e<;>try(cases e;done))
   .dsimp only[Ty.den]at *;omega
   refine⟨⟨(j-1,fA (0,0) c j (j-1)),by simp only;omega,by simp only;omega,g.trans (X0.swap c O1 O1 O1 O1 O1),t8 q k u O1 v⟩,by simp only;omega,AC [(1000000,.nm 1000000)] rfl rfl ?_ ?_⟩
   .simp only;rw[F];first|exact eN|refine eM ?_
   simp only;rw[show ((j-1:Nat):Int)=(j:Int)-1 by omega];first|exact eN|refine eM ?_
  intro f;have B:j=a\/Qv (c.getD (j-1) (0,0)) (c.getD j (0,0))<0:=by
   by_cases k:j=a
   .exact .inl k
   right;simp only[AAO,TO]at f;rw[o O1]at f;rcases f with h|h
   .omega
   exact A.lt pG O1 O1 O1 h
  repeat'(first|exact trivial|apply eS rfl|apply AB|refine rX d ?_ ?_|refine rC ?_ ?_<;>intro e<;>try(cases e;done))
  .exact eV
  refine⟨⟨(i+1,c),by simp only;omega,.inr E,g,A0v pG q ha u B⟩,by simp only;omega,AC [(1000000,.nm 1000000)] rfl rfl ?_ ?_⟩
  .first|exact eN|refine eM ?_
  first|exact eN|refine eM ?_
 have M:b<=i:=by exact eV
 exact fM d [] (.raw (.tuple #[])) rfl ⟨rfl,m,rfl,n,λx y h1 w H=>hs x y h1 w O1⟩
end
def JS (x:Int×Int) (s:List (Int×Int)):Nat->Nat
 | 0=>0
 | n+1=>if x.1<(s.getD n (0,0)).1 then JS x s n else n+1
def Kx (s:List (Int×Int)) (x:Int×Int):List (Int×Int):=s.take (JS x s s.length)++[x]++s.drop (JS x s s.length)
def AZ (l:List (Int×Int)):List (Int×Int):=l.foldl Kx []
theorem Zt (x:Int×Int) (s:List (Int×Int)):∀n,JS x s n<=n
 | 0=>Of _
 | n+1=>by
  unfold JS;have:=Zt x s n;split<;>omega
theorem A0y (s:List (Int×Int)) (x:Int×Int):(Kx s x).length=s.length+1:=by
 have:=Zt x s s.length;simp[Kx];omega
theorem KK (l:List (Int×Int)) (x:Int×Int):AZ (l++[x])=Kx (AZ l) x:=by simp[AZ]
theorem Lu:∀(l s:List (Int×Int)),(l.foldl Kx s).length=s.length+l.length
 | [],s=>by simp
 | x :: l,s=>by simp[Lu l,A0y];omega
theorem Co (l:List (Int×Int)):(AZ l).length=l.length:=by simp[AZ,Lu]
def Pj:AW:={ ins:=[Mx],pre:=λ(l,_)=>l.length<=1000000,out:=λ(l,_)=>[.own 59 C7 (AZ l)] }
theorem X3:AY Tryz.prog 101 Pj:=by
 refine fK [0,2,3,4,5,6,10,30] Tryz.func101 Tryz.ntmps101 AH ?_;rintro w0 O0 ⟨l,u⟩ c t m;simp only[Pj]at m;simp only[Pj,AL];repeat'(first|exact trivial|apply eS rfl|refine rX c ?_ ?_)
 refine AI (ι:={p:Nat//p<=l.length}) (λk=>⟨[(0,.p Mx l),(3,.sr 10 C7 0 (AZ (l.take k.1)).length),(4,.p (.int .i64) (k.1:Int))],[(10,.arr 59 C7 (AZ (l.take k.1)))]⟩) (λk=>l.length-k.1) ⟨0,by omega⟩ (AC [(10,.nil)] rfl rfl ?_ ?_) (λk=>?_)
 .refine eM ?_;rfl
 .refine eM ?_;rfl
 obtain⟨k,h⟩:=k;have s:(AZ (l.take k)).length=k:=by rw[Co,OR];exact ABo h
 repeat'(first|exact trivial|apply eS rfl|refine rX c ?_ ?_|refine rC ?_ ?_<;>intro b<;>try(cases b;done))
 .refine AI (ι:={q:Nat//q<=(AZ (l.take k)).length/\JS (l.getD k (0,0)) (AZ (l.take k)) q=JS (l.getD k (0,0)) (AZ (l.take k)) (AZ (l.take k)).length}) (λq=>⟨[(0,.p Mx l),(3,.sr 10 C7 0 (AZ (l.take k)).length),(4,.p (.int .i64) (k:Int)),(5,.p (.int .i64) (q.1:Int))],[(10,.arr 59 C7 (AZ (l.take k)))]⟩) (λq=>q.1) ⟨(AZ (l.take k)).length,by simp⟩ (eW [(10,.nm 10)]) (λq=>?_)
  obtain⟨q,n,g⟩:=q;have i:k<l.length:=by omega
  have o:=l.length_take_le k;have d:(List.take q (AZ (List.take k l))).length=q:=by rw[OR];exact ABo n
  repeat'(first|exact trivial|apply eS rfl|apply AB|refine rX c ?_ ?_|refine rC ?_ ?_<;>intro b<;>try(cases b;done))
  .exact eV
  .exact eV
  .obtain⟨h1,a⟩:=b;obtain⟨q,rfl⟩:∃r,q=r+1:=⟨q-1,by omega⟩;have e:((q+1:Nat):Int)-1=(q:Int):=by omega
   refine⟨⟨q,by omega,?_⟩,AAX q,AC [(10,.nm 10)] rfl rfl ?_ ?_⟩
   .rw[<-g];simp only[JS];rw[e,iN]at a;rw[BY a]
   .exact eN
   refine eM ?_;show (q:Int)+1-1=q;omega
  .refine⟨by exact eV,?_⟩;rw[d];unfold AO;omega
  .refine⟨by exact eV,?_⟩;rw[d];simp only[AO];omega
  .refine⟨by exact eV,?_⟩;rw[d];simp only[AO,AB3];omega
  .exact eV
  have j:JS (l.getD k (0,0)) (AZ (l.take k)) q=q:=by
   cases q with
   | zero=>rfl
   | succ q =>
    have e:((q+1:Nat):Int)-1=(q:Int):=by omega
    have:=b O1;rw[e,iN]at this;simp only[JS];rw[As O1]
  have h1:=Ag l (0,0) i;have a:AZ (l.take (k+1))=_:=(AAS AZ h1).trans (KK _ _);unfold Kx at a;rw[<-g,j]at a;refine⟨⟨k+1,by exact eV⟩,by simp only;exact eV,AC [(10,.nm 37)] rfl rfl ?_ ?_⟩
  .refine eM ?_;exact a.symm
  refine eM ?_;have f:=AAS List.length a;rw[Do,Do]at f;exact f.symm
 have hk:l.take k=l:=At (by exact eV);refine Nm c (.inl rfl) (rv:=.tmp 2) rfl ?_;simp only[KY,Ii,Gu,go_sem,Nat.reduceEqDiff,reduceCtorEq,Nat.reduceAdd,Nat.reduceSub,Nat.reduceMul,Nat.reduceLeDiff,Nat.reduceLT,Int.reduceLE,Int.reduceToNat,Int.reduceNeg,↓reduceIte];rw[hk];first|rfl|exact⟨rfl,rfl⟩|exact⟨rfl,rfl,rfl⟩
section
attribute [local go_sem] Pj
abbrev AD:=Int×List (Int×Int)
def Dq (f:List AD):Nat->List Int×List Int->Int->List Int×List Int
 | 0,s,_=>s
 | k+1,s,n=>(AZ (f.getD n.toNat (0,[])).2).foldl (λs a=>if s.1.getD a.2.toNat 0<0 then Dq f k s a.2 else s) (s.1.set n.toNat (s.2.length:Int),s.2++[n])
def Ky (l:List Int):Nat:=l.countP (λx=>decide (x<0))
def AX (f:List AD):Prop:=f.length<=100000/\∀x∈f,x.2.length<=100000/\∀a∈x.2,0<=a.2/\a.2<(f.length:Int)
def SW (f:List AD) (s:List Int×List Int):Prop:=s.1.length=f.length/\s.2.length+Ky s.1<=f.length
theorem A0z {l:List Int} {n:Nat} {v:Int} (hn:n<l.length) (a:l.getD n 0<0) (d:0<=v):Ky (l.set n v)+1=Ky l:=by
 induction l generalizing n with
 | nil=>simp at hn
 | cons x r c =>
  cases n with
  | zero =>
   have b:x<0:=by simpa using a
   have:¬v<0:=by omega
   simp[Ky,ABs,b,this]
  | succ n =>
   have h1:=c (n:=n) (by simpa using hn) (by simpa using a);simp only[Ky,ACs,ABs]at h1 ⊢;omega
theorem lP {f:List AD} {s:List Int×List Int} (h:SW f s) (d:0<=n) (hn:n<f.length) (b:s.1.getD n.toNat 0<0) :
  SW f (s.1.set n.toNat (s.2.length:Int),s.2++[n])/\Ky (s.1.set n.toNat (s.2.length:Int))+1=Ky s.1:=by
 obtain⟨h1,c⟩:=h;have a:=A0z (l:=s.1) (n:=n.toNat) (v:=(s.2.length:Int)) O1 b O1;refine⟨⟨by simpa using h1,?_⟩,a⟩;simp only[Do,nO];omega
theorem t9 (s:List (Int×Int)) (x:Int×Int):(Kx s x).Perm (x :: s):=by
 unfold Kx;refine(List.perm_append_comm.append_right _).trans ?_;simp
theorem Kk:∀(l s:List (Int×Int)),(l.foldl Kx s).Perm (l++s)
 | [],s=>List.Perm.refl _
 | x :: l,s=>by
  refine(Kk l (Kx s x)).trans ?_;refine(List.Perm.append_left l (t9 s x)).trans ?_;exact ACI
theorem Ed (l:List (Int×Int)):(AZ l).Perm l:=by
 have:=Kk l [];simpa[AZ] using this
theorem Pk {f:List AD} (hf:AX f) (n:Int):List.length (f.getD n.toNat (0,[])).2<=100000:=by
 by_cases h:n.toNat<f.length
 .have a:f.getD n.toNat (0,[])∈f:=by
   rw[AS,AT h];exact AAm h
  exact(hf.2 _ a).1
 rw[AS,oS O1];simp
theorem S7 {f:List AD} (hf:AX f) {a:Int×Int} (ha:a∈AZ (f.getD n.toNat (0,[])).2):0<=a.2/\a.2<f.length:=by
 have ha:=(Ed _).mem_iff.1 ha;by_cases h:n.toNat<f.length
 .have b:f.getD n.toNat (0,[])∈f:=by
   rw[AS,AT h];exact AAm h
  exact(hf.2 _ b).2 a ha
 rw[AS,oS O1]at ha;simp at ha
def EB (f:List AD) (k:Nat) (s:List Int×List Int) (a:Int×Int):List Int×List Int:=if s.1.getD a.2.toNat 0<0 then Dq f k s a.2 else s
theorem FI (f:List AD) (k:Nat) (s:List Int×List Int) (n:Int):Dq f (k+1) s n=(AZ (f.getD n.toNat (0,[])).2).foldl (EB f k) (s.1.set n.toNat (s.2.length:Int),s.2++[n]):=rfl
theorem S8 {f:List AD} {k:Nat} (i:∀(s:List Int×List Int) (n:Int),SW f s->0<=n->n<f.length->s.1.getD n.toNat 0<0->SW f (Dq f k s n)/\Ky (Dq f k s n).1<=Ky s.1) :
  ∀(l:List (Int×Int)) (t:List Int×List Int),(∀a∈l,0<=a.2/\a.2<(f.length:Int))->SW f t->SW f (l.foldl (EB f k) t)/\Ky (l.foldl (EB f k) t).1<=Ky t.1
 | [],t,_,d=>⟨d,Of _⟩
 | a :: l,t,c,d=>by
  simp only[OS];by_cases h:t.1.getD a.2.toNat 0<0
  .obtain⟨j,m⟩:=i t a.2 d (c a sc).1 (c a sc).2 h;have e:EB f k t a=Dq f k t a.2:=BY h;rw[e];obtain⟨o,p⟩:=S8 i l _ (λb g=>c b (by simp[g])) j;exact⟨o,gO p m⟩
  have e:EB f k t a=t:=As h;rw[e];exact S8 i l t (λb g=>c b (by simp[g])) d
theorem Qw {f:List AD} (hf:AX f):∀(k:Nat) (s:List Int×List Int) (n:Int),SW f s->0<=n->n<f.length->s.1.getD n.toNat 0<0->SW f (Dq f k s n)/\Ky (Dq f k s n).1<=Ky s.1
 | 0,s,n,h,_,_,_=>⟨h,Of _⟩
 | k+1,s,n,h,h0,h1,d=>by
  obtain⟨e,g⟩:=lP h h0 h1 d;obtain⟨b,c⟩:=S8 (Qw hf k) _ _ (λa ha=>S7 hf ha) e;rw[FI];exact⟨b,by simp only at c g;omega⟩
theorem Qx {α:Type} (g:X->α->X) (l:List α) (d:α) (t:X) {i:Nat} (hi:i<l.length):(l.take (i+1)).foldl g t=g ((l.take i).foldl g t) (l.getD i d):=by
 rw[Ag l d hi,ABl];rfl
def Kl (f:List AD) (s:List Int×List Int):List (Nat×Obj):=[(1,.box 175 true [.p Fm f,.sr 2 T3 0 s.1.length,.sr 3 T3 0 s.2.length]),(2,.arr 3 T3 s.1),(3,.arr 3 T3 s.2)]
theorem A0A (f:List AD) (hf:AX f):∀(k:Nat) (s:List Int×List Int) (n:Int),SW f s->0<=n->n<f.length->s.1.getD n.toNat 0<0->Ky s.1<=k ->
  A5 Tryz.prog 100 [.bp 1 [] 0,.p T3 n] (Kl f s) [1] (λres M=>res=.raw (.tuple #[])/\M=Kl f (Dq f k s n)):=by
 intro k;induction k with
 | zero =>
  intro s n h0 h1 u B N;obtain⟨_,O⟩:=lP h0 h1 u B;omega
 | succ k J =>
  intro s n A w m x hk;obtain⟨num,g⟩:=s;obtain⟨t,v⟩:=lP A w m x;obtain⟨G,H⟩:=A;simp only at G H x t v hk;refine Ix [0,1,4,5,40,54] [] [] Tryz.func100 Tryz.ntmps100 (AF X3 AH) ?_;intro w0 K O0 ρ0 c Q R;simp only[Kl,Ai];repeat'(first|exact trivial|apply eS rfl|refine rX c ?_ ?_)
  .exact eV
  .have:=hf.1;simp only[AO];omega
  .have I:=Pk hf n;exact⟨⟨w,m⟩,gO I O1⟩
  have l:=λa (ha:a∈AZ (f.getD n.toNat (0,[])).2)=>S7 hf ha;have D:(AZ (f.getD n.toNat (0,[])).2).length<=100000:=by rw[Co];exact Pk hf n
  generalize C:AZ (f.getD n.toNat (0,[])).2=L at l D;generalize o:(num.set n.toNat (g.length:Int),g++[n])=s1 at t;have F:∀i,SW f ((L.take i).foldl (EB f k) s1)/\Ky ((L.take i).foldl (EB f k) s1).1<=Ky s1.1:=λi=>S8 (Qw hf k) _ _ (λa ha=>l a (AAp ha)) t;have m:num.set n.toNat (g.length:Int)=s1.1:=by rw[<-o]
  have P:g++[n]=s1.2:=by rw[<-o]
  rw[m]at v;refine AI (ι:={i:Nat//i<=L.length}) (λi=>⟨[(0,.bp 1 [] 0),(1,.p T3 n),(4,.p Mx L),(5,.p (.int .i64) (i.1:Int))],Kl f ((L.take i.1).foldl (EB f k) s1)⟩) (λi=>L.length-i.1) ⟨0,by omega⟩ (A8x [36] (AC [(1,.nm 1),(2,.nm 2),(3,.nm 3)] rfl rfl ?_ ?_)) (λi=>?_)
  .simp only[Kl];refine eM ?_;simp only[List.foldl_nil];rw[<-o];simp
  .exact eN
  obtain⟨i,hi⟩:=i;obtain⟨r,E⟩:=F i;have q:=λ(h:i<L.length)=>Qx (EB f k) L (0,0) s1 h;generalize z:(L.take i).foldl (EB f k) s1=b at r E q;simp only[Kl];repeat'(first|exact trivial|apply eS rfl|apply AB|refine rX c ?_ ?_|refine rC ?_ ?_<;>intro j<;>try(cases j;done))
  .have d:i<L.length:=by exact eV
   have:=l _ (AG L (0,0) d);obtain⟨h1,u⟩:=r;refine⟨by exact eV,this.1,?_⟩;rw[h1];exact this.2
  .have d:i<L.length:=by exact eV
   have y:=l _ (AG L (0,0) d);refine cP 6 c ?_ ?_
   .exact eV
   refine rM c (J b (L.getD i (0,0)).2 r y.1 y.2 (by simpa using j) O1) [(1,.nm 1),(2,.nm 2),(3,.nm 3)] [2,3] ?_ ?_ ?_
   .exact eN
   .simp only[Kl];exact eN
   rintro _ _ ⟨rfl,rfl⟩;refine⟨[(1,.nm 1),(2,.nm 2),(3,.nm 3)],.raw (.tuple #[]),Kl f (Dq f k b (L.getD i (0,0)).2),rfl,rfl,?_,?_,rfl,rfl,E2 ?_⟩
   .simp only[Kl];exact eN
   .exact eN
   repeat'(first|apply eS rfl|apply AB|refine rX c ?_ ?_)
   .exact eV
   have e:EB f k b (L.getD i (0,0))=Dq f k b (L.getD i (0,0)).2:=BY (by simpa using j);refine⟨⟨i+1,by omega⟩,by simp only;omega,AC [(1,.nm 1),(2,.nm 2),(3,.nm 3)] rfl rfl ?_ ?_⟩
   .simp only[Kl,q d,e];exact eN
   exact eN
  .exact eV
  .have d:i<L.length:=by exact eV
   have e:EB f k b (L.getD i (0,0))=b:=As (by simpa using j);refine⟨⟨i+1,by omega⟩,by simp only;omega,AC [(1,.nm 1),(2,.nm 2),(3,.nm 3)] rfl rfl ?_ ?_⟩
   .simp only[q d,e];exact eN
   exact eN
  have hk:L.take i=L:=At (by exact eV);rw[hk]at z;have h1:Dq f (k+1) (num,g) n=b:=by rw[FI,C,<-z,<-o]
  rw[h1];exact fM c [] (.raw (.tuple #[])) rfl ⟨rfl,rfl⟩
end
section
attribute [local go_sem] Pj
def fC (f:List AD) (s:List Int×List Int):Prop:=∀n∈s.2,0<=n/\n<(f.length:Int)
theorem VH {f:List AD} (hf:AX f):∀(k:Nat) (s:List Int×List Int) (n:Int),fC f s->0<=n->n<f.length->fC f (Dq f k s n)
 | 0,s,n,h,_,_=>h
 | k+1,s,n,h,h0,h1=>by
  rw[FI];have key:∀(l:List (Int×Int)) (t:List Int×List Int),(∀a∈l,0<=a.2/\a.2<(f.length:Int))->fC f t->fC f (l.foldl (EB f k) t):=by
   intro l;induction l with
   | nil=>intro t _ d;exact d
   | cons a l i =>
    intro t e d;simp only[OS];refine i _ (λb g=>e b (by simp[g])) ?_;unfold EB;split
    .exact VH hf k t a.2 d (e a sc).1 (e a sc).2
    exact d
  refine key _ _ (λa ha=>S7 hf ha) ?_;intro m c;simp only[Is,oN]at c;rcases c with c|rfl
  .exact h m c
  exact⟨h0,h1⟩
def Fv (f:List AD) (root:Int):List Int×List Int:=Dq f f.length (List.replicate f.length (-1),[]) root
def Ws (num:List Int) (a:Int×Int):Int×Int:=(a.1,num.getD a.2.toNat 0)
def Pl (f:List AD) (num:List Int) (n:Int):AD:=((f.getD n.toNat (0,[])).1,(AZ (f.getD n.toNat (0,[])).2).map (Ws num))
def NN (f:List AD) (root:Int):List AD:=(Fv f root).2.map (Pl f (Fv f root).1)
theorem fD (m:Nat):Ky (List.replicate m (-1))=m:=by
 induction m with
 | zero=>rfl
 | succ m a=>simp only[Ky,List.replicate_succ,ABs]at a ⊢;simp[a]
theorem tr0 (f:List AD):SW f (List.replicate f.length (-1),[]):=⟨by simp,by simp[fD]⟩
theorem pH {f:List AD} (h0:0<=n) (h1:n<f.length):(List.replicate f.length (-1:Int)).getD n.toNat 0<0:=by
 have:n.toNat<f.length:=by omega
 simp[AS,ABi,this]
theorem A3W {f:List AD} (hf:AX f) (h0:0<=n) (h1:n<f.length):SW f (Fv f n)/\fC f (Fv f n) :=
 ⟨(Qw hf _ _ n (tr0 f) h0 h1 (pH h0 h1)).1,VH hf _ _ n (λm a=>by simp at a) h0 h1⟩
theorem VI {α b:Type} (g:α->b) (h:b->α) (L:List α) (d:α) (hk:k<L.length) (u:α->α):((L.take k).map u++L.drop k).set k (u (L.getD k d))=(L.take (k+1)).map u++L.drop (k+1)/\((L.take k).map u++L.drop k).getD k d=L.getD k d:=by
 have h1:((L.take k).map u).length=k:=by simp;omega
 have a:L.drop k=L.getD k d :: L.drop (k+1):=by
  rw[OF hk,AS,AT hk];rfl
 constructor
 .rw[Ag L d hk,ACb _ _ O1,h1,AB7,a];simp
 rw[AS,rQ O1,h1,AB7,a];rfl
def X4:AW:={ ins:=[Fm,T3],pre:=λ(f,n,_)=>AX f/\0<=n/\n<(List.length f:Int),out:=λ(f,n,_)=>[.p Fm (NN f n)] }
theorem A3X:AY Tryz.prog 60 X4:=by
 refine fK [0,1,2,4,5,6,7,8,9,10,11,19,40,60] Tryz.func60 Tryz.ntmps60 (AF X3 AH) ?_;rintro w0 O0 ⟨f,root,u⟩ d-⟨hf,l,m⟩;simp only[X4,AL];have G:=hf.1;repeat'(first|exact trivial|apply eS rfl|refine rX d ?_ ?_)
 refine AI (ι:={i:Nat//i<=f.length}) (λi=>⟨[(1,.p T3 root),(2,.bp 2 [] 0),(4,.bp 4 [] 0),(5,.bp 14 [] 0),(6,.p (.int .i64) (i.1:Int))],[(2,.box 34 true [.p JD f]),(4,.box 34 true [.raw (.slice none 0 0)]),(14,.box 175 true [.p Fm f,.sr 10 T3 0 i.1,.raw (.slice none 0 0)]),(10,.arr 3 T3 (List.replicate i.1 (-1)))]⟩) (λi=>f.length-i.1) ⟨0,by omega⟩ (AC [(2,.nm 2),(4,.nm 4),(14,.nm 14),(10,.nil)] rfl rfl ?_ ?_) (λi=>?_)
 .refine eM ?_;rfl
 .exact eN
 obtain⟨i,hi⟩:=i;repeat'(first|exact trivial|apply eS rfl|apply AB|refine rX d ?_ ?_|refine rC ?_ ?_<;>intro h<;>try(cases h;done))
 .simp only[AO];omega
 .exact eV
 .have hi:i<List.length f:=by exact eV
  refine⟨⟨i+1,by omega⟩,by simp only;omega,AC [(2,.nm 2),(4,.nm 4),(14,.nm 14),(10,.nm 10)] rfl rfl ?_ ?_⟩
  .refine eM ?_;rw[List.replicate_succ'];simp
  exact eN
 have A:i=List.length f:=by exact eV
 subst A;have w:=A3W hf l m;refine cP 2 d ?_ ?_
 .trivial
 refine rM d (A0A f hf (List.length f) (List.replicate (List.length f) (-1),[]) root (tr0 f) l m (pH l m) (by rw[fD];exact Of _)) [(1,.nm 14),(2,.nm 10),(3,.nil)] [10] ?_ ?_ ?_
 .exact eN
 .simp only[Kl];refine eM ?_;simp
 rintro _ _ ⟨rfl,rfl⟩;refine⟨[(14,.nm 1),(101,.nm 2),(102,.nm 3)],.raw (.tuple #[]),[(14,.box 175 true [.p Fm f,.sr 101 T3 0 (Fv f root).1.length,.sr 102 T3 0 (Fv f root).2.length]),(101,.arr 3 T3 (Fv f root).1),(102,.arr 3 T3 (Fv f root).2)],rfl,rfl,?_,?_,rfl,rfl,E2 ?_⟩
 .simp only[Kl,Fv];exact eN
 .exact eN
 have z:NN f root=(Fv f root).2.map (Pl f (Fv f root).1):=rfl;rw[z];generalize Fv f root=s at w;obtain⟨num,c⟩:=s;obtain⟨⟨r,t⟩,j⟩:=w;simp only at r t;have j:∀n∈c,0<=n/\n<(List.length f:Int):=j;repeat'(first|exact trivial|apply eS rfl|refine rX d ?_ ?_)
 refine AI (ι:={i:Nat//i<=c.length}) (λi=>⟨[(2,.bp 2 [] 0),(4,.bp 4 [] 0),(5,.bp 14 [] 0),(7,.bp 7 [] 0),(8,.p (.int .i64) (i.1:Int))],[(2,.box 34 true [.p JD f]),(4,.box 34 true [.raw (.slice none 0 0)]),(14,.box 175 true [.p Fm f,.sr 101 T3 0 num.length,.sr 102 T3 0 c.length]),(101,.arr 3 T3 num),(102,.arr 3 T3 c),(7,.box 34 true [.sr 200 Md 0 i.1]),(200,.arr 57 Md ((c.take i.1).map (Pl f num)))]⟩) (λi=>c.length-i.1) ⟨0,by omega⟩ (eW [(2,.nm 2),(4,.nm 4),(14,.nm 14),(101,.nm 101),(102,.nm 102),(7,.nm 7),(200,.nil)]) (λi=>?_)
 obtain⟨i,hi⟩:=i;repeat'(first|exact trivial|apply eS rfl|refine rX d ?_ ?_|refine rC ?_ ?_<;>intro h<;>try(cases h;done))
 .have hi:i<c.length:=by exact eV
  exact⟨by exact eV,j _ (AG c 0 hi)⟩
 .exact gO (Pk hf _) O1
 .have hi:i<c.length:=by exact eV
  have q:=λa (ha:a∈AZ (f.getD (Int.toNat (c.getD i 0)) (0,[])).2)=>S7 hf ha;have v:Pl f num (c.getD i 0)=((f.getD (Int.toNat (c.getD i 0)) (0,[])).1,(AZ (f.getD (Int.toNat (c.getD i 0)) (0,[])).2).map (Ws num)):=rfl;have B:=Pk hf (c.getD i 0);generalize List.getD f (Int.toNat (c.getD i 0)) (0,[])=x at *;obtain⟨E,o⟩:=x;simp only at q v B;have F:=Co o;generalize AZ o=L at *;refine AI (ι:={k:Nat//k<=L.length}) (λk=>⟨[(2,.bp 2 [] 0),(4,.bp 4 [] 0),(5,.bp 14 [] 0),(7,.bp 7 [] 0),(8,.p (.int .i64) (i:Int)),(9,.bp 9 [] 0),(10,.sr 56 C7 0 L.length),(11,.p (.int .i64) (k.1:Int))],[(56,.arr 59 C7 ((L.take k.1).map (Ws num)++L.drop k.1)),(9,.box 57 true [.p T3 E,.p Mx o]),(2,.box 34 true [.p JD f]),(4,.box 34 true [.raw (.slice none 0 0)]),(14,.box 175 true [.p Fm f,.sr 101 T3 0 num.length,.sr 102 T3 0 c.length]),(101,.arr 3 T3 num),(102,.arr 3 T3 c),(7,.box 34 true [.sr 200 Md 0 i]),(200,.arr 57 Md ((c.take i).map (Pl f num)))]⟩) (λk=>L.length-k.1) ⟨0,by omega⟩ (eW [(2,.nm 2),(4,.nm 4),(14,.nm 14),(101,.nm 101),(102,.nm 102),(7,.nm 7),(200,.nm 200),(9,.nm 9),(56,.nm 56)]) (λk=>?_)
  obtain⟨k,hk⟩:=k;repeat'(first|exact trivial|apply eS rfl|apply AB|refine rX d ?_ ?_|refine rC ?_ ?_<;>intro h<;>try(cases h;done))
  .have g:k<L.length:=by exact eV
   have e:=(VI (Ws num) (λb=>b) L (0,0) g (Ws num)).2;rw[e];have:=q _ (AG L (0,0) g);rw[r];exact⟨by exact eV,this,by exact eV⟩
  .exact eV
  .have g:k<L.length:=by exact eV
   have e:=VI (Ws num) (λb=>b) L (0,0) g (Ws num);refine⟨⟨k+1,by omega⟩,by simp only;omega,AC [(2,.nm 2),(4,.nm 4),(14,.nm 14),(101,.nm 101),(102,.nm 102),(7,.nm 7),(200,.nm 200),(9,.nm 9),(56,.nm 56)] rfl rfl ?_ ?_⟩
   .refine eM ?_;rw[e.2];exact e.1
   exact eN
  .simp only[AO];have:=t;omega
  .exact eV
  have g:L.take k=L:=At (by exact eV);have y:L.drop k=[]:=NO (by exact eV);refine⟨⟨i+1,by omega⟩,by simp only;omega,AC [(2,.nm 2),(4,.nm 4),(14,.nm 14),(101,.nm 101),(102,.nm 102),(7,.nm 7),(200,.nm 200)] rfl rfl ?_ ?_⟩
  .refine eM ?_;rw[g,y,AAn,Ag c 0 hi,AAF,iS,AB9,v];have C:List.take i ((c.take i).map (Pl f num))=(c.take i).map (Pl f num):=At (by rw[aS,OR];omega);have D:List.take L.length (L.map (Ws num))=L.map (Ws num):=At (by rw[aS];omega);rw[C,D]
  exact eN
 have hk:c.take i=c:=At (by exact eV);rw[hk];refine fI d [.cell 4 34] (by first|exact eR|refine Kv ?_;exact At (by rw[aS];exact eV))
end
def EC (f:List AD):Nat->List Int->Int->List Int
 | 0,o,_=>o
 | k+1,o,n=>(f.getD n.toNat (0,[])).2.foldl (λo a=>if a.2∈o then o else EC f k o a.2) (o++[n])
def A6 (f:List AD) (k:Nat) (o:List Int) (a:Int×Int):List Int:=if a.2∈o then o else EC f k o a.2
theorem CZ (f:List AD) (k:Nat) (o:List Int) (n:Int):EC f (k+1) o n=(f.getD n.toNat (0,[])).2.foldl (A6 f k) (o++[n]):=rfl
structure Mk (f:List AD) (o:List Int):Prop where
 nd:o.Nodup
 rng:∀x∈o,0<=x/\x<(f.length:Int)
theorem Mk.len {f:List AD} {o:List Int} (h:Mk f o):o.length<=f.length:=by
 have h1:(o.map Int.toNat).Nodup:=by
  rw[List.Nodup,AAA];refine h.nd.imp_of_mem λ{a b} ha c g e=>g ?_;have:=h.rng a ha;have:=h.rng b c;omega
 have:=Da f.length (o.map Int.toNat) h1 (λj d=>by
  obtain⟨x,i,rfl⟩:=IN.1 d;have:=h.rng x i;omega)
 simpa using this
theorem Mk.snoc {f:List AD} {o:List Int} (h:Mk f o) (h0:0<=n) (h1:n<f.length) (hn:n∉o):Mk f (o++[n]):=by
 refine⟨?_,λx c=>?_⟩
 .rw[AAR];refine⟨h.nd,by simp,λa ha b d=>?_⟩;grind
 rcases Is.1 c with c|c
 .exact h.rng x c
 grind
theorem Hu {f:List AD} {k:Nat} (j:∀(o:List Int) (n:Int),Mk f o->0<=n->n<f.length->n∉o->Mk f (EC f k o n)/\o <+: EC f k o n) :
  ∀(l:List (Int×Int)) (o:List Int),(∀a∈l,0<=a.2/\a.2<(f.length:Int))->Mk f o->Mk f (l.foldl (A6 f k) o)/\o <+: l.foldl (A6 f k) o
 | [],o,_,h=>⟨h,AB2 _⟩
 | a :: l,o,i,h=>by
  simp only[OS];have c:Mk f (A6 f k o a)/\o <+: A6 f k o a:=by grind [A6]
  obtain⟨d,e⟩:=Hu j l _ (λb g=>i b (by simp[g])) c.1;exact⟨d,c.2.trans e⟩
theorem CF {f:List AD} (hf:AX f) {a:Int×Int} (ha:a∈(f.getD n.toNat (0,[])).2):0<=a.2/\a.2<f.length:=by
 by_cases h:n.toNat<f.length
 .have b:f.getD n.toNat (0,[])∈f:=by
   rw[AS,AT h];exact AAm h
  exact(hf.2 _ b).2 a ha
 grind
theorem GF {f:List AD} (hf:AX f):∀(k:Nat) (o:List Int) (n:Int),Mk f o->0<=n->n<f.length->n∉o->Mk f (EC f k o n)/\o <+: EC f k o n
 | 0,o,n,h,_,_,_=>⟨h,AB2 _⟩
 | k+1,o,n,h,h0,h1,d=>by
  obtain⟨b,c⟩:=Hu (GF hf k) _ _ (λa ha=>CF hf ha) (h.snoc h0 h1 d);rw[CZ];exact⟨b,(ACt o [n]).trans c⟩
theorem OD {f:List AD} (hf:AX f):∀(k:Nat) (o:List Int) (n:Int),Mk f o->0<=n->n<f.length->n∉o->f.length-o.length<=k ->
  n∈EC f k o n/\∀x∈EC f k o n,x∈o\/∀a∈(f.getD x.toNat (0,[])).2,a.2∈EC f k o n
 | 0,o,n,h,h0,h1,i,hk=>by
  have:=(h.snoc h0 h1 i).len;grind
 | k+1,o,n,h,h0,h1,i,hk=>by
  have key:∀(l:List (Int×Int)) (t:List Int),(∀a∈l,0<=a.2/\a.2<(f.length:Int))->Mk f t->f.length-t.length<=k ->
    (∀a∈l,a.2∈l.foldl (A6 f k) t)/\∀x∈l.foldl (A6 f k) t,x∈t\/∀a∈(f.getD x.toNat (0,[])).2,a.2∈l.foldl (A6 f k) t:=by
   intro l;induction l with
   | nil=>exact λt _ _ _=>⟨λa ha=>(by cases ha),λx m=>.inl m⟩
   | cons a l v =>
    intro t j r s;simp only[OS];have u:Mk f (A6 f k t a)/\t <+: A6 f k t a/\a.2∈A6 f k t a/\∀x∈A6 f k t a,x∈t\/∀b∈(f.getD x.toNat (0,[])).2,b.2∈A6 f k t a:=by
     unfold A6;split
     .grind
     rename_i hn;have q:=j a sc;obtain⟨c,d⟩:=GF hf k t a.2 r q.1 q.2 hn;obtain⟨e,p⟩:=OD hf k t a.2 r q.1 q.2 hn s;exact⟨c,d,e,p⟩
    obtain⟨c,d,e,p⟩:=u;have w:=d.length_le;obtain⟨y,z⟩:=v (A6 f k t a) (λb g=>j b (by simp[g])) c O1;obtain⟨_,A⟩:=Hu (GF hf k) l (A6 f k t a) (λb g=>j b (by simp[g])) c;refine⟨λb g=>?_,λx m=>?_⟩
    .grind
    grind
  have hs:=h.snoc h0 h1 i;obtain⟨c,d⟩:=key (f.getD n.toNat (0,[])).2 (o++[n]) (λa ha=>CF hf ha) hs (by simp only[Do,nO];omega);obtain⟨_,e⟩:=Hu (GF hf k) (f.getD n.toNat (0,[])).2 (o++[n]) (λa ha=>CF hf ha) hs;rw[CZ];refine⟨e.subset sc,λx m=>?_⟩;grind
def EE (o:List Int) (x:Int):Int:=if x∈o then (o.idxOf x:Int) else 0
def M0 (o:List Int) (a:Int×Int):Int×Int:=(a.1,EE o a.2)
def Gw (f:List AD) (o:List Int) (n:Int):AD:=((f.getD n.toNat (0,[])).1,(f.getD n.toNat (0,[])).2.map (M0 o))
def AP (f:List AD) (root:Int):List AD:=(EC f f.length [] root).map (Gw f (EC f f.length [] root))
def lQ (f:List AD):Prop:=∀x∈f,Pi x.2/\x.2.length<=200
theorem lR {f:List AD} (hf:lQ f) (n:Int):Pi (f.getD n.toNat (0,[])).2/\(f.getD n.toNat (0,[])).2.length<=200:=by
 by_cases h:n.toNat<f.length
 .have a:f.getD n.toNat (0,[])∈f:=by
   rw[AS,AT h];exact AAm h
  exact hf _ a
 rw[AS,oS O1];exact⟨λi hi=>by simp at hi,by simp⟩
theorem IU {l:List (Int×Int)} (h:Pi l):AZ l=l:=by
 have key:∀i,i<=l.length->AZ (l.take i)=l.take i:=by
  intro i;induction i with
  | zero=>intro _;rfl
  | succ i d =>
   intro hi;rw[Ag l (0,0) O1,KK,d O1];have b:(l.take i).length=i:=by rw[OR];omega
   have c:JS (l.getD i (0,0)) (l.take i) (l.take i).length=(l.take i).length:=by
    rw[b];cases i with
    | zero=>rfl
    | succ i =>
     have h1:=h i O1;have a:(l.take (i+1)).getD i (0,0)=l.getD i (0,0):=by grind
     simp only[JS];rw[a,As O1]
   unfold Kx;rw[c,oF,ABR,AAn]
 have:=key l.length (Of _)
 rwa [oF]at this
structure Km (f:List AD) (num o:List Int):Prop where
 len:num.length=f.length
 get:∀j,j<f.length->num.getD j 0=if (j:Int)∈o then (o.idxOf (j:Int):Int) else -1
theorem Km.neg {f:List AD} {num o:List Int} (h:Km f num o) (h0:0<=n) (h1:n<f.length):num.getD n.toNat 0<0↔n∉o:=by
 have:=h.get n.toNat O1;grind
theorem uA {o:List Int} (h:n∉o):(o++[n]).idxOf n=o.length:=by rw[List.idxOf_append,As h];simp
theorem Km.snoc {f:List AD} {num o:List Int} (h:Km f num o) (h0:0<=n) (h1:n<f.length) (hn:n∉o):Km f (num.set n.toNat (o.length:Int)) (o++[n]):=by
 refine⟨by simpa using h.len,λj a=>?_⟩;have c:j<num.length:=by rw[h.len];exact a
 by_cases e:j=n.toNat
 .grind
 have en:¬(j:Int)=n:=by omega
 simp only[AS];rw[ACh (λb=>e b.symm)];have:=h.get j a;grind
theorem VJ {f:List AD} (hf:AX f) (hs:lQ f):∀(k:Nat) (s:List Int×List Int) (n:Int),Km f s.1 s.2->Mk f s.2->0<=n->n<f.length->n∉s.2->(Dq f k s n).2=EC f k s.2 n/\Km f (Dq f k s n).1 (Dq f k s n).2
 | 0,s,n,h,_,_,_,_=>⟨rfl,h⟩
 | k+1,s,n,h,u,h0,h1,i=>by
  have key:∀(l:List (Int×Int)) (t:List Int×List Int),(∀a∈l,0<=a.2/\a.2<(f.length:Int))->Km f t.1 t.2->Mk f t.2->(l.foldl (EB f k) t).2=l.foldl (A6 f k) t.2/\Km f (l.foldl (EB f k) t).1 (l.foldl (EB f k) t).2:=by
   intro l;induction l with
   | nil=>exact λt _ e _=>⟨rfl,e⟩
   | cons a l y =>
    intro t j e m;simp only[OS];have q:=j a sc;have v:=e.neg q.1 q.2;have w:(EB f k t a).2=A6 f k t.2 a/\Km f (EB f k t a).1 (EB f k t a).2/\Mk f (EB f k t a).2:=by
     unfold EB A6;by_cases d:a.2∈t.2
     .grind
     rw[As d,BY (by rw[v];exact d)];obtain⟨c,g⟩:=VJ hf hs k t a.2 e m q.1 q.2 d;exact⟨c,g,by rw[c];exact(GF hf k t.2 a.2 m q.1 q.2 d).1⟩
    obtain⟨c,g,p⟩:=w;obtain⟨o,x⟩:=y (EB f k t a) (λb r=>j b (by simp[r])) g p;rw[c]at o;exact⟨o,x⟩
  rw[FI,CZ,IU (lR hs n).1];exact key _ (s.1.set n.toNat (s.2.length:Int),s.2++[n]) (λa ha=>CF hf ha) (h.snoc h0 h1 i) (u.snoc h0 h1 i)
theorem VK {f:List AD} (hf:AX f) (hs:lQ f) {root:Int} (h0:0<=root) (h1:root<f.length):NN f root=AP f root:=by
 have i:Km f (List.replicate f.length (-1)) []:=⟨by simp,λj h=>by simp[AS,ABi,h]⟩;have d:Mk f []:=⟨by simp,λx g=>by cases g⟩;obtain⟨c,b⟩:=VJ hf hs f.length (List.replicate f.length (-1),[]) root i d h0 h1 sc;have c:(Fv f root).2=EC f f.length [] root:=c;have b:Km f (Fv f root).1 (Fv f root).2:=b;have k:=(OD hf f.length [] root d h0 h1 sc sc).2;have l:=(GF hf f.length [] root d h0 h1 sc).1;unfold NN AP;rw[c]at b ⊢;generalize EC f f.length [] root=o at *;refine AAd λx g=>?_;unfold Pl Gw;rw[IU (lR hs x).1];refine AAS _ (AAd λa ha=>?_);unfold Ws M0 EE;have e:a.2∈o:=by grind
 have m:=CF hf ha;have:=b.get a.2.toNat O1;rw[show ((a.2.toNat:Nat):Int)=a.2 by omega]at this;rw[this,BY e,BY e]
def vZ (o:List Int):List (Int×Int):=(List.range o.length).map λi=>(o.getD i 0,(i:Int))
theorem fE (o:List Int) (n:Int):vZ (o++[n])=vZ o++[(n,(o.length:Int))]:=by
 unfold vZ;rw[Do,nO,AAt,AAF]
 congr 1
 .refine AAd λi hi=>?_;grind
 simp[AS]
theorem uB (k:Int) (a b:List (Int×Int)):BS T3 T3 k (a++b)=(BS T3 T3 k a).or (BS T3 T3 k b):=by
 induction a with
 | nil=>rfl
 | cons x a c =>
  simp only[WY,BS];split
  .rfl
  exact c
theorem GN {α:Type} {p:List α->Prop} (h0:p []) (h1:∀l a,p l->p (l++[a])) (l:List α):p l:=by
 have:∀n (l:List α),l.length=n->p l:=by
  intro n;induction n with
  | zero=>intro l b;rw[List.length_eq_zero_iff.1 b];exact h0
  | succ n d =>
   intro l b;have c:l≠[]:=by intro e;subst e;simp at b
   rw[<-List.dropLast_concat_getLast c];exact h1 _ _ (d _ (by simp[b]))
 exact this _ l rfl
theorem Qy (o:List Int) (x:Int):BS T3 T3 x (vZ o)=if x∈o then some (o.idxOf x:Int) else none:=by
 induction o using GN with
 | h0=>rfl
 | h1 o n a =>
  rw[fE,uB,a];by_cases b:x∈o
  .grind
  grind [uA,BS,HG]
theorem uC (k v:Int) (l:List (Int×Int)) (h:BS T3 T3 k l=none):E4 T3 T3 k v l=l++[(k,v)]:=by
 induction l with
 | nil=>rfl
 | cons x l a =>
  simp only[BS]at h;simp only[E4,WY];split at h
  .cases h
  grind
theorem A0B {o:List Int} (hn:n∉o):E4 T3 T3 n (o.length:Int) (vZ o)=vZ (o++[n]):=by grind [uC,Qy,fE]
theorem A3Y (o:List Int) (x:Int):(BS T3 T3 x (vZ o)).getD 0=EE o x:=by grind [Qy,EE]
theorem VL (o:List Int) (x:Int):(BS T3 T3 x (vZ o)).isSome=decide (x∈o):=by
 rw[Qy];split<;>simp[*]
def Zu (l:List (Int×Int)):Prop:=l.Pairwise λa b=>a.1≠b.1
def LtA (l:List (Int×Int)):Prop:=l.Pairwise λa b=>a.1<b.1
theorem X5 (x:Int×Int) (s:List (Int×Int)):∀n,(∀j,JS x s n<=j->j<n->x.1<(s.getD j (0,0)).1)/\(JS x s n=0\/¬x.1<(s.getD (JS x s n-1) (0,0)).1)
 | 0=>⟨λj h1 a=>by omega,.inl rfl⟩
 | n+1=>by
  obtain⟨h1,a⟩:=X5 x s n;unfold JS;split
  .rename_i h;refine⟨λj b c=>?_,a⟩;by_cases e:j=n
   .rw[e];exact h
   exact h1 j b O1
  rename_i h;exact⟨λj b c=>by omega,.inr (by simpa using h)⟩
theorem A3Z {s:List (Int×Int)} (hs:LtA s) {x:Int×Int} (m:∀a∈s,a.1≠x.1):LtA (Kx s x):=by
 obtain⟨h1,c⟩:=X5 x s s.length;have n:=Zt x s s.length;unfold Kx;generalize JS x s s.length=p at *;have d:=hs;unfold LtA at d;rw[<-ABt p s,ABx]at d;have j:∀i (h:i<s.length),s.getD i (0,0)=s[i]:=λi h=>by rw[AS,AT h];rfl
 have l:∀a∈s.take p,a.1<x.1:=by
  intro a ha;rcases c with c|c
  .subst c;simp at ha
  obtain⟨i,hi,rfl⟩:=AAq.1 ha;rw[OR]at hi;rw[List.getElem_take];by_cases q:p=0
  .omega
  have g:p-1<s.length:=by omega
  rw[j (p-1) g]at c;have o:=m s[p-1] (AAm g);by_cases e:i=p-1
  .subst e;omega
  have:=(oR.1 hs) i (p-1) O1 g O1;omega
 have k:∀a∈s.drop p,x.1<a.1:=by
  intro a ha;obtain⟨i,hi,rfl⟩:=AAq.1 ha;rw[AB3]at hi;rw[List.getElem_drop,<-j (p+i) O1];exact h1 (p+i) O1 O1
 unfold LtA;rw[AA9,ABx];refine⟨d.1,?_,λa ha b f=>?_⟩
 .rw[AB8,AAo];exact⟨k,d.2.1⟩
 rcases DO.1 (by simpa using f:b∈x :: s.drop p) with rfl|f
 .exact l a ha
 exact d.2.2 a ha b f
theorem KL {l:List (Int×Int)} (h:Zu l):LtA (AZ l):=by
 induction l using GN with
 | h0=>exact List.Pairwise.nil
 | h1 l a d =>
  unfold Zu at h;rw[ABx]at h;rw[KK];exact A3Z (d h.1) λb c=>h.2.2 b ((Ed l).mem_iff.1 c) a sc
theorem uD {l:List (Int×Int)} (d:r.Perm l) (h1:LtA r) (c:LtA l):r=l :=
 List.Perm.eq_of_pairwise (le:=λa b:Int×Int=>a.1<b.1) (λa b _ _ e f=>by omega) h1 c d
theorem pI {l:List (Int×Int)} (h:LtA l):Pi l:=by
 intro i hi;have a:∀i (h:i<l.length),l.getD i (0,0)=l[i]:=λi h=>by rw[AS,AT h];rfl
 rw[a i O1,a (i+1) hi];exact(oR.1 h) i (i+1) O1 hi O1
theorem A7a {l:List (Int×Int)} (h:Zu l):Dst Qv (0,0) l:=by
 rw[pE pG];refine h.imp λ{a b} g e=>g ?_;unfold Qv Ph at e;split at e
 .omega
 split at e<;>omega
theorem lS {l:List (Int×Int)} (h:Zu l) (c:r.Perm l) (hs:pF Qv (0,0) 0 l.length r):r=AZ l:=by
 refine uD (c.trans (Ed l).symm) (oR.2 λi j hi b d=>?_) (KL h);have a:∀i (h:i<r.length),r.getD i (0,0)=r[i]:=λi h=>by rw[AS,AT h];rfl
 have:=hs i j (By _) d (by rw[<-c.length_eq];exact b);rw[a i hi,a j b]at this;unfold Qv Ph at this;split at this
 .assumption
 split at this<;>omega
theorem Lv {l:List (Int×Int)} (h:Zu l):AZ (AZ l)=AZ l:=IU (pI (KL h))
def SS (l:List (Int×Int)):Prop:=l.length<=200/\(l.length<=12\/Pi l)
def NdF (f:List AD):Prop:=∀x∈f,Zu x.2/\SS x.2
def DA (f:List AD):List AD:=f.map λx=>(x.1,AZ x.2)
theorem Cu (f:List AD):(DA f).length=f.length:=aS _
theorem JT (f:List AD) (n:Nat):(DA f).getD n (0,[])=((f.getD n (0,[])).1,AZ (f.getD n (0,[])).2):=by
 unfold DA;simp only[AS,AAw];cases f[n]?<;>rfl
theorem HN {f:List AD} (h:AX f):AX (DA f):=by
 refine⟨by rw[Cu];exact h.1,λx d=>?_⟩;obtain⟨y,e,rfl⟩:=IN.1 d;obtain⟨b,c⟩:=h.2 y e;refine⟨by simp only[Co];exact b,λa ha=>?_⟩;rw[Cu];exact c a ((Ed _).mem_iff.1 ha)
theorem A0C {f:List AD} (h:NdF f):lQ (DA f):=by
 intro x c;obtain⟨y,d,rfl⟩:=IN.1 c;obtain⟨a,b⟩:=h y d;exact⟨pI (KL a),by simp only[Co];exact b.1⟩
theorem pJ {f:List AD} (hf:NdF f) (n:Int):Zu (f.getD n.toNat (0,[])).2/\SS (f.getD n.toNat (0,[])).2:=by
 by_cases h:n.toNat<f.length
 .have a:f.getD n.toNat (0,[])∈f:=by
   rw[AS,AT h];exact AAm h
  exact hf _ a
 rw[AS,oS O1];exact⟨List.Pairwise.nil,by simp,.inl sc⟩
theorem R6 {f:List AD} (h:NdF f):∀(k:Nat) (s:List Int×List Int) (n:Int),Dq (DA f) k s n=Dq f k s n
 | 0,_,_=>rfl
 | k+1,s,n=>by
  rw[FI,FI,JT];simp only;rw[Lv (pJ h n).1];refine AAS (λg=>List.foldl g _ _) ?_;funext s a;unfold EB;rw[R6 h k s a.2]
theorem uE {f:List AD} (h:NdF f) (r:Int):NN (DA f) r=NN f r:=by
 have a:Fv (DA f) r=Fv f r:=by
  unfold Fv;rw[Cu,R6 h]
 unfold NN;rw[a];refine AAd λn _=>?_;unfold Pl;rw[JT];simp only;rw[Lv (pJ h n).1]
theorem IV {f:List AD} (hf:AX f) (hn:NdF f) {root:Int} (h0:0<=root) (h1:root<f.length):NN f root=AP (DA f) root:=by
 rw[<-uE hn];exact VK (HN hf) (A0C hn) h0 (by rw[Cu];exact h1)
section
attribute [local go_sem] Ht
theorem A0D {l:List (Int×Int)} (h:Pi l) {i j:Nat} (c:i<j) (a:j<l.length):(l.getD i (0,0)).1<(l.getD j (0,0)).1:=by
 induction j with
 | zero=>omega
 | succ j b =>
  have h1:=h j a;by_cases e:i=j
  .rw[e];exact h1
  exact Int.lt_trans (b O1 O1) h1
theorem lT {x:Int} (h:y<x) (a:Ph x y<0):False:=by
 unfold Ph at a
 (repeat' split at a)<;>omega
def GG (l:List (Int×Int)) (s:Nat):List (Nat×Obj):=[(1000000,.arr 59 C7 l),(70,.box 3 false [.p T3 (s:Int)])]
theorem VM (l:List (Int×Int)) (so:Pi l) (a b s:Nat) (ab:a<b) (f:b<l.length) (hs:s<=1000):A5 Tryz.prog 217 [.sr 1000000 C7 0 l.length,.p T3 (a:Int),.p T3 (b:Int),.bp 70 [] 0,.fn 140] (GG l s) [1000000,70] (λres g=>res=.tup [.p T3 (a:Int),.p T3 (b:Int)]/\g=GG l s):=by
 refine Ix [0,1,2,3,4,10,11,22] [] [] Tryz.func217 Tryz.ntmps217 (AF KJ AH) ?_;intro w0 K O0 ρ0 d i j;simp only[Ai,GG];have h:a<l.length:=by omega
 have e:=A0D so ab f;repeat'(first|exact trivial|apply eS rfl|apply AB|refine rX d ?_ ?_|refine rC ?_ ?_<;>intro c<;>try(cases c;done))
 .exact j8
 .exact(lT e c).elim
 .exact(lT e c).elim
 exact fM d [.tmp 10,.tmp 11] (.tup [.p T3 (a:Int),.p T3 (b:Int)]) eT ⟨rfl,rfl⟩
theorem Zv (l:List (Int×Int)) (so:Pi l) (a b c s:Nat) (ab:a<b) (f:b<c) (cl:c<l.length) (hs:s<=900):A5 Tryz.prog 216 [.sr 1000000 C7 0 l.length,.p T3 (a:Int),.p T3 (b:Int),.p T3 (c:Int),.bp 70 [] 0,.fn 140] (GG l s) [1000000,70] (λres g=>res=.p T3 (b:Int)/\g=GG l s):=by
 refine Ix [0,1,2,3,4,5,12] [] [] Tryz.func216 Tryz.ntmps216 AH ?_;intro w0 K O0 ρ0 d h i;simp only[Ai,GG];repeat'(first|exact trivial|apply eS rfl|apply AB|refine rX d ?_ ?_|refine rC ?_ ?_<;>intro e<;>try(cases e;done))
 refine cP 5 d ?_ ?_
 .trivial
 refine rM d (VM l so a b s ab O1 O1) [(1000000,.nm 1000000),(70,.nm 70)] [] ?_ ?_ ?_
 .first|exact eN|refine eM ?_
 .simp only[GG];first|exact eN|refine eM ?_
 rintro _ _ ⟨rfl,rfl⟩;refine⟨[(1000000,.nm 1000000),(70,.nm 70)],.tup [.p T3 (a:Int),.p T3 (b:Int)],[(1000000,.arr 59 C7 l),(70,.box 3 false [.p T3 (s:Int)])],rfl,rfl,?_,?_,rfl,rfl,?_⟩
 .simp only[GG];first|exact eN|refine eM ?_
 .first|exact eN|refine eM ?_
 refine rL d ?_ ?_
 .trivial
 repeat'(first|exact trivial|apply eS rfl|apply AB|refine rX d ?_ ?_|refine rC ?_ ?_<;>intro e<;>try(cases e;done))
 refine cP 5 d ?_ ?_
 .trivial
 refine rM d (VM l so b c s f cl O1) [(1000000,.nm 1000000),(70,.nm 70)] [] ?_ ?_ ?_
 .first|exact eN|refine eM ?_
 .simp only[GG];first|exact eN|refine eM ?_
 rintro _ _ ⟨rfl,rfl⟩;refine⟨[(1000000,.nm 1000000),(70,.nm 70)],.tup [.p T3 (b:Int),.p T3 (c:Int)],[(1000000,.arr 59 C7 l),(70,.box 3 false [.p T3 (s:Int)])],rfl,rfl,?_,?_,rfl,rfl,?_⟩
 .simp only[GG];first|exact eN|refine eM ?_
 .first|exact eN|refine eM ?_
 refine rL d ?_ ?_
 .trivial
 repeat'(first|exact trivial|apply eS rfl|apply AB|refine rX d ?_ ?_|refine rC ?_ ?_<;>intro e<;>try(cases e;done))
 refine cP 5 d ?_ ?_
 .trivial
 refine rM d (VM l so a b s ab O1 O1) [(1000000,.nm 1000000),(70,.nm 70)] [] ?_ ?_ ?_
 .first|exact eN|refine eM ?_
 .simp only[GG];first|exact eN|refine eM ?_
 rintro _ _ ⟨rfl,rfl⟩;refine⟨[(1000000,.nm 1000000),(70,.nm 70)],.tup [.p T3 (a:Int),.p T3 (b:Int)],[(1000000,.arr 59 C7 l),(70,.box 3 false [.p T3 (s:Int)])],rfl,rfl,?_,?_,rfl,rfl,?_⟩
 .simp only[GG];first|exact eN|refine eM ?_
 .first|exact eN|refine eM ?_
 refine rL d ?_ ?_
 .trivial
 repeat'(first|exact trivial|apply eS rfl|apply AB|refine rX d ?_ ?_|refine rC ?_ ?_<;>intro e<;>try(cases e;done))
 exact fM d [.tmp 12] (.p T3 (b:Int)) eT ⟨rfl,rfl⟩
theorem Zw (l:List (Int×Int)) (so:Pi l) (b s:Nat) (f:1<=b) (d:b+1<l.length) (g:l.length<=100000) (hs:s<=900):A5 Tryz.prog 215 [.sr 1000000 C7 0 l.length,.p T3 (b:Int),.bp 70 [] 0,.fn 140] (GG l s) [1000000,70] (λres e=>res=.p T3 (b:Int)/\e=GG l s):=by
 refine Ix [0,1,2,3,8] [] [] Tryz.func215 Tryz.ntmps215 AH ?_;intro w0 K O0 ρ0 a h i;simp only[Ai,GG];have key:=Zv l so (b-1) b (b+1) s O1 O1 d hs;rw[show ((b-1:Nat):Int)=(b:Int)-1 by omega,show ((b+1:Nat):Int)=(b:Int)+1 by omega]at key;repeat'(first|exact trivial|apply eS rfl|apply AB|refine rX a ?_ ?_|refine rC ?_ ?_<;>intro c<;>try(cases c;done))
 refine cP 8 a ?_ ?_
 .exact j8
 refine rM a (key) [(1000000,.nm 1000000),(70,.nm 70)] [] ?_ ?_ ?_
 .first|exact eN|refine eM ?_
 .simp only[GG];first|exact eN|refine eM ?_
 rintro _ _ ⟨rfl,rfl⟩;refine⟨[(1000000,.nm 1000000),(70,.nm 70)],.p T3 (b:Int),[(1000000,.arr 59 C7 l),(70,.box 3 false [.p T3 (s:Int)])],rfl,rfl,?_,?_,rfl,rfl,?_⟩
 .simp only[GG];first|exact eN|refine eM ?_
 .first|exact eN|refine eM ?_
 refine rL a ?_ ?_
 .trivial
 repeat'(first|exact trivial|apply eS rfl|apply AB|refine rX a ?_ ?_|refine rC ?_ ?_<;>intro c<;>try(cases c;done))
 exact fM a [.tmp 8] (.p T3 (b:Int)) eT ⟨rfl,rfl⟩
theorem A40 (l:List (Int×Int)) (d:l.length<=100000) (so:Pi l) (a b:Nat) (i:a+13<=b) (k:b<=l.length):A5 Tryz.prog 203 [.sr 1000000 C7 0 l.length,.p T3 (a:Int),.p T3 (b:Int),.fn 140] [(1000000,.arr 59 C7 l)] [1000000] (λres h=>(∃j:Nat,res=.tup [.p T3 (j:Int),.p T3 (1:Int)])/\h=[(1000000,.arr 59 C7 l)]):=by
 refine Ix [0,1,2,3,8,9,10,11,12,13,14,34,36,55,57,60] [] [] Tryz.func203 Tryz.ntmps203 AH ?_;intro w0 K O0 ρ0 c m n;simp only[Ai];obtain⟨t,g⟩:∃t,t=(b-a) / 4:=⟨_,rfl⟩;have et:((b:Int)-(a:Int)).tdiv 4=(t:Int):=by
  rw[AB5 O1];omega
 have o:4*t<=b-a:=by omega
 have q:3<=t:=by omega
 clear g
 (apply eS rfl;refine rX c ?_ ?_;(next=>first|exact trivial|exact j8))
 (apply eS rfl;refine rX c ?_ ?_;(next=>first|exact trivial|exact j8))
 (apply eS rfl;refine rX c ?_ ?_;(next=>first|exact trivial|exact j8))
 (apply eS rfl;refine rX c ?_ ?_;(next=>first|exact trivial|exact j8|(rw[et];refine⟨⟨by decide,?_⟩,?_,?_⟩<;>omega)))
 (apply eS rfl;refine rX c ?_ ?_;(next=>first|exact trivial|exact j8|(rw[et];refine⟨⟨by decide,?_⟩,?_,?_⟩<;>omega)))
 (apply eS rfl;refine rX c ?_ ?_;(next=>first|exact trivial|exact j8|(rw[et];refine⟨⟨by decide,?_⟩,?_,?_⟩<;>omega)))
 rw[et,show (a:Int)+(t:Int)*1=((a+t:Nat):Int) by omega,show (a:Int)+(t:Int)*2=((a+t*2:Nat):Int) by omega,show (a:Int)+(t:Int)*3=((a+t*3:Nat):Int) by omega];refine Tu ?_;refine A34 (ι:=Unit) (λ_=>⟨[(11,.bp 11 [] 0),(13,.p T3 ((a+t*2:Nat):Int))],[(1000000,.arr 59 C7 l),(11,.box 3 false [.p T3 (0:Int)])]⟩) ?_ (λx=>?_)
 .repeat'(first|exact trivial|apply eS rfl|apply AB|refine rX c ?_ ?_)
  refine rC ?_ ?_<;>intro e
  .repeat'(first|exact trivial|apply eS rfl|apply AB|refine rX c ?_ ?_)
   refine rC (λf=>?_) (λf=>?_)
   .repeat'(first|exact trivial|apply eS rfl|apply AB|refine rP c ?_ ?_|fail)
    refine cP 3 c ?_ ?_
    .trivial
    refine rM c (Zw l so (a+t) 0 O1 O1 d O1) [(1000000,.nm 1000000),(70,.nm 11)] [] ?_ ?_ ?_
    .first|exact eN|refine eM ?_
    .simp only[GG];first|exact eN|refine eM ?_
    rintro _ _ ⟨rfl,rfl⟩;refine⟨[(1000000,.nm 1000000),(11,.nm 70)],.p T3 ((a+t:Nat):Int),[(1000000,.arr 59 C7 l),(11,.box 3 false [.p T3 (0:Int)])],rfl,rfl,?_,?_,rfl,rfl,?_⟩
    .simp only[GG];first|exact eN|refine eM ?_
    .first|exact eN|refine eM ?_
    refine rL c ?_ ?_
    .trivial
    repeat'(first|exact trivial|apply eS rfl|apply AB|refine rX c ?_ ?_)
    refine cP 3 c ?_ ?_
    .trivial
    refine rM c (Zw l so (a+t*2) 0 O1 O1 d O1) [(1000000,.nm 1000000),(70,.nm 11)] [] ?_ ?_ ?_
    .first|exact eN|refine eM ?_
    .simp only[GG];first|exact eN|refine eM ?_
    rintro _ _ ⟨rfl,rfl⟩;refine⟨[(1000000,.nm 1000000),(11,.nm 70)],.p T3 ((a+t*2:Nat):Int),[(1000000,.arr 59 C7 l),(11,.box 3 false [.p T3 (0:Int)])],rfl,rfl,?_,?_,rfl,rfl,?_⟩
    .simp only[GG];first|exact eN|refine eM ?_
    .first|exact eN|refine eM ?_
    refine rL c ?_ ?_
    .trivial
    repeat'(first|exact trivial|apply eS rfl|apply AB|refine rX c ?_ ?_)
    refine cP 3 c ?_ ?_
    .trivial
    refine rM c (Zw l so (a+t*3) 0 O1 O1 d O1) [(1000000,.nm 1000000),(70,.nm 11)] [] ?_ ?_ ?_
    .first|exact eN|refine eM ?_
    .simp only[GG];first|exact eN|refine eM ?_
    rintro _ _ ⟨rfl,rfl⟩;refine⟨[(1000000,.nm 1000000),(11,.nm 70)],.p T3 ((a+t*3:Nat):Int),[(1000000,.arr 59 C7 l),(11,.box 3 false [.p T3 (0:Int)])],rfl,rfl,?_,?_,rfl,rfl,?_⟩
    .simp only[GG];first|exact eN|refine eM ?_
    .first|exact eN|refine eM ?_
    refine rL c ?_ ?_
    .trivial
    repeat'(first|exact trivial|apply eS rfl|apply AB|refine rX c ?_ ?_)
    refine cP 5 c ?_ ?_
    .trivial
    refine rM c (Zv l so (a+t) (a+t*2) (a+t*3) 0 O1 O1 O1 O1) [(1000000,.nm 1000000),(70,.nm 11)] [] ?_ ?_ ?_
    .first|exact eN|refine eM ?_
    .simp only[GG];first|exact eN|refine eM ?_
    rintro _ _ ⟨rfl,rfl⟩;refine⟨[(1000000,.nm 1000000),(11,.nm 70)],.p T3 ((a+t*2:Nat):Int),[(1000000,.arr 59 C7 l),(11,.box 3 false [.p T3 (0:Int)])],rfl,rfl,?_,?_,rfl,rfl,?_⟩
    .simp only[GG];first|exact eN|refine eM ?_
    .first|exact eN|refine eM ?_
    refine rL c ?_ ?_
    .trivial
    repeat'(first|exact trivial|apply eS rfl|apply AB|refine rX c ?_ ?_)
    refine⟨(),AC [(1000000,.nm 1000000),(11,.nm 11)] rfl rfl ?_ ?_⟩
    .first|exact eN|refine eM ?_
    first|exact eN|refine eM ?_
   repeat'(first|exact trivial|apply eS rfl|apply AB|refine rP c ?_ ?_|fail)
   refine cP 5 c ?_ ?_
   .trivial
   refine rM c (Zv l so (a+t) (a+t*2) (a+t*3) 0 O1 O1 O1 O1) [(1000000,.nm 1000000),(70,.nm 11)] [] ?_ ?_ ?_
   .first|exact eN|refine eM ?_
   .simp only[GG];first|exact eN|refine eM ?_
   rintro _ _ ⟨rfl,rfl⟩;refine⟨[(1000000,.nm 1000000),(11,.nm 70)],.p T3 ((a+t*2:Nat):Int),[(1000000,.arr 59 C7 l),(11,.box 3 false [.p T3 (0:Int)])],rfl,rfl,?_,?_,rfl,rfl,?_⟩
   .simp only[GG];first|exact eN|refine eM ?_
   .first|exact eN|refine eM ?_
   refine rL c ?_ ?_
   .trivial
   repeat'(first|exact trivial|apply eS rfl|apply AB|refine rX c ?_ ?_)
   refine⟨(),AC [(1000000,.nm 1000000),(11,.nm 11)] rfl rfl ?_ ?_⟩
   .first|exact eN|refine eM ?_
   first|exact eN|refine eM ?_
  exfalso;omega
 repeat'(first|exact trivial|apply eS rfl|apply AB|refine rX c ?_ ?_|refine rC ?_ ?_<;>intro e<;>try(cases e;done))
 refine Ev.ent (σ':=⟨[(8,.p T3 ((a+t*2:Nat):Int)),(9,.p T3 (1:Int))],[(1000000,.arr 59 C7 l)]⟩) ?_ (AC [(1000000,.nm 1000000)] rfl rfl ?_ ?_)
 .exact fM c [.tmp 8,.tmp 9] (.tup [.p T3 ((a+t*2:Nat):Int),.p T3 (1:Int)]) eT ⟨⟨_,rfl⟩,rfl⟩
 .first|exact eN|refine eM ?_
 first|exact eN|refine eM ?_
theorem A41 (l:List (Int×Int)) (q:l.length<=100000) (so:Pi l) (n0:0<l.length):A5 Tryz.prog 205 [.sr 1000000 C7 0 l.length,.p T3 (0:Int),.p T3 (l.length:Int),.fn 140] [(1000000,.arr 59 C7 l)] [1000000] (λres n=>res=.p .bool true/\n=[(1000000,.arr 59 C7 l)]):=by
 refine Ix [0,1,2,3,8,9,10,11,12,16,36,41,45,65,69,84,104,109,124] [] [] Tryz.func205 Tryz.ntmps205 (AF KJ AH) ?_;intro w0 K O0 ρ0 a r t;simp only[Ai];repeat'(first|exact trivial|apply eS rfl|apply AB|refine rX a ?_ ?_|refine rC ?_ ?_<;>intro c<;>try(cases c;done))
 .exact j8
 refine AI (ι:=Unit) (λs=>⟨[(0,.sr 1000000 C7 0 l.length),(1,.p T3 (0:Int)),(2,.p T3 (l.length:Int)),(3,.fn 140),(9,.p (.int .i64) (1:Int)),(10,.p (.int .i64) (0:Int))],[(1000000,.arr 59 C7 l)]⟩) (λs=>0) () (AC [(1000000,.nm 1000000)] rfl rfl ?_ ?_) (λs=>?_)
 .first|exact eN|refine eM ?_
 .first|exact eN|refine eM ?_
  rfl
 repeat'(first|exact trivial|apply eS rfl|apply AB|refine rX a ?_ ?_)
 refine rC ?_ ?_<;>intro c
 .repeat'(first|exact trivial|apply eS rfl|apply AB|refine rX a ?_ ?_)
  refine AI (ι:={k:Nat//1<=k/\k<=l.length}) (λs=>⟨[(0,.sr 1000000 C7 0 l.length),(1,.p T3 (0:Int)),(2,.p T3 (l.length:Int)),(3,.fn 140),(9,.p (.int .i64) (s.1:Int)),(10,.p (.int .i64) (0:Int))],[(1000000,.arr 59 C7 l)]⟩) (λs=>l.length-s.1) ⟨1,Of _,n0⟩ (AC [(1000000,.nm 1000000)] rfl rfl ?_ ?_) (λs=>?_)
  .first|exact eN|refine eM ?_
  .first|exact eN|refine eM ?_
   rfl
  obtain⟨k,e,f⟩:=s;simp only at e f ⊢;have d:((k:Int)-1).toNat=k-1:=by omega
  repeat'(first|exact trivial|apply eS rfl|apply AB|refine rX a ?_ ?_)
  .dsimp only[Ty.den];exact⟨λ_=>by omega,λ_=>by omega,λ_=>by omega⟩
  refine Tw (by simp only[go_sem,Nat.reduceEqDiff,reduceCtorEq,Nat.reduceAdd,Nat.reduceSub,Nat.reduceMul,Nat.reduceLeDiff,Nat.reduceLT,Int.reduceLE,Int.reduceToNat,Int.reduceNeg,↓reduceIte];rfl) ?_ ?_
  .intro b;simp only[An,If,bY,TO]at b;obtain⟨h1,o⟩:=b;repeat'(first|exact trivial|apply eS rfl|apply AB|refine rX a ?_ ?_)
   .exact j8
   refine⟨⟨k+1,by omega,by omega⟩,by simp only;omega,AC [(1000000,.nm 1000000)] rfl rfl ?_ ?_⟩
   .first|exact eN|refine eM ?_
   first|exact eN|refine eM ?_
  intro b;rw[d]at b;have g:k=l.length:=by
   refine GO λhn=>?_;have m:=A0D so (i:=k-1) (j:=k) O1 O1;simp only[AAO,TO,ABI,If]at b;rcases b with h|h
   .omega
   exact lT m h
  subst g;clear b;repeat'(first|exact trivial|apply eS rfl|apply AB|refine rX a ?_ ?_|refine rC ?_ ?_<;>intro c<;>try(cases c;done))
  exact fM a [.tmp 8] (.p .bool true) eT ⟨rfl,rfl⟩
 exfalso;simp at c
theorem A42 (l:List (Int×Int)) (u:l.length<=200) (nd:Zu l) (so:l.length<=12\/Pi l) (c:Int) (m:13<=l.length->c≠0):A5 Tryz.prog 190 [.sr 1000000 C7 0 l.length,.p T3 (0:Int),.p T3 (l.length:Int),.p T3 c,.fn 140] [(1000000,.arr 59 C7 l)] [1000000] (λres t=>res=.raw (.tuple #[])/\t=[(1000000,.arr 59 C7 (AZ l))]):=by
 refine Ix [0,1,2,3,4,10,11,12,13,14,15,16,17,18,19,20,25,32,39,56,75,80,97,125] [] [] Tryz.func190 Tryz.ntmps190 AH ?_;intro w0 K O0 ρ0 a v w;simp only[Ai];repeat'(first|exact trivial|apply eS rfl|apply AB|refine rX a ?_ ?_)
 refine AI (ι:=Unit) (λs=>⟨[(0,.sr 1000000 C7 0 l.length),(1,.p T3 (0:Int)),(2,.p T3 (l.length:Int)),(3,.p T3 c),(4,.fn 140),(10,.p .bool true),(11,.p .bool true)],[(1000000,.arr 59 C7 l)]⟩) (λs=>0) () (AC [(1000000,.nm 1000000)] rfl rfl ?_ ?_) (λs=>?_)
 .first|exact eN|refine eM ?_
 .first|exact eN|refine eM ?_
 repeat'(first|exact trivial|apply eS rfl|apply AB|refine rX a ?_ ?_)
 .exact j8
 refine rC ?_ ?_<;>intro b
 .have key:=A3V l O1 (A7a nd) 0 l.length O1 (Of _);rw[show ((0:Nat):Int)=0 from rfl]at key;repeat'(first|exact trivial|apply eS rfl|apply AB|refine rX a ?_ ?_)
  refine cP 4 a ?_ ?_
  .trivial
  refine rM a (key) [(1000000,.nm 1000000)] [] ?_ ?_ ?_
  .first|exact eN|refine eM ?_
  .first|exact eN|refine eM ?_
  rintro _ _ ⟨rfl,r,rfl,n,o⟩;have h:=lS nd n.perm o;subst h;have x:=Co l;refine⟨[(1000000,.nm 1000000)],.raw (.tuple #[]),[(1000000,.arr 59 C7 (AZ l))],rfl,rfl,?_,?_,rfl,rfl,E2 ?_⟩
  .first|exact eN|refine eM ?_
  .first|exact eN|refine eM ?_
  repeat'(first|exact trivial|apply eS rfl|apply AB|refine rX a ?_ ?_|refine rC ?_ ?_<;>intro b<;>try(cases b;done))
  exact fM a [] (.raw (.tuple #[])) rfl ⟨rfl,rfl⟩
 have i:13<=l.length:=by omega
 have hs:Pi l:=so.resolve_left O1;have k:=m i;rw[IU hs];repeat'(first|exact trivial|apply eS rfl|apply AB|refine rX a ?_ ?_)
 refine rC (λd=>?_) (λd=>?_)
 .exact absurd d k
 have key:=A40 l O1 hs 0 l.length O1 (Of _);rw[show ((0:Nat):Int)=0 from rfl]at key;have q:=A41 l O1 hs O1;repeat'(first|exact trivial|apply eS rfl|apply AB|refine rX a ?_ ?_)
 refine rC (λe=>?_) (λe=>?_)
 .cases e
 repeat'(first|exact trivial|apply eS rfl|apply AB|refine rX a ?_ ?_)
 refine cP 4 a ?_ ?_
 .trivial
 refine rM a (key) [(1000000,.nm 1000000)] [] ?_ ?_ ?_
 .first|exact eN|refine eM ?_
 .first|exact eN|refine eM ?_
 rintro _ _ ⟨⟨j,rfl⟩,rfl⟩;refine⟨[(1000000,.nm 1000000)],.tup [.p T3 (j:Int),.p T3 (1:Int)],[(1000000,.arr 59 C7 l)],rfl,rfl,?_,?_,rfl,rfl,?_⟩
 .first|exact eN|refine eM ?_
 .first|exact eN|refine eM ?_
 refine rL a ?_ ?_
 .trivial
 repeat'(first|exact trivial|apply eS rfl|apply AB|refine rX a ?_ ?_)
 refine rC (λf=>?_) (λf=>?_)
 .exact absurd f dg
 repeat'(first|exact trivial|apply eS rfl|apply AB|refine rX a ?_ ?_)
 refine rC (λg=>?_) (λg=>?_)
 .repeat'(first|exact trivial|apply eS rfl|apply AB|refine rX a ?_ ?_)
  refine cP 4 a ?_ ?_
  .trivial
  refine rM a (q) [(1000000,.nm 1000000)] [] ?_ ?_ ?_
  .first|exact eN|refine eM ?_
  .first|exact eN|refine eM ?_
  rintro _ _ ⟨rfl,rfl⟩;refine⟨[(1000000,.nm 1000000)],.p .bool true,[(1000000,.arr 59 C7 l)],rfl,rfl,?_,?_,rfl,rfl,E2 ?_⟩
  .first|exact eN|refine eM ?_
  .first|exact eN|refine eM ?_
  repeat'(first|exact trivial|apply eS rfl|apply AB|refine rX a ?_ ?_|refine rC ?_ ?_<;>intro b<;>try(cases b;done))
  exact fM a [] (.raw (.tuple #[])) rfl ⟨rfl,rfl⟩
 exact absurd g dg
end
end Go.Proofs.YtglkoagnnnpimaaGreatDoor.Fw
