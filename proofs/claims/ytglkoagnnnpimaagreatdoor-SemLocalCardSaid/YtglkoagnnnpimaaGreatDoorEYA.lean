/- Contracts of functions and plain laws. -/
import Derived.Test.YtglkoagnnnpimaaGreatDoorEZJ
import Derived.Test.YtglkoagnnnpimaaGreatDoorEZI
set_option linter.unusedVariables false
set_option linter.unusedSimpArgs false
namespace Go.Proofs.YtglkoagnnnpimaaGreatDoor.Fw
attribute [local irreducible] Ev
attribute [local go_sem] n8 AM List.toList_toArray B2 evG evK W6 FD Lb Ig HO Ge R1 La Cc Dp O3 DM Cw frz sO G1 Db BE F6 Bg AV.frz AV.frzs AV.drp AV.drps AV.names AV.namess aq G2 LP LQ UB J4 Bx B6 Kx EV J7 EW J9 J8 KA W4 Rr Hn Mg F8 El W5 Sn qUn Ky JT Np Fg EL KB LS E4 UD C0 E5 Fh So JU Oz Fi Oy Ru Sp NM KC LT Dd DE Fl EM I4 DX Fj DY E6 Gd DM C5 Ow Sm Qm HI J6 J5 LR O2 Rx NN Nt Nr LV UE Ns LX bZ Rz Ry AV.trn AV.trns EU Cz Obj.trn K6 kH Da D1 DZ E7 Ci Fk Aj lk Ia G9 I2 bin sM ZB sQ UC T8 zfx AV.cellss sN zfs pfs AV.cells CU E3 JS F9 Rw CV Ox Ty.cell1 J3 FG EK Gb I1 E2 LJ NL Ov Ga HH Nn T7 W3 NC LI bU jE UA Ib C6 Hm RV.flat Ty.flat Ty.size St.add upd del Bk Value.oneCell' Y9 Ty.dflt J2 TH Jb TP List.take_succ_cons List.take_zero List.length_cons oB oC TN Lt PW Jd Mt A3F HP PJ PK PM PN Ua Ub PO KM ZX Option.map_some Option.map_none Option.bind_some Option.getD_some Option.getD_none Option.isNone_none Option.isNone_some Bool.and_true Bool.true_and Bool.and_false Bool.false_and Bool.not_true Bool.not_false if_true if_false List.length_cons List.length_nil and_true true_and and_self List.all_cons List.all_nil List.append_nil List.nil_append List.cons_append List.getElem?_cons_zero List.getElem?_cons_succ List.getElem?_nil List.map_cons List.map_nil List.set_cons_zero List.set_cons_succ List.isEmpty_nil List.isEmpty_cons decide_true decide_false beq_self_eq_true bne_self_eq_false Nat.zero_add Nat.add_zero Nat.sub_zero Int.toNat_natCast Int.toNat_zero Int.toNat_one List.take_length List.length_append List.length_singleton true_or or_true or_self false_or or_false Ty.agg.injEq Ty.slice.injEq Ty.prod.injEq Ty.int.injEq Option.some.injEq beq_iff_eq Lr evMG evMQ opM JD NS CD K5 HQ Ue K4 JC KN Mr Lq Qv PR Qw Uf PQ TK TL Mq Ag Ao Op.operands Call.operands List.filterMap_cons List.filterMap_nil List.append_eq Bool.cond_false_right Bool.cond_true_left cond_true cond_false implies_true decide_eq_true_eq beq_true beq_false Bool.or_true Bool.or_false Bool.true_or Bool.false_or Option.isSome_some Array.empty_append List.append_toArray F7 O4 Fm Ic bX Rv bW Gc Hf He JV I3 LU Nq ZC sP Hc inB LY GU HJ LZ Au oH List.drop_zero EF Ii dF C8 N5 Cv AV.fgt AV.fgts Obj.fgt A5 A1 Ag Ea Lv Bz Lw List.any_cons List.any_nil oK kA dH kB ND Ss qs List.flatMap_cons List.flatMap_nil List.cons_append tn dM NT List.take_succ_cons List.drop_succ_cons dP Hy Bh yP Q4 CX Cr Ar Fs Lk B8 matchAVs DF JB KK Hu KL
attribute [local go_sem] ty1 ty2 ty3 ty4 ty5 ty9 A77 A78 A79 A7a A7b A7c A7d A7e A7f A7g A7h A7i A7j A7k A7l A7m A7n A7o A7p A7q A7r A7s A7t A7u A7v A7w A7x A7y yY yZ y3 y4 y5 y6 y7 y8 y9 zA zB zC zD zE zF zG zH zI zJ zK zL zN zO zP zQ zR zS zT zU zV zW zX zY zZ z0 z4 z5 z6
set_option maxRecDepth 100000
set_option maxHeartbeats 4000000
variable {k i c f:Nat} {a b:List Int} {o m:List ByteArray} {s x:ByteArray} {l W:List (List Int)} {Z X:Type} {n y:Int} {Y r:List (Int×Int)} {V:Int×Int}
section
def CO (a b c:Int):Bool:=decide (a<=c)&&decide (c<=b)
def Zg:Ab:={ ins:=[.int .u8],pre:=λ_=>True,out:=λ(c,_)=>[.p .bool (CO 48 57 c)] }
attribute [local go_sem] Zg
def kS:Ab:={ ins:=[.int .u8],pre:=λ_=>True,out:=λ(c,_)=>[.p .bool (CO 65 90 c)] }
attribute [local go_sem] kS
def kT:Ab:={ ins:=[.int .u8],pre:=λ_=>True,out:=λ(c,_)=>[.p .bool (CO 97 122 c)] }
attribute [local go_sem] kT
theorem VB:Af Tryz.prog 165 Zg:=by
 refine fK [0,2] Tryz.func165 Tryz.ntmps165 AH ?_;rintro w0 O0 ⟨c,u⟩ a - -;simp only[Zg,AM];repeat'(first|exact a6|apply eS rfl|refine rX a ?_ ?_)
 exact fI a [.tmp 2] (by unfold CO;exact eR)
theorem A02:Af Tryz.prog 198 kS:=by
 refine fK [0,2] Tryz.func198 Tryz.ntmps198 AH ?_;rintro w0 O0 ⟨c,u⟩ a - -;simp only[kS,AM];repeat'(first|exact a6|apply eS rfl|refine rX a ?_ ?_)
 exact fI a [.tmp 2] (by unfold CO;exact eR)
theorem A03:Af Tryz.prog 199 kT:=by
 refine fK [0,2] Tryz.func199 Tryz.ntmps199 AH ?_;rintro w0 O0 ⟨c,u⟩ a - -;simp only[kT,AM];repeat'(first|exact a6|apply eS rfl|refine rX a ?_ ?_)
 exact fI a [.tmp 2] (by unfold CO;exact eR)
def OD (c:Int) (big:Bool):Bool:=CO 48 57 c||c==45||big&&CO 65 90 c||!big&&CO 97 122 c
def A04:Ab:={ ins:=[.int .u8,.bool],pre:=λ_=>True,out:=λ(c,b,_)=>[.p .bool (OD c b)] }
attribute [local go_sem] A04
theorem A3Z:Af Tryz.prog 188 A04:=by
 refine fK [0,1,4] Tryz.func188 Tryz.ntmps188 (AG VB (AG A02 (AG A03 AH))) ?_;rintro w0 O0 ⟨c,b,u⟩ a - -;simp only[A04,AM];repeat'(first|exact a6|apply eS rfl|refine rX a ?_ ?_)
 exact fI a [.tmp 4] (by unfold OD;exact eR)
abbrev NV (s:ByteArray) (i:Nat):Int:=((s.data.getD i 0).toNat:Int)
def OE (s:ByteArray):Bool:=decide ((s.size:Int)<1)||decide (32<(s.size:Int))||CO 48 57 (NV s 0)||NV s 0==45
def BG (s:ByteArray) (big:Bool):Bool:=!OE s&&(List.range s.size).all λi=>OD (NV s i) big
def kU:Ab:={ ins:=[T9,.bool],pre:=λ_=>True,out:=λ(s,b,_)=>[.p .bool (BG s b)] }
attribute [local go_sem] kU
theorem d7:Af Tryz.prog 174 kU:=by
 refine fK [0,1,4,5,23,27,35] Tryz.func174 Tryz.ntmps174 (AG VB (AG A3Z AH)) ?_;rintro w0 O0 ⟨s,b,u⟩ d - -;simp only[kU,AM];repeat'(first|exact a6|apply eS rfl|refine rX d ?_ ?_|refine rC ?_ ?_<;>intro a<;>try(cases a;done))
 .constructor
  .intro h;simp only[gO,AAj,Wx]at h;have:1<=(s.size:Int):=by omega
   exact this
  intro h;simp only[gO,AAj,Wx]at h;have:1<=(s.size:Int):=by omega
  exact this
 .have h1:OE s=true:=by
   unfold OE NV;simp only[AA4,If,AAh];exact a
  have c:BG s b=false:=by unfold BG;rw[h1];rfl
  exact fI d [.tmp 4] (by rw[c];exact eR)
 have h1:OE s=false:=by
  unfold OE NV;simp only[AAj,Wx,ABp];exact⟨⟨⟨O1,O1⟩,a.1.2⟩,a.2⟩
 have g:s.size<=32:=by omega
 refine AJ (ι:={k:Nat//k<=s.size/\((List.range k).all λi=>OD (NV s i) b)=true}) (λk=>⟨[(0,.p T9 s),(1,.p .bool b),(5,.p (.int .i64) (k.1:Int))],[]⟩) (λk=>s.size-k.1) ⟨0,sc⟩ (eW []) (λk=>?_)
 obtain⟨k,hk,f⟩:=k;repeat'(first|exact a6|apply eS rfl|apply AB|refine rX d ?_ ?_|refine rC ?_ ?_<;>intro a<;>try(cases a;done))
 .exact a
 .have e:k<s.size:=by omega
  have c:BG s b=false:=by
   unfold BG;rw[AB9];refine .inr (ABL.2 λh=>?_);have:=NO.1 h k (tO.2 e);rw[show OD (NV s k) b=false from a]at this;cases this
  exact fI d [.tmp 4] (by rw[c];exact eR)
 .omega
 .have e:k<s.size:=by omega
  refine⟨⟨k+1,O1,?_⟩,a2,AC [] rfl rfl ?_ ?_⟩
  .rw[AAE,ACn,f];rw[ACa,ABJ,List.all_nil,Bool.and_true];exact a
  .exact eN
  exact eN
 have e:k=s.size:=by omega
 subst e;have c:BG s b=true:=by unfold BG;rw[h1,f];rfl
 exact fI d [.tmp 4] (by rw[c];exact eR)
def Xy:Ab:={ ins:=[T9],pre:=λ_=>True,out:=λ(s,_)=>[.p .bool (BG s false)] }
def Pb:Ab:={ ins:=[T9],pre:=λ_=>True,out:=λ(s,_)=>[.p .bool (BG s true)] }
theorem o7:Af Tryz.prog 136 Xy:=by
 refine fK [0,2] Tryz.func136 Tryz.ntmps136 (AG d7 AH) ?_;rintro w0 O0 ⟨s,u⟩ a - -;simp only[Xy,AM];repeat'(first|exact a6|apply eS rfl|refine rX a ?_ ?_)
 exact fI a [.tmp 2]
theorem VC:Af Tryz.prog 146 Pb:=by
 refine fK [0,2] Tryz.func146 Tryz.ntmps146 (AG d7 AH) ?_;rintro w0 O0 ⟨s,u⟩ a - -;simp only[Pb,AM];repeat'(first|exact a6|apply eS rfl|refine rX a ?_ ?_)
 exact fI a [.tmp 2]
end
section
theorem Mw {α:Type} (l:List α) (d:α) (p:α->Bool) (h:k<l.length):(l.take (k+1)).any p=((l.take k).any p||p (l.getD k d)):=by
 rw[Ay l d h,AC8];simp
theorem Ik {α:Type} (l:List α) (d:α) (p:α->Bool) (h:k<l.length) (a:p (l.getD k d)=true):l.any p=true :=
 bY.2 ⟨_,AF l d h,a⟩
def Aa (l:List ByteArray) (s:ByteArray):Bool:=l.any λx=>AK x s
def JF:Ab:={ ins:=[Cj,T9],pre:=λ_=>True,out:=λ(l,n,_)=>[.p .bool (Aa l n)],lend:=true }
attribute [local go_sem] JF
theorem Gi:Af Tryz.prog 158 JF:=by
 refine fK [0,1,4,5,9,17] Tryz.func158 Tryz.ntmps158 AH ?_;rintro w0 O0 ⟨l,n,u⟩ a ⟨⟨e,-⟩,-⟩ -;simp only[AP]at e;simp only[JF,AM];repeat'(first|exact a6|apply eS rfl|refine rX a ?_ ?_)
 refine AJ (ι:={k:Nat//k<=l.length/\(l.take k).any (λx=>AK x n)=false}) (λk=>⟨[(0,.p Cj l),(1,.p T9 n),(5,.p (.int .i64) (k.1:Int))],[]⟩) (λk=>l.length-k.1) ⟨0,sc⟩ (eW []) (λk=>?_)
 obtain⟨k,hk,c⟩:=k;repeat'(first|exact a6|apply eS rfl|apply AB|refine rX a ?_ ?_|refine rC ?_ ?_<;>intro b<;>try(cases b;done))
 .exact eV
 .have d:k<l.length:=by exact eV
  have h1:Aa l n=true:=Ik l ByteArray.empty _ d b;exact fI a [.tmp 4] (by rw[h1];exact eR)
 .exact eV
 .have d:k<l.length:=by exact eV
  refine⟨⟨k+1,eV,?_⟩,by simp only;exact eV,AC [] rfl rfl ?_ ?_⟩
  .rw[Mw l ByteArray.empty _ d,c];exact b
  .exact eN
  exact eN
 have hk:l.take k=l:=BY eV;rw[hk]at c;have h1:Aa l n=false:=c;exact fI a [.tmp 4] (by rw[h1];exact eR)
def Wy (l:List ByteArray) (s:ByteArray):Nat:=(l.takeWhile λx=>CF x s).length
theorem kV {α:Type} (p:α->Bool) (d:α):∀(l:List α) (k:Nat),k<=(l.takeWhile p).length->((k<l.length/\p (l.getD k d)=true)↔k+1<=(l.takeWhile p).length)
 | [],k,h=>by simp
 | x :: l,k,h=>by
  by_cases a:p x=true
  .rw[List.takeWhile_cons,At a]at h ⊢;cases k with
   | zero=>simp[a]
   | succ k =>
    have:=kV p d l k (by simpa using h);simpa using this
  rw[List.takeWhile_cons,An a]at h ⊢;have hk:k=0:=by simpa using h
  subst hk;simp[a]
theorem A68 {α:Type} (p:α->Bool) (l:List α):(l.takeWhile p).length<=l.length:=(List.takeWhile_sublist p).length_le
def Ds (l:List ByteArray) (s:ByteArray):List ByteArray :=
 if (decide (Wy l s<l.length)&&AK (l.getD (Wy l s) ByteArray.empty) s)=true then l else l.take (Wy l s)++[s]++l.drop (Wy l s)
def Zh:Ab:={ ins:=[Cj,T9],pre:=λ(l,_,_)=>List.length l<=100000,out:=λ(l,n,_)=>[.p Cj (Ds l n)] }
attribute [local go_sem] Zh
theorem Q8:Af Tryz.prog 148 Zh:=by
 refine fK [0,1,4,5,6,18,32] Tryz.func148 Tryz.ntmps148 AH ?_;rintro w0 O0 ⟨l,n,u⟩ c-m;have m:l.length<=100000:=m;simp only[Zh,AM];repeat'(first|exact a6|apply eS rfl|refine rX c ?_ ?_)
 refine AJ (ι:={k:Nat//k<=Wy l n}) (λk=>⟨[(0,.p Cj l),(1,.p T9 n),(5,.raw (.slice none 0 0)),(6,.p (.int .i64) (k.1:Int))],[]⟩) (λk=>l.length-k.1) ⟨0,sc⟩ (eW []) (λk=>?_)
 obtain⟨k,hk⟩:=k;have d:=A68 (λx=>CF x n) l;have i:=kV (λx=>CF x n) ByteArray.empty l k hk;simp only;repeat'(first|exact a6|apply eS rfl|apply AB|refine rX c ?_ ?_|refine rC ?_ ?_<;>intro a<;>try(cases a;done))
 .exact λh=>h
 .have h1:k<l.length/\CF (l.getD k ByteArray.empty) n=true:=⟨eV,a.2⟩;exact eV
 .have h1:k<l.length/\CF (l.getD k ByteArray.empty) n=true:=⟨eV,a.2⟩;exact⟨⟨k+1,i.1 h1⟩,a2,eW []⟩
 .exact λh=>h
 .rename_i f;have g:k=Wy l n:=by
   refine ACj hk (AD6 λh=>?_);have:=i.2 h;rw[f (aT.2 this.1)]at this;cases this.2
  have e:Ds l n=l:=by
   unfold Ds;rw[<-g,At];rw[AT,If];exact⟨aT.1 a.1,a.2⟩
  exact fI c [.tmp 4] (by rw[e];exact eR)
 .have j:=AAY k l;have b:k<=l.length:=aS hk d;simp only[AP];exact⟨AAf.2 b,by dsimp only[Ty.den]at *;omega⟩
 .have j:=AAY k l;have b:k<=l.length:=aS hk d;simp only[AP];dsimp only[Ty.den]at *;omega
 .have j:=AAY k l;have b:k<=l.length:=aS hk d;have q:(l.drop k).length<=l.length:=by rw[ABv];omega
  simp only[AP];exact⟨AAf.2 b,by dsimp only[Ty.den]at *;omega⟩
 rename_i f;have g:k=Wy l n:=by
  refine ACj hk (AD6 λh=>?_);have:=i.2 h;rw[f (aT.2 this.1)]at this;cases this.2
 have e:Ds l n=l.take k++[n]++l.drop k:=by
  unfold Ds;rw[<-g,An];rw[AT,If];intro h;rw[a (aT.2 h.1)]at h;cases h.2
 have b:k<=l.length:=aS hk d;have o:(l.take k).length+1+(l.drop k).length=(l.take k++[n]++l.drop k).length:=by simp only[IS,nO]
 rw[o,<-e];refine C9 [38] ?_;exact fI c [.tmp 4]
end
section
def F1 (b:List Int) (i:Int):Int:=if i<b.length then b.getD i.toNat 0 else 0
def d8:Ab:={ ins:=[Ba,T3],pre:=λ(_,i,_)=>(0:Int)<=i,out:=λ(b,i,_)=>[.p Q6 (F1 b i)],lend:=true }
attribute [local go_sem] d8
theorem o8:Af Tryz.prog 166 d8:=by
 refine fK [0,1,4,8] Tryz.func166 Tryz.ntmps166 AH ?_;rintro w0 O0 ⟨b,i,u⟩ c-hi;simp only[d8,AM];repeat'(first|exact a6|apply eS rfl|refine rX c ?_ ?_|refine rC ?_ ?_<;>intro a<;>try(cases a;done))
 .exact⟨hi,a⟩
 .have h1:F1 b i=b.getD i.toNat 0:=by unfold F1;rw[At a]
  exact fI c [.tmp 4] (by rw[h1];exact eR)
 have h1:F1 b i=0:=by unfold F1;rw[An (ABh.2 a)]
 exact fI c [.tmp 4] (by rw[h1];exact eR)
def Ck (b:List Int):Nat->Nat
 | 0=>0
 | n+1=>if b.getD n 0=0 then Ck b n else n+1
def BS (b:List Int):List Int:=b.take (Ck b b.length)
theorem VD (b:List Int):∀n,Ck b n<=n
 | 0=>OS _
 | n+1=>by
  unfold Ck;split
  .exact Nat.le_succ_of_le (VD b n)
  exact OS _
def KS:Ab:={ ins:=[Ba],pre:=λ(b,_)=>List.length b<=100000,out:=λ(b,_)=>[.p Ba (BS b)] }
attribute [local go_sem] KS
theorem Mx:Af Tryz.prog 151 KS:=by
 refine fK [0,2,3,15] Tryz.func151 Tryz.ntmps151 AH ?_;rintro w0 O0 ⟨b,u⟩ d-f;have f:b.length<=100000:=f;simp only[KS,AM];repeat'(first|exact a6|apply eS rfl|refine rX d ?_ ?_)
 refine AJ (ι:={n:Nat//n<=b.length/\Ck b n=Ck b b.length}) (λn=>⟨[(0,.p Ba b),(3,.p (.int .i64) (n.1:Int))],[]⟩) (λn=>n.1) ⟨b.length,OS _,rfl⟩ (eW []) (λn=>?_)
 obtain⟨n,hn,g⟩:=n;simp only;repeat'(first|apply eS rfl|apply AB|refine rX d ?_ ?_|refine rC ?_ ?_<;>intro c<;>try(cases c;done))
 .constructor
  .exact eV
  intro h;refine⟨?_,?_⟩<;>exact eV
 .exact eV
 .obtain⟨h1,a⟩:=c;obtain⟨m,rfl⟩:∃m,n=m+1:=⟨n-1,O1⟩;have e:(((m+1:Nat):Int)-1)=(m:Int):=by omega
  rw[e]at a;have a:b.getD m 0=0:=a;have j:Ck b m=Ck b b.length:=by
   rw[<-g];show _=if b.getD m 0=0 then Ck b m else m+1
   rw[At a]
  refine⟨⟨m,O1,j⟩,sc,AC [] rfl rfl ?_ ?_⟩
  .exact eN
  simp only[e];exact eN
 .have k:=AAY n b;simp only[AP];exact⟨AAf.2 hn,by dsimp only[Ty.den]at *;omega⟩
 have i:Ck b n=n:=by
  cases n with
  | zero=>rfl
  | succ m =>
   have e:(((m+1:Nat):Int)-1)=(m:Int):=by omega
   rw[e]at c;have a:=c O1;have a:¬b.getD m 0=0:=a;show (if b.getD m 0=0 then Ck b m else m+1)=m+1;rw[An a]
 have h1:BS b=b.take n:=by unfold BS;rw[<-g,i]
 rw[<-h1];refine C9 [18] ?_;exact fI d [.tmp 2]
end
section
attribute [local go_sem] d8 KS
def A05 (w:Int) (r:Int):Bool:=Cp .and .u64 (bV .u64 w r) 1==1
def Sw (b:List Int) (i:Int):Bool:=if (decide (i<0)||decide ((b.length:Int)<=i.tdiv 64))=true then false else A05 (b.getD (i.tdiv 64).toNat 0) (i.tmod 64)
def A06:Ab:={ ins:=[Ba,T3],pre:=λ_=>True,out:=λ(b,i,_)=>[.p .bool (Sw b i)],lend:=true }
theorem A7z {w:Int} (h0:0<=w) (r:Int):0<=bV .u64 w r/\bV .u64 w r<=w:=by
 unfold bV;have a:(0:Int)<2 ^ (min r.toNat IntKind.u64.bits):=Int.pow_pos df;rw[Int.fdiv_eq_ediv_of_nonneg _ (Int.le_of_lt a)];exact⟨Int.ediv_nonneg h0 (Int.le_of_lt a),Int.ediv_le_self _ h0⟩
theorem A07:Af Tryz.prog 162 A06:=by
 refine fK [0,1,4,13] Tryz.func162 Tryz.ntmps162 AH ?_;rintro w0 O0 ⟨b,i,u⟩ d ⟨⟨m,k⟩,e,-⟩ -;have e:IU .i64 i:=e;rw[PO]at e;have j:0<=i->Int.tdiv i 64=i / 64/\Int.tmod i 64=i % 64:=λh=>⟨ABx h,ABQ h⟩;simp only[A06,AM];repeat'(first|exact a6|apply eS rfl|refine rX d ?_ ?_|refine rC ?_ ?_<;>intro c<;>try(cases c;done))
 .intro h;have h0:0<=i:=by simpa using h
  obtain⟨a,g⟩:=j h0;rw[a];refine⟨df,?_,?_⟩<;>exact eV
 .have h1:Sw b i=false:=by
   unfold Sw;rw[At];rw[AA4,If,If];exact c
  exact fI d [.tmp 4] (by rw[h1];exact eR)
 .obtain⟨h0,l⟩:=c;obtain⟨a,g⟩:=j h0;rw[a]at l;have f:IU .u64 (b.getD (i / 64).toNat 0):=k _ (AF b 0 eV);rw[KM]at f;have hs:=A7z f.1 (i % 64);rw[a,g];refine⟨⟨df,eV,eV⟩,⟨eV,eV⟩,⟨df,eV,eV⟩,⟨eV,eV⟩,eV,hs.1,ABK hs.2 f.2⟩
 have h1:Sw b i=A05 (b.getD (i.tdiv 64).toNat 0) (i.tmod 64):=by
  unfold Sw;rw[An];rw[AA4,If,If];rintro (h|h)<;>omega
 exact fI d [.tmp 4] (by rw[h1];unfold A05;exact eR)
end
section
attribute [local go_sem] d8 KS
def GI (op:BinOp) (a b:List Int) (n:Nat):List Int:=(List.range n).map λi=>Cp op .u64 (a.getD i 0) (F1 b (i:Int))
theorem Eb (op:BinOp) (a b:List Int) (n:Nat):(GI op a b n).length=n:=by simp[GI]
theorem Xz (op:BinOp) (a b:List Int) (n:Nat):GI op a b (n+1)=GI op a b n++[Cp op .u64 (a.getD n 0) (F1 b (n:Int))]:=by simp[GI,AAE]
def ET (a b:List Int):List Int:=BS (GI .and a b a.length)
def A08:Ab:={ ins:=[Ba,Ba],pre:=λ(a,_,_)=>List.length a<=100000,out:=λ(a,b,_)=>[.p Ba (ET a b)] }
theorem A09:Af Tryz.prog 150 A08:=by
 refine fK [0,1,4,5,6,10] Tryz.func150 Tryz.ntmps150 (AG o8 (AG Mx AH)) ?_;rintro w0 O0 ⟨a,b,u⟩ c-ha;have ha:a.length<=100000:=ha;simp only[A08,AM];repeat'(first|exact a6|apply eS rfl|refine rX c ?_ ?_)
 refine AJ (ι:={n:Nat//n<=a.length}) (λn=>⟨[(0,.p Ba a),(1,.p Ba b),(5,.sr 23 Q6 0 n.1),(6,.p (.int .i64) (n.1:Int))],[(23,.arr 205 Q6 (GI .and a b n.1))]⟩) (λn=>a.length-n.1) ⟨0,GO _⟩ (AC [(23,.nil)] rfl rfl ?_ ?_) (λn=>?_)
 .refine eM ?_;rfl
 .exact eN
 obtain⟨n,hn⟩:=n;have f:=Eb .and a b n;have hs:=Xz .and a b n;simp only;repeat'(first|exact a6|apply eS rfl|apply AB|refine rX c ?_ ?_|refine rC ?_ ?_<;>intro d<;>try(cases d;done))
 .refine⟨d,?_⟩;simp only[AP];dsimp only[Ty.den]at *;omega
 .exact eV
 .have e:n<a.length:=by exact eV
  refine⟨⟨n+1,O1⟩,a2,AC [(23,.nm 23)] rfl rfl ?_ ?_⟩
  .simp only[hs];refine eM ?_;rw[BY (by rw[f];exact OS _)]
  exact eN
 have e:n=a.length:=by exact eV
 subst e;refine C9 [23] ?_;have ht:(GI .and a b a.length).take a.length=GI .and a b a.length:=BY (by rw[Eb];exact OS _);repeat'(first|apply eS rfl|refine rX c ?_ ?_)
 .rw[ht,Eb];exact ha
 rw[ht];exact fI c [.tmp 4] (by unfold ET;exact eR)
def Q9 (a b:List Int):List Int:=BS (GI .andNot a b a.length)
def kW:Ab:={ ins:=[Ba,Ba],pre:=λ(a,_,_)=>List.length a<=100000,out:=λ(a,b,_)=>[.p Ba (Q9 a b)] }
attribute [local go_sem] kW
theorem A0a:Af Tryz.prog 127 kW:=by
 refine fK [0,1,4,5,6,10] Tryz.func127 Tryz.ntmps127 (AG o8 (AG Mx AH)) ?_;rintro w0 O0 ⟨a,b,u⟩ c-ha;have ha:a.length<=100000:=ha;simp only[kW,AM];repeat'(first|exact a6|apply eS rfl|refine rX c ?_ ?_)
 refine AJ (ι:={n:Nat//n<=a.length}) (λn=>⟨[(0,.p Ba a),(1,.p Ba b),(5,.sr 23 Q6 0 n.1),(6,.p (.int .i64) (n.1:Int))],[(23,.arr 205 Q6 (GI .andNot a b n.1))]⟩) (λn=>a.length-n.1) ⟨0,GO _⟩ (AC [(23,.nil)] rfl rfl ?_ ?_) (λn=>?_)
 .refine eM ?_;rfl
 .exact eN
 obtain⟨n,hn⟩:=n;have f:=Eb .andNot a b n;have hs:=Xz .andNot a b n;simp only;repeat'(first|exact a6|apply eS rfl|apply AB|refine rX c ?_ ?_|refine rC ?_ ?_<;>intro d<;>try(cases d;done))
 .refine⟨d,?_⟩;simp only[AP];dsimp only[Ty.den]at *;omega
 .exact eV
 .have e:n<a.length:=by exact eV
  refine⟨⟨n+1,O1⟩,a2,AC [(23,.nm 23)] rfl rfl ?_ ?_⟩
  .simp only[hs];refine eM ?_;rw[BY (by rw[f];exact OS _)]
  exact eN
 have e:n=a.length:=by exact eV
 subst e;refine C9 [23] ?_;have ht:(GI .andNot a b a.length).take a.length=GI .andNot a b a.length:=BY (by rw[Eb];exact OS _);repeat'(first|apply eS rfl|refine rX c ?_ ?_)
 .rw[ht,Eb];exact ha
 rw[ht];exact fI c [.tmp 4] (by unfold Q9;exact eR)
def Eo (a b:List Int):Bool:=((Q9 a b).length:Int)==0
def Pc:Ab:={ ins:=[Ba,Ba],pre:=λ(a,_,_)=>List.length a<=100000,out:=λ(a,b,_)=>[.p .bool (Eo a b)],lend:=true }
attribute [local go_sem] Pc
theorem RB:Af Tryz.prog 79 Pc:=by
 refine fK [0,1,4] Tryz.func79 Tryz.ntmps79 (AG A0a AH) ?_;rintro w0 O0 ⟨a,b,u⟩ c-ha;have ha:a.length<=100000:=ha;simp only[Pc,AM];repeat'(first|exact a6|apply eS rfl|refine rX c ?_ ?_)
 .exact ha
 exact fI c [.tmp 4] (by unfold Eo;exact eR)
def DH (a b:List Int):Bool:=Eo a b&&Eo b a
def Zi:Ab:={ ins:=[Ba,Ba],pre:=λ(a,b,_)=>List.length a<=100000/\List.length b<=100000,out:=λ(a,b,_)=>[.p .bool (DH a b)],lend:=true }
theorem tZ:Af Tryz.prog 161 Zi:=by
 refine fK [0,1,4] Tryz.func161 Tryz.ntmps161 (AG RB AH) ?_;rintro w0 O0 ⟨a,b,u⟩ c-⟨ha,d⟩;simp only[Zi,AM];repeat'(first|exact a6|apply eS rfl|refine rX c ?_ ?_)
 .exact⟨ha,λ_=>d⟩
 exact fI c [.tmp 4] (by unfold DH;exact eR)
end
section
attribute [local go_sem] A06
def HB (a b:List Int):Bool:=decide (a=b)
def VE:Ab:={ ins:=[Ba,Ba],pre:=λ_=>True,out:=λ(a,b,_)=>[.p .bool (HB a b)],lend:=true }
theorem o9:Af Tryz.prog 152 VE:=by
 refine fK [0,1,4,5,10,14,25] Tryz.func152 Tryz.ntmps152 AH ?_;rintro w0 O0 ⟨a,b,u⟩ d ⟨⟨ha,-⟩,-⟩ -;simp only[AP]at ha;simp only[VE,AM];repeat'(first|exact a6|apply eS rfl|refine rX d ?_ ?_|refine rC ?_ ?_<;>intro c<;>try(cases c;done))
 .have h1:HB a b=false:=by
   unfold HB;rw[Wx];rintro rfl;exact c rfl
  exact fI d [.tmp 4] (by rw[h1];exact eR)
 have f:a.length=b.length:=by
  have:(a.length:Int)=(b.length:Int):=by simpa using c
  exact Int.ofNat_inj.1 this
 refine AJ (ι:={k:Nat//k<=a.length/\a.take k=b.take k}) (λk=>⟨[(0,.p Ba a),(1,.p Ba b),(5,.p (.int .i64) (k.1:Int))],[]⟩) (λk=>a.length-k.1) ⟨0,GO _,rfl⟩ (eW []) (λk=>?_)
 obtain⟨k,hk,hf⟩:=k;simp only;repeat'(first|exact a6|apply eS rfl|apply AB|refine rX d ?_ ?_|refine rC ?_ ?_<;>intro c<;>try(cases c;done))
 .exact⟨c,by rw[<-f];exact c⟩
 .have e:k<a.length:=by exact eV
  have h1:HB a b=false:=by
   unfold HB;rw[Wx];rintro rfl;exact c rfl
  exact fI d [.tmp 4] (by rw[h1];exact eR)
 .exact eV
 .have e:k<a.length:=by exact eV
  have g:a.getD k 0=b.getD k 0:=by simpa using c
  refine⟨⟨k+1,O1,?_⟩,a2,AC [] rfl rfl ?_ ?_⟩
  .rw[Ay a 0 e,Ay b 0 O1,hf];rw[show a.getD k 0=b.getD k 0 from g]
  .exact eN
  exact eN
 have e:k=a.length:=by exact eV
 subst e;rw[sL,f,sL]at hf;have h1:HB a b=true:=by unfold HB;rw[hf];simp
 exact fI d [.tmp 4] (by rw[h1];exact eR)
end
section
attribute [local go_sem] A06
def NW (b:List Int) (n:Nat):List Int:=((List.range n).filter λ(i:Nat)=>Sw b (i:Int)).map λ(i:Nat)=>(i:Int)
def Hz (b:List Int):List Int:=NW b (64*b.length)
theorem kX (b:List Int) (n:Nat):NW b (n+1)=NW b n++if Sw b (n:Int)=true then [(n:Int)] else []:=by
 unfold NW;rw[AAE,ABF,AAH]
 congr 1
 rw[AAW,ACm];split<;>rfl
theorem t4 (b:List Int) (n:Nat):(NW b n).length<=n:=by
 unfold NW;rw[On];exact aS (AB8 _ _) sc
def A0b:Ab:={ ins:=[Ba],pre:=λ(b,_)=>List.length b<=100000,out:=λ(b,_)=>[.p CH (Hz b)] }
attribute [local go_sem] A0b
theorem A40:Af Tryz.prog 185 A0b:=by
 refine fK [0,2,3,4,9,14] Tryz.func185 Tryz.ntmps185 (AG A07 AH) ?_;rintro w0 O0 ⟨b,u⟩ c-e;have e:b.length<=100000:=e;simp only[A0b,AM];repeat'(first|exact a6|apply eS rfl|refine rX c ?_ ?_)
 refine AJ (ι:={n:Nat//n<=64*b.length}) (λn=>⟨[(0,.p Ba b),(3,.sr 18 T3 0 (NW b n.1).length),(4,.p (.int .i64) (n.1:Int))],[(18,.arr 3 T3 (NW b n.1))]⟩) (λn=>64*b.length-n.1) ⟨0,GO _⟩ (AC [(18,.nil)] rfl rfl ?_ ?_) (λn=>?_)
 .refine eM ?_;rfl
 .refine eM ?_;rfl
 obtain⟨n,hn⟩:=n;have f:=t4 b n;have hs:=kX b n;simp only;repeat'(first|exact a6|apply eS rfl|apply AB|refine rX c ?_ ?_|refine rC ?_ ?_<;>intro a<;>try(cases a;done))
 .exact eV
 .rw[a,At rfl]at hs;simp only[AP];dsimp only[Ty.den]at *;omega
 .exact eV
 .have d:n<64*b.length:=by exact eV
  rw[a,At rfl]at hs;refine⟨⟨n+1,O1⟩,a2,AC [(18,.nm 18)] rfl rfl ?_ ?_⟩
  .simp only[hs];exact eN
  simp only[hs];exact eN
 .exact eV
 .have d:n<64*b.length:=by exact eV
  rw[a,An sc,AAu]at hs;refine⟨⟨n+1,O1⟩,a2,AC [(18,.nm 18)] rfl rfl ?_ ?_⟩
  .simp only[hs];exact eN
  simp only[hs];exact eN
 have d:n=64*b.length:=by exact eV
 subst d;refine C9 [18] ?_;exact fI c [.tmp 2] (by unfold Hz;exact eR)
def kY:Ab:={ ins:=[Ba],pre:=λ(b,_)=>List.length b<=100000,out:=λ(b,_)=>[.p T3 ((Hz b).length:Int)],lend:=true }
theorem A0c:Af Tryz.prog 164 kY:=by
 refine fK [0,2] Tryz.func164 Tryz.ntmps164 (AG A40 AH) ?_;rintro w0 O0 ⟨b,u⟩ a-c;simp only[kY,AM];repeat'(first|exact a6|apply eS rfl|refine rX a ?_ ?_)
 .exact c
 exact fI a [.tmp 2]
end
section
attribute [local go_sem] JF Xy
abbrev AI:=ByteArray×List ByteArray×List (ByteArray×ByteArray)
abbrev d0:AI:=(ByteArray.empty,[],[])
def Cy (s:ByteArray):Nat->List AI->Int
 | _,[]=>-1
 | k,x :: l=>if AK x.1 s=true then (k:Int) else Cy s (k+1) l
def Av (l:List AI) (s:ByteArray):Int:=Cy s 0 l
theorem SP (s:ByteArray) (l:List AI) (h:k<l.length):Cy s k (l.drop k)=if AK (l.getD k d0).1 s=true then (k:Int) else Cy s (k+1) (l.drop (k+1)):=by
 rw[OR h];have e:l.getD k d0=l[k]:=by simp[AS,h]
 rw[e];rfl
def OG:Ab:={ ins:=[Ez,T9],pre:=λ_=>True,out:=λ(l,s,_)=>[.p T3 (Av l s)] }
attribute [local go_sem] OG
theorem L6:Af Tryz.prog 181 OG:=by
 refine fK [0,1,4,5,9,18] Tryz.func181 Tryz.ntmps181 AH ?_;rintro w0 O0 ⟨l,s,u⟩ c ⟨⟨d,-⟩,-⟩ -;simp only[AP]at d;simp only[OG,AM];repeat'(first|exact a6|apply eS rfl|refine rX c ?_ ?_)
 refine AJ (ι:={k:Nat//k<=l.length/\Cy s k (l.drop k)=Av l s}) (λk=>⟨[(0,.p Ez l),(1,.p T9 s),(5,.p (.int .i64) (k.1:Int))],[]⟩) (λk=>l.length-k.1) ⟨0,GO _,rfl⟩ (eW []) (λk=>?_)
 obtain⟨k,hk,hf⟩:=k;simp only;repeat'(first|exact a6|apply eS rfl|apply AB|refine rX c ?_ ?_|refine rC ?_ ?_<;>intro b<;>try(cases b;done))
 .exact b
 .have a:k<l.length:=by exact eV
  rw[SP s l a,At b]at hf;exact fI c [.tmp 4] (by rw[<-hf];exact eR)
 .exact eV
 .have a:k<l.length:=by exact eV
  rw[SP s l a,An (by rw[b];simp)]at hf;exact⟨⟨k+1,O1,hf⟩,a2,eW []⟩
 have a:l.drop k=[]:=No eV;rw[a]at hf;exact fI c [.tmp 4] (by rw[<-hf];first|exact eR|refine OC ?_;rfl)
def L7:List AI->Int
 | []=>0
 | x :: l=>if 256<x.2.1.length\/256<x.2.2.length then 7 else L7 l
def E0 (l:List AI):Int:=if 256<l.length then 7 else L7 l
theorem SQ (l:List AI) (h:k<l.length):L7 (l.drop k)=if 256<(l.getD k d0).2.1.length\/256<(l.getD k d0).2.2.length then 7 else L7 (l.drop (k+1)):=by
 rw[OR h];have e:l.getD k d0=l[k]:=by simp[AS,h]
 rw[e];rfl
def Zj:Ab:={ ins:=[Ez],pre:=λ_=>True,out:=λ(l,_)=>[.p C3 (E0 l)] }
attribute [local go_sem] Zj
theorem A0d:Af Tryz.prog 153 Zj:=by
 refine fK [0,2,3,6,10,28] Tryz.func153 Tryz.ntmps153 AH ?_;rintro w0 O0 ⟨l,u⟩ b ⟨⟨d,-⟩,-⟩ -;simp only[AP]at d;simp only[Zj,AM];repeat'(first|exact a6|apply eS rfl|refine rX b ?_ ?_|refine rC ?_ ?_<;>intro a<;>try(cases a;done))
 .have h1:E0 l=7:=by unfold E0;rw[At eV]
  exact fI b [.tmp 2] (by rw[h1];exact eR)
 have h1:E0 l=L7 l:=by unfold E0;rw[An eV]
 refine AJ (ι:={k:Nat//k<=l.length/\L7 (l.drop k)=E0 l}) (λk=>⟨[(0,.p Ez l),(3,.p (.int .i64) (k.1:Int))],[]⟩) (λk=>l.length-k.1) ⟨0,GO _,h1.symm⟩ (eW []) (λk=>?_)
 obtain⟨k,hk,hf⟩:=k;simp only;repeat'(first|exact a6|apply eS rfl|apply AB|refine rX b ?_ ?_|refine rC ?_ ?_<;>intro a<;>try(cases a;done))
 .exact⟨a,λ_=>a⟩
 .have c:k<l.length:=by exact eV
  rw[SQ l c,At (by
   rcases a with h|h
   .exact .inl (aT.1 h)
   exact .inr (aT.1 h))]at hf
  exact fI b [.tmp 2] (by rw[<-hf];exact eR)
 .exact eV
 .have c:k<l.length:=by exact eV
  rw[SQ l c,An (by
   rintro (h|h)
   .have:=AAf.1 a.1;exact absurd h (Nat.not_lt.2 this)
   have:=AAf.1 a.2;exact absurd h (Nat.not_lt.2 this))]at hf
  exact⟨⟨k+1,O1,hf⟩,a2,eW []⟩
 have c:l.drop k=[]:=No eV;rw[c]at hf;exact fI b [.tmp 2] (by rw[<-hf];first|exact eR|refine OC ?_;rfl)
theorem GJ {α:Type} (l:List α) (d:α) (p:α->Bool) (h:k<l.length):(l.take (k+1)).all p=((l.take k).all p&&p (l.getD k d)):=by
 rw[Ay l d h,ACn];simp
def JG (x:AI) (done:List ByteArray):Bool:=x.2.1.all λs=>Aa done s
def Zk:Ab:={ ins:=[yX,Cj],pre:=λ_=>True,out:=λ(x,l,_)=>[.p .bool (JG x l)],lend:=true }
attribute [local go_sem] Zk
theorem A0e:Af Tryz.prog 182 Zk:=by
 refine fK [0,1,2,4,5,10,20] Tryz.func182 Tryz.ntmps182 (AG Gi AH) ?_;rintro w0 O0 ⟨⟨nm,sup,d⟩,l,u⟩ c ⟨⟨-,⟨e,-⟩,-⟩,-⟩ -;simp only[AP]at e;simp only[Zk,AM];repeat'(first|exact a6|apply eS rfl|refine rX c ?_ ?_)
 refine AJ (ι:={k:Nat//k<=sup.length/\(sup.take k).all (λs=>Aa l s)=true}) (λk=>⟨[(1,.p Cj l),(2,.bp 2 [] 0),(5,.p (.int .i64) (k.1:Int))],[(2,.box 65 true [.p T9 nm,.p Cj sup,.p T63 d])]⟩) (λk=>sup.length-k.1) ⟨0,sc⟩ (eW [(2,.nm 2)]) (λk=>?_)
 obtain⟨k,hk,hf⟩:=k;simp only;repeat'(first|exact a6|apply eS rfl|apply AB|refine rX c ?_ ?_|refine rC ?_ ?_<;>intro b<;>try(cases b;done))
 .exact b
 .have a:k<sup.length:=by exact eV
  have h1:JG (nm,sup,d) l=false:=by
   unfold JG;refine ABL.2 λh=>?_;have:=NO.1 h _ (AF sup ByteArray.empty a);rw[b]at this;cases this
  exact fI c [.tmp 4] (by rw[h1];exact eR)
 .have:=e;exact eV
 .have a:k<sup.length:=by exact eV
  refine⟨⟨k+1,O1,?_⟩,a2,AC [(2,.nm 2)] rfl rfl ?_ ?_⟩
  .rw[GJ sup ByteArray.empty _ a,hf];exact b
  .exact eN
  exact eN
 have a:sup.take k=sup:=BY eV;rw[a]at hf;have h1:JG (nm,sup,d) l=true:=hf;exact fI c [.tmp 4] (by rw[h1];exact eR)
def OH (d:List AI):Nat->List AI->Int
 | _,[]=>0
 | k,x :: l=>if BG x.1 false=false then 1 else if Av d x.1<(k:Int) then 4 else OH d (k+1) l
def Cm (d:List AI):Int:=OH d 0 d
theorem L8 (d l:List AI) (h:k<l.length):OH d k (l.drop k)=if BG (l.getD k d0).1 false=false then 1 else if Av d (l.getD k d0).1<(k:Int) then 4 else OH d (k+1) (l.drop (k+1)):=by
 rw[OR h];have e:l.getD k d0=l[k]:=by simp[AS,h]
 rw[e];rfl
def Zl:Ab:={ ins:=[Ez],pre:=λ_=>True,out:=λ(l,_)=>[.p C3 (Cm l)] }
attribute [local go_sem] Zl
theorem A0f:Af Tryz.prog 154 Zl:=by
 refine fK [0,2,3,7,16,25] Tryz.func154 Tryz.ntmps154 (AG o7 (AG L6 AH)) ?_;rintro w0 O0 ⟨l,u⟩ c ⟨⟨e,-⟩,-⟩ -;simp only[AP]at e;simp only[Zl,AM];repeat'(first|exact a6|apply eS rfl|refine rX c ?_ ?_)
 refine AJ (ι:={k:Nat//k<=l.length/\OH l k (l.drop k)=Cm l}) (λk=>⟨[(0,.p Ez l),(3,.p (.int .i64) (k.1:Int))],[]⟩) (λk=>l.length-k.1) ⟨0,GO _,rfl⟩ (eW []) (λk=>?_)
 obtain⟨k,hk,hf⟩:=k;simp only;repeat'(first|exact a6|apply eS rfl|apply AB|refine rX c ?_ ?_|refine rC ?_ ?_<;>intro b<;>try(cases b;done))
 .exact b
 .have a:k<l.length:=by exact eV
  rw[L8 l l a,At b]at hf;exact fI c [.tmp 2] (by rw[<-hf];exact eR)
 .assumption
 .rename_i d;have a:k<l.length:=by exact eV
  rw[L8 l l a,An (by rw[d];simp),At b]at hf;exact fI c [.tmp 2] (by rw[<-hf];exact eR)
 .exact eV
 .rename_i d;have a:k<l.length:=by exact eV
  rw[L8 l l a,An (by rw[d];simp),An (ABh.2 b)]at hf;exact⟨⟨k+1,O1,hf⟩,a2,eW []⟩
 have a:l.drop k=[]:=No eV;rw[a]at hf;exact fI c [.tmp 2] (by rw[<-hf];first|exact eR|refine OC ?_;rfl)
def Sx (d:List AI) (l:List ByteArray):Nat->List ByteArray->Int
 | _,[]=>0
 | k,x :: r=>if Av d x<0 then 5 else if Aa (l.take k) x=true then 4 else Sx d l (k+1) r
def KT (d:List AI):List AI->Int
 | []=>0
 | x :: l=>if Sx d x.2.1 0 x.2.1≠0 then Sx d x.2.1 0 x.2.1 else KT d l
def KU (d:List AI):Int:=KT d d
theorem RC (d:List AI) (l:List ByteArray) (h:k<l.length):Sx d l k (l.drop k)=if Av d (l.getD k ByteArray.empty)<0 then 5 else if Aa (l.take k) (l.getD k ByteArray.empty)=true then 4 else Sx d l (k+1) (l.drop (k+1)):=by
 rw[OR h];have e:l.getD k ByteArray.empty=l[k]:=by simp[AS,h]
 rw[e];rfl
theorem Zm (d l:List AI) (h:k<l.length):KT d (l.drop k)=if Sx d (l.getD k d0).2.1 0 (l.getD k d0).2.1≠0 then Sx d (l.getD k d0).2.1 0 (l.getD k d0).2.1 else KT d (l.drop (k+1)):=by
 rw[OR h];have e:l.getD k d0=l[k]:=by simp[AS,h]
 rw[e];rfl
def TY:Ab:={ ins:=[Ez],pre:=λ_=>True,out:=λ(l,_)=>[.p C3 (KU l)] }
attribute [local go_sem] TY
theorem t5:Af Tryz.prog 155 TY:=by
 refine fK [0,2,3,4,5,9,20,29,37] Tryz.func155 Tryz.ntmps155 (AG Gi (AG L6 AH)) ?_;rintro w0 O0 ⟨l,u⟩ d ⟨⟨h,g⟩,-⟩ -;simp only[AP]at h;simp only[TY,AM];repeat'(first|exact a6|apply eS rfl|refine rX d ?_ ?_)
 refine AJ (ι:={i:Nat//i<=l.length/\KT l (l.drop i)=KU l}) (λi=>⟨[(0,.p Ez l),(3,.p (.int .i64) (i.1:Int))],[]⟩) (λi=>l.length-i.1) ⟨0,GO _,rfl⟩ (eW []) (λi=>?_)
 obtain⟨i,hi,hf⟩:=i;simp only;repeat'(first|exact a6|apply eS rfl|refine rX d ?_ ?_|refine rC ?_ ?_<;>intro b<;>try(cases b;done))
 .exact b
 .have f:i<l.length:=by exact eV
  have j:=g _ (AF l d0 f);have m:(l.getD i d0).2.1.length<=AP:=j.2.1.1;simp only[AP]at m;rw[Zm l l f]at hf;generalize (l.getD i d0).2.1=sup at *;refine AJ (ι:={k:Nat//k<=sup.length/\Sx l sup k (sup.drop k)=Sx l sup 0 sup}) (λk=>⟨[(0,.p Ez l),(3,.p (.int .i64) (i:Int)),(4,.p Cj sup),(5,.p (.int .i64) (k.1:Int))],[]⟩) (λk=>sup.length-k.1) ⟨0,GO _,rfl⟩ (eW []) (λk=>?_)
  obtain⟨k,hk,c⟩:=k;simp only;repeat'(first|exact a6|apply eS rfl|apply AB|refine rX d ?_ ?_|refine rC ?_ ?_<;>intro b<;>try(cases b;done))
  .exact b
  .have a:k<sup.length:=by exact eV
   rw[RC l sup a,At b]at c;rw[<-c,At df]at hf;exact fI d [.tmp 2] (by rw[<-hf];exact eR)
  .exact eV
  .rename_i e;have a:k<sup.length:=by exact eV
   rw[RC l sup a,An (ABh.2 e),At b]at c;rw[<-c,At df]at hf;exact fI d [.tmp 2] (by rw[<-hf];exact eR)
  .exact eV
  .rename_i e;have a:k<sup.length:=by exact eV
   rw[RC l sup a,An (ABh.2 e),An (by rw[b];simp)]at c;exact⟨⟨k+1,O1,c⟩,a2,eW []⟩
  .exact eV
  have a:sup.drop k=[]:=No eV;rw[a]at c;rw[<-c,An (by simp[Sx])]at hf;exact⟨⟨i+1,O1,hf⟩,a2,eW []⟩
 have a:l.drop i=[]:=No eV;rw[a]at hf;exact fI d [.tmp 2] (by rw[<-hf];first|exact eR|refine OC ?_;rfl)
end
section
attribute [local go_sem] OG Zk JF Zh
theorem Ep {α:Type} (g:X->α->X) (l:List α) (d:α) (t:X) {i:Nat} (hi:i<l.length):(l.take (i+1)).foldl g t=g ((l.take i).foldl g t) (l.getD i d):=by
 rw[Ay l d hi,ABz];rfl
theorem L9 (l:List ByteArray) (s:ByteArray):(Ds l s).length<=l.length+1:=by
 unfold Ds;split
 .omega
 have:=A68 (λx=>CF x s) l;have a:Wy l s<=l.length:=this;simp only[IS,Of,ABv,nO];omega
def AO (l:List AI):List ByteArray:=l.foldl (λo x=>Ds o x.1) []
theorem Dt (l:List AI) (k:Nat):(AO (l.take k)).length<=k:=by
 have key:∀(l:List AI) (o:List ByteArray),(l.foldl (λo x=>Ds o x.1) o).length<=o.length+l.length:=by
  intro l;induction l with
  | nil=>intro o;simp
  | cons x l b =>
   intro o;have h1:=b (Ds o x.1);have a:=L9 o x.1;simp only[ON,Is];omega
 have h1:=key (l.take k) [];have a:=AAY k l;unfold AO;simp only[AAt]at h1;omega
def Pd:Ab:={ ins:=[Ez],pre:=λ(l,_)=>List.length l<=100000,out:=λ(l,_)=>[.p Cj (AO l)] }
attribute [local go_sem] Pd
theorem X0:Af Tryz.prog 112 Pd:=by
 refine fK [0,2,3,4,8] Tryz.func112 Tryz.ntmps112 (AG Q8 AH) ?_;rintro w0 O0 ⟨l,u⟩ a-d;have d:l.length<=100000:=d;simp only[Pd,AM];repeat'(first|exact a6|apply eS rfl|refine rX a ?_ ?_)
 refine AJ (ι:={k:Nat//k<=l.length}) (λk=>⟨[(0,.p Ez l),(3,.p Cj (AO (l.take k.1))),(4,.p (.int .i64) (k.1:Int))],[]⟩) (λk=>l.length-k.1) ⟨0,GO _⟩ (AC [] rfl rfl ?_ ?_) (λk=>?_)
 .exact eN
 .refine eM ?_;rfl
 obtain⟨k,hk⟩:=k;have hn:=Dt l k;have hs:=λh:k<l.length=>Ep (λ(o:List ByteArray) (x:AI)=>Ds o x.1) l d0 [] h;simp only;repeat'(first|exact a6|apply eS rfl|apply AB|refine rX a ?_ ?_|refine rC ?_ ?_<;>intro c<;>try(cases c;done))
 .exact⟨c,O1⟩
 .exact eV
 .have b:k<l.length:=by exact eV
  have e:=hs b;refine⟨⟨k+1,O1⟩,a2,AC [] rfl rfl ?_ ?_⟩
  .exact eN
  simp only;have e:AO (l.take (k+1))=Ds (AO (l.take k)) (l.getD k d0).1:=e;rw[e];exact eN
 have b:l.take k=l:=BY eV;rw[b];exact fI a [.tmp 2]
def Il (out:List ByteArray) (s:Bool×ByteArray) (x:AI):Bool×ByteArray :=
 if (Aa out x.1||!JG x out)=true then s else (true,if (!s.1||CF x.1 s.2)=true then x.1 else s.2)
def H0 (d:List AI) (out:List ByteArray):Bool×ByteArray:=d.foldl (Il out) (false,ByteArray.empty)
def Im (d:List AI):Nat->List ByteArray->List ByteArray
 | 0,out=>out
 | n+1,out=>if (H0 d out).1=true then Im d n (out++[(H0 d out).2]) else out
def Bm (d:List AI):List ByteArray:=Im d d.length []
def H1 (d:List AI) (out:List ByteArray):Nat:=d.countP λx=>!Aa out x.1
theorem B9 (s:ByteArray):AK s s=true:=by unfold AK;simp
theorem OI (out:List ByteArray) (s x:ByteArray):Aa (out++[s]) x=(Aa out x||AK s x):=by
 unfold Aa;simp[AC8]
theorem t6 (d:List AI) (out:List ByteArray) (h:(H0 d out).1=true):∃x∈d,x.1=(H0 d out).2/\Aa out x.1=false:=by
 have key:∀(l:List AI) (s:Bool×ByteArray),(∀x∈l,x∈d)->(s.1=true->∃x∈d,x.1=s.2/\Aa out x.1=false)->(l.foldl (Il out) s).1=true ->
   ∃x∈d,x.1=(l.foldl (Il out) s).2/\Aa out x.1=false:=by
  intro l;induction l with
  | nil=>intro s _ hs h;exact hs h
  | cons y l i =>
   intro s e hs h;rw[ON]at h ⊢;refine i _ (λx f=>e x (by simp[f])) (λb=>?_) h;unfold Il at b ⊢;split
   .rename_i a;rw[At a]at b;exact hs b
   rename_i a;simp only;have g:Aa out y.1=false:=by
    cases hh:Aa out y.1 with
    | false=>rfl
    | true=>rw[hh]at a;simp at a
   split
   .exact⟨y,e y sc,rfl,g⟩
   rename_i c;have:s.1=true:=by
    cases hh:s.1 with
    | true=>rfl
    | false=>rw[hh]at c;simp at c
   exact hs this
 exact key d _ (λ_ h=>h) (λh=>by cases h) h
theorem d9 {d:List AI} {out:List ByteArray} (h:(H0 d out).1=true):H1 d (out++[(H0 d out).2])<H1 d out:=by
 obtain⟨x,e,h1,c⟩:=t6 d out h;generalize (H0 d out).2=s at *;unfold H1;have key:∀l:List AI,(l.countP λy=>!Aa (out++[s]) y.1)<=l.countP λy=>!Aa out y.1:=by
  intro l;refine List.countP_mono_left λy _ a=>?_;rw[OI]at a;cases hh:Aa out y.1 with
  | false=>rfl
  | true=>rw[hh]at a;simp at a
 obtain⟨f,g,rfl⟩:=List.append_of_mem e;rw[ACS,ACS,ABR,ABR];have i:=key f;have j:=key g;have b:Aa (out++[s]) x.1=true:=by rw[OI,h1,B9,Bool.or_true]
 rw[b,c];simp only[Bool.not_true,ACx,ABa];simp only[ABl,ABs];omega
def Zn:Ab:={ ins:=[Ez],pre:=λ(l,_)=>List.length l<=100000,out:=λ(l,_)=>[.p Cj (Bm l)] }
theorem t7:Af Tryz.prog 156 Zn:=by
 refine fK [0,2,3,4,5,6,7,11,29,40,46] Tryz.func156 Tryz.ntmps156 (AG Gi (AG A0e AH)) ?_;rintro w0 O0 ⟨d,u⟩ j-r;have r:d.length<=100000:=r;simp only[Zn,AM];repeat'(first|exact a6|apply eS rfl|refine rX j ?_ ?_)
 refine AJ (ι:={x:Nat×List ByteArray×Bool//x.1+x.2.1.length<=d.length/\(x.2.2=true->H1 d x.2.1<=x.1/\Im d x.1 x.2.1=Bm d)/\(x.2.2=false->x.2.1=Bm d)}) (λx=>⟨[(0,.p Ez d),(3,.sr 50 T9 0 x.1.2.1.length),(4,.p .bool x.1.2.2)],[(50,.arr 9 T9 x.1.2.1)]⟩) (λx=>(if x.1.2.2=true then x.1.1+1 else 0)) ⟨(d.length,[],true),sc,λ_=>⟨List.countP_le_length,rfl⟩,λh=>by cases h⟩ (eW [(50,.nil)]) (λx=>?_)
 obtain⟨⟨n,out,D⟩,s,t,v⟩:=x;simp only at s t v;simp only;repeat'(first|exact a6|apply eS rfl|refine rX j ?_ ?_|refine rC ?_ ?_<;>intro a<;>try(cases a;done))
 .subst a;obtain⟨hu,w⟩:=t rfl;have C:({ data:=#[] }:ByteArray).size<=AP:=by decide
  rw[At C];refine AJ (ι:={y:Nat×Bool×ByteArray//y.1<=d.length/\(d.take y.1).foldl (Il out) (false,ByteArray.empty)=y.2}) (λy=>⟨[(0,.p Ez d),(3,.sr 50 T9 0 out.length),(4,.p .bool y.1.2.1),(5,.p T9 y.1.2.2),(6,.p (.int .i64) (y.1.1:Int))],[(50,.arr 9 T9 out)]⟩) (λy=>d.length-y.1.1) ⟨(0,false,ByteArray.empty),sc,rfl⟩ (AC [(50,.nm 50)] rfl rfl ?_ ?_) (λy=>?_)
  .exact eN
  .refine eM ?_;rfl
  obtain⟨⟨k,z,b⟩,hk,c⟩:=y;simp only at hk c;have q:∀h:k<d.length,(d.take (k+1)).foldl (Il out) (false,ByteArray.empty)=Il out (z,b) (d.getD k d0):=λh=>by
   rw[Ep (Il out) d d0 _ h,c]
  simp only;repeat'(first|exact a6|apply eS rfl|apply AB|refine rX j ?_ ?_|refine rC ?_ ?_<;>intro a<;>try(cases a;done))
  .exact⟨a,λ_=>a⟩
  .exact eV
  .have g:k<d.length:=by exact eV
   refine⟨⟨(k+1,z,b),a2,?_⟩,a2,AC [(50,.nm 50)] rfl rfl ?_ ?_⟩
   .simp only;rw[q g];unfold Il;rw[At];rw[AA4,gO];exact a
   .exact eN
   exact eN
  .exact λ_=>by assumption
  .assumption
  .exact eV
  .rename_i f;have g:k<d.length:=by exact eV
   refine⟨⟨(k+1,true,(d.getD k d0).1),a2,?_⟩,a2,AC [(50,.nm 50)] rfl rfl ?_ ?_⟩
   .simp only;rw[q g];unfold Il;rw[An (by rw[f.1,f.2];simp),At (by rw[AA4,gO];exact a)]
   .exact eN
   exact eN
  .exact eV
  .rename_i f;have g:k<d.length:=by exact eV
   refine⟨⟨(k+1,true,b),a2,?_⟩,a2,AC [(50,.nm 50)] rfl rfl ?_ ?_⟩
   .simp only;rw[q g];unfold Il;rw[An (by rw[f.1,f.2];simp),An (by rw[AA4,gO];rintro (h|h)<;>simp_all)]
   .exact eN
   exact eN
  .simp only[AP];dsimp only[Ty.den]at *;omega
  .subst a;have l:d.take k=d:=BY eV;rw[l]at c;have i:H0 d out=(true,b):=c;have m:=d9 (d:=d) (out:=out) (by rw[i]);rw[i]at m;obtain⟨e,rfl⟩:∃e,n=e+1:=⟨n-1,O1⟩;have o:Im d e (out++[b])=Bm d:=by
    rw[<-w];show _=if (H0 d out).1=true then Im d e (out++[(H0 d out).2]) else out
    rw[i,At rfl]
   have m:H1 d (out++[b])<H1 d out:=m;have B:H1 d (out++[b])<=e:=by omega
   exact⟨⟨(e,out++[b],true),by simp only[IS,nO];omega,λ_=>⟨B,o⟩,λh=>by cases h⟩,sc,eW [(50,.nm 50)]⟩
  subst a;have l:d.take k=d:=BY eV;rw[l]at c;have i:H0 d out=(false,b):=c;have o:out=Bm d:=by
   rw[<-w];cases n with
   | zero=>rfl
   | succ n =>
    show _=if (H0 d out).1=true then Im d n (out++[(H0 d out).2]) else out
    rw[i,An sc]
  exact⟨⟨(n,out,false),s,(λh=>by cases h),λ_=>o⟩,sc,eW [(50,.nm 50)]⟩
 subst a;have A:=v rfl;rw[A];refine C9 [50] ?_;exact fI j [.tmp 2]
end
section
attribute [local go_sem] Zj Zl TY Zn
def H2 (d:List AI):Nat:=d.countP λx=>x.2.1.length==0
theorem eA (d:List AI) (h:k<d.length):H2 (d.take (k+1))=H2 (d.take k)+if ((d.getD k d0).2.1.length==0)=true then 1 else 0:=by
 unfold H2;rw[Ay d d0 h,ACS,ABR,List.countP_nil];omega
theorem t8 (d:List AI):H2 d<=d.length:=List.countP_le_length
def BB (d:List AI):Int :=
 if E0 d≠0 then E0 d else if Cm d≠0 then Cm d else if KU d≠0 then KU d else if H2 d≠1 then 1 else if (Bm d).length<d.length then 6 else 0
theorem SR {d:List AI} (h:E0 d=0):d.length<=256:=by
 unfold E0 at h;split at h
 .cases h
 omega
def TZ:Ab:={ ins:=[Ez],pre:=λ_=>True,out:=λ(l,_)=>[.p C3 (BB l)] }
attribute [local go_sem] TZ
theorem t9:Af Tryz.prog 111 TZ:=by
 refine fK [0,2,3,4,5,6,7,11,16,21,26,35,39,45] Tryz.func111 Tryz.ntmps111 (AG A0d (AG A0f (AG t5 (AG t7 AH)))) ?_;rintro w0 O0 ⟨d,u⟩ c - -;simp only[TZ,AM];repeat'(first|exact a6|apply eS rfl|refine rX c ?_ ?_|refine rC ?_ ?_<;>intro a<;>try(cases a;done))
 .have h1:BB d=E0 d:=by unfold BB;rw[At a]
  exact fI c [.tmp 2] (by rw[h1];exact eR)
 .rename_i hs;have hs:E0 d=0:=by simpa using hs
  have h1:BB d=Cm d:=by unfold BB;rw[An (by rw[hs];simp),At a]
  exact fI c [.tmp 2] (by rw[h1];exact eR)
 .rename_i hs hn;have hs:E0 d=0:=by simpa using hs
  have hn:Cm d=0:=by simpa using hn
  have h1:BB d=KU d:=by unfold BB;rw[An (by rw[hs];simp),An (by rw[hn];simp),At a]
  exact fI c [.tmp 2] (by rw[h1];exact eR)
 rename_i hs hn;have hs:E0 d=0:=by simpa using hs
 have hn:Cm d=0:=by simpa using hn
 have hu:KU d=0:=by simpa using a
 have i:=SR hs;have h1:BB d=if H2 d≠1 then 1 else if (Bm d).length<d.length then 6 else 0:=by
  unfold BB;rw[An (by rw[hs];simp),An (by rw[hn];simp),An (by rw[hu];simp)]
 refine AJ (ι:={k:Nat//k<=d.length}) (λk=>⟨[(0,.p Ez d),(6,.p (.int .i64) (H2 (d.take k.1):Int)),(7,.p (.int .i64) (k.1:Int))],[]⟩) (λk=>d.length-k.1) ⟨0,GO _⟩ (AC [] rfl rfl ?_ ?_) (λk=>?_)
 .exact eN
 .refine eM ?_;rfl
 obtain⟨k,hk⟩:=k;have j:=t8 (d.take k);have l:=AAY k d;have g:=λh:k<d.length=>eA d h;simp only;repeat'(first|exact a6|apply eS rfl|apply AB|refine rX c ?_ ?_|refine rC ?_ ?_<;>intro a<;>try(cases a;done))
 .exact a
 .exact eV
 .exact eV
 .have b:k<d.length:=by exact eV
  have e:=g b;rw[At (by rw[AAh];exact Int.ofNat_eq_zero.1 a)]at e;refine⟨⟨k+1,O1⟩,a2,AC [] rfl rfl ?_ ?_⟩
  .exact eN
  simp only[e];exact eN
 .exact eV
 .have b:k<d.length:=by exact eV
  have e:=g b;rw[An (by rw[AAh];exact λh=>a (Int.ofNat_eq_zero.2 h))]at e;refine⟨⟨k+1,O1⟩,a2,AC [] rfl rfl ?_ ?_⟩
  .exact eN
  simp only[e];exact eN
 .have b:d.take k=d:=BY eV;rw[b]at a;rw[At (λh=>a (by rw[h];rfl))]at h1;exact fI c [.tmp 2] (by rw[h1];exact eR)
 .show d.length<=100000;omega
 .rename_i f;have b:d.take k=d:=BY eV;rw[b]at f;have f:(H2 d:Int)=1:=by simpa using f
  rw[An O1,At (aT.1 a)]at h1;exact fI c [.tmp 2] (by rw[h1];exact eR)
 rename_i f;have b:d.take k=d:=BY eV;rw[b]at f;have f:(H2 d:Int)=1:=by simpa using f
 rw[An O1,An (λh=>absurd (AAf.1 a) (Nat.not_le.2 h))]at h1;exact fI c [.tmp 2] (by rw[h1];exact eR)
end
section
attribute [local go_sem] OG JF Zh
def Jh (o:List ByteArray) (s:ByteArray):List ByteArray:=if Aa o s=true then o else o++[s]
def MA (d:List AI) (s:ByteArray):List ByteArray:=(d.getD (Av d s).toNat d0).2.1
def H3 (d:List AI):Nat->Nat->List ByteArray->List ByteArray
 | 0,_,o=>o
 | n+1,i,o=>if i<o.length then H3 d n (i+1) ((MA d (o.getD i ByteArray.empty)).foldl Jh o) else o
def Ji (l:List ByteArray):List ByteArray:=l.foldl Ds []
theorem X2 (l:List ByteArray):(Ji l).length<=l.length:=by
 have key:∀(l o:List ByteArray),(l.foldl Ds o).length<=o.length+l.length:=by
  intro l;induction l with
  | nil=>intro o;simp
  | cons x l a =>
   intro o;have h1:=a (Ds o x);have b:=L9 o x;simp only[ON,Is];omega
 have:=key l [];simpa[Ji] using this
def KV (d:List AI) (s:ByteArray):List ByteArray:=if Av d s<0 then [] else Ji (H3 d d.length 0 [s])
def Pe (d:List AI):Prop:=∀x∈d,∀s∈x.2.1,0<=Av d s
theorem X3 (s:ByteArray):∀(l:List AI) (k:Nat),Cy s k l=-1\/((k:Int)<=Cy s k l/\Cy s k l<(k:Int)+l.length/\AK (l.getD ((Cy s k l).toNat-k) d0).1 s=true)
 | [],_=>.inl rfl
 | x :: l,k=>by
  simp only[Cy];split
  .rename_i h;right;refine⟨O1,by simp only[Is];omega,?_⟩;have:((k:Int).toNat-k)=0:=by omega
   rw[this];exact h
  rcases X3 s l (k+1) with h|⟨h1,b,a⟩
  .exact .inl h
  right;refine⟨O1,by simp only[Is];omega,?_⟩;have:((Cy s (k+1) l).toNat-k)=((Cy s (k+1) l).toNat-(k+1))+1:=by omega
  rw[this];exact a
theorem DI (d:List AI) (s:ByteArray):Av d s<0\/(0<=Av d s/\Av d s<(d.length:Int)/\AK (d.getD (Av d s).toNat d0).1 s=true):=by
 rcases X3 s d 0 with h|⟨h1,a,b⟩
 .left;show Cy s 0 d<0;omega
 have a:Av d s<((0:Nat):Int)+d.length:=a;exact .inr ⟨h1,O1,b⟩
theorem Eq {a b:ByteArray}:AK a b=true↔a.toList=b.toList:=by unfold AK;simp
theorem Bv {a b:ByteArray} (h:AK a b=true):AK b a=true:=Eq.2 (Eq.1 h).symm
theorem BP {a b c:ByteArray} (h:AK a b=true) (g:AK b c=true):AK a c=true:=Eq.2 ((Eq.1 h).trans (Eq.1 g))
structure Zo (d:List AI) (o:List ByteArray):Prop where
 decl:∀s∈o,0<=Av d s
 nd:o.Pairwise λa b=>AK a b=false
theorem KW (d:List AI):∀ {o:List ByteArray},Zo d o->(o.map λs=>(Av d s).toNat).Nodup
 | [],_=>by simp
 | s :: o,h=>by
  rw[oR,AAF];have c:=AAv.1 h.nd;refine⟨λi=>?_,KW d ⟨λx a=>h.decl x (by simp[a]),c.2⟩⟩;obtain⟨x,a,e⟩:=Do.1 i;have h1:=h.decl s sc;have j:=h.decl x (by simp[a]);rcases DI d s with g|⟨_,_,f⟩
  .omega
  rcases DI d x with g|⟨_,_,b⟩
  .omega
  rw[e]at b;have:=c.1 x a;rw[BP (Bv f) b]at this;cases this
theorem Zo.len {d:List AI} (h:Zo d o):o.length<=d.length:=by
 have:=DC d.length (o.map λs=>(Av d s).toNat) (KW d h) (λj a=>by
  obtain⟨s,hs,rfl⟩:=Do.1 a;have h1:=h.decl s hs;rcases DI d s with g|⟨_,g,_⟩<;>omega)
 simpa using this
theorem Pf (h:Aa o s=false):∀x∈o,AK x s=false:=λx a=>by
 cases hh:AK x s with
 | false=>rfl
 | true=>exact absurd h (by rw[show Aa o s=true from bY.2 ⟨x,a,hh⟩];simp)
theorem pA {d:List AI} (h:Zo d o) (hs:0<=Av d s):Zo d (Jh o s):=by
 unfold Jh;split
 .exact h
 rename_i e;have e:Aa o s=false:=by simpa using e
 refine⟨λx c=>?_,?_⟩
 .rcases IN.1 c with c|c
  .exact h.decl x c
  have:x=s:=by simpa using c
  rw[this];exact hs
 rw[ABW];refine⟨h.nd,sc,λa ha b f=>?_⟩;have:b=s:=by simpa using f
 rw[this];exact Pf e a ha
theorem eB {d:List AI}:∀ {l o:List ByteArray},(∀s∈l,0<=Av d s)->Zo d o->Zo d (l.foldl Jh o)/\o.length<=(l.foldl Jh o).length
 | [],o,_,h=>⟨h,OS _⟩
 | s :: l,o,a,h=>by
  obtain⟨b,c⟩:=eB (l:=l) (λx e=>a x (by simp[e])) (pA h (a s sc));refine⟨b,aS ?_ c⟩;unfold Jh;split<;>simp
theorem eC {d:List AI} (b:Pe d) (s:ByteArray):∀x∈MA d s,0<=Av d x:=by
 intro x a;unfold MA at a;by_cases h:(Av d s).toNat<d.length
 .exact b _ (AF d d0 h) x a
 rw[AS,oN O1]at a;cases a
def kZ:Ab:={ ins:=[Ez,T9],pre:=λ(d,_,_)=>Pe d/\List.length d<=256,out:=λ(d,s,_)=>[.p Cj (KV d s)] }
theorem A0g:Af Tryz.prog 184 kZ:=by
 refine fK [0,1,4,5,6,7,8,9,10,14,20,36,45,56] Tryz.func184 Tryz.ntmps184 (AG L6 (AG Gi (AG Q8 AH))) ?_;rintro w0 O0 ⟨d,s,u⟩ b ⟨⟨Q,G⟩,-⟩ ⟨O,z⟩;have z:d.length<=256:=z;simp only[kZ,AM];repeat'(first|exact a6|apply eS rfl|refine rX b ?_ ?_|refine rC ?_ ?_<;>intro a<;>try(cases a;done))
 .have h1:KV d s=[]:=by unfold KV;rw[At a]
  exact fI b [.tmp 4] (by rw[h1];exact eR)
 have h1:KV d s=Ji (H3 d d.length 0 [s]):=by unfold KV;rw[An (ABh.2 a)]
 have F:Zo d [s]:=⟨λx y=>by
  have:x=s:=by simpa using y
  rw[this];exact a,sc⟩
 refine AJ (ι:={x:Nat×List ByteArray//x.1<=x.2.length/\Zo d x.2/\H3 d (d.length-x.1) x.1 x.2=H3 d d.length 0 [s]}) (λx=>⟨[(0,.p Ez d),(1,.p T9 s),(5,.sr 16 T9 0 x.1.2.length),(6,.p (.int .i64) (x.1.1:Int))],[(16,.arr 9 T9 x.1.2)]⟩) (λx=>d.length-x.1.1) ⟨(0,[s]),sc,F,rfl⟩ (eW [(16,.nm 16)]) (λx=>?_)
 obtain⟨⟨i,o⟩,hi,c,t⟩:=x;simp only at hi c t;have U:=c.len;simp only;repeat'(first|exact a6|apply eS rfl|refine rX b ?_ ?_|refine rC ?_ ?_<;>intro a<;>try(cases a;done))
 .have q:i<o.length:=by exact eV
  have A:=c.decl _ (AF o ByteArray.empty q);refine⟨a,A,?_⟩;rcases DI d (o.getD i ByteArray.empty) with g|⟨_,g,_⟩
  .omega
  exact g
 .have q:i<o.length:=by exact eV
  have A:=c.decl _ (AF o ByteArray.empty q);have K:=eC O (o.getD i ByteArray.empty);have C:H3 d (d.length-(i+1)) (i+1) ((MA d (o.getD i ByteArray.empty)).foldl Jh o)=H3 d d.length 0 [s]:=by
   rw[<-t];obtain⟨m,B⟩:∃m,d.length-i=m+1:=⟨d.length-i-1,O1⟩;have H:d.length-(i+1)=m:=by omega
   rw[B,H];show _=if i<o.length then H3 d m (i+1) ((MA d (o.getD i ByteArray.empty)).foldl Jh o) else o
   rw[At q]
  have M:(MA d (o.getD i ByteArray.empty)).length<=AP:=by
   rcases DI d (o.getD i ByteArray.empty) with g|⟨_,g,_⟩
   .omega
   exact(G _ (AF d d0 (k:=(Av d (o.getD i ByteArray.empty)).toNat) O1)).2.1.1
  have N:(List.getD d (Av d (o.getD i ByteArray.empty)).toNat (ByteArray.empty,[],[])).2.1=MA d (o.getD i ByteArray.empty):=rfl;rw[N];generalize MA d (o.getD i ByteArray.empty)=sup at *;simp only[AP]at M;refine AJ (ι:={k:Nat//k<=sup.length}) (λk=>⟨[(0,.p Ez d),(1,.p T9 s),(5,.sr 16 T9 0 ((sup.take k.1).foldl Jh o).length),(6,.p (.int .i64) (i:Int)),(7,.p Cj sup),(8,.p (.int .i64) (k.1:Int))],[(16,.arr 9 T9 ((sup.take k.1).foldl Jh o))]⟩) (λk=>sup.length-k.1) ⟨0,GO _⟩ (AC [(16,.nm 16)] rfl rfl ?_ ?_) (λk=>?_)
  .refine eM ?_;rfl
  .refine eM ?_;rfl
  obtain⟨k,hk⟩:=k;have w:=eB (l:=sup.take k) (o:=o) (λx y=>K x (AAC y)) c;have S:=w.1.len;have E:=λh:k<sup.length=>Ep Jh sup ByteArray.empty o h;simp only;generalize D:(sup.take k).foldl Jh o=n at *;repeat'(first|exact a6|apply eS rfl|apply AB|refine rX b ?_ ?_|refine rC ?_ ?_<;>intro a<;>try(cases a;done))
  .exact a
  .refine⟨eV,?_⟩;simp only[AP];dsimp only[Ty.den]at *;omega
  .exact eV
  .have f:k<sup.length:=by exact eV
   have e:=E f;have r:Jh n (sup.getD k ByteArray.empty)=n++[sup.getD k ByteArray.empty]:=by unfold Jh;rw[An (by rw[a];simp)]
   rw[r]at e;refine⟨⟨k+1,O1⟩,a2,AC [(16,.nm 16)] rfl rfl ?_ ?_⟩
   .simp only[e];exact eN
   simp only[e];exact eN
  .exact eV
  .have f:k<sup.length:=by exact eV
   have e:=E f;have r:Jh n (sup.getD k ByteArray.empty)=n:=by unfold Jh;rw[At a]
   rw[r]at e;refine⟨⟨k+1,O1⟩,a2,AC [(16,.nm 16)] rfl rfl ?_ ?_⟩
   .simp only[e];exact eN
   simp only[e];exact eN
  .exact eV
  have f:sup.take k=sup:=BY eV;rw[f]at D;rw[D]at C;have J:=w.1;have T:=w.2;exact⟨⟨(i+1,n),a2,J,C⟩,a2,eW [(16,.nm 16)]⟩
 have I:o=H3 d d.length 0 [s]:=by
  rw[<-t];cases B:d.length-i with
  | zero=>rfl
  | succ m =>
   show _=if i<o.length then _ else o
   rw[An eV]
 rw[<-I]at h1;refine AJ (ι:={j:Nat//j<=o.length}) (λj=>⟨[(0,.p Ez d),(5,.sr 16 T9 0 o.length),(9,.p Cj ((o.take j.1).foldl Ds [])),(10,.p (.int .i64) (j.1:Int))],[(16,.arr 9 T9 o)]⟩) (λj=>o.length-j.1) ⟨0,GO _⟩ (AC [(16,.nm 16)] rfl rfl ?_ ?_) (λj=>?_)
 .exact eN
 .refine eM ?_;rfl
 obtain⟨j,R⟩:=j;have L:=λh:j<o.length=>Ep Ds o ByteArray.empty [] h;simp only;repeat'(first|exact a6|apply eS rfl|apply AB|refine rX b ?_ ?_|refine rC ?_ ?_<;>intro a<;>try(cases a;done))
 .refine⟨a,?_⟩;have:=X2 (o.take j);have P:=AAY j o;unfold Ji at this;dsimp only[Ty.den]at *;omega
 .exact eV
 .have v:j<o.length:=by exact eV
  have e:=L v;refine⟨⟨j+1,O1⟩,a2,AC [(16,.nm 16)] rfl rfl ?_ ?_⟩
  .exact eN
  simp only[e];exact eN
 have v:o.take j=o:=BY eV;rw[v];exact fI b [.tmp 4] (by rw[h1];unfold Ji;exact eR)
end
section
attribute [local go_sem] OG JF Zh
def E8 (s:ByteArray) (o:List ByteArray) (x:AI):List ByteArray:=if (Aa x.2.1 s&&!Aa o x.1)=true then o++[x.1] else o
def Cn (d:List AI):Nat->Nat->List ByteArray->List ByteArray
 | 0,_,o=>o
 | n+1,i,o=>if i<o.length then Cn d n (i+1) (d.foldl (E8 (o.getD i ByteArray.empty)) o) else o
def Co (d:List AI) (s:ByteArray):List ByteArray:=if Av d s<0 then [] else Ji (Cn d d.length 0 [s])
theorem VG (s:ByteArray):∀(l:List AI) (k:Nat) (x:AI),x∈l->AK x.1 s=true->0<=Cy s k l
 | y :: l,k,x,a,h=>by
  simp only[Cy];split
  .omega
  rename_i b;rcases By.1 a with rfl|a
  .exact absurd h b
  exact VG s l (k+1) x a h
theorem DQ {d:List AI} {x:AI} (a:x∈d):0<=Av d x.1:=VG x.1 d 0 x a (B9 _)
theorem A41 {d:List AI} (h:Zo d o) (s:ByteArray) {x:AI} (b:x∈d):Zo d (E8 s o x):=by
 unfold E8;split
 .rename_i a;rw[AT,gO]at a;have:=pA h (DQ b);unfold Jh at this
  rwa [An (by rw[a.2];simp)]at this
 exact h
theorem VH {d:List AI} (s:ByteArray):∀ {l:List AI} {o:List ByteArray},(∀x∈l,x∈d)->Zo d o->Zo d (l.foldl (E8 s) o)/\o.length<=(l.foldl (E8 s) o).length
 | [],o,_,h=>⟨h,OS _⟩
 | x :: l,o,a,h=>by
  obtain⟨b,c⟩:=VH s (l:=l) (λy e=>a y (by simp[e])) (A41 h s (a x sc));refine⟨b,aS ?_ c⟩;unfold E8;split<;>simp
theorem RD (s:ByteArray) {i:Nat}:∀ {l:List AI} {o:List ByteArray},i<o.length->(l.foldl (E8 s) o).getD i ByteArray.empty=o.getD i ByteArray.empty
 | [],_,_=>rfl
 | x :: l,o,h=>by
  have a:i<(E8 s o x).length/\(E8 s o x).getD i ByteArray.empty=o.getD i ByteArray.empty:=by
   unfold E8;split
   .refine⟨by rw[IS];omega,?_⟩;simp only[AS];rw[AAn h]
   exact⟨h,rfl⟩
  rw[ON,RD s a.1,a.2]
def Zp:Ab:={ ins:=[Ez,T9],pre:=λ(d,_,_)=>List.length d<=256,out:=λ(d,s,_)=>[.p Cj (Co d s)] }
attribute [local go_sem] Zp
theorem A0h:Af Tryz.prog 157 Zp:=by
 refine fK [0,1,4,5,6,7,8,9,13,19,25,47,59] Tryz.func157 Tryz.ntmps157 (AG L6 (AG Gi (AG Q8 AH))) ?_;rintro w0 O0 ⟨d,s,u⟩ b-y;have y:d.length<=256:=y;simp only[Zp,AM];repeat'(first|exact a6|apply eS rfl|refine rX b ?_ ?_|refine rC ?_ ?_<;>intro a<;>try(cases a;done))
 .have h1:Co d s=[]:=by unfold Co;rw[At a]
  exact fI b [.tmp 4] (by rw[h1];exact eR)
 have h1:Co d s=Ji (Cn d d.length 0 [s]):=by unfold Co;rw[An (ABh.2 a)]
 have F:Zo d [s]:=⟨λx v=>by
  have:x=s:=by simpa using v
  rw[this];exact a,sc⟩
 refine AJ (ι:={x:Nat×List ByteArray//x.1<=x.2.length/\Zo d x.2/\Cn d (d.length-x.1) x.1 x.2=Cn d d.length 0 [s]}) (λx=>⟨[(0,.p Ez d),(5,.sr 15 T9 0 x.1.2.length),(6,.p (.int .i64) (x.1.1:Int))],[(15,.arr 9 T9 x.1.2)]⟩) (λx=>d.length-x.1.1) ⟨(0,[s]),sc,F,rfl⟩ (eW [(15,.nm 15)]) (λx=>?_)
 obtain⟨⟨i,o⟩,hi,q,r⟩:=x;simp only at hi q r;have P:=q.len;simp only;repeat'(first|exact a6|apply eS rfl|refine rX b ?_ ?_|refine rC ?_ ?_<;>intro a<;>try(cases a;done))
 .have z:i<o.length:=by exact eV
  have B:Cn d (d.length-(i+1)) (i+1) (d.foldl (E8 (o.getD i ByteArray.empty)) o)=Cn d d.length 0 [s]:=by
   rw[<-r];obtain⟨m,A⟩:∃m,d.length-i=m+1:=⟨d.length-i-1,O1⟩;have G:d.length-(i+1)=m:=by omega
   rw[A,G];show _=if i<o.length then Cn d m (i+1) (d.foldl (E8 (o.getD i ByteArray.empty)) o) else o
   rw[At z]
  refine AJ (ι:={k:Nat//k<=d.length}) (λk=>⟨[(0,.p Ez d),(5,.sr 15 T9 0 ((d.take k.1).foldl (E8 (o.getD i ByteArray.empty)) o).length),(6,.p (.int .i64) (i:Int)),(7,.p (.int .i64) (k.1:Int))],[(15,.arr 9 T9 ((d.take k.1).foldl (E8 (o.getD i ByteArray.empty)) o))]⟩) (λk=>d.length-k.1) ⟨0,GO _⟩ (AC [(15,.nm 15)] rfl rfl ?_ ?_) (λk=>?_)
  .refine eM ?_;rfl
  .refine eM ?_;rfl
  obtain⟨k,hk⟩:=k;have g:=VH (o.getD i ByteArray.empty) (l:=d.take k) (o:=o) (λx v=>AAC v) q;have N:=g.1.len;have E:=λh:k<d.length=>Ep (E8 (o.getD i ByteArray.empty)) d d0 o h;have D:((d.take k).foldl (E8 (o.getD i ByteArray.empty)) o).getD i ByteArray.empty=o.getD i ByteArray.empty:=RD _ z;simp only;generalize C:(d.take k).foldl (E8 (o.getD i ByteArray.empty)) o=f at *;repeat'(first|exact a6|apply eS rfl|apply AB|refine rX b ?_ ?_|refine rC ?_ ?_<;>intro a<;>try(cases a;done))
  .have M:=g.2;refine⟨a,?_,λ_=>a⟩;dsimp only[Ty.den]at *;omega
  .refine⟨a4,?_⟩;simp only[AP];dsimp only[Ty.den]at *;omega
  .exact eV
  .have c:k<d.length:=by exact eV
   have e:=E c;rw[D]at a;have n:E8 (o.getD i ByteArray.empty) f (d.getD k d0)=f++[(d.getD k d0).1]:=by
    unfold E8;rw[At (by rw[AT,gO];exact a)]
   rw[n]at e;refine⟨⟨k+1,O1⟩,a2,AC [(15,.nm 15)] rfl rfl ?_ ?_⟩
   .simp only[e];exact eN
   simp only[e];exact eN
  .exact eV
  .have c:k<d.length:=by exact eV
   have e:=E c;rw[D]at a;have n:E8 (o.getD i ByteArray.empty) f (d.getD k d0)=f:=by
    unfold E8;rw[An];rw[AT,gO];rintro⟨h1,w⟩;rw[a h1]at w;cases w
   rw[n]at e;refine⟨⟨k+1,O1⟩,a2,AC [(15,.nm 15)] rfl rfl ?_ ?_⟩
   .simp only[e];exact eN
   simp only[e];exact eN
  .exact eV
  have c:d.take k=d:=BY eV;rw[c]at C;rw[C]at B;have I:=g.1;have O:=g.2;exact⟨⟨(i+1,f),a2,I,B⟩,a2,eW [(15,.nm 15)]⟩
 have H:o=Cn d d.length 0 [s]:=by
  rw[<-r];cases A:d.length-i with
  | zero=>rfl
  | succ m =>
   show _=if i<o.length then _ else o
   rw[An eV]
 rw[<-H]at h1;refine AJ (ι:={j:Nat//j<=o.length}) (λj=>⟨[(0,.p Ez d),(5,.sr 15 T9 0 o.length),(8,.p Cj ((o.take j.1).foldl Ds [])),(9,.p (.int .i64) (j.1:Int))],[(15,.arr 9 T9 o)]⟩) (λj=>o.length-j.1) ⟨0,GO _⟩ (AC [(15,.nm 15)] rfl rfl ?_ ?_) (λj=>?_)
 .exact eN
 .refine eM ?_;rfl
 obtain⟨j,L⟩:=j;have J:=λh:j<o.length=>Ep Ds o ByteArray.empty [] h;simp only;repeat'(first|exact a6|apply eS rfl|apply AB|refine rX b ?_ ?_|refine rC ?_ ?_<;>intro a<;>try(cases a;done))
 .refine⟨a,?_⟩;have:=X2 (o.take j);have K:=AAY j o;unfold Ji at this;dsimp only[Ty.den]at *;omega
 .exact eV
 .have t:j<o.length:=by exact eV
  have e:=J t;refine⟨⟨j+1,O1⟩,a2,AC [(15,.nm 15)] rfl rfl ?_ ?_⟩
  .exact eN
  simp only[e];exact eN
 have t:o.take j=o:=BY eV;rw[t];exact fI b [.tmp 4] (by rw[h1];unfold Ji;exact eR)
end
section
attribute [local go_sem] OG Zh kZ JF
def E9 (d:List AI) (o:List ByteArray) (x:ByteArray):List ByteArray:=if 0<=Av d x then Ds o x else o
def Bi (d:List AI) (l:List ByteArray):List ByteArray:=l.foldl (E9 d) []
theorem JH (d:List AI) (l:List ByteArray):(Bi d l).length<=l.length:=by
 have key:∀(l o:List ByteArray),(l.foldl (E9 d) o).length<=o.length+l.length:=by
  intro l;induction l with
  | nil=>intro o;simp
  | cons x l a =>
   intro o;have h1:=a (E9 d o x);have b:(E9 d o x).length<=o.length+1:=by
    unfold E9;split
    .exact L9 o x
    omega
   simp only[ON,Is];omega
 have:=key l [];simpa[Bi] using this
def RE:Ab:={ ins:=[Ez,Cj],pre:=λ(_,l,_)=>List.length l<=100000,out:=λ(d,l,_)=>[.p Cj (Bi d l)] }
attribute [local go_sem] RE
theorem eD:Af Tryz.prog 183 RE:=by
 refine fK [0,1,4,5,6,10,19] Tryz.func183 Tryz.ntmps183 (AG L6 (AG Q8 AH)) ?_;rintro w0 O0 ⟨d,l,u⟩ c-f;have f:l.length<=100000:=f;simp only[RE,AM];repeat'(first|exact a6|apply eS rfl|refine rX c ?_ ?_)
 refine AJ (ι:={k:Nat//k<=l.length}) (λk=>⟨[(0,.p Ez d),(1,.p Cj l),(5,.p Cj (Bi d (l.take k.1))),(6,.p (.int .i64) (k.1:Int))],[]⟩) (λk=>l.length-k.1) ⟨0,GO _⟩ (AC [] rfl rfl ?_ ?_) (λk=>?_)
 .exact eN
 .refine eM ?_;rfl
 obtain⟨k,hk⟩:=k;have hn:=JH d (l.take k);have g:=AAY k l;have hs:=λh:k<l.length=>Ep (E9 d) l ByteArray.empty [] h;simp only;repeat'(first|exact a6|apply eS rfl|apply AB|refine rX c ?_ ?_|refine rC ?_ ?_<;>intro b<;>try(cases b;done))
 .exact b
 .exact⟨a4,O1⟩
 .exact eV
 .have a:k<l.length:=by exact eV
  have e:Bi d (l.take (k+1))=E9 d (Bi d (l.take k)) (l.getD k ByteArray.empty):=hs a;unfold E9 at e;rw[At b]at e;refine⟨⟨k+1,O1⟩,a2,AC [] rfl rfl ?_ ?_⟩
  .exact eN
  simp only[e];exact eN
 .exact eV
 .have a:k<l.length:=by exact eV
  have e:Bi d (l.take (k+1))=E9 d (Bi d (l.take k)) (l.getD k ByteArray.empty):=hs a;unfold E9 at e;rw[An (ADi.2 b)]at e;refine⟨⟨k+1,O1⟩,a2,AC [] rfl rfl ?_ ?_⟩
  .exact eN
  simp only[e];exact eN
 have a:l.take k=l:=BY eV;rw[a];exact fI c [.tmp 4]
def pB (d:List AI) (all:List ByteArray) (i:Nat) (k:Nat):Bool:=(k:Int)==(i:Int)||!Aa (KV d (all.getD i ByteArray.empty)) (all.getD k ByteArray.empty)
def Pg (d:List AI) (all:List ByteArray) (i n:Nat):Bool:=(List.range n).all (pB d all i)
def Ph (d:List AI) (all:List ByteArray) (n:Nat):List ByteArray:=((List.range n).filter λi=>Pg d all i all.length).map λi=>all.getD i ByteArray.empty
def A8 (d:List AI) (l:List ByteArray):List ByteArray:=Ph d (Bi d l) (Bi d l).length
theorem uA (d:List AI) (all:List ByteArray) (n:Nat):Ph d all (n+1)=Ph d all n++if Pg d all n all.length=true then [all.getD n ByteArray.empty] else []:=by
 unfold Ph;rw[AAE,ABF,AAH]
 congr 1
 rw[AAW,ACm];split<;>rfl
theorem eF (d:List AI) (all:List ByteArray) (n:Nat):(Ph d all n).length<=n:=by
 unfold Ph;rw[On];exact aS (AB8 _ _) sc
theorem k5 (d:List AI) (all:List ByteArray) (i n:Nat):Pg d all i (n+1)=(Pg d all i n&&pB d all i n):=by
 unfold Pg;rw[AAE,ACn];simp
def MB:Ab:={ ins:=[Ez,Cj],pre:=λ(d,l,_)=>Pe d/\List.length d<=256/\List.length l<=100000,out:=λ(d,l,_)=>[.p Cj (A8 d l)] }
attribute [local go_sem] MB
theorem VI:Af Tryz.prog 163 MB:=by
 refine fK [0,1,4,5,6,7,8,9,10,17,29,47] Tryz.func163 Tryz.ntmps163 (AG eD (AG A0g (AG Gi AH))) ?_;rintro w0 O0 ⟨d,l,u⟩ c-⟨n,f,g⟩;have f:d.length<=256:=f;have g:l.length<=100000:=g;have m:A8 d l=Ph d (Bi d l) (Bi d l).length:=rfl;have o:=JH d l;simp only[MB,AM];repeat'(first|exact a6|apply eS rfl|refine rX c ?_ ?_)
 .exact g
 rw[m];generalize Bi d l=all at *;refine AJ (ι:={i:Nat//i<=all.length}) (λi=>⟨[(0,.p Ez d),(5,.sr 54 T9 0 (Ph d all i.1).length),(6,.p Cj all),(7,.p (.int .i64) (i.1:Int))],[(54,.arr 9 T9 (Ph d all i.1))]⟩) (λi=>all.length-i.1) ⟨0,GO _⟩ (AC [(54,.nil)] rfl rfl ?_ ?_) (λi=>?_)
 .refine eM ?_;rfl
 .refine eM ?_;rfl
 obtain⟨i,hi⟩:=i;have q:=eF d all i;have b:=uA d all i;simp only;repeat'(first|exact a6|apply eS rfl|refine rX c ?_ ?_|refine rC ?_ ?_<;>intro a<;>try(cases a;done))
 .exact⟨a,n,f⟩
 .have h:i<all.length:=by exact eV
  refine AJ (ι:={k:Nat//k<=all.length}) (λk=>⟨[(0,.p Ez d),(5,.sr 54 T9 0 (Ph d all i).length),(6,.p Cj all),(7,.p (.int .i64) (i:Int)),(8,.p Cj (KV d (all.getD i ByteArray.empty))),(9,.p .bool (Pg d all i k.1)),(10,.p (.int .i64) (k.1:Int))],[(54,.arr 9 T9 (Ph d all i))]⟩) (λk=>all.length-k.1) ⟨0,GO _⟩ (AC [(54,.nm 54)] rfl rfl ?_ ?_) (λk=>?_)
  .exact eN
  .refine eM ?_;rfl
  obtain⟨k,hk⟩:=k;have j:=k5 d all i k;simp only;repeat'(first|exact a6|apply eS rfl|apply AB|refine rX c ?_ ?_|refine rC ?_ ?_<;>intro a<;>try(cases a;done))
  .exact λ_=>a
  .exact eV
  .have e:k<all.length:=by exact eV
   refine⟨⟨k+1,O1⟩,a2,AC [(54,.nm 54)] rfl rfl ?_ ?_⟩
   .exact eN
   simp only[j];unfold pB;exact eN
  .refine⟨a4,?_⟩;simp only[AP];omega
  .exact eV
  .have e:k=all.length:=by exact eV
   subst e;rw[a,At rfl]at b;refine⟨⟨i+1,O1⟩,a2,AC [(54,.nm 54)] rfl rfl ?_ ?_⟩
   .simp only[b];exact eN
   simp only[b];exact eN
  .exact eV
  have e:k=all.length:=by exact eV
  subst e;rw[a,An sc,AAu]at b;refine⟨⟨i+1,O1⟩,a2,AC [(54,.nm 54)] rfl rfl ?_ ?_⟩
  .simp only[b];exact eN
  simp only[b];exact eN
 have h:i=all.length:=by exact eV
 subst h;refine C9 [54] ?_;exact fI c [.tmp 4]
end
section
attribute [local go_sem] KS
def uB (b:List Int) (x:Int):List Int:=b.set (x.tdiv 64).toNat (Cp .or .u64 (b.getD (x.tdiv 64).toNat 0) (ZA .u64 1 (x.tmod 64)))
def wN (l:List Int):List Int:=l.foldl uB (List.replicate 64 0)
def okB (x:Int):Bool:=!(decide (x<0)||decide (4095<x))
def ofF (l:List Int):List Int×Int:=if l.all okB=true then (BS (wN l),0) else ([],2)
theorem Pi (l:List Int):(wN l).length=64:=by
 have key:∀(l b:List Int),(l.foldl uB b).length=b.length:=by
  intro l;induction l with
  | nil=>intro b;rfl
  | cons x l a =>
   intro b;rw[ON,a];simp[uB]
 unfold wN;rw[key];simp
def ofS:Ab:={ ins:=[CH],pre:=λ_=>True,out:=λ(l,_)=>[.p Ba (ofF l).1,.p C3 (ofF l).2] }
theorem A9L:Af Tryz.prog 159 ofS:=by
 refine fK [0,2,3,4,5,10,24] Tryz.func159 Tryz.ntmps159 (AG Mx AH) ?_;rintro w0 O0 ⟨l,u⟩ c ⟨⟨g,-⟩,-⟩ -;simp only[AP]at g;simp only[ofS,AM];repeat'(first|exact a6|apply eS rfl|refine rX c ?_ ?_)
 .simp only[AP];omega
 refine AJ (ι:={k:Nat//k<=l.length/\(l.take k).all okB=true}) (λk=>⟨[(0,.p CH l),(4,.sr 6 Q6 0 (wN (l.take k.1)).length),(5,.p (.int .i64) (k.1:Int))],[(6,.arr 205 Q6 (wN (l.take k.1)))]⟩) (λk=>l.length-k.1) ⟨0,GO _,rfl⟩ (AC [(6,.nm 6)] rfl rfl ?_ ?_) (λk=>?_)
 .refine eM ?_;rfl
 .refine eM ?_;rfl
 obtain⟨k,hk,hf⟩:=k;have i:=Pi (l.take k);have hs:∀h:k<l.length,wN (l.take (k+1))=uB (wN (l.take k)) (l.getD k 0):=λh=>Ep uB l 0 _ h;simp only;repeat'(first|exact a6|apply eS rfl|apply AB|refine rX c ?_ ?_|refine rC ?_ ?_<;>intro a<;>try(cases a;done))
 .exact⟨a,λ_=>a⟩
 .have b:k<l.length:=by exact eV
  have h1:ofF l=([],2):=by
   unfold ofF;rw[An];intro h;have:=NO.1 h _ (AF l 0 b);unfold okB at this;rw[gO,AAj,Wx,Wx]at this;rcases a with h|h
   .exact this.1 h
   exact this.2 h
  exact fI c [.tmp 2,.tmp 3] (by rw[h1];exact eR)
 .obtain⟨h0,h1⟩:=a;have d:Int.tdiv (l.getD k 0) 64=l.getD k 0 / 64:=ABx h0;have f:Int.tmod (l.getD k 0) 64=l.getD k 0 % 64:=ABQ h0;rw[d,f,i];refine⟨?_,⟨df,?_,?_⟩,?_,⟨df,?_,?_⟩,⟨?_,?_⟩,?_,⟨df,?_,?_⟩,⟨?_,?_⟩,?_,?_,?_⟩<;>exact eV
 .exact eV
 .have b:k<l.length:=by exact eV
  have e:=hs b;refine⟨⟨k+1,O1,?_⟩,a2,AC [(6,.nm 6)] rfl rfl ?_ ?_⟩
  .rw[GJ l 0 _ b,hf,ACa];unfold okB;rw[gO,AAj,Wx,Wx];exact⟨ABh.2 a.1,ABh.2 a.2⟩
  .simp only[e];refine eM ?_;rfl
  simp only[e];refine eM ?_;rw[<-e,Pi,Pi]
 have b:l.take k=l:=BY eV;rw[b]at hf ⊢;have h1:ofF l=(BS (wN l),0):=by unfold ofF;rw[At hf]
 have j:=Pi l;refine C9 [6] ?_;repeat'(first|apply eS rfl|refine rX c ?_ ?_)
 .rw[j];decide
 exact fI c [.tmp 2,.tmp 3] (by rw[h1];exact eR)
end
section
attribute [local go_sem] VE Pc
def k6 (l:List (List Int)) (b:List Int):Bool:=l.any λx=>HB x b
def A7A:Ab:={ ins:=[Sv,Ba],pre:=λ_=>True,out:=λ(l,b,_)=>[.p .bool (k6 l b)],lend:=true }
theorem A7B:Af Tryz.prog 160 A7A:=by
 refine fK [0,1,4,5,9,17] Tryz.func160 Tryz.ntmps160 (AG o9 AH) ?_;rintro w0 O0 ⟨l,n,u⟩ a ⟨⟨e,-⟩,-⟩ -;simp only[AP]at e;simp only[A7A,AM];repeat'(first|exact a6|apply eS rfl|refine rX a ?_ ?_)
 refine AJ (ι:={k:Nat//k<=l.length/\(l.take k).any (λx=>HB x n)=false}) (λk=>⟨[(0,.p Sv l),(1,.p Ba n),(5,.p (.int .i64) (k.1:Int))],[]⟩) (λk=>l.length-k.1) ⟨0,sc⟩ (eW []) (λk=>?_)
 obtain⟨k,hk,c⟩:=k;repeat'(first|exact a6|apply eS rfl|apply AB|refine rX a ?_ ?_|refine rC ?_ ?_<;>intro b<;>try(cases b;done))
 .exact eV
 .have d:k<l.length:=by exact eV
  have h1:k6 l n=true:=Ik l [] _ d b;exact fI a [.tmp 4] (by rw[h1];exact eR)
 .exact eV
 .have d:k<l.length:=by exact eV
  refine⟨⟨k+1,eV,?_⟩,by simp only;exact eV,AC [] rfl rfl ?_ ?_⟩
  .rw[Mw l [] _ d,c];exact b
  .exact eN
  exact eN
 have hk:l.take k=l:=BY eV;rw[hk]at c;have h1:k6 l n=false:=c;exact fI a [.tmp 4] (by rw[h1];exact eR)
abbrev AR:=ByteArray×List Int
abbrev c0:AR:=(ByteArray.empty,[])
def K7 (l:List AR) (i j:Int):Bool:=Eo (l.getD j.toNat c0).2 (l.getD i.toNat c0).2
def pC:Ab:={ ins:=[Jg,T3,T3],pre:=λ(l,i,j,_)=>((0:Int)<=i/\i<(List.length l:Int))/\((0:Int)<=j/\j<(List.length l:Int))/\(∀x∈(l:List AR),x.2.length<=100000),out:=λ(l,i,j,_)=>[.p .bool (K7 l i j)],lend:=true }
theorem pD:Af Tryz.prog 117 pC:=by
 refine fK [0,1,2,6] Tryz.func117 Tryz.ntmps117 (AG RB AH) ?_;rintro w0 O0 ⟨l,i,j,u⟩ a-⟨hi,b,c⟩;simp only[pC,AM];repeat'(first|exact a6|apply eS rfl|refine rX a ?_ ?_)
 .exact⟨b,hi,c _ (AF (l:List AR) c0 eV)⟩
 exact fI a [.tmp 6] (by unfold K7;exact eR)
end
section
attribute [local go_sem] VE
def KX (s:ByteArray):Nat->List AR->Int
 | _,[]=>-1
 | k,x :: l=>if AK x.1 s=true then (k:Int) else KX s (k+1) l
def BN (l:List AR) (s:ByteArray):Int:=KX s 0 l
theorem X4 (s:ByteArray) (l:List AR) (h:k<l.length):KX s k (l.drop k)=if AK (l.getD k c0).1 s=true then (k:Int) else KX s (k+1) (l.drop (k+1)):=by
 rw[OR h];have e:l.getD k c0=l[k]:=by simp[AS,h]
 rw[e];rfl
def Ta:Ab:={ ins:=[Jg,T9],pre:=λ_=>True,out:=λ(l,s,_)=>[.p T3 (BN l s)],lend:=true }
theorem X5:Af Tryz.prog 119 Ta:=by
 refine fK [0,1,4,5,9,18] Tryz.func119 Tryz.ntmps119 AH ?_;rintro w0 O0 ⟨l,s,u⟩ c ⟨⟨d,-⟩,-⟩ -;simp only[AP]at d;simp only[Ta,AM];repeat'(first|exact a6|apply eS rfl|refine rX c ?_ ?_)
 refine AJ (ι:={k:Nat//k<=l.length/\KX s k (l.drop k)=BN l s}) (λk=>⟨[(0,.p Jg l),(1,.p T9 s),(5,.p (.int .i64) (k.1:Int))],[]⟩) (λk=>l.length-k.1) ⟨0,GO _,rfl⟩ (eW []) (λk=>?_)
 obtain⟨k,hk,hf⟩:=k;simp only;repeat'(first|exact a6|apply eS rfl|apply AB|refine rX c ?_ ?_|refine rC ?_ ?_<;>intro b<;>try(cases b;done))
 .exact b
 .have a:k<l.length:=by exact eV
  rw[X4 s l a,At b]at hf;exact fI c [.tmp 4] (by rw[<-hf];exact eR)
 .exact eV
 .have a:k<l.length:=by exact eV
  rw[X4 s l a,An (by rw[b];simp)]at hf;exact⟨⟨k+1,O1,hf⟩,a2,eW []⟩
 have a:l.drop k=[]:=No eV;rw[a]at hf;exact fI c [.tmp 4] (by rw[<-hf];first|exact eR|refine OC ?_;rfl)
end
section
attribute [local go_sem] VE KS
def Pj (s:List Int):Nat->List AR->Int
 | _,[]=>-1
 | k,x :: l=>if HB x.2 s=true then (k:Int) else Pj s (k+1) l
def G3 (l:List AR) (b:List Int):Int:=Pj (BS b) 0 l
theorem VJ (s:List Int) (l:List AR) (h:k<l.length):Pj s k (l.drop k)=if HB (l.getD k c0).2 s=true then (k:Int) else Pj s (k+1) (l.drop (k+1)):=by
 rw[OR h];have e:l.getD k c0=l[k]:=by simp[AS,h]
 rw[e];rfl
def k7:Ab:={ ins:=[Jg,Ba],pre:=λ(_,b,_)=>List.length b<=100000,out:=λ(l,b,_)=>[.p T3 (G3 l b)],lend:=true }
theorem A0i:Af Tryz.prog 110 k7:=by
 refine fK [0,1,4,5,6,12,21] Tryz.func110 Tryz.ntmps110 (AG Mx (AG o9 AH)) ?_;rintro w0 O0 ⟨l,b,u⟩ d ⟨⟨g,-⟩,-⟩ e;simp only[AP]at g;simp only[k7,AM];repeat'(first|exact a6|apply eS rfl|refine rX d ?_ ?_)
 .exact e
 have f:G3 l b=Pj (BS b) 0 l:=rfl;rw[f];generalize BS b=s at *;refine AJ (ι:={k:Nat//k<=l.length/\Pj s k (l.drop k)=Pj s 0 l}) (λk=>⟨[(0,.p Jg l),(5,.p Ba s),(6,.p (.int .i64) (k.1:Int))],[]⟩) (λk=>l.length-k.1) ⟨0,GO _,rfl⟩ (eW []) (λk=>?_)
 obtain⟨k,hk,hf⟩:=k;simp only;repeat'(first|exact a6|apply eS rfl|apply AB|refine rX d ?_ ?_|refine rC ?_ ?_<;>intro c<;>try(cases c;done))
 .exact c
 .have a:k<l.length:=by exact eV
  rw[VJ s l a,At c]at hf;exact fI d [.tmp 4] (by rw[<-hf];exact eR)
 .exact eV
 .have a:k<l.length:=by exact eV
  rw[VJ s l a,An (by rw[c];simp)]at hf;exact⟨⟨k+1,O1,hf⟩,a2,eW []⟩
 have a:l.drop k=[]:=No eV;rw[a]at hf;exact fI d [.tmp 4] (by rw[<-hf];first|exact eR|refine OC ?_;rfl)
end
section
attribute [local go_sem] VE
def eG (s:ByteArray):List (ByteArray×ByteArray)->ByteArray×Bool
 | []=>(ByteArray.empty,false)
 | x :: l=>if AK x.1 s=true then (x.2,true) else eG s l
def DA (x:AI) (s:ByteArray):ByteArray×Bool:=eG s x.2.2
theorem X6 (s:ByteArray) (l:List (ByteArray×ByteArray)) (h:k<l.length):eG s (l.drop k)=if AK (l.getD k (ByteArray.empty,ByteArray.empty)).1 s=true then ((l.getD k (ByteArray.empty,ByteArray.empty)).2,true) else eG s (l.drop (k+1)):=by
 rw[OR h];have e:l.getD k (ByteArray.empty,ByteArray.empty)=l[k]:=by simp[AS,h]
 rw[e];rfl
def Zq:Ab:={ ins:=[yX,T9],pre:=λ_=>True,out:=λ(x,s,_)=>[.p T9 (DA x s).1,.p .bool (DA x s).2],lend:=true }
theorem eH:Af Tryz.prog 149 Zq:=by
 refine fK [0,1,2,4,5,6,11,21] Tryz.func149 Tryz.ntmps149 AH ?_;rintro w0 O0 ⟨⟨nm,sup,a⟩,s,u⟩ d ⟨⟨-,-,f,-⟩,-⟩ -;simp only[AP]at f;simp only[Zq,AM];repeat'(first|exact a6|apply eS rfl|refine rX d ?_ ?_)
 have e:({ data:=#[] }:ByteArray).size<=AP:=by decide
 rw[At e];refine AJ (ι:={k:Nat//k<=a.length/\eG s (a.drop k)=DA (nm,sup,a) s}) (λk=>⟨[(1,.p T9 s),(2,.bp 2 [] 0),(6,.p (.int .i64) (k.1:Int))],[(2,.box 65 true [.p T9 nm,.p Cj sup,.p T63 a])]⟩) (λk=>a.length-k.1) ⟨0,GO _,rfl⟩ (eW [(2,.nm 2)]) (λk=>?_)
 obtain⟨k,hk,hf⟩:=k;simp only;repeat'(first|exact a6|apply eS rfl|apply AB|refine rX d ?_ ?_|refine rC ?_ ?_<;>intro c<;>try(cases c;done))
 .exact c
 .assumption
 .have b:k<a.length:=by exact eV
  rw[X6 s a b,At c]at hf;exact fI d [.tmp 4,.tmp 5] (by rw[<-hf];exact eR)
 .exact eV
 .have b:k<a.length:=by exact eV
  rw[X6 s a b,An (by rw[c];simp)]at hf;exact⟨⟨k+1,O1,hf⟩,a2,eW [(2,.nm 2)]⟩
 have b:a.drop k=[]:=No eV;rw[b]at hf;rw[At e];exact fI d [.tmp 4,.tmp 5] (by rw[<-hf];first|exact eR|refine OC ?_;exact⟨rfl,rfl⟩)
end
section
attribute [local go_sem] kY
def Fu (a b:AR):Bool:=decide (((Hz b.2).length:Int)<((Hz a.2).length:Int))||((Hz a.2).length:Int)==((Hz b.2).length:Int)&&CF a.1 b.1
def Zr:Ab:={ ins:=[Zf,Zf],pre:=λ(a,b,_)=>List.length (a:AR).2<=100000/\List.length (b:AR).2<=100000,out:=λ(a,b,_)=>[.p .bool (Fu a b)],lend:=true }
theorem uC:Af Tryz.prog 116 Zr:=by
 refine fK [0,1,2,3,4,5,6] Tryz.func116 Tryz.ntmps116 (AG A0c AH) ?_;rintro w0 O0 ⟨⟨c,ac⟩,⟨e,d⟩,u⟩ a-⟨ha,b⟩;simp only[Zr,AM];repeat'(first|exact a6|apply eS rfl|refine rX a ?_ ?_)
 .exact ha
 .exact b
 exact fI a [.tmp 4] (by unfold Fu;exact eR)
end
section
attribute [local go_sem] Zp JF ofS
def OJ (low all:List ByteArray) (n:Nat):List Int:=((List.range n).filter λ(i:Nat)=>Aa low (all.getD i ByteArray.empty)).map λ(i:Nat)=>(i:Int)
theorem uD (low all:List ByteArray) (n:Nat):OJ low all (n+1)=OJ low all n++if Aa low (all.getD n ByteArray.empty)=true then [(n:Int)] else []:=by
 unfold OJ;rw[AAE,ABF,AAH]
 congr 1
 rw[AAW,ACm];split<;>rfl
theorem A0j (low all:List ByteArray) (n:Nat):(OJ low all n).length<=n:=by
 unfold OJ;rw[On];exact aS (AB8 _ _) sc
def Ec (d:List AI) (all:List ByteArray) (s:ByteArray):List Int:=(ofF (OJ (Co d s) all all.length)).1
def A0k:Ab:={ ins:=[Ez,Cj,T9],pre:=λ(d,l,_,_)=>List.length d<=256/\List.length l<=100000,out:=λ(d,l,s,_)=>[.p Ba (Ec d l s)] }
theorem A43:Af Tryz.prog 113 A0k:=by
 refine fK [0,1,2,6,7,8,9,10,18,26] Tryz.func113 Tryz.ntmps113 (AG A0h (AG Gi (AG A9L AH))) ?_;rintro w0 O0 ⟨d,l,s,u⟩ b-⟨g,e⟩;have e:l.length<=100000:=e;have f:Ec d l s=(ofF (OJ (Co d s) l l.length)).1:=rfl;simp only[A0k,AM];repeat'(first|exact a6|apply eS rfl|refine rX b ?_ ?_)
 .exact g
 rw[f];generalize Co d s=low at *;refine AJ (ι:={n:Nat//n<=l.length}) (λn=>⟨[(0,.p Ez d),(1,.p Cj l),(2,.p T9 s),(7,.p Cj low),(8,.sr 30 T3 0 (OJ low l n.1).length),(9,.p (.int .i64) (n.1:Int))],[(30,.arr 3 T3 (OJ low l n.1))]⟩) (λn=>l.length-n.1) ⟨0,GO _⟩ (AC [(30,.nil)] rfl rfl ?_ ?_) (λn=>?_)
 .refine eM ?_;rfl
 .refine eM ?_;rfl
 obtain⟨n,hn⟩:=n;have h:=A0j low l n;have hs:=uD low l n;simp only;repeat'(first|exact a6|apply eS rfl|apply AB|refine rX b ?_ ?_|refine rC ?_ ?_<;>intro a<;>try(cases a;done))
 .exact a
 .rw[a,At rfl]at hs;simp only[AP];dsimp only[Ty.den]at *;omega
 .exact eV
 .have c:n<l.length:=by exact eV
  rw[a,At rfl]at hs;refine⟨⟨n+1,O1⟩,a2,AC [(30,.nm 30)] rfl rfl ?_ ?_⟩
  .simp only[hs];exact eN
  simp only[hs];exact eN
 .exact eV
 .have c:n<l.length:=by exact eV
  rw[a,An sc,AAu]at hs;refine⟨⟨n+1,O1⟩,a2,AC [(30,.nm 30)] rfl rfl ?_ ?_⟩
  .simp only[hs];exact eN
  simp only[hs];exact eN
 have c:n=l.length:=by exact eV
 subst c;refine C9 [30] ?_;repeat'(first|exact a6|apply eS rfl|refine rX b ?_ ?_)
 exact fI b [.tmp 6]
end
section
attribute [local go_sem] Zh
def Jj (o:List ByteArray) (f:ByteArray×ByteArray):List ByteArray:=Ds o f.1
def JJ (o:List ByteArray) (x:AI):List ByteArray:=x.2.2.foldl Jj o
def BM (d:List AI):List ByteArray:=d.foldl JJ []
theorem X7 (l:List (ByteArray×ByteArray)):∀o:List ByteArray,(l.foldl Jj o).length<=o.length+l.length:=by
 induction l with
 | nil=>intro o;simp
 | cons x l a =>
  intro o;have h1:=a (Jj o x);have b:(Jj o x).length<=o.length+1:=L9 o x.1;simp only[ON,Is];omega
theorem k8 {d:List AI} (h:∀x∈d,x.2.2.length<=256):∀(l:List AI),(∀x∈l,x∈d)->∀o:List ByteArray,(l.foldl JJ o).length<=o.length+256*l.length:=by
 intro l;induction l with
 | nil=>intro _ o;simp
 | cons x l c =>
  intro a o;have h1:=c (λy b=>a y (by simp[b])) (JJ o x);have e:=X7 x.2.2 o;have f:=h x (a x sc);have g:(JJ o x).length=(x.2.2.foldl Jj o).length:=rfl;simp only[ON,Is];omega
def VK:Ab:={ ins:=[Ez],pre:=λ(d,_)=>List.length d<=256/\(∀x∈(d:List AI),x.2.2.length<=256),out:=λ(d,_)=>[.p Cj (BM d)] }
theorem VL:Af Tryz.prog 108 VK:=by
 refine fK [0,2,3,4,5,9,19] Tryz.func108 Tryz.ntmps108 (AG Q8 AH) ?_;rintro w0 O0 ⟨d,u⟩ c-⟨f,m⟩;have f:d.length<=256:=f;simp only[VK,AM];repeat'(first|exact a6|apply eS rfl|refine rX c ?_ ?_)
 refine AJ (ι:={i:Nat//i<=d.length}) (λi=>⟨[(0,.p Ez d),(3,.p Cj (BM (d.take i.1))),(4,.p (.int .i64) (i.1:Int))],[]⟩) (λi=>d.length-i.1) ⟨0,GO _⟩ (AC [] rfl rfl ?_ ?_) (λi=>?_)
 .exact eN
 .refine eM ?_;rfl
 obtain⟨i,hi⟩:=i;have l:=k8 m (d.take i) (λx h=>AAC h) [];have t:=AAY i d;have hs:=λh:i<d.length=>Ep JJ d d0 [] h;have g:∀e,BM e=e.foldl JJ []:=λ_=>rfl;simp only;repeat'(first|exact a6|apply eS rfl|refine rX c ?_ ?_|refine rC ?_ ?_<;>intro a<;>try(cases a;done))
 .have j:i<d.length:=by exact eV
  have v:=m _ (AF d d0 j);have hs:=hs j;rw[<-g,<-g]at hs;rw[<-g]at l;generalize BM (d.take i)=o at *;refine AJ (ι:={k:Nat//k<=(d.getD i d0).2.2.length}) (λk=>⟨[(0,.p Ez d),(3,.p Cj (((d.getD i d0).2.2.take k.1).foldl Jj o)),(4,.p (.int .i64) (i:Int)),(5,.p (.int .i64) (k.1:Int))],[]⟩) (λk=>(d.getD i d0).2.2.length-k.1) ⟨0,GO _⟩ (AC [] rfl rfl ?_ ?_) (λk=>?_)
  .exact eN
  .refine eM ?_;rfl
  obtain⟨k,hk⟩:=k;have r:k<=(d.getD i d0).2.2.length:=hk;have q:=X7 ((d.getD i d0).2.2.take k) o;have s:=AAY k (d.getD i d0).2.2;have n:=λh:k<(d.getD i d0).2.2.length=>Ep Jj (d.getD i d0).2.2 (ByteArray.empty,ByteArray.empty) o h;simp only;repeat'(first|apply eS rfl|apply AB|refine rX c ?_ ?_|refine rC ?_ ?_<;>intro a<;>try(cases a;done))
  .assumption
  .refine⟨a4,a,?_⟩;simp only[AAt]at l;dsimp only[Ty.den]at *;omega
  .have h1:(k:Int)<((d.getD i d0).2.2.length:Int):=a;exact eV
  .have b:k<(d.getD i d0).2.2.length:=aT.1 a;have e:=n b;refine⟨⟨k+1,b⟩,a2,AC [] rfl rfl ?_ ?_⟩
   .exact eN
   simp only[e];unfold Jj;exact eN
  .have:=f;exact eV
  have b:(d.getD i d0).2.2.take k=(d.getD i d0).2.2:=BY (AAf.1 a);have e:BM (d.take (i+1))=((d.getD i d0).2.2.take k).foldl Jj o:=by rw[b];exact hs
  refine⟨⟨i+1,j⟩,a2,AC [] rfl rfl ?_ ?_⟩
  .exact eN
  simp only[e];exact eN
 have b:d.take i=d:=BY eV;rw[b];exact fI c [.tmp 2]
end
theorem X8 {d:List AI} {l:List ByteArray}:∀ {r:List ByteArray} {k:Nat},Sx d l k r=0->∀s∈r,0<=Av d s
 | [],_,_,s,hs=>by cases hs
 | x :: r,k,h,s,hs=>by
  simp only[Sx]at h;split at h
  .cases h
  rename_i h1;split at h
  .cases h
  rcases By.1 hs with rfl|hs
  .omega
  exact X8 h s hs
theorem Pk {d:List AI}:∀ {l:List AI},KT d l=0->∀x∈l,∀s∈x.2.1,0<=Av d s
 | [],_,x,a=>by cases a
 | y :: l,h,x,a=>by
  simp only[KT]at h;split at h
  .rename_i h1;exact absurd h h1
  rename_i h1;rcases By.1 a with rfl|a
  .exact X8 (DO h1)
  exact Pk h x a
theorem A0l {d:List AI} (h:KU d=0):Pe d:=Pk h
theorem A2 {d:List AI} (h:BB d=0):Pe d/\d.length<=256/\H2 d=1/\Cm d=0/\d.length<=(Bm d).length:=by
 unfold BB at h;split at h
 .rename_i h1;exact absurd h h1
 rename_i h1;split at h
 .rename_i a;exact absurd h a
 rename_i a;split at h
 .rename_i b;exact absurd h b
 rename_i b;split at h
 .cases h
 rename_i c;split at h
 .cases h
 rename_i e;exact⟨A0l (DO b),SR (DO h1),DO c,DO a,O1⟩
section
attribute [local go_sem] A7A A08
def GK (l:List (List Int)) (i k:Nat):List (List Int) :=
 if (decide (0<((ET (l.getD i []) (l.getD k [])).length:Int))&&!k6 l (ET (l.getD i []) (l.getD k [])))=true then l++[ET (l.getD i []) (l.getD k [])] else l
def GL (i:Nat):Nat->Nat->List (List Int)->List (List Int)
 | 0,_,l=>l
 | n+1,k,l=>if l.length<=256 then GL i n (k+1) (GK l i k) else l
def H4:Nat->Nat->List (List Int)->List (List Int)
 | 0,_,l=>l
 | n+1,i,l=>if i<l.length/\l.length<=256 then H4 n (i+1) (GL i i 0 l) else l
def A0 (c:List (List Int)):List (List Int):=H4 257 0 c
theorem eI (a b:List Int):(ET a b).length<=a.length:=by
 unfold ET BS;have:=Eb .and a b a.length;rw[Of];omega
structure A69 (l:List (List Int)):Prop where
 len:l.length<=257
 wid:∀c∈l,c.length<=64
theorem MC (h:∀c∈l,c.length<=64) (k:Nat):(l.getD k []).length<=64:=by
 rw[AS];cases hh:l[k]? with
 | none=>simp
 | some x=>exact h x (AAO hh)
theorem eJ (h:∀c∈l,c.length<=64) (i k:Nat):∀c∈GK l i k,c.length<=64:=by
 unfold GK;split
 .intro c a;rcases IN.1 a with a|a
  .exact h c a
  have:c=ET (l.getD i []) (l.getD k []):=by simpa using a
  rw[this];exact aS (eI _ _) (MC h i)
 exact h
theorem A0m (l:List (List Int)) (i k:Nat):l.length<=(GK l i k).length/\(GK l i k).length<=l.length+1:=by
 unfold GK;split
 .simp
 exact⟨OS _,Nat.le_succ _⟩
def Zs:Ab:={ ins:=[Sv],pre:=λ(c,_)=>List.length c<=256/\∀x∈(c:List (List Int)),x.length<=64,out:=λ(c,_)=>[.p Sv (A0 c)] }
theorem uE:Af Tryz.prog 114 Zs:=by
 refine fK [0,2,3,4,5,6,18,28,48] Tryz.func114 Tryz.ntmps114 (AG A09 (AG A7B AH)) ?_;rintro w0 O0 ⟨c,u⟩ d-⟨n,t⟩;have n:c.length<=256:=n;simp only[Zs,AM];repeat'(first|exact a6|apply eS rfl|refine rX d ?_ ?_)
 .simp only[AP];dsimp only[Ty.den]at *;omega
 refine AJ (ι:={x:Nat×List (List Int)//x.1<=256/\A69 x.2/\H4 (257-x.1) x.1 x.2=A0 c}) (λx=>⟨[(3,.sr 7 Ba 0 x.1.2.length),(4,.p (.int .i64) (x.1.1:Int))],[(7,.arr 111 Ba x.1.2)]⟩) (λx=>257-x.1.1) ⟨(0,c),sc,⟨a2,t⟩,rfl⟩ (eW [(7,.nm 7)]) (λx=>?_)
 obtain⟨⟨i,l⟩,hi,⟨q,s⟩,f⟩:=x;simp only at hi q s f;simp only;repeat'(first|exact a6|apply eS rfl|refine rX d ?_ ?_|refine rC ?_ ?_<;>intro a<;>try(cases a;done))
 .have w:i<l.length:=by omega
  have z:l.length<=256:=by omega
  have o:H4 (256-i) (i+1) (GL i i 0 l)=A0 c:=by
   have e:257-i=(256-i)+1:=by omega
   rw[<-f,e];show _=if i<l.length/\l.length<=256 then H4 (256-i) (i+1) (GL i i 0 l) else l
   rw[At ⟨w,z⟩]
  refine AJ (ι:={y:Nat×List (List Int)//y.1<=i/\A69 y.2/\l.length<=y.2.length/\GL i (i-y.1) y.1 y.2=GL i i 0 l}) (λy=>⟨[(3,.sr 7 Ba 0 y.1.2.length),(4,.p (.int .i64) (i:Int)),(5,.p (.int .i64) (y.1.1:Int))],[(7,.arr 111 Ba y.1.2)]⟩) (λy=>i-y.1.1) ⟨(0,l),sc,⟨q,s⟩,OS _,rfl⟩ (eW [(7,.nm 7)]) (λy=>?_)
  obtain⟨⟨k,m⟩,hk,⟨g,b⟩,r,hf⟩:=y;simp only at hk g b r hf;simp only;repeat'(first|exact a6|apply eS rfl|apply AB|refine rX d ?_ ?_|refine rC ?_ ?_<;>intro a<;>try(cases a;done))
  .exact⟨eV,eV,aS (MC b i) df⟩
  .simp only[AP];omega
  .omega
  .have e:GK m i k=m++[ET (m.getD i []) (m.getD k [])]:=by
    unfold GK;rw[At];rw[AT,If,gO];exact a
   have C:=eJ b i k;have D:=A0m m i k;refine⟨⟨(k+1,GK m i k),a2,⟨a2,C⟩,a2,?_⟩,a2,AC [(7,.nm 7)] rfl rfl ?_ ?_⟩
   .simp only;rw[<-hf,show i-k=(i-(k+1))+1 by omega];show _=if m.length<=256 then GL i (i-(k+1)) (k+1) (GK m i k) else m
    rw[At O1]
   .simp only[e];exact eN
   simp only[e];exact eN
  .omega
  .have e:GK m i k=m:=by
    unfold GK;rw[An];rw[AT,If,gO];intro h;rw[a h.1]at h;exact absurd h.2 sc
   refine⟨⟨(k+1,m),a2,⟨g,b⟩,r,?_⟩,a2,AC [(7,.nm 7)] rfl rfl ?_ ?_⟩
   .simp only;rw[<-hf,show i-k=(i-(k+1))+1 by omega];show _=if m.length<=256 then GL i (i-(k+1)) (k+1) (GK m i k) else m
    rw[At O1,e]
   .exact eN
   exact eN
  .omega
  have B:m=GL i i 0 l:=by
   rw[<-hf];cases A:i-k with
   | zero=>rfl
   | succ j =>
    show _=if m.length<=256 then _ else m
    rw[An O1]
  rw[<-B]at o;refine⟨⟨(i+1,m),a2,⟨g,b⟩,?_⟩,a2,AC [(7,.nm 7)] rfl rfl ?_ ?_⟩
  .simp only;rw[show 257-(i+1)=256-i by omega];exact o
  .exact eN
  exact eN
 have v:l=A0 c:=by
  rw[<-f];cases A:257-i with
  | zero=>rfl
  | succ m =>
   show _=if i<l.length/\l.length<=256 then _ else l
   rw[An O1]
 rw[<-v];refine C9 [7] ?_;exact fI d [.tmp 2]
theorem K8 {α:Type} (x y:α):(if ({ data:=#[] }:ByteArray).size<=AP then x else y)=x:=At (by show 0<=AP;decide)
theorem KY {α:Type} (a:UInt8) (x y:α):(if ({ data:=#[a] }:ByteArray).size<=AP then x else y)=x:=At (by show 1<=AP;decide)
theorem cs2 {α:Type} (a b:UInt8) (x y:α):(if ({ data:=#[a,b] }:ByteArray).size<=AP then x else y)=x:=At (by show 2<=AP;decide)
theorem My {α:Type} (a b c:UInt8) (x y:α):(if ({ data:=#[a,b,c] }:ByteArray).size<=AP then x else y)=x:=At (by show 3<=AP;decide)
theorem Jk {α:Type} (a b c d:UInt8) (x y:α):(if ({ data:=#[a,b,c,d] }:ByteArray).size<=AP then x else y)=x:=At (by show 4<=AP;decide)
theorem Io {α:Type} (a b c d e:UInt8) (x y:α):(if ({ data:=#[a,b,c,d,e] }:ByteArray).size<=AP then x else y)=x:=At (by show 5<=AP;decide)
theorem NG {α:Type} (a b c d e f:UInt8) (x y:α):(if ({ data:=#[a,b,c,d,e,f] }:ByteArray).size<=AP then x else y)=x:=At (by show 6<=AP;decide)
theorem cs7 {α:Type} (a b c d e f g:UInt8) (x y:α):(if ({ data:=#[a,b,c,d,e,f,g] }:ByteArray).size<=AP then x else y)=x:=At (by show 7<=AP;decide)
theorem cs8 {α:Type} (a b c d e f g h:UInt8) (x y:α):(if ({ data:=#[a,b,c,d,e,f,g,h] }:ByteArray).size<=AP then x else y)=x:=At (by show 8<=AP;decide)
end
section
attribute [local go_sem] KY
abbrev RF:=ByteArray×Int
abbrev F2:=ByteArray×Int×List RF
abbrev MD:=Int×Int
abbrev CJ:=Int×Int×List ByteArray×List F2×List MD
abbrev e0D:F2:=(ByteArray.empty,0,[])
theorem Pl {α:Type} (f:α->X) (l:List α) (d:α) (h:k<l.length):(l.take (k+1)).map f=(l.take k).map f++[f (l.getD k d)]:=by
 rw[Ay l d h];simp
theorem tk2 {α:Type} (A B:List α) (x y:α):(A++B++[x]).take (A.length+B.length+1)++[y]=A++(B++[x]++[y]):=by
 rw[BY (by simp only[IS,Is,AAt];omega)];simp
def DW (n:Int):Nat->List Int->Int
 | _,[]=>-1
 | k,x :: r=>if x=n then (k:Int) else DW n (k+1) r
def Ej (l:List Int) (n:Int):Int:=DW n 0 l
theorem A0n (n:Int) (l:List Int) (h:k<l.length):DW n k (l.drop k)=if l.getD k 0=n then (k:Int) else DW n (k+1) (l.drop (k+1)):=by
 rw[OR h];have e:l.getD k 0=l[k]:=by simp[AS,h]
 rw[e];rfl
def Jl:Ab:={ ins:=[CH,T3],pre:=λ_=>True,out:=λ(l,n,_)=>[.p T3 (Ej l n)],lend:=true }
attribute [local go_sem] Jl
theorem VM:Af Tryz.prog 90 Jl:=by
 refine fK [0,1,4,5,9,17] Tryz.func90 Tryz.ntmps90 AH ?_;rintro w0 O0 ⟨l,n,u⟩ d ⟨⟨f,-⟩,-⟩ -;simp only[AP]at f;simp only[Jl,AM];repeat'(first|exact a6|apply eS rfl|apply AB|refine rX d ?_ ?_|refine rC ?_ ?_<;>intro a<;>try(cases a;done))
 refine AJ (ι:={k:Nat//k<=l.length/\DW n k (l.drop k)=Ej l n}) (λk=>⟨[(0,.p CH l),(1,.p T3 n),(5,.p (.int .i64) (k.1:Int))],[]⟩) (λk=>l.length-k.1) ⟨0,GO _,rfl⟩ (eW []) (λk=>?_)
 obtain⟨k,hk,b⟩:=k;have e:=λh:k<l.length=>A0n n l h;simp only;repeat'(first|exact a6|apply eS rfl|apply AB|refine rX d ?_ ?_|refine rC ?_ ?_<;>intro a<;>try(cases a;done))
 .exact a
 .have c:k<l.length:=by exact eV
  rw[e c,At a]at b;exact fI d [.tmp 4] (by rw[<-b];exact eR)
 .omega
 .have c:k<l.length:=by exact eV
  rw[e c,An a]at b;exact⟨⟨k+1,O1,b⟩,a2,eW []⟩
 have c:l.drop k=[]:=No eV;rw[c]at b;exact fI d [.tmp 4] (by rw[<-b];first|exact eR|refine OC ?_;rfl)
def VN (s:ByteArray):Bool:=AK s ⟨#[104]⟩||AK s ⟨#[101]⟩||AK s ⟨#[120]⟩||AK s ⟨#[105]⟩
def Jm:Ab:={ ins:=[T9],pre:=λ_=>True,out:=λ(s,_)=>[.p .bool (VN s)] }
attribute [local go_sem] Jm
theorem ST:Af Tryz.prog 102 Jm:=by
 refine fK [0,2] Tryz.func102 Tryz.ntmps102 AH ?_;rintro w0 O0 ⟨s,u⟩ a - -;simp only[Jm,AM];repeat'(first|exact a6|apply eS rfl|apply AB|refine rX a ?_ ?_|refine rC ?_ ?_<;>intro b<;>try(cases b;done))
 exact fI a [.tmp 2] (by first|exact eR|refine OC ?_;rfl)
def H5 (e:F2):List Int:=e.2.1 :: e.2.2.map (·.2)
def EH (q:MD):List Int:=[q.1,q.2]
def A3 (m:CJ):List Int:=[m.1,m.2.1]++m.2.2.2.1.flatMap H5++m.2.2.2.2.flatMap EH
def NH (m:CJ):Prop:=True/\m.2.2.2.1.length<=200000/\(∀e∈m.2.2.2.1,e.2.2.length<=100000)/\m.2.2.2.2.length<=200000
theorem Ip {α b:Type} (f:α->List b) (B:Nat):∀l:List α,(∀e∈l,(f e).length<=B)->(l.flatMap f).length<=l.length*B
 | [],_=>by simp
 | x :: l,h=>by
  have h1:=h x f7;have c:=Ip f B l λe a=>h e (IF _ a);simp only[ABZ,IS,Is,ACt];omega
def A44:Ab:={ ins:=[oZ],pre:=λ(m,_)=>NH m,out:=λ(m,_)=>[.p CH (A3 m)] }
attribute [local go_sem] A44
def jB (tp ix:Int) (a:List F2) (i:Nat):List Int:=[tp,ix]++(a.take i).flatMap H5
theorem A0o (tp ix:Int) (a:List F2) {i:Nat} (h:i<a.length):jB tp ix a (i+1)=jB tp ix a i++[(a.getD i e0D).2.1]++(a.getD i e0D).2.2.map (·.2):=by
 unfold jB;rw[Ay a e0D h,ABP];simp[H5]
theorem pE {tp ix:Int} {a:List F2} (h1:a.length<=200000) (b:∀e∈a,e.2.2.length<=100000) (i:Nat):(jB tp ix a i).length<=20000200002:=by
 have:=Ip H5 100001 (a.take i) λe d=>by
  have:=b e (AAC d);simp only[H5,Is,On];omega
 have c:(a.take i).length<=200000:=by simp only[Of];omega
 have f:=AAe 100001 c;simp only[jB,IS,Is,AAt];omega
theorem A0p:Af Tryz.prog 104 A44:=by
 refine fK [0,1,2,3,4,5,6,16,36,56] Tryz.func104 Tryz.ntmps104 AH ?_;rintro w0 O0 ⟨⟨tp,ix,m,a,cs⟩,u⟩ d-⟨-,h1,f,n⟩;have h1:a.length<=200000:=h1;have f:∀e∈a,e.2.2.length<=100000:=f;have n:cs.length<=200000:=n;have v:=pE (tp:=tp) (ix:=ix) h1 f;simp only[A44,AM];repeat'(first|exact a6|apply eS rfl|apply AB|refine rX d ?_ ?_|refine rC ?_ ?_<;>intro c<;>try(cases c;done))
 refine AJ (ι:={i:Nat//i<=a.length}) (λi=>⟨[(1,.bp 1 [] 0),(3,.sr 11 T3 0 (jB tp ix a i.1).length),(4,.p (.int .i64) (i.1:Int))],[(11,.arr 3 T3 (jB tp ix a i.1)),(1,.box 41 true [.p T3 tp,.p T3 ix,.p Cj m,.p NF a,.p Ot cs])]⟩) (λi=>a.length-i.1) ⟨0,GO _⟩ (AC [(1,.nm 1),(11,.nm 11)] rfl rfl ?_ ?_) (λi=>?_)
 .first|exact eN|refine eM ?_
  rfl
 .first|exact eN|refine eM ?_
  rfl
 obtain⟨i,hi⟩:=i;have A:=v i;have l:=λh:i<a.length=>A0o tp ix a h;simp only;repeat'(first|exact a6|apply eS rfl|apply AB|refine rX d ?_ ?_|refine rC ?_ ?_<;>intro c<;>try(cases c;done))
 .refine⟨c,?_⟩;simp only[AP];omega
 .have g:i<a.length:=by exact eV
  have l:=l g;have y:(a.getD i (ByteArray.empty,0,[])).2.2.length<=100000:=f _ (AF a e0D g);refine AJ (ι:={k:Nat//k<=(a.getD i (ByteArray.empty,0,[])).2.2.length}) (λk=>⟨[(1,.bp 1 [] 0),(3,.sr 11 T3 0 (jB tp ix a i++[(a.getD i (ByteArray.empty,0,[])).2.1]++((a.getD i (ByteArray.empty,0,[])).2.2.take k.1).map (·.2)).length),(4,.p (.int .i64) (i:Int)),(5,.p (.int .i64) (k.1:Int))],[(11,.arr 3 T3 (jB tp ix a i++[(a.getD i (ByteArray.empty,0,[])).2.1]++((a.getD i (ByteArray.empty,0,[])).2.2.take k.1).map (·.2))),(1,.box 41 true [.p T3 tp,.p T3 ix,.p Cj m,.p NF a,.p Ot cs])]⟩) (λk=>(a.getD i (ByteArray.empty,0,[])).2.2.length-k.1) ⟨0,GO _⟩ (AC [(1,.nm 1),(11,.nm 11)] rfl rfl ?_ ?_) (λk=>?_)
  .first|exact eN|refine eM ?_
  .first|exact eN|refine eM ?_
  obtain⟨k,hk⟩:=k;simp only;repeat'(first|exact a6|apply eS rfl|apply AB|refine rX d ?_ ?_|refine rC ?_ ?_<;>intro c<;>try(cases c;done))
  .omega
  .refine⟨aT.2 g,c,?_⟩;simp only[AP,On,Of];omega
  .omega
  .have q:k<(a.getD i (ByteArray.empty,0,[])).2.2.length:=by exact eV
   have b:=Pl (λx:RF=>x.2) (a.getD i (ByteArray.empty,0,[])).2.2 (ByteArray.empty,0) q;refine⟨⟨k+1,q⟩,a2,AC [(1,.nm 1),(11,.nm 11)] rfl rfl ?_ ?_⟩
   .simp only[b];first|exact eN|refine eM ?_
    rw[BY (by simp only[IS,Is,AAt];omega)];simp only[AAg]
   simp only[b];first|exact eN|refine eM ?_
   rfl
  .omega
  have b:(a.getD i (ByteArray.empty,0,[])).2.2.take k=(a.getD i (ByteArray.empty,0,[])).2.2:=BY eV;refine⟨⟨i+1,g⟩,a2,AC [(1,.nm 1),(11,.nm 11)] rfl rfl ?_ ?_⟩
  .simp only[b,l];first|exact eN|refine eM ?_
  simp only[b,l];first|exact eN|refine eM ?_
 have t:jB tp ix a i=[tp,ix]++a.flatMap H5:=by
  have b:a.take i=a:=BY eV;unfold jB;rw[b]
 have s:=λj:Nat=>Ip EH 2 (cs.take j) λ_ _=>OS 2;refine AJ (ι:={j:Nat//j<=cs.length}) (λj=>⟨[(1,.bp 1 [] 0),(3,.sr 11 T3 0 (jB tp ix a i++(cs.take j.1).flatMap EH).length),(6,.p (.int .i64) (j.1:Int))],[(11,.arr 3 T3 (jB tp ix a i++(cs.take j.1).flatMap EH)),(1,.box 41 true [.p T3 tp,.p T3 ix,.p Cj m,.p NF a,.p Ot cs])]⟩) (λj=>cs.length-j.1) ⟨0,GO _⟩ (AC [(1,.nm 1),(11,.nm 11)] rfl rfl ?_ ?_) (λj=>?_)
 .first|exact eN|refine eM ?_
 .first|exact eN|refine eM ?_
 obtain⟨j,z⟩:=j;have r:=s j;simp only[Of]at r;simp only;repeat'(first|exact a6|apply eS rfl|apply AB|refine rX d ?_ ?_|refine rC ?_ ?_<;>intro c<;>try(cases c;done))
 .refine⟨c,?_⟩;simp only[AP];omega
 .refine⟨c,?_⟩;simp only[AP];omega
 .omega
 .have o:j<cs.length:=by exact eV
  have b:(cs.take (j+1)).flatMap EH=(cs.take j).flatMap EH++[(cs.getD j (0,0)).1]++[(cs.getD j (0,0)).2]:=by
   rw[Ay cs (0,0) o,ABP];simp[EH]
  refine⟨⟨j+1,o⟩,a2,AC [(1,.nm 1),(11,.nm 11)] rfl rfl ?_ ?_⟩
  .simp only[b];first|exact eN|refine eM ?_
   exact tk2 _ _ _ _
  simp only[b];first|exact eN|refine eM ?_
  omega
 have b:cs.take j=cs:=BY eV;have w:A3 (tp,ix,m,a,cs)=jB tp ix a i++cs.flatMap EH:=by rw[t];rfl
 simp only[b]at *;refine C9 [11] ?_;exact fI d [.tmp 2] (by rw[w];exact eR)
def RG (e:F2):List Int:=[e.2.1]
def Jn (m:CJ):List Int:=[m.1]++m.2.2.2.1.flatMap RG++m.2.2.2.2.flatMap EH
def A45:Ab:={ ins:=[oZ],pre:=λ(m,_)=>NH m,out:=λ(m,_)=>[.p CH (Jn m)] }
attribute [local go_sem] A45
theorem A7C:Af Tryz.prog 105 A45:=by
 refine fK [0,1,2,3,4,5,13,29] Tryz.func105 Tryz.ntmps105 AH ?_;rintro w0 O0 ⟨⟨tp,ix,e,a,cs⟩,u⟩ d-⟨-,h1,s,f⟩;have h1:a.length<=200000:=h1;have f:cs.length<=200000:=f;have r:=λj:Nat=>Ip RG 1 (a.take j) λ_ _=>OS 1;have m:=λj:Nat=>Ip EH 2 (cs.take j) λ_ _=>OS 2;simp only[A45,AM];repeat'(first|exact a6|apply eS rfl|apply AB|refine rX d ?_ ?_|refine rC ?_ ?_<;>intro b<;>try(cases b;done))
 refine AJ (ι:={i:Nat//i<=a.length}) (λi=>⟨[(1,.bp 1 [] 0),(3,.sr 8 T3 0 ([tp]++(a.take i.1).flatMap RG).length),(4,.p (.int .i64) (i.1:Int))],[(8,.arr 3 T3 ([tp]++(a.take i.1).flatMap RG)),(1,.box 41 true [.p T3 tp,.p T3 ix,.p Cj e,.p NF a,.p Ot cs])]⟩) (λi=>a.length-i.1) ⟨0,GO _⟩ (AC [(1,.nm 1),(8,.nm 8)] rfl rfl ?_ ?_) (λi=>?_)
 .first|exact eN|refine eM ?_
 .first|exact eN|refine eM ?_
 obtain⟨i,hi⟩:=i;have o:=r i;simp only[Of]at o;simp only;repeat'(first|exact a6|apply eS rfl|apply AB|refine rX d ?_ ?_|refine rC ?_ ?_<;>intro b<;>try(cases b;done))
 .refine⟨b,?_⟩;simp only[AP];omega
 .omega
 .have g:i<a.length:=by exact eV
  have c:(a.take (i+1)).flatMap RG=(a.take i).flatMap RG++[(a.getD i (ByteArray.empty,0,[])).2.1]:=by
   rw[Ay a (ByteArray.empty,0,[]) g,ABP];simp[RG]
  refine⟨⟨i+1,g⟩,a2,AC [(1,.nm 1),(8,.nm 8)] rfl rfl ?_ ?_⟩
  .simp only[c];first|exact eN|refine eM ?_
  simp only[c];first|exact eN|refine eM ?_
 have n:a.take i=a:=BY eV;simp only[n]at *;generalize k:a.flatMap RG=A at *;refine AJ (ι:={j:Nat//j<=cs.length}) (λj=>⟨[(1,.bp 1 [] 0),(3,.sr 8 T3 0 ([tp]++A++(cs.take j.1).flatMap EH).length),(5,.p (.int .i64) (j.1:Int))],[(8,.arr 3 T3 ([tp]++A++(cs.take j.1).flatMap EH)),(1,.box 41 true [.p T3 tp,.p T3 ix,.p Cj e,.p NF a,.p Ot cs])]⟩) (λj=>cs.length-j.1) ⟨0,GO _⟩ (AC [(1,.nm 1),(8,.nm 8)] rfl rfl ?_ ?_) (λj=>?_)
 .first|exact eN|refine eM ?_
 .first|exact eN|refine eM ?_
 obtain⟨j,t⟩:=j;have l:=m j;simp only[Of]at l;simp only;repeat'(first|exact a6|apply eS rfl|apply AB|refine rX d ?_ ?_|refine rC ?_ ?_<;>intro b<;>try(cases b;done))
 .refine⟨b,?_⟩;simp only[AP];omega
 .refine⟨b,?_⟩;simp only[AP];omega
 .omega
 .have h:j<cs.length:=by exact eV
  have c:(cs.take (j+1)).flatMap EH=(cs.take j).flatMap EH++[(cs.getD j (0,0)).1]++[(cs.getD j (0,0)).2]:=by
   rw[Ay cs (0,0) h,ABP];simp[EH]
  refine⟨⟨j+1,h⟩,a2,AC [(1,.nm 1),(8,.nm 8)] rfl rfl ?_ ?_⟩
  .simp only[c];first|exact eN|refine eM ?_
   exact ABj (tp :: ·) (tk2 A _ _ _)
  simp only[c];first|exact eN|refine eM ?_
  rfl
 have c:cs.take j=cs:=BY eV;have q:Jn (tp,ix,e,a,cs)=[tp]++A++cs.flatMap EH:=by rw[<-k];rfl
 simp only[c]at *;refine C9 [8] ?_;exact fI d [.tmp 2] (by rw[q];exact eR)
def AW (out:List Int) (x:Int):List Int:=if Ej out x<0 then out++[x] else out
def JK (l:List Int):List Int:=l.foldl AW []
def fsS:Ab:={ ins:=[oZ],pre:=λ(m,_)=>NH m,out:=λ(m,_)=>[.p CH (JK (A3 m))] }
attribute [local go_sem] fsS
theorem Zt {m:CJ} (h:NH m):(A3 m).length<=20000600002:=by
 obtain⟨-,h1,a,b⟩:=h;have e:A3 m=jB m.1 m.2.1 m.2.2.2.1 m.2.2.2.1.length++m.2.2.2.2.flatMap EH:=by simp[A3,jB]
 have c:=pE (tp:=m.1) (ix:=m.2.1) h1 a m.2.2.2.1.length;have d:=Ip EH 2 m.2.2.2.2 λ_ _=>OS 2;rw[e,IS];omega
theorem eK {α:Type} (g:X->α->X) (l:List α) (d:α) (b:X) (h:k<l.length):(l.take (k+1)).foldl g b=g ((l.take k).foldl g b) (l.getD k d):=by
 rw[Ay l d h,ABz];rfl
theorem A0q (l:List Int):∀(out:List Int),(l.foldl AW out).length<=out.length+l.length:=by
 induction l with
 | nil=>intro out;simp
 | cons x l a =>
  intro out;have h1:=a (AW out x);have b:(AW out x).length<=out.length+1:=by
   unfold AW;split<;>simp
  simp only[ON,Is];omega
theorem A9N:Af Tryz.prog 62 fsS:=by
 refine fK [0,1,2,3,4,5,12,21] Tryz.func62 Tryz.ntmps62 (AG A0p (AG VM AH)) ?_;rintro w0 O0 ⟨m,u⟩ e-d;have d:NH m:=d;have n:=Zt d;simp only[fsS,AM];repeat'(first|exact a6|apply eS rfl|apply AB|refine rX e ?_ ?_|refine rC ?_ ?_<;>intro b<;>try(cases b;done))
 .exact d
 have g:(m.1,m.2.1,m.2.2.1,m.2.2.2.1,m.2.2.2.2)=m:=rfl;simp only[g]at *;generalize A3 m=l at *;refine AJ (ι:={i:Nat//i<=l.length}) (λi=>⟨[(3,.p CH l),(4,.sr 8 T3 0 ((l.take i.1).foldl AW []).length),(5,.p (.int .i64) (i.1:Int))],[(8,.arr 3 T3 ((l.take i.1).foldl AW []))]⟩) (λi=>l.length-i.1) ⟨0,GO _⟩ (AC [(8,.nm 8)] rfl rfl ?_ ?_) (λi=>?_)
 .first|exact eN|refine eM ?_
  rfl
 .first|exact eN|refine eM ?_
  rfl
 obtain⟨i,hi⟩:=i;have j:=A0q (l.take i) [];simp only[Of,AAt]at j;have a:=λh:i<l.length=>eK AW l 0 [] h;generalize f:(l.take i).foldl AW []=A at *;simp only;repeat'(first|exact a6|apply eS rfl|apply AB|refine rX e ?_ ?_|refine rC ?_ ?_<;>intro b<;>try(cases b;done))
 .exact b
 .refine⟨a4,?_⟩;simp only[AP];omega
 .omega
 .have c:i<l.length:=by exact eV
  have a:=(a c).trans (At b);refine⟨⟨i+1,c⟩,a2,AC [(8,.nm 8)] rfl rfl ?_ ?_⟩
  .simp only[a];first|exact eN|refine eM ?_
  simp only[a];first|exact eN|refine eM ?_
 .omega
 .have c:i<l.length:=by exact eV
  have a:=(a c).trans (An (ABh.2 b));refine⟨⟨i+1,c⟩,a2,AC [(8,.nm 8)] rfl rfl ?_ ?_⟩
  .simp only[a];first|exact eN|refine eM ?_
  simp only[a];first|exact eN|refine eM ?_
 have k:JK l=A:=by rw[<-f,BY eV];rfl
 refine C9 [8] ?_;exact fI e [.tmp 2] (by rw[k];exact eR)
end
section
attribute [local go_sem] Jl Jm A44 A45 fsS Xy Pb KY Io
def Ap {β:Type} (g:Nat->Option β) (d:β):Nat->Nat->β
 | 0,_=>d
 | k+1,i=>match g i with
  | some r=>r
  | none=>Ap g d k (i+1)
theorem Ct {a:Type} {g:Nat->Option a} {d r s:a} {n:Nat} (h:Ap g d (n-i) i=s) (hi:i<n) (b:g i=some r):s=r:=by
 rw[show n-i=(n-(i+1))+1 by omega]at h;rw[<-h,Ap,b]
theorem Df {a:Type} {g:Nat->Option a} {d s:a} {n:Nat} (h:Ap g d (n-i) i=s) (hi:i<n) (b:g i=none):Ap g d (n-(i+1)) (i+1)=s:=by
 rw[show n-i=(n-(i+1))+1 by omega]at h;rw[<-h,Ap,b]
theorem Ed {g:Nat->Option Z} {d s:Z} {n:Nat} (h:Ap g d (n-i) i=s) (hi:n<=i):s=d:=by
 rw[show n-i=0 by omega]at h;exact h.symm
theorem D5 {c:Type} {g:Nat->Option c} {d:c} (b:∀i r,g i=some r->r≠d):∀k i,Ap g d k i=d->∀j,i<=j->j<i+k->g j=none
 | 0,i,_,j,h1,f=>by omega
 | k+1,i,h,j,h1,f=>by
  cases a:g i with
  | some r=>rw[Ap,a]at h;exact absurd h (b i r a)
  | none =>
   rw[Ap,a]at h;by_cases e:j=i
   .rw[e];exact a
   exact D5 b k (i+1) h j O1 O1
theorem HR {a:Type} {g:Nat->Option a} {d:a}:∀k i,(∀j,i<=j->j<i+k->g j=none)->Ap g d k i=d
 | 0,_,_=>rfl
 | k+1,i,h=>by
  rw[Ap,h i (OS _) O1];exact HR k (i+1) λj h1 b=>h j O1 O1
def k9 (xs:List RF) (i:Nat):Option Int :=
 if BG (xs.getD i (ByteArray.empty,0)).1 true=false\/AK (xs.getD i (ByteArray.empty,0)).1 ⟨#[76,65,66,69,76]⟩=true then some 1
 else if 0<(i:Int)/\(CF (xs.getD i (ByteArray.empty,0)).1 (xs.getD (i-1) (ByteArray.empty,0)).1=true\/AK (xs.getD i (ByteArray.empty,0)).1 (xs.getD (i-1) (ByteArray.empty,0)).1=true) then some 3 else none
def Pm (e:F2):Int:=if BG e.1 false=true then Ap (k9 e.2.2) 0 e.2.2.length 0 else 1
def A7D:Ab:={ ins:=[T54],pre:=λ_=>True,out:=λ(e,_)=>[.p C3 (Pm e)],lend:=true }
attribute [local go_sem] A7D
theorem A7E:Af Tryz.prog 103 A7D:=by
 refine fK [0,1,2,3,7,12,31,49] Tryz.func103 Tryz.ntmps103 (AG o7 (AG VC AH)) ?_;rintro w0 O0 ⟨⟨e,f,xs⟩,u⟩ b ⟨⟨-,-,g,-⟩,-⟩ -;simp only[AP]at g;simp only[A7D,AM];repeat'(first|exact a6|apply eS rfl|apply AB|refine rX b ?_ ?_|refine rC ?_ ?_<;>intro a<;>try(cases a;done))
 .have h:Pm (e,f,xs)=1:=An (by rw[a];simp);exact fI b [.tmp 2] (by rw[h];exact eR)
 have hn:BG e false=true:=a;refine AJ (ι:={i:Nat//i<=xs.length/\Ap (k9 xs) 0 (xs.length-i) i=Pm (e,f,xs)}) (λi=>⟨[(1,.bp 1 [] 0),(3,.p (.int .i64) (i.1:Int))],[(1,.box 54 true [.p T9 e,.p T3 f,.p T52 xs])]⟩) (λi=>xs.length-i.1) ⟨0,GO _,(At hn).symm⟩ (AC [(1,.nm 1)] rfl rfl ?_ ?_) (λi=>?_)
 .first|exact eN|refine eM ?_
 .first|exact eN|refine eM ?_
 obtain⟨i,hi,d⟩:=i;have h1:((i:Int)-1).toNat=i-1:=by omega
 simp only;repeat'(first|exact a6|apply eS rfl|apply AB|refine rX b ?_ ?_|refine rC ?_ ?_<;>intro a<;>try(cases a;done))
 all_goals try simp only[h1]at a
 .exact⟨a,λ_=>a⟩
 .rw[Ct d eV (At a)];exact fI b [.tmp 2]
 .exact⟨λ_=>by exact eV,λ_=>by exact eV,λ_=>by exact eV⟩
 .rename_i c;rw[Ct d eV ((An (by rw[c.1,c.2];simp)).trans (At a))];exact fI b [.tmp 2]
 .omega
 .rename_i c;refine⟨⟨i+1,eV,Df d eV ((An (by rw[c.1,c.2];simp)).trans (An λq=>?_))⟩,a2,AC [(1,.nm 1)] rfl rfl ?_ ?_⟩
  .obtain⟨j,k⟩:=a q.1;rw[j,k]at q;simp at q
  .first|exact eN|refine eM ?_
  first|exact eN|refine eM ?_
 rw[Ed d eV];exact fI b [.tmp 2]
def eL (a:List ByteArray) (i:Nat):Option Int:=if VN (a.getD i ByteArray.empty)=true then none else some 1
def XE (a:List F2) (i:Nat):Option Int:=if Pm (a.getD i (ByteArray.empty,0,[]))=0 then none else some (Pm (a.getD i (ByteArray.empty,0,[])))
def Zu (n:Int) (l:List Int) (i:Nat):Option Int:=if l.getD i 0<0\/n<=l.getD i 0 then some 2 else none
def A0r (a:List ByteArray) (l:List Int) (i:Nat):Option Int:=if AK (a.getD (l.getD i 0).toNat ByteArray.empty) ⟨#[104]⟩=true then none else some 2
def FJ (m:CJ):Int :=
 if 16<(m.2.2.2.1.length:Int)\/16<(m.2.2.2.2.length:Int)\/256<(m.2.2.1.length:Int) then 7
 else if Ap (eL m.2.2.1) 0 m.2.2.1.length 0≠0 then 1
 else if Ap (XE m.2.2.2.1) 0 m.2.2.2.1.length 0≠0 then Ap (XE m.2.2.2.1) 0 m.2.2.2.1.length 0
 else if Ap (Zu m.2.2.1.length (A3 m)) 0 (A3 m).length 0≠0 then 2
 else Ap (A0r m.2.2.1 (Jn m)) 0 (Jn m).length 0
def lA:Ab:={ ins:=[oZ],pre:=λ(m,_)=>NH m,out:=λ(m,_)=>[.p C3 (FJ m)] }
theorem pF (m:CJ):∀x∈Jn m,x∈A3 m:=by
 intro x a;simp only[Jn,A3,IN,AAZ,By,RG,H5]at a ⊢;rcases a with (a|⟨e,b,a⟩)|a
 .exact .inl (.inl (.inl (by simpa using a)))
 .exact .inl (.inr ⟨e,b,.inl (by simpa using a)⟩)
 exact .inr a
theorem pG {l:List Int} (h:Ap (Zu n l) 0 l.length 0=0):∀x∈l,0<=x/\x<n:=by
 intro x c;obtain⟨j,b,rfl⟩:=wL.1 c;have h1:=D5 (λi r a=>by unfold Zu at a;split at a<;>cases a;decide) _ 0 h j (GO _) O1;unfold Zu at h1;split at h1
 .cases h1
 rename_i q;have e:l.getD j 0=l[j]:=by simp[AS,b]
 rw[e]at q;omega
theorem A0s:Af Tryz.prog 61 lA:=by
 refine fK [0,1,2,3,4,5,6,7,8,9,25,30,39,44,54,61,78,84,95] Tryz.func61 Tryz.ntmps61 (AG A0p (AG A7C (AG ST (AG A7E AH)))) ?_;rintro w0 O0 ⟨⟨tp,ix,a,b,cs⟩,u⟩ e ⟨⟨-,-,⟨h0,-⟩,-,-⟩,-⟩ g;have g:NH (tp,ix,a,b,cs):=g;obtain⟨-,h1,A,m⟩:=id g;simp only[AP]at h0;have h1:b.length<=200000:=h1;have m:cs.length<=200000:=m;have k:FJ (tp,ix,a,b,cs)=if 16<(b.length:Int)\/16<(cs.length:Int)\/256<(a.length:Int) then 7 else if Ap (eL a) 0 a.length 0≠0 then 1 else if Ap (XE b) 0 b.length 0≠0 then Ap (XE b) 0 b.length 0
  else if Ap (Zu a.length (A3 (tp,ix,a,b,cs))) 0 (A3 (tp,ix,a,b,cs)).length 0≠0 then 2 else Ap (A0r a (Jn (tp,ix,a,b,cs))) 0 (Jn (tp,ix,a,b,cs)).length 0:=rfl
 have F:=Zt g;have B:(Jn (tp,ix,a,b,cs)).length<=600001:=by
  have I:=Ip RG 1 b λ_ _=>OS 1;have J:=Ip EH 2 cs λ_ _=>OS 2;simp only[Jn,IS,Is,AAt];omega
 simp only[lA,AM];repeat'(first|exact a6|apply eS rfl|apply AB|refine rX e ?_ ?_|refine rC ?_ ?_<;>intro c<;>try(cases c;done))
 .rw[k,At O1];exact fI e [.tmp 2]
 rw[k,An O1];clear k;generalize t:Ap (eL a) 0 a.length 0=V;generalize s:Ap (XE b) 0 b.length 0=R;generalize r:A3 (tp,ix,a,b,cs)=ol at *;generalize o:Jn (tp,ix,a,b,cs)=f at *;have y:∀x∈f,x∈ol:=by rw[<-r,<-o];exact pF _
 generalize h:Ap (Zu a.length ol) 0 ol.length 0=C;generalize v:Ap (A0r a f) 0 f.length 0=H;refine AJ (ι:={i:Nat//i<=a.length/\Ap (eL a) 0 (a.length-i) i=V}) (λi=>⟨[(1,.bp 1 [] 0),(3,.p (.int .i64) (i.1:Int))],[(1,.box 41 true [.p T3 tp,.p T3 ix,.p Cj a,.p NF b,.p Ot cs])]⟩) (λi=>a.length-i.1) ⟨0,GO _,t⟩ (AC [(1,.nm 1)] rfl rfl ?_ ?_) (λi=>?_)
 .first|exact eN|refine eM ?_
 .first|exact eN|refine eM ?_
 obtain⟨i,hi,d⟩:=i;simp only;repeat'(first|exact a6|apply eS rfl|apply AB|refine rX e ?_ ?_|refine rC ?_ ?_<;>intro c<;>try(cases c;done))
 .exact c
 .rw[Ct d eV (An (by rw[c];simp)),At df];exact fI e [.tmp 2]
 .omega
 .refine⟨⟨i+1,eV,Df d eV (At c)⟩,a2,AC [(1,.nm 1)] rfl rfl ?_ ?_⟩
  .first|exact eN|refine eM ?_
  first|exact eN|refine eM ?_
 rw[Ed d eV,An df];clear t d;refine AJ (ι:={j:Nat//j<=b.length/\Ap (XE b) 0 (b.length-j) j=R}) (λj=>⟨[(1,.bp 1 [] 0),(4,.p (.int .i64) (j.1:Int))],[(1,.box 41 true [.p T3 tp,.p T3 ix,.p Cj a,.p NF b,.p Ot cs])]⟩) (λj=>b.length-j.1) ⟨0,GO _,s⟩ (AC [(1,.nm 1)] rfl rfl ?_ ?_) (λj=>?_)
 .first|exact eN|refine eM ?_
 .first|exact eN|refine eM ?_
 obtain⟨j,D,d⟩:=j;simp only;repeat'(first|exact a6|apply eS rfl|apply AB|refine rX e ?_ ?_|refine rC ?_ ?_<;>intro c<;>try(cases c;done))
 .exact c
 .rw[Ct d eV (An c),At c];exact fI e [.tmp 2]
 .omega
 .refine⟨⟨j+1,eV,Df d eV (At (by simpa using c))⟩,a2,AC [(1,.nm 1)] rfl rfl ?_ ?_⟩
  .first|exact eN|refine eM ?_
  first|exact eN|refine eM ?_
 .exact g
 simp only[r]at *;rw[Ed d eV,An df];clear s d;refine AJ (ι:={l:Nat//l<=ol.length/\Ap (Zu a.length ol) 0 (ol.length-l) l=C}) (λl=>⟨[(1,.bp 1 [] 0),(6,.p CH ol),(7,.p (.int .i64) (l.1:Int))],[(1,.box 41 true [.p T3 tp,.p T3 ix,.p Cj a,.p NF b,.p Ot cs])]⟩) (λl=>ol.length-l.1) ⟨0,GO _,h⟩ (AC [(1,.nm 1)] rfl rfl ?_ ?_) (λl=>?_)
 .first|exact eN|refine eM ?_
 .first|exact eN|refine eM ?_
 obtain⟨l,E,d⟩:=l;simp only;repeat'(first|exact a6|apply eS rfl|apply AB|refine rX e ?_ ?_|refine rC ?_ ?_<;>intro c<;>try(cases c;done))
 .exact⟨c,λ_=>c⟩
 .rw[Ct d eV (At c),At df];exact fI e [.tmp 2]
 .omega
 .refine⟨⟨l+1,eV,Df d eV (An O1)⟩,a2,AC [(1,.nm 1)] rfl rfl ?_ ?_⟩
  .first|exact eN|refine eM ?_
  first|exact eN|refine eM ?_
 .exact g
 have n:=Ed d eV;rw[n,An df];have w:∀x∈f,0<=x/\x<(a.length:Int):=λx z=>pG (h.trans n) x (y x z);simp only[o]at *;clear d h;refine AJ (ι:={q:Nat//q<=f.length/\Ap (A0r a f) 0 (f.length-q) q=H}) (λq=>⟨[(1,.bp 1 [] 0),(8,.p CH f),(9,.p (.int .i64) (q.1:Int))],[(1,.box 41 true [.p T3 tp,.p T3 ix,.p Cj a,.p NF b,.p Ot cs])]⟩) (λq=>f.length-q.1) ⟨0,GO _,v⟩ (AC [(1,.nm 1)] rfl rfl ?_ ?_) (λq=>?_)
 .first|exact eN|refine eM ?_
 .first|exact eN|refine eM ?_
 obtain⟨q,G,d⟩:=q;simp only;repeat'(first|exact a6|apply eS rfl|apply AB|refine rX e ?_ ?_|refine rC ?_ ?_<;>intro c<;>try(cases c;done))
 .refine⟨c,w _ ?_⟩;exact AF f 0 eV
 .rw[Ct d eV (An (by rw[c];simp))];exact fI e [.tmp 2]
 .omega
 .refine⟨⟨q+1,eV,Df d eV (At c)⟩,a2,AC [(1,.nm 1)] rfl rfl ?_ ?_⟩
  .first|exact eN|refine eM ?_
  first|exact eN|refine eM ?_
 rw[Ed d eV];exact fI e [.tmp 2]
end
section
attribute [local go_sem] Jl fsS lA KY Io
def A0t (l:List Int) (i:Nat):Option Int:=if l.getD i 0=i then none else some 3
def GM (m:CJ):Int:=if FJ m≠0 then FJ m else if (JK (A3 m)).length≠m.2.2.1.length then 3 else Ap (A0t (JK (A3 m))) 0 (JK (A3 m)).length 0
def OK:Ab:={ ins:=[oZ],pre:=λ(m,_)=>NH m,out:=λ(m,_)=>[.p C3 (GM m)] }
theorem eO:Af Tryz.prog 26 OK:=by
 refine fK [0,1,2,3,4,5,9,18,22,30] Tryz.func26 Tryz.ntmps26 (AG A0s (AG A9N AH)) ?_;rintro w0 O0 ⟨m,u⟩ c-e;have e:NH m:=e;have k:=Zt e;have j:=A0q (A3 m) [];have f:GM m=if FJ m≠0 then FJ m else if (JK (A3 m)).length≠m.2.2.1.length then 3 else Ap (A0t (JK (A3 m))) 0 (JK (A3 m)).length 0:=rfl
 have d:(m.1,m.2.1,m.2.2.1,m.2.2.2.1,m.2.2.2.2)=m:=rfl;have h:(A3 m).foldl AW []=JK (A3 m):=rfl;simp only[h,AAt]at j;simp only[OK,AM];repeat'(first|exact a6|apply eS rfl|apply AB|refine rX c ?_ ?_|refine rC ?_ ?_<;>intro a<;>try(cases a;done))
 all_goals try simp only[d]at *
 .exact e
 .rw[f,At a];exact fI c [.tmp 2]
 .exact e
 .rename_i b;have b:FJ m=0:=by simpa using b
  rw[f,An (by rw[b];simp),At eV];exact fI c [.tmp 2]
 rename_i b;have b:FJ m=0:=by simpa using b
 have hn:((JK (A3 m)).length:Int)=(m.2.2.1.length:Int):=by simpa using a
 rw[f,An (by rw[b];simp),An O1];clear f;generalize JK (A3 m)=l at *;generalize g:Ap (A0t l) 0 l.length 0=S;refine AJ (ι:={i:Nat//i<=l.length/\Ap (A0t l) 0 (l.length-i) i=S}) (λi=>⟨[(4,.p CH l),(5,.p (.int .i64) (i.1:Int))],[]⟩) (λi=>l.length-i.1) ⟨0,GO _,g⟩ (eW []) (λi=>?_)
 obtain⟨i,hi,d⟩:=i;simp only;repeat'(first|exact a6|apply eS rfl|apply AB|refine rX c ?_ ?_|refine rC ?_ ?_<;>intro a<;>try(cases a;done))
 .exact a
 .rw[Ct d eV (An a)];exact fI c [.tmp 2]
 .omega
 .exact⟨⟨i+1,eV,Df d eV (At (by simpa using a))⟩,a2,eW []⟩
 rw[Ed d eV];exact fI c [.tmp 2]
def lB (f:List Int) (e:F2):F2:=(e.1,Ej f e.2.1,e.2.2.map λa=>(a.1,Ej f a.2))
def rnQ (f:List Int) (q:MD):MD:=(Ej f q.1,Ej f q.2)
def DJ (m:CJ):CJ:=(Ej (JK (A3 m)) m.1,Ej (JK (A3 m)) m.2.1,(JK (A3 m)).map (λi=>m.2.2.1.getD i.toNat ByteArray.empty),m.2.2.2.1.map (lB (JK (A3 m))),m.2.2.2.2.map (rnQ (JK (A3 m))))
theorem lC (l:List Int):∀(out:List Int),∀x∈l.foldl AW out,x∈out\/x∈l:=by
 induction l with
 | nil=>intro out x a;exact .inl a
 | cons y l b =>
  intro out x a;rcases b (AW out y) x a with h|h
  .unfold AW at h;split at h
   .rcases IN.1 h with h|h
    .exact .inl h
    exact .inr (By.2 (.inl (iS.1 h)))
   exact .inl h
  exact .inr (IF _ h)
end
def BI (b:List Int) (i:Nat):Bool:=(b.getD (i / 64) 0).toNat.testBit (i % 64)
def U64 (x:Int):Prop:=0<=x/\x<18446744073709551616
theorem FY {x:Int} (h:U64 x):(BitVec.ofInt 64 x).toNat=x.toNat:=by
 rw[BitVec.toNat_ofInt];have h1:=h.1;have a:=h.2;rw[Int.emod_eq_of_lt h1 (by simpa using a)]
theorem Pn {n:Nat} (h:n<18446744073709551616):IntKind.u64.wrap (n:Int)=n:=KG (by rw[KM];omega)
theorem A46 {x:Int} (a:U64 x) (b:U64 y):Cp .or .u64 x y=((x.toNat ||| y.toNat:Nat):Int):=by
 have h1:(BitVec.ofInt IntKind.u64.bits x ||| BitVec.ofInt IntKind.u64.bits y).toNat=x.toNat ||| y.toNat:=by
  rw[BitVec.toNat_or];show (BitVec.ofInt 64 x).toNat ||| (BitVec.ofInt 64 y).toNat=_
  rw[FY a,FY b]
 unfold Cp;simp only;rw[h1];have e:(18446744073709551616:Nat)=2 ^ 64:=by decide
 refine Pn ?_;rw[e];refine Nat.or_lt_two_pow ?_ ?_
 .have:=a.2;have:=a.1;omega
 have:=b.2;have:=b.1;omega
theorem H6 {x:Int} (a:U64 x) (b:U64 y):Cp .and .u64 x y=((x.toNat &&& y.toNat:Nat):Int):=by
 have h1:(BitVec.ofInt IntKind.u64.bits x &&& BitVec.ofInt IntKind.u64.bits y).toNat=x.toNat &&& y.toNat:=by
  rw[BitVec.toNat_and];show (BitVec.ofInt 64 x).toNat &&& (BitVec.ofInt 64 y).toNat=_;rw[FY a,FY b]
 unfold Cp;simp only;rw[h1];refine Pn (ACM ACI ?_);have:=a.2;have:=a.1;omega
theorem RH {x:Int}:Cp .andNot .u64 x y=((BitVec.ofInt 64 x &&& ~~~BitVec.ofInt 64 y).toNat:Int):=by
 show IntKind.u64.wrap ((BitVec.ofInt 64 x &&& ~~~BitVec.ofInt 64 y).toNat:Int)=_;exact Pn (BitVec.isLt _)
theorem SU {x:Int} (d:U64 x) (e:U64 y) (h:Cp .andNot .u64 x y=0) {r:Nat} (c:r<64) (b:x.toNat.testBit r=true):y.toNat.testBit r=true:=by
 rw[RH]at h;have h1:(BitVec.ofInt 64 x &&& ~~~BitVec.ofInt 64 y).toNat=0:=by omega
 have a:(BitVec.ofInt 64 x &&& ~~~BitVec.ofInt 64 y).toNat.testBit r=false:=by rw[h1];exact Nat.zero_testBit r
 rw[ABY,BitVec.getLsbD_and,BitVec.getLsbD_not,<-ABY,<-ABY,FY d,FY e,b]at a;simpa[c] using a
theorem SV {x:Int}:Cp .andNot .u64 x x=0:=by
 rw[RH];simp
theorem OL {b:List Int}:∀ {n:Nat},∀k,Ck b n<=k->k<n->b.getD k 0=0
 | 0,k,_,h=>by omega
 | n+1,k,h1,c=>by
  unfold Ck at h1;split at h1
  .rename_i a;by_cases hk:k=n
   .rw[hk];exact a
   exact OL k h1 O1
  omega
theorem Po (b:List Int) (k:Nat):(BS b).getD k 0=b.getD k 0:=by
 unfold BS;by_cases h:k<Ck b b.length
 .simp[AS,AAl,h]
 have h1:(List.take (Ck b b.length) b).getD k 0=0:=by
  rw[AS,AAl,An h];rfl
 rw[h1];by_cases a:k<b.length
 .exact(OL k O1 a).symm
 rw[AS,oN O1];rfl
theorem OM (b:List Int) (i:Nat):BI (BS b) i=BI b i:=by unfold BI;rw[Po]
def H7 (b:List Int):Prop:=∀x∈b,U64 x
theorem BQ {b:List Int} (h:H7 b) (k:Nat):U64 (b.getD k 0):=by
 rw[AS];cases hh:b[k]? with
 | none=>exact⟨sc,sc⟩
 | some x=>exact h x (AAO hh)
theorem OO {b:List Int} (h:H7 b):H7 (BS b):=λx a=>h x (AAC a)
theorem Hh (b:List Int) (k:Nat):F1 b (k:Int)=b.getD k 0:=by
 unfold F1;split
 .simp
 rename_i h;rw[AS,oN O1];rfl
theorem Mz (op:BinOp) (a b:List Int) {n k:Nat} (h:k<n):(GI op a b n).getD k 0=Cp op .u64 (a.getD k 0) (b.getD k 0):=by
 unfold GI;rw[AS,AAV,ABy h];show Cp op .u64 (a.getD k 0) (F1 b (k:Int))=_;rw[Hh]
theorem Zv (h:Eo a b=true) (hk:k<a.length):Cp .andNot .u64 (a.getD k 0) (b.getD k 0)=0:=by
 unfold Eo Q9 BS at h;have h1:(List.take (Ck (GI .andNot a b a.length) (GI .andNot a b a.length).length) (GI .andNot a b a.length)).length=0:=by
  have:=AAh.1 h;omega
 rw[Of,Eb]at h1;have d:=VD (GI .andNot a b a.length) a.length;have c:=OL (b:=GI .andNot a b a.length) (n:=a.length) k O1 hk;rw[Mz _ _ _ hk]at c;exact c
theorem ME (ha:H7 a) (c:H7 b) (h:Eo a b=true) {i:Nat} (hi:BI a i=true):BI b i=true:=by
 by_cases hk:i / 64<a.length
 .exact SU (BQ ha _) (BQ c _) (Zv h hk) (ADh _ df) hi
 exfalso;unfold BI at hi;rw[AS,oN O1]at hi;simp at hi
theorem RI {b:List Int}:∀ {n:Nat},(∀k,k<n->b.getD k 0=0)->Ck b n=0
 | 0,_=>rfl
 | n+1,h=>by
  unfold Ck;rw[At (h n O1)];exact RI λk hk=>h k O1
theorem eP (a:List Int):Eo a a=true:=by
 unfold Eo Q9 BS;have h1:Ck (GI .andNot a a a.length) (GI .andNot a a a.length).length=0:=by
  rw[Eb];exact RI λk hk=>by rw[Mz _ _ _ hk];exact SV
 rw[h1];rfl
theorem eQ (a:List Int):DH a a=true:=by unfold DH;rw[eP];rfl
theorem A47 {b:List Int} (j:H7 b) (l:b.length=64) {x:Int} (h0:0<=x) (h1:x<=4095) (i:Nat):BI (uB b x) i=(BI b i||decide (x=(i:Int))):=by
 have d:Int.tdiv x 64=x / 64:=ABx h0;have e:Int.tmod x 64=x % 64:=ABQ h0;obtain⟨n,rfl⟩:∃n:Nat,x=(n:Int):=⟨x.toNat,O1⟩;have hs:ZA .u64 1 ((n:Int) % 64)=((2 ^ (n % 64):Nat):Int):=by
  unfold ZA;have f:min ((n:Int) % 64).toNat IntKind.u64.bits=n % 64:=by
   have:((n:Int) % 64).toNat=n % 64:=by omega
   rw[this];have:IntKind.u64.bits=64:=rfl;omega
  rw[f,Int.one_mul];have:(2:Int) ^ (n % 64)=((2 ^ (n % 64):Nat):Int):=by simp
  rw[this];refine Pn ?_;have a:(2:Nat) ^ (n % 64)<2 ^ 64:=Nat.pow_lt_pow_right df (ADh _ df);exact a
 have hu:U64 (ZA .u64 1 ((n:Int) % 64)):=by
  rw[hs];have a:(2:Nat) ^ (n % 64)<2 ^ 64:=Nat.pow_lt_pow_right df (ADh _ df);have g:(2:Nat) ^ 64=18446744073709551616:=by decide
  refine⟨AAX _,?_⟩;rw[g]at a;exact aT.2 a
 have hn:((n:Int) / 64).toNat=n / 64:=by omega
 unfold uB BI;rw[d,e,hn];by_cases c:i / 64=n / 64
 .have k:n / 64<b.length:=by omega
  rw[c];have:(b.set (n / 64) (Cp .or .u64 (b.getD (n / 64) 0) (ZA .u64 1 ((n:Int) % 64)))).getD (n / 64) 0=Cp .or .u64 (b.getD (n / 64) 0) (ZA .u64 1 ((n:Int) % 64)):=by
   simp[AS,k]
  rw[this,A46 (BQ j _) hu,hs];simp only[oF,Nat.testBit_or,Nat.testBit_two_pow]
  congr 1
  rw[ACB];omega
 have:(b.set (n / 64) (Cp .or .u64 (b.getD (n / 64) 0) (ZA .u64 1 ((n:Int) % 64)))).getD (i / 64) 0=b.getD (i / 64) 0:=by
  simp[AS,ABf,Ne.symm c]
 rw[this];have:decide ((n:Int)=(i:Int))=false:=by
  rw[Wx];intro h;exact c O1
 rw[this,ACo]
theorem A48 {b:List Int} (c:H7 b) (x:Int):H7 (uB b x):=by
 intro y a;unfold uB at a;rcases AB2 a with h|h
 .exact c y h
 rw[h];have:=Mj .u64 ((BitVec.ofInt IntKind.u64.bits (b.getD (x.tdiv 64).toNat 0) ||| BitVec.ofInt IntKind.u64.bits (ZA .u64 1 (x.tmod 64))).toNat:Int);rw[KM]at this;exact⟨this.1,by have:=this.2;show _<_;exact ACU this df⟩
theorem A49 {l:List Int} (h:l.all okB=true) (i:Nat):BI (wN l) i=decide ((i:Int)∈l)/\H7 (wN l):=by
 have key:∀(l b:List Int),l.all okB=true->H7 b->b.length=64->BI (l.foldl uB b) i=(BI b i||decide ((i:Int)∈l))/\H7 (l.foldl uB b):=by
  intro l;induction l with
  | nil=>intro b _ a _;simp[a]
  | cons x l m =>
   intro b c a d;rw[ABJ,AT]at c;have e:=c.1;unfold okB at e;rw[gO,AAj,Wx,Wx]at e;obtain⟨f,g⟩:=m (uB b x) c.2 (A48 a x) (by simp[uB,d]);rw[ON];refine⟨?_,g⟩;rw[f,A47 a d O1 O1,Bool.or_assoc]
   congr 1
   rw[<-Bool.decide_or,ACB,By,eq_comm]
 have j:H7 (List.replicate 64 (0:Int)):=by
  intro y k;rw[(List.mem_replicate.1 k).2];exact⟨df,df⟩
 have h1:=key l (List.replicate 64 0) h j sc;refine⟨?_,h1.2⟩;unfold wN;rw[h1.1];have:BI (List.replicate 64 (0:Int)) i=false:=by
  unfold BI;have:(List.replicate 64 (0:Int)).getD (i / 64) 0=0:=by
   rw[AS,ABI];split<;>rfl
  rw[this];simp
 rw[this,Bool.false_or]
theorem A0v {low all:List ByteArray} {n:Nat}:((i:Int)∈OJ low all n)↔i<n/\Aa low (all.getD i ByteArray.empty)=true:=by
 unfold OJ;rw[Do];constructor
 .rintro⟨j,a,e⟩;have:j=i:=by omega
  subst this;rw[ABc,tO]at a;exact a
 rintro⟨h1,b⟩;exact⟨i,by rw[ABc,tO];exact⟨h1,b⟩,rfl⟩
theorem A4a {low all:List ByteArray} {n:Nat} (hn:n<=4096):(OJ low all n).all okB=true:=by
 rw[NO];intro x a;unfold OJ at a;obtain⟨j,b,rfl⟩:=Do.1 a;rw[ABc,tO]at b;unfold okB;rw[gO,AAj,Wx,Wx];exact⟨O1,O1⟩
theorem CA {d:List AI} {all:List ByteArray} (c:all.length<=4096) (s:ByteArray) (i:Nat):(BI (Ec d all s) i=true↔i<all.length/\Aa (Co d s) (all.getD i ByteArray.empty)=true)/\H7 (Ec d all s)/\(Ec d all s).length<=64:=by
 have h1:=A4a (low:=Co d s) (all:=all) c;have b:=A49 h1 i;have a:Ec d all s=BS (wN (OJ (Co d s) all all.length)):=by
  unfold Ec ofF;rw[At h1]
 refine⟨?_,?_,?_⟩
 .rw[a,OM,b.1,If,A0v]
 .rw[a];exact OO b.2
 rw[a];unfold BS;have:=Pi (OJ (Co d s) all all.length);rw[Of];omega
theorem Iq (d:List AI) {t:ByteArray} (h:AK s t=true):Av d s=Av d t:=by
 have key:∀(l:List AI) (k:Nat),Cy s k l=Cy t k l:=by
  intro l;induction l with
  | nil=>intro k;rfl
  | cons x l a =>
   intro k;simp only[Cy];have:AK x.1 s=AK x.1 t:=by grind [AK,BP,Bv]
   rw[this,a]
 exact key d 0
theorem Ac {α:Type} {l:List α} {d:α} (h:k<l.length):l.getD k d∈l:=by grind
theorem CK {α:Type} {l:List α} (d:α) {x:α} (h:x∈l):∃k,k<l.length/\l.getD k d=x:=by
 obtain⟨k,hk,e⟩:=wL.1 h;exact⟨k,hk,by rw[AS,As hk];exact e⟩
theorem Ir {d:List AI}:∀ {r:List AI} {k:Nat},OH d k r=0->∀j,j<r.length->¬Av d (r.getD j d0).1<((k+j:Nat):Int)/\BG (r.getD j d0).1 false=true
 | [],_,_,j,a=>by simp at a
 | x :: r,k,h,j,a=>by
  simp only[OH]at h;split at h
  .cases h
  rename_i h1;split at h
  .cases h
  rename_i b;cases j with
  | zero=>exact⟨b,by simpa using h1⟩
  | succ j =>
   have:=Ir h j (by simpa using a);have e:k+(j+1)=k+1+j:=by omega
   rw[e];exact this
theorem Pp (s:ByteArray):∀(l:List AI) (k j:Nat),j<l.length->AK (l.getD j d0).1 s=true->Cy s k l<=((k+j:Nat):Int)
 | [],_,j,h,_=>by simp at h
 | x :: l,k,j,h,e=>by
  simp only[Cy];split
  .omega
  rename_i h1;cases j with
  | zero=>exact absurd e h1
  | succ j =>
   have:=Pp s l (k+1) j (by simpa using h) e;omega
theorem MF {d:List AI} (h:Cm d=0) {j:Nat} (b:j<d.length):Av d (d.getD j d0).1=(j:Int):=by
 have h1:=(Ir h j b).1;have a:=Pp (d.getD j d0).1 d 0 j b (B9 _);rw[AB6]at h1 a;have a:Av d (d.getD j d0).1<=(j:Int):=a;omega
theorem Pq {d:List AI} (h:Cm d=0) {x y:AI} (a:x∈d) (b:y∈d) (e:AK x.1 y.1=true):x=y:=by
 obtain⟨i,hi,rfl⟩:=CK d0 a;obtain⟨j,c,rfl⟩:=CK d0 b;grind [MF,Iq]
theorem lD (d:List AI) (out:List ByteArray) (h:(H0 d out).1=true):∃x∈d,x.1=(H0 d out).2/\Aa out x.1=false/\JG x out=true:=by
 have key:∀(l:List AI) (s:Bool×ByteArray),(∀x∈l,x∈d)->(s.1=true->∃x∈d,x.1=s.2/\Aa out x.1=false/\JG x out=true)->(l.foldl (Il out) s).1=true ->
   ∃x∈d,x.1=(l.foldl (Il out) s).2/\Aa out x.1=false/\JG x out=true:=by
  intro l;induction l with
  | nil=>intro s _ hs h;exact hs h
  | cons y l e =>
   intro s a hs h;rw[ON]at h ⊢;refine e _ (λx c=>a x (by simp[c])) (λb=>?_) h;unfold Il at b ⊢;split
   .grind
   grind
 exact key d _ (λ_ h=>h) (λh=>by cases h) h
def PL (d:List AI) (o:List ByteArray):Prop:=∀j,j<o.length->∃x∈d,x.1=o.getD j ByteArray.empty/\Aa (o.take j) x.1=false/\JG x (o.take j)=true
theorem PL.snoc {d:List AI} (h:PL d o) {x:AI} (i:x∈d) (h1:Aa o x.1=false) (f:JG x o=true):PL d (o++[x.1]):=by
 intro j g;by_cases a:j<o.length
 .obtain⟨y,k,b,c,e⟩:=h j a;grind
 grind
theorem VO {d:List AI}:∀ {n:Nat} {o:List ByteArray},PL d o->PL d (Im d n o)
 | 0,_,h=>h
 | n+1,o,h=>by
  unfold Im;split
  .rename_i b;obtain⟨x,c,e,h1,a⟩:=lD d o b;rw[<-e];exact VO (h.snoc c h1 a)
  exact h
theorem X9 (d:List AI):PL d (Bm d):=VO λj a=>by simp at a
theorem PL.ok {d:List AI} (h:PL d o):Zo d o:=by
 refine⟨λs hs=>?_,?_⟩
 .obtain⟨j,a,rfl⟩:=CK ByteArray.empty hs;obtain⟨x,b,e,-⟩:=h j a;rw[<-e];exact DQ b
 rw[iN];intro i j hi a f;obtain⟨x,b,e,h1,-⟩:=h j a;have c:=Pf h1 o[i] (by rw[ABU];exact⟨i,O1,rfl⟩);grind
theorem lE {n:Nat} {l:List Nat} (h:l.Nodup) (c:∀j∈l,j<n) (hn:n<=l.length) {k:Nat} (hk:k<n):k∈l:=by
 refine DO λb=>?_;have:=DC n (k :: l) (AAF.2 ⟨b,h⟩) (λj a=>by
  rcases By.1 a with rfl|a
  .exact hk
  exact c j a)
 simp at this;omega
theorem lF {d:List AI} (f:d.length<=(Bm d).length) {x:AI} (h:x∈d):∃s∈Bm d,AK s x.1=true:=by
 have a:=(X9 d).ok;have h1:=KW d a;have h0:=DQ h;have l:=DI d x.1;have b:=lE (n:=d.length) h1 (λj c=>by
  obtain⟨s,hs,rfl⟩:=Do.1 c;have h1:=a.decl s hs;rcases DI d s with g|⟨_,g,_⟩<;>omega) (by simpa using f) (k:=(Av d x.1).toNat) O1
 obtain⟨s,hs,e⟩:=Do.1 b;refine⟨s,hs,?_⟩;rcases DI d s with g|⟨_,_,i⟩
 .have:=a.decl s hs;omega
 grind [BP,Bv]
def F3 (d:List AI) (s:ByteArray):Nat:=(Bm d).findIdx λx=>AK x s
theorem H8 (d:List AI) {t:ByteArray} (h:AK s t=true):F3 d s=F3 d t:=by grind [F3,AK,BP,Bv]
theorem KZ {d:List AI} (hn:Cm d=0) (o:d.length<=(Bm d).length) {x:AI} (g:x∈d) (hs:Aa x.2.1 s=true):F3 d s<F3 d x.1:=by
 obtain⟨t,ht,e⟩:=lF o g;have c:F3 d x.1<(Bm d).length:=List.findIdx_lt_length_of_exists ⟨t,ht,e⟩;have heq:AK ((Bm d)[F3 d x.1]) x.1=true:=List.findIdx_getElem (w:=c);obtain⟨y,q,a,-,j⟩:=X9 d (F3 d x.1) c;rw[AS,As c]at a;have a:y.1=(Bm d)[F3 d x.1]:=a;rw[<-a]at heq;have r:=Pq hn q g heq;subst r;obtain⟨u,hu,h⟩:=bY.1 hs;have k:Aa ((Bm d).take (F3 d y.1)) u=true:=NO.1 j u hu;obtain⟨v,f,ev⟩:=bY.1 k;rw[ABU]at f;obtain⟨i,hi,rfl⟩:=f;have n:i<F3 d y.1:=by omega
 refine ACM ?_ n;refine DO λm=>?_;have b:=List.not_of_lt_findIdx (p:=λx=>AK x s) (xs:=Bm d) (i:=i) (by unfold F3 at m;omega);have l:AK ((Bm d)[i]) s=true:=BP ev h;try simp only at b
 rw[l]at b;exact absurd b sc
def XF (d:List AI) (s x:ByteArray):Prop:=AK s x=true\/F3 d s<F3 d x
theorem uF {d:List AI} (hn:Cm d=0) (f:d.length<=(Bm d).length) {c:ByteArray} (b:XF d s c) (e:∀x∈o,XF d s x) {x:AI} (g:x∈d):∀y∈E8 c o x,XF d s y:=by
 intro y a;unfold E8 at a;split at a
 .rename_i h;rw[AT]at h;rcases IN.1 a with a|a
  .exact e y a
  have:y=x.1:=by simpa using a
  subst this;have h1:=KZ hn f g h.1;right;rcases b with b|b
  .rw[H8 d b];exact h1
  omega
 exact e y a
theorem VP {d:List AI} (hn:Cm d=0) (e:d.length<=(Bm d).length) {s c:ByteArray} (b:XF d s c):∀ {l:List AI} {o:List ByteArray},(∀x∈l,x∈d)->(∀x∈o,XF d s x)->∀y∈l.foldl (E8 c) o,XF d s y
 | [],_,_,a=>a
 | x :: l,o,f,a=>by
  rw[ON];exact VP hn e b (λy g=>f y (by simp[g])) (uF hn e b a (f x sc))
theorem SW {d:List AI} (hn:Cm d=0) (b:d.length<=(Bm d).length) {s:ByteArray}:∀ {n i:Nat} {o:List ByteArray},(∀x∈o,XF d s x)->∀y∈Cn d n i o,XF d s y
 | 0,_,_,a=>a
 | n+1,i,o,a=>by
  unfold Cn;split
  .rename_i hi;exact SW hn b (VP hn b (a _ (Ac hi)) (λ_ h=>h) a)
  exact a
theorem A0w {c:ByteArray} {x:AI} {y:ByteArray} (h:y∈o):y∈E8 c o x:=by grind [E8]
theorem M0 {c:ByteArray} {y:ByteArray}:∀ {l:List AI} {o:List ByteArray},y∈o->y∈l.foldl (E8 c) o
 | [],_,h=>h
 | x :: l,o,h=>by rw[ON];exact M0 (A0w h)
theorem Ka {d:List AI} {y:ByteArray}:∀ {n i:Nat} {o:List ByteArray},y∈o->y∈Cn d n i o
 | 0,_,_,h=>h
 | n+1,i,o,h=>by
  unfold Cn;split
  .exact Ka (M0 h)
  exact h
theorem Fv {l:List ByteArray} (h:x∈Ds l s):x∈l\/x=s:=by grind [Ds]
theorem Jo {l:List ByteArray} (h:x∈l):x∈Ds l s:=by
 unfold Ds;split
 .exact h
 have a:x∈l.take (Wy l s)\/x∈l.drop (Wy l s):=IN.1 (by rw[ABS];exact h);grind
theorem MG {l:List ByteArray}:Aa (Ds l s) s=true:=by
 unfold Ds;grind [Ik,Wy,AK,Aa,B9]
theorem FZ {l:List ByteArray} (h:s∈l):Aa l s=true:=bY.2 ⟨s,h,B9 s⟩
theorem Hi {l:List ByteArray} (hs:∀x∈l,x∈m) (h:Aa l s=true):Aa m s=true:=by
 obtain⟨x,a,e⟩:=bY.1 h;exact bY.2 ⟨x,hs x a,e⟩
theorem VQ:∀ {l o:List ByteArray} {x:ByteArray},x∈l.foldl Ds o->x∈o\/x∈l
 | [],_,_,h=>.inl h
 | y :: l,o,x,h=>by
  rw[ON]at h;rcases VQ h with h|h
  .grind [Fv]
  grind
theorem YA:∀ {l o:List ByteArray} {x:ByteArray},x∈o->x∈l.foldl Ds o
 | [],_,_,h=>h
 | y :: l,o,x,h=>by rw[ON];exact YA (Jo h)
theorem Pr:∀ {l o:List ByteArray} {x:ByteArray},x∈l->Aa (l.foldl Ds o) x=true
 | [],_,_,h=>by cases h
 | y :: l,o,x,h=>by
  rw[ON];rcases By.1 h with rfl|h
  .grind [Hi,YA,MG]
  exact Pr h
theorem OP {d:List AI} (h:0<=Av d s):Aa (Co d s) s=true:=by
 unfold Co;rw[An O1];exact Pr (Ka sc)
theorem VR {d:List AI} (hn:Cm d=0) (c:d.length<=(Bm d).length) (h:Aa (Co d s) x=true):XF d s x:=by
 obtain⟨y,a,e⟩:=bY.1 h;have b:XF d s y:=by
  unfold Co at a;split at a
  .cases a
  rcases VQ a with a|a
  .cases a
  refine SW hn c (λz f=>?_) y a;have:z=s:=by simpa using f
  rw[this];exact .inl (B9 s)
 rcases b with b|b
 .exact .inl (BP b e)
 rw[H8 d e]at b;exact .inr b
theorem DR {d:List AI} (h:s∈AO d):∃x∈d,x.1=s:=by
 have key:∀(l:List AI) (o:List ByteArray),s∈l.foldl (λo x=>Ds o x.1) o->s∈o\/∃x∈l,x.1=s:=by
  intro l;induction l with
  | nil=>intro o h;exact .inl h
  | cons x l a =>
   intro o h;rw[ON]at h;rcases a _ h with h|⟨y,b,e⟩
   .grind [Fv]
   grind
 rcases key d [] h with h|h
 .cases h
 exact h
theorem OQ {d:List AI} {x:AI} (h:x∈d):Aa (AO d) x.1=true:=by
 have b:∀(l:List AI) (o:List ByteArray),∀y∈o,y∈l.foldl (λo x=>Ds o x.1) o:=by
  intro l;induction l with
  | nil=>intro o y h;exact h
  | cons x l a=>intro o y h;rw[ON];exact a _ y (Jo h)
 have key:∀(l:List AI) (o:List ByteArray),x∈l->Aa (l.foldl (λo x=>Ds o x.1) o) x.1=true:=by
  intro l;induction l with
  | nil=>intro o h;cases h
  | cons y l a =>
   intro o h;rw[ON];rcases By.1 h with rfl|h
   .grind [Hi,MG]
   exact a _ h
 exact key d [] h
theorem eU {d:List AI} (hn:Cm d=0) (f:d.length<=(Bm d).length) (q:d.length<=256) {i j:Nat} (hi:i<(AO d).length) (c:j<(AO d).length)
  (h:DH (Ec d (AO d) ((AO d).getD i ByteArray.empty)) (Ec d (AO d) ((AO d).getD j ByteArray.empty))=true):AK ((AO d).getD i ByteArray.empty) ((AO d).getD j ByteArray.empty)=true:=by
 have n:=Dt d d.length;rw[sL]at n;have a:(AO d).length<=4096:=by omega
 generalize hs:(AO d).getD i ByteArray.empty=s at *;generalize ht:(AO d).getD j ByteArray.empty=t at *;have o:0<=Av d s:=by
  obtain⟨x,b,e⟩:=DR (s:=s) (by rw[<-hs];exact Ac hi);rw[<-e];exact DQ b
 have p:0<=Av d t:=by
  obtain⟨x,b,e⟩:=DR (s:=t) (by rw[<-ht];exact Ac c);rw[<-e];exact DQ b
 obtain⟨c1,g,-⟩:=CA (d:=d) a s i;obtain⟨c2,k,-⟩:=CA (d:=d) a t i;obtain⟨l,-,-⟩:=CA (d:=d) a s j;obtain⟨m,-,-⟩:=CA (d:=d) a t j;unfold DH at h;rw[AT]at h;have b1:=VR hn f (c2.1 (ME g k h.1 (c1.2 ⟨hi,by rw[hs];exact OP o⟩))).2;have b2:=VR hn f (l.1 (ME k g h.2 (m.2 ⟨c,by rw[ht];exact OP p⟩))).2;rw[hs]at b1;rw[ht]at b2;rcases b1 with b1|b1
 .exact Bv b1
 rcases b2 with b2|b2
 .exact b2
 omega
section
attribute [local go_sem] Zi A06 MB K8 KY
def pH (d:List AI) (all:List ByteArray) (codes:List (List Int)) (b:List Int):Nat->Nat->List ByteArray->ByteArray ⊕ List ByteArray
 | 0,_,l=>.inr l
 | n+1,i,l=>if DH (codes.getD i []) b=true then .inl (all.getD i ByteArray.empty) else pH d all codes b n (i+1) (if Sw b (i:Int)=true then l++[all.getD i ByteArray.empty] else l)
def YB (l:List ByteArray) (s:ByteArray) (i:Nat):ByteArray:=(if 0<(i:Int) then s++ByteArray.mk #[38] else s)++l.getD i ByteArray.empty
def eX (l:List ByteArray):ByteArray:=(List.range l.length).foldl (YB l) ByteArray.empty
def Gj (d:List AI) (all:List ByteArray) (codes:List (List Int)) (b:List Int):ByteArray :=
 match pH d all codes b all.length 0 [] with
 | .inl s=>s
 | .inr l=>eX (A8 d l)
theorem NX {d:List AI} {x:ByteArray}:∀ {l o:List ByteArray},x∈l.foldl (E9 d) o->x∈o\/x∈l
 | [],_,h=>.inl h
 | y :: l,o,h=>by
  rw[ON]at h;rcases NX h with h|h
  .unfold E9 at h;split at h
   .rcases Fv h with h|h
    .exact .inl h
    exact .inr (by simp[h])
   exact .inl h
  exact .inr (by simp[h])
theorem HS {d:List AI} {l:List ByteArray} {x:ByteArray} (h:x∈A8 d l):x∈l:=by
 unfold A8 Ph at h;obtain⟨i,hi,rfl⟩:=Do.1 h;rw[ABc,tO]at hi;rcases NX (Ac (d:=ByteArray.empty) hi.1) with h|h
 .cases h
 exact h
theorem Zw (d:List AI) (l:List ByteArray):(A8 d l).length<=l.length:=aS (eF _ _ _) (JH d l)
theorem lG {l:List ByteArray} (h:∀s∈l,s.size<=32) (k:Nat):(l.getD k ByteArray.empty).size<=32:=by
 rw[AS];cases hh:l[k]? with
 | none=>simp
 | some x=>exact h x (AAO hh)
def Ps (l:List ByteArray) (n:Nat):ByteArray:=(List.range n).foldl (YB l) ByteArray.empty
theorem OT (l:List ByteArray) (n:Nat):Ps l (n+1)=YB l (Ps l n) n:=by
 unfold Ps;rw[AAE,ABz];rfl
theorem VS {l:List ByteArray} (h:∀s∈l,s.size<=32):∀n,(Ps l n).size<=33*n
 | 0=>by simp[Ps]
 | n+1=>by
  have h1:=VS h n;have a:=lG h n;rw[OT];unfold YB;split
  .rw[ABT,ABT];have:(ByteArray.mk #[38]).size=1:=rfl;omega
  rw[ABT];omega
def Zx:Ab:={ ins:=[Ez,Cj,Sv,Ba],pre:=λ(d,all,codes,b,_)=>Pe d/\List.length d<=256/\List.length all<=256/\List.length codes=List.length all/\(∀s∈(all:List ByteArray),s.size<=32)/\(∀x∈(codes:List (List Int)),x.length<=64)/\List.length b<=64,out:=λ(d,all,codes,b,_)=>[.p T9 (Gj d all codes b)] }
theorem uG:Af Tryz.prog 115 Zx:=by
 refine fK [0,1,2,3,8,9,10,11,12,16,24,31,45,49] Tryz.func115 Tryz.ntmps115 (AG tZ (AG A07 (AG VI AH))) ?_;rintro w0 O0 ⟨d,all,codes,b,u⟩ e-⟨hs,z,t,q,C,y,w⟩;have t:all.length<=256:=t;have q:codes.length=all.length:=q;simp only[Zx,AM];repeat'(first|exact a6|apply eS rfl|refine rX e ?_ ?_)
 refine AJ (ι:={x:Nat×List ByteArray//x.1<=all.length/\x.2.length<=x.1/\(∀s∈x.2,s.size<=32)/\pH d all codes b (all.length-x.1) x.1 x.2=pH d all codes b all.length 0 []}) (λx=>⟨[(0,.p Ez d),(1,.p Cj all),(2,.p Sv codes),(3,.p Ba b),(9,.sr 38 T9 0 x.1.2.length),(10,.p (.int .i64) (x.1.1:Int))],[(38,.arr 9 T9 x.1.2)]⟩) (λx=>all.length-x.1.1) ⟨(0,[]),sc,sc,sc,rfl⟩ (eW [(38,.nil)]) (λx=>?_)
 obtain⟨⟨i,l⟩,hi,B,o,f⟩:=x;simp only at hi B o f;have r:i<all.length->pH d all codes b (all.length-i) i l=if DH (codes.getD i []) b=true then .inl (all.getD i ByteArray.empty) else pH d all codes b (all.length-(i+1)) (i+1) (if Sw b (i:Int)=true then l++[all.getD i ByteArray.empty] else l):=by
  intro h;rw[show all.length-i=(all.length-(i+1))+1 by omega];rfl
 simp only;repeat'(first|exact a6|apply eS rfl|apply AB|refine rX e ?_ ?_|refine rC ?_ ?_<;>intro a<;>try(cases a;done))
 .exact⟨by rw[q];exact a,aS (MC y i) df,aS w df⟩
 .assumption
 .have c:i<all.length:=by exact eV
  have j:Gj d all codes b=all.getD i ByteArray.empty:=by
   unfold Gj;rw[<-f,r c,At a]
  exact fI e [.tmp 8] (by rw[j];exact eR)
 .have c:i<all.length:=by exact eV
  exact⟨aT.2 c,by simp only[AP];omega⟩
 .exact eV
 .have c:i<all.length:=by exact eV
  have hn:=r c;rw[An (by rw[‹DH _ _=false›];simp),At a]at hn;refine⟨⟨(i+1,l++[all.getD i ByteArray.empty]),a2,by simp only[IS,nO];omega,?_,hn.symm.trans f⟩,a2,AC [(38,.nm 38)] rfl rfl ?_ ?_⟩
  .intro s hs;rcases IN.1 hs with hs|hs
   .exact o s hs
   have:s=all.getD i ByteArray.empty:=by simpa using hs
   rw[this];exact lG C i
  .exact eN
  exact eN
 .exact eV
 .have c:i<all.length:=by exact eV
  have hn:=r c;rw[An (by rw[‹DH _ _=false›];simp),An (by rw[a];simp)]at hn;exact⟨⟨(i+1,l),a2,a2,o,hn.symm.trans f⟩,a2,eW [(38,.nm 38)]⟩
 have j:Gj d all codes b=eX (A8 d l):=by
  unfold Gj;rw[<-f];have:all.length-i=0:=by exact eV
  rw[this];rfl
 refine C9 [38] ?_;repeat'(first|exact a6|apply eS rfl|refine rX e ?_ ?_)
 .exact⟨hs,z,O1⟩
 have v:∀s∈A8 d l,s.size<=32:=λs h=>o s (HS h);have E:=Zw d l;have A:eX (A8 d l)=Ps (A8 d l) (A8 d l).length:=rfl;rw[A]at j;generalize A8 d l=m at *;refine AJ (ι:={k:Nat//k<=m.length}) (λk=>⟨[(9,.p Cj m),(11,.p T9 (Ps m k.1)),(12,.p (.int .i64) (k.1:Int))],[]⟩) (λk=>m.length-k.1) ⟨0,GO _⟩ (AC [] rfl rfl ?_ ?_) (λk=>?_)
 .exact eN
 .refine eM ?_;rfl
 obtain⟨k,hk⟩:=k;have hk:k<=m.length:=hk;have D:=VS v k;have n:=OT m k;have F:=lG v k;unfold YB at n;simp only;repeat'(first|exact a6|apply eS rfl|apply AB|refine rX e ?_ ?_|refine rC ?_ ?_<;>intro a<;>try(cases a;done))
 .have h1:(ByteArray.mk #[38]).size=1:=rfl;rw[h1];simp only[AP];exact eV
 .refine⟨a4,?_⟩;have h1:(ByteArray.mk #[38]).size=1:=rfl;rw[ABT,h1];simp only[AP];exact eV
 .exact eV
 .have g:k<m.length:=by exact eV
  rw[At a]at n;refine⟨⟨k+1,g⟩,a2,AC [] rfl rfl ?_ ?_⟩
  .exact eN
  simp only[n];exact eN
 .refine⟨a4,?_⟩;simp only[AP];exact eV
 .exact eV
 .have g:k<m.length:=by exact eV
  rw[An (ABh.2 a)]at n;refine⟨⟨k+1,g⟩,a2,AC [] rfl rfl ?_ ?_⟩
  .exact eN
  simp only[n];exact eN
 have g:k=m.length:=by exact eV
 rw[<-g]at j;exact fI e [.tmp 8] (by rw[j];exact eR)
end
section
attribute [local go_sem] TZ Pd A0k Zs Zx Zr
def Fa (x:AR) (out:List AR):Nat->Nat
 | 0=>0
 | n+1=>if Fu x (out.getD n c0)=true then Fa x out n else n+1
def Zy (out:List AR) (x:AR):List AR:=out.take (Fa x out out.length)++[x]++out.drop (Fa x out out.length)
def AZ (d:List AI):List (List Int):=(AO d).map λs=>Ec d (AO d) s
def GN (d:List AI) (all:List ByteArray) (codes:List (List Int)) (out:List AR) (b:List Int):List AR:=Zy out (Gj d all codes b,b)
def RJ (d:List AI):List AR->List Int->List AR:=GN d (AO d) (AZ d)
theorem OU (d:List AI) (all:List ByteArray) (codes:List (List Int)):∀(l:List (List Int)) (o:List AR),(l.foldl (GN d all codes) o).length=o.length+l.length
 | [],o=>by simp
 | b :: l,o=>by
  rw[ON,OU d all codes l];unfold GN Zy;simp only[IS,Of,ABv,Is,AAt];omega
theorem VT {d:List AI} {all:List ByteArray} {codes:List (List Int)}:∀ {l:List (List Int)} {o:List AR},(∀c∈l,c.length<=64)->(∀y∈o,y.2.length<=64)->∀y∈l.foldl (GN d all codes) o,y.2.length<=64
 | [],_,_,e=>e
 | b :: l,o,f,e=>by
  rw[ON];refine VT (λc g=>f c (by simp[g])) (λy a=>?_);unfold GN Zy at a;simp only[IN,iS]at a;rcases a with (a|a)|a
  .exact e y (AAC a)
  .rw[a];exact f b sc
  exact e y (ABH a)
theorem eY (x:AR) (out:List AR):∀n,Fa x out n<=n
 | 0=>OS _
 | n+1=>by
  unfold Fa;split
  .exact Nat.le_succ_of_le (eY x out n)
  exact OS _
def AL (d:List AI):List AR:=(A0 (AZ d)).foldl (RJ d) []
def CB (d:List AI):List AR×Int :=
 if BB d≠0 then ([],BB d) else if 256<(A0 (AZ d)).length then ([],7) else (AL d,0)
theorem lH {b:Bool} (h:BG s b=true):s.size<=32:=by
 unfold BG at h;rw[AT]at h;have h1:=h.1;unfold OE at h1;simp only[gO,AAj,Wx]at h1;have:=h1.1.1.2;omega
theorem eZ {d:List AI} (hn:Cm d=0):∀s∈AO d,s.size<=32:=by
 intro s hs;obtain⟨x,b,rfl⟩:=DR hs;obtain⟨j,a,rfl⟩:=CK d0 b;exact lH (Ir hn j a).2
def Kb (d:List AI) (n:Nat):List (List Int):=((AO d).take n).map λs=>Ec d (AO d) s
theorem lI {d:List AI} {n:Nat} (h:n<=(AO d).length):(Kb d n).length=n:=by simp[Kb,h]
theorem e9 {d:List AI} {n:Nat} (h:n<(AO d).length):Kb d (n+1)=Kb d n++[Ec d (AO d) ((AO d).getD n ByteArray.empty)]:=by
 unfold Kb;rw[Ay _ ByteArray.empty h,AAH];rfl
theorem lJ (d:List AI):Kb d (AO d).length=AZ d:=by simp[Kb,AZ]
theorem lK (d:List AI):(AZ d).length=(AO d).length:=by simp[AZ]
theorem OV {d:List AI} (h:d.length<=256):∀c∈AZ d,c.length<=64:=by
 intro c a;unfold AZ at a;obtain⟨s,-,rfl⟩:=Do.1 a;have b:=Dt d d.length;rw[sL]at b;exact(CA (d:=d) (all:=AO d) O1 s 0).2.2
theorem fA {i:Nat}:∀ {n k:Nat} {l:List (List Int)},(∀c∈l,c.length<=64)->∀c∈GL i n k l,c.length<=64
 | 0,_,_,h=>h
 | n+1,k,l,h=>by
  unfold GL;split
  .exact fA (eJ h i k)
  exact h
theorem Pt:∀ {n i:Nat} {l:List (List Int)},(∀c∈l,c.length<=64)->∀c∈H4 n i l,c.length<=64
 | 0,_,_,h=>h
 | n+1,i,l,h=>by
  unfold H4;split
  .exact Pt (fA h)
  exact h
theorem fB {out:List AR} {x y:AR}:y∈Zy out x↔y=x\/y∈out:=by
 unfold Zy;rw[IN,IN,iS];have h:=IN (a:=y) (s:=out.take (Fa x out out.length)) (t:=out.drop (Fa x out out.length));rw[ABS]at h;rw[h];constructor
 .rintro ((h|h)|h)
  .exact .inr (.inl h)
  .exact .inl h
  exact .inr (.inr h)
 rintro (h|h|h)
 .exact .inl (.inr h)
 .exact .inl (.inl h)
 exact .inr h
def RK:Ab:={ ins:=[Ez],pre:=λ_=>True,out:=λ(d,_)=>[.p Jg (CB d).1,.p C3 (CB d).2] }
theorem Pu:Af Tryz.prog 65 RK:=by
 refine fK [0,2,3,4,5,6,7,8,9,10,11,12,13,17,24,41,45,73] Tryz.func65 Tryz.ntmps65 (AG t9 (AG X0 (AG A43 (AG uE (AG uG (AG uC AH)))))) ?_;rintro w0 O0 ⟨d,u⟩ g - -;simp only[RK,AM];repeat'(first|exact a6|apply eS rfl|refine rX g ?_ ?_|refine rC ?_ ?_<;>intro a<;>try(cases a;done))
 .have h1:CB d=([],BB d):=by unfold CB;rw[At a]
  exact fI g [.tmp 2,.tmp 3] (by rw[h1];exact eR)
 .have i:BB d=0:=by simpa using a
  obtain⟨-,E,-⟩:=A2 i;exact aS E df
 have i:BB d=0:=by simpa using a
 obtain⟨M,s,-,hn,-⟩:=A2 i;have F:=Dt d d.length;rw[sL]at F;have N:=eZ hn;refine AJ (ι:={n:Nat//n<=(AO d).length}) (λn=>⟨[(0,.p Ez d),(5,.p Cj (AO d)),(6,.sr 36 Ba 0 (Kb d n.1).length),(7,.p (.int .i64) (n.1:Int))],[(36,.arr 111 Ba (Kb d n.1))]⟩) (λn=>(AO d).length-n.1) ⟨0,GO _⟩ (AC [(36,.nil)] rfl rfl ?_ ?_) (λn=>?_)
 .refine eM ?_;rfl
 .refine eM ?_;rfl
 obtain⟨n,I⟩:=n;have Q:=lI I;have hs:=λh=>e9 (d:=d) (n:=n) h;simp only;repeat'(first|exact a6|apply eS rfl|apply AB|refine rX g ?_ ?_|refine rC ?_ ?_<;>intro a<;>try(cases a;done))
 .refine⟨a,⟨s,by dsimp only[Ty.den]at *;omega⟩,?_⟩;simp only[AP];dsimp only[Ty.den]at *;omega
 .exact eV
 .have w:n<(AO d).length:=by exact eV
  have e:=hs w;refine⟨⟨n+1,O1⟩,a2,AC [(36,.nm 36)] rfl rfl ?_ ?_⟩
  .simp only[e];exact eN
  simp only[e];exact eN
 have w:n=(AO d).length:=by exact eV
 subst w;rw[lJ];have H:=lK d;have x:=OV s;have t:∀c∈A0 (AZ d),c.length<=64:=Pt x;refine C9 [36] ?_;repeat'(first|exact a6|apply eS rfl|refine rX g ?_ ?_|refine rC ?_ ?_<;>intro a<;>try(cases a;done))
 .exact⟨O1,x⟩
 .have h1:CB d=([],7):=by
   unfold CB;rw[An (by rw[i];simp),At O1]
  exact fI g [.tmp 2,.tmp 3] (by rw[h1];exact eR)
 have D:CB d=((A0 (AZ d)).foldl (GN d (AO d) (AZ d)) [],0):=by
  unfold CB;rw[An (by rw[i];simp),An O1];rfl
 generalize A0 (AZ d)=f at *;generalize AZ d=codes at *;generalize AO d=all at *;refine AJ (ι:={k:Nat//k<=f.length}) (λk=>⟨[(0,.p Ez d),(5,.p Cj all),(6,.p Sv codes),(8,.p Sv f),(9,.sr 9 Zf 0 ((f.take k.1).foldl (GN d all codes) []).length),(10,.p (.int .i64) (k.1:Int))],[(9,.arr 127 Zf ((f.take k.1).foldl (GN d all codes) []))]⟩) (λk=>f.length-k.1) ⟨0,GO _⟩ (AC [(9,.nil)] rfl rfl ?_ ?_) (λk=>?_)
 .refine eM ?_;rfl
 .refine eM ?_;rfl
 obtain⟨k,hk⟩:=k;have C:=OU d all codes (f.take k) [];have O:(f.take k).length=k:=by rw[Of];exact ABO hk
 have J:=VT (d:=d) (all:=all) (codes:=codes) (l:=f.take k) (o:=[]) (λc g=>t c (AAC g)) sc;have L:=λh:k<f.length=>Ep (GN d all codes) f [] [] h;rw[O]at C;simp only[AAt,AB6]at C;generalize B:(f.take k).foldl (GN d all codes) []=out at *;simp only;repeat'(first|exact a6|apply eS rfl|refine rX g ?_ ?_|refine rC ?_ ?_<;>intro a<;>try(cases a;done))
 .exact⟨a,⟨M,s,O1,H,N,x,MC t k⟩,a⟩
 .have v:k<f.length:=by exact eV
  have e:=L v;have G:=MC t k;generalize f.getD k []=b at *;unfold GN at e;generalize Gj d all codes b=nm at *;refine AJ (ι:={q:Nat//q<=out.length/\Fa (nm,b) out q=Fa (nm,b) out out.length}) (λq=>⟨[(0,.p Ez d),(5,.p Cj all),(6,.p Sv codes),(8,.p Sv f),(9,.sr 9 Zf 0 out.length),(10,.p (.int .i64) (k:Int)),(11,.bp 11 [] 0),(12,.p (.int .i64) (q.1:Int))],[(9,.arr 127 Zf out),(11,.box 127 true [.p T9 nm,.p Ba b])]⟩) (λq=>q.1) ⟨out.length,OS _,rfl⟩ (eW [(9,.nm 9),(11,.nm 11)]) (λq=>?_)
  obtain⟨q,j,A⟩:=q;have j:q<=out.length:=j;simp only;repeat'(first|exact a6|apply eS rfl|apply AB|refine rX g ?_ ?_|refine rC ?_ ?_<;>intro a<;>try(cases a;done))
  .refine⟨λh=>by omega,λh=>by exact eV,λh=>⟨aS G df,aS (J _ (AF out c0 (k:=((q:Int)-1).toNat) O1)) df⟩⟩
  .omega
  .obtain⟨P,z⟩:=a;obtain⟨q,rfl⟩:∃r,q=r+1:=⟨q-1,O1⟩;have m:((q+1:Nat):Int)-1=(q:Int):=by omega
   refine⟨⟨q,O1,?_⟩,ABn q,AC [(9,.nm 9),(11,.nm 11)] rfl rfl ?_ ?_⟩
   .rw[<-A];rw[m,oF]at z;show _=if Fu (nm,b) (out.getD q c0)=true then Fa (nm,b) out q else q+1
    rw[At z]
   .exact eN
   refine eM ?_;show (q:Int)+1-1=q;omega
  .refine⟨AAf.2 j,?_⟩;rw[Of];simp only[AP];omega
  .rw[Of];simp only[AP];omega
  .refine⟨AAf.2 j,?_⟩;rw[Of,ABv];simp only[AP];omega
  .omega
  have K:Fa (nm,b) out q=q:=by
   cases q with
   | zero=>rfl
   | succ q =>
    have m:((q+1:Nat):Int)-1=(q:Int):=by omega
    have:=a O1;rw[m,oF]at this;show (if Fu (nm,b) (out.getD q c0)=true then Fa (nm,b) out q else q+1)=q+1;rw[An (by rw[this];simp)]
  unfold Zy at e;rw[<-A,K]at e;refine⟨⟨k+1,O1⟩,a2,AC [(9,.nm 80)] rfl rfl ?_ ?_⟩
  .refine eM ?_;exact e.symm
  refine eM ?_;have y:=ABj List.length e;rw[IS,IS]at y;exact y.symm
 have v:k=f.length:=by exact eV
 rw[v,sL]at B;rw[B]at D;refine C9 [9] ?_;exact fI g [.tmp 2,.tmp 3] (by rw[D];exact eR)
end
theorem YC {d:List AI}:∀ {l:List (List Int)} {o:List AR} {y:AR},y∈l.foldl (RJ d) o↔y∈o\/∃b∈l,y=(Gj d (AO d) (AZ d) b,b)
 | [],o,y=>by simp
 | b :: l,o,y=>by
  rw[ON,YC];unfold RJ GN;rw[fB];simp only[By];constructor
  .rintro ((h|h)|⟨c,a,e⟩)
   .exact .inr ⟨b,.inl rfl,h⟩
   .exact .inl h
   exact .inr ⟨c,.inr a,e⟩
  rintro (h|⟨c,rfl|a,e⟩)
  .exact .inl (.inr h)
  .exact .inl (.inl e)
  exact .inr ⟨c,a,e⟩
theorem DS {d:List AI} {y:AR}:y∈AL d↔∃b∈A0 (AZ d),y=(Gj d (AO d) (AZ d) b,b):=by
 unfold AL;rw[YC];simp
theorem H9 (d:List AI):(AL d).length=(A0 (AZ d)).length:=by
 have h:=OU d (AO d) (AZ d) (A0 (AZ d)) [];rw[AAt,AB6]at h;exact h
theorem A0x {i k:Nat} {c:List Int} (h:c∈l):c∈GK l i k:=by
 unfold GK;split
 .exact IN.2 (.inl h)
 exact h
theorem fC {i:Nat} {c:List Int}:∀ {n k:Nat} {l:List (List Int)},c∈l->c∈GL i n k l
 | 0,_,_,h=>h
 | n+1,k,l,h=>by
  unfold GL;split
  .exact fC (A0x h)
  exact h
theorem fD {c:List Int}:∀ {n i:Nat} {l:List (List Int)},c∈l->c∈H4 n i l
 | 0,_,_,h=>h
 | n+1,i,l,h=>by
  unfold H4;split
  .exact fD (fC h)
  exact h
theorem It (d:List AI) {i:Nat} (h:i<(AO d).length):(AZ d).getD i []=Ec d (AO d) ((AO d).getD i ByteArray.empty):=by
 unfold AZ;simp[AS,h]
theorem pI {d:List AI} (hn:Cm d=0) (f:d.length<=(Bm d).length) (c:d.length<=256) {j:Nat} (b:j<(AO d).length):∀(m i:Nat) (l:List ByteArray),i+m=(AO d).length->i<=j ->
  ∃s,pH d (AO d) (AZ d) ((AZ d).getD j []) m i l=.inl s/\AK s ((AO d).getD j ByteArray.empty)=true
 | 0,i,l,h,g=>by omega
 | m+1,i,l,h,g=>by
  unfold pH;split
  .rename_i a;refine⟨_,rfl,?_⟩;rw[It d O1,It d b]at a;exact eU hn f c O1 b a
  rename_i a;have k:i≠j:=by
   intro e;subst e;exact a (eQ _)
  exact pI hn f c b m (i+1) _ O1 O1
theorem pJ (s:ByteArray):∀(l:List AR) (k:Nat),KX s k l<((k+l.length:Nat):Int)
 | [],k=>by simp only[KX];omega
 | x :: l,k=>by
  simp only[KX];split
  .simp only[Is];omega
  have:=pJ s l (k+1);simp only[Is];omega
theorem pK (s:ByteArray):∀(l:List AR) (k:Nat) (x:AR),x∈l->AK x.1 s=true->0<=KX s k l
 | [],_,_,h,_=>by cases h
 | y :: l,k,x,h,e=>by
  simp only[KX];split
  .omega
  rename_i a;rcases By.1 h with rfl|h
  .exact absurd e a
  exact pK s l (k+1) x h e
theorem IA (l:List AR) (s:ByteArray):BN l s<(l.length:Int):=by
 have:=pJ s l 0;rw[AB6]at this;exact this
theorem Gk {d:List AI} (h:BB d=0) (hs:Aa (AO d) s=true):0<=BN (AL d) s:=by
 obtain⟨-,b,-,hn,f⟩:=A2 h;obtain⟨t,ht,e⟩:=bY.1 hs;obtain⟨j,c,rfl⟩:=CK ByteArray.empty ht;obtain⟨u,hu,a⟩:=pI hn f b c (AO d).length 0 [] O1 O1;have g:(AZ d).length=(AO d).length:=by simp[AZ]
 refine pK s (AL d) 0 (u,(AZ d).getD j []) ?_ (BP a e);rw[DS];refine⟨(AZ d).getD j [],fD (Ac O1),?_⟩;unfold Gj;rw[hu]
theorem MH {d:List AI} (h:BB d=0) {x:AI} (a:x∈d):0<=BN (AL d) x.1:=Gk h (OQ a)
theorem Bd {d:List AI} (h:(CB d).2=0):BB d=0/\(A0 (AZ d)).length<=256/\(CB d).1=AL d:=by
 unfold CB at h ⊢;split at h
 .rename_i h1;exact absurd h h1
 rename_i h1;split at h
 .cases h
 rename_i a;exact⟨DO h1,O1,by rw[An h1,An a]⟩
theorem pL {d:List AI} (h:BB d=0):0<(AL d).length:=by
 obtain⟨-,-,a,-,-⟩:=A2 h;cases d with
 | nil=>cases a
 | cons x d =>
  have:=MH h (x:=x) sc;have b:=IA (AL (x :: d)) x.1;omega
section
attribute [local go_sem] pC
def A7F (l:List AR) (i k:Int) (m:Nat):Bool:=(m:Int)==i||(m:Int)==k||!K7 l k (m:Int)||!K7 l (m:Int) i
def uH (l:List AR) (i k:Int) (n:Nat):Bool:=(List.range n).all (A7F l i k)
def uI (l:List AR) (i:Int) (k:Nat):Bool:=!((k:Int)==i||!K7 l (k:Int) i)&&uH l i (k:Int) l.length
def NY (l:List AR) (i:Int) (n:Nat):List Int:=((List.range n).filter λ(k:Nat)=>uI l i k).map λ(k:Nat)=>(k:Int)
def YD (l:List AR) (i:Int):List Int:=NY l i l.length
theorem lL (l:List AR) (i:Int) (n:Nat):NY l i (n+1)=NY l i n++if uI l i n=true then [(n:Int)] else []:=by
 unfold NY;rw[AAE,ABF,AAH]
 congr 1
 rw[AAW,ACm];split<;>rfl
theorem uJ (l:List AR) (i:Int) (n:Nat):(NY l i n).length<=n:=by
 unfold NY;rw[On];exact aS (AB8 _ _) sc
theorem uK (l:List AR) (i k:Int) (n:Nat):uH l i k (n+1)=(uH l i k n&&A7F l i k n):=by
 unfold uH;rw[AAE,ACn];simp
def A0y:Ab:={ ins:=[Jg,T3],pre:=λ(l,i,_)=>((0:Int)<=i/\i<(List.length l:Int))/\List.length l<=256/\(∀x∈(l:List AR),x.2.length<=64),out:=λ(l,i,_)=>[.p CH (YD l i)] }
theorem A4b:Af Tryz.prog 66 A0y:=by
 refine fK [0,1,4,5,6,7,8,12,24,28,56] Tryz.func66 Tryz.ntmps66 (AG pD AH) ?_;rintro w0 O0 ⟨l,i,u⟩ c-⟨hi,g,o⟩;have g:l.length<=256:=g;have f:∀x∈(l:List AR),x.2.length<=100000:=λx h=>aS (o x h) df;simp only[A0y,AM];repeat'(first|exact a6|apply eS rfl|refine rX c ?_ ?_)
 refine AJ (ι:={k:Nat//k<=l.length}) (λk=>⟨[(0,.p Jg l),(1,.p T3 i),(5,.sr 60 T3 0 (NY l i k.1).length),(6,.p (.int .i64) (k.1:Int))],[(60,.arr 3 T3 (NY l i k.1))]⟩) (λk=>l.length-k.1) ⟨0,GO _⟩ (AC [(60,.nil)] rfl rfl ?_ ?_) (λk=>?_)
 .refine eM ?_;rfl
 .refine eM ?_;rfl
 obtain⟨k,hk⟩:=k;have hk:k<=l.length:=hk;have q:=uJ l i k;have hs:=lL l i k;simp only;repeat'(first|exact a6|apply eS rfl|apply AB|refine rX c ?_ ?_|refine rC ?_ ?_<;>intro a<;>try(cases a;done))
 .intro h;exact⟨a4,hi,f⟩
 .exact eV
 .have e:k<l.length:=by exact eV
  have b:uI l i k=false:=by
   unfold uI;rw[AB9];left;rw[ABG,AA4,AAh,gO];exact a
  rw[b,An sc,AAu]at hs;refine⟨⟨k+1,O1⟩,a2,AC [(60,.nm 60)] rfl rfl ?_ ?_⟩
  .simp only[hs];exact eN
  simp only[hs];exact eN
 .have e:k<l.length:=by exact eV
  have b:uI l i k=uH l i (k:Int) l.length:=by
   unfold uI;rw[show ((k:Int)==i||!K7 l (k:Int) i)=false by
    rw[AAj,ABp,ABG];exact a]
   rfl
  refine AJ (ι:={m:Nat//m<=l.length}) (λm=>⟨[(0,.p Jg l),(1,.p T3 i),(5,.sr 60 T3 0 (NY l i k).length),(6,.p (.int .i64) (k:Int)),(7,.p .bool (uH l i (k:Int) m.1)),(8,.p (.int .i64) (m.1:Int))],[(60,.arr 3 T3 (NY l i k))]⟩) (λm=>l.length-m.1) ⟨0,GO _⟩ (AC [(60,.nm 60)] rfl rfl ?_ ?_) (λm=>?_)
  .exact eN
  .refine eM ?_;rfl
  obtain⟨m,j⟩:=m;have j:m<=l.length:=j;have n:=uK l i (k:Int) m;simp only;repeat'(first|exact a6|apply eS rfl|apply AB|refine rX c ?_ ?_|refine rC ?_ ?_<;>intro a<;>try(cases a;done))
  .exact⟨λh=>⟨a4,a,f⟩,λh=>⟨a,hi,f⟩⟩
  .exact eV
  .have d:m<l.length:=by exact eV
   refine⟨⟨m+1,O1⟩,a2,AC [(60,.nm 60)] rfl rfl ?_ ?_⟩
   .exact eN
   simp only[n];unfold A7F;exact eN
  .simp only[AP];dsimp only[Ty.den]at *;omega
  .exact eV
  .have d:m=l.length:=by exact eV
   subst d;rw[b,At a]at hs;refine⟨⟨k+1,O1⟩,a2,AC [(60,.nm 60)] rfl rfl ?_ ?_⟩
   .simp only[hs];exact eN
   simp only[hs];exact eN
  .exact eV
  have d:m=l.length:=by exact eV
  subst d;rw[b,An (by rw[a];simp),AAu]at hs;refine⟨⟨k+1,O1⟩,a2,AC [(60,.nm 60)] rfl rfl ?_ ?_⟩
  .simp only[hs];exact eN
  simp only[hs];exact eN
 have e:k=l.length:=by exact eV
 subst e;refine C9 [60] ?_;exact fI c [.tmp 4] (by unfold YD;exact eR)
end
section
attribute [local go_sem] Pd Pb JF
abbrev FV:=ByteArray×ByteArray
abbrev f0V:FV:=(ByteArray.empty,ByteArray.empty)
def pM (all:List ByteArray) (l:List FV):Nat->List FV->Int
 | _,[]=>0
 | k,x :: r=>if BG x.1 true=false then 1 else if ((l.take k).any λy=>AK y.1 x.1)=true then 4 else if Aa all x.2=false then 5 else pM all l (k+1) r
def VU (all:List ByteArray):List AI->Int
 | []=>0
 | x :: l=>if pM all x.2.2 0 x.2.2≠0 then pM all x.2.2 0 x.2.2 else VU all l
def Kd (d:List AI):Int:=VU (AO d) d
theorem A0z (all:List ByteArray) (l:List FV) (h:k<l.length):pM all l k (l.drop k)=if BG (l.getD k f0V).1 true=false then 1 else if ((l.take k).any λy=>AK y.1 (l.getD k f0V).1)=true then 4 else if Aa all (l.getD k f0V).2=false then 5 else pM all l (k+1) (l.drop (k+1)):=by
 rw[OR h];have e:l.getD k f0V=l[k]:=by simp[AS,h]
 rw[e];rfl
theorem uL (all:List ByteArray) (l:List AI) (h:k<l.length):VU all (l.drop k)=if pM all (l.getD k d0).2.2 0 (l.getD k d0).2.2≠0 then pM all (l.getD k d0).2.2 0 (l.getD k d0).2.2 else VU all (l.drop (k+1)):=by
 rw[OR h];have e:l.getD k d0=l[k]:=by simp[AS,h]
 rw[e];rfl
def lM:Ab:={ ins:=[Ez],pre:=λ(d,_)=>List.length d<=256,out:=λ(d,_)=>[.p C3 (Kd d)] }
theorem A0A:Af Tryz.prog 147 lM:=by
 refine fK [0,2,3,4,5,6,7,13,24,33,36,49,57] Tryz.func147 Tryz.ntmps147 (AG X0 (AG VC (AG Gi AH))) ?_;rintro w0 O0 ⟨d,u⟩ c ⟨⟨x,v⟩,-⟩ j;have j:d.length<=256:=j;simp only[lM,AM];repeat'(first|exact a6|apply eS rfl|refine rX c ?_ ?_)
 .exact aS j df
 have w:Kd d=VU (AO d) d:=rfl;rw[w];generalize AO d=all at *;refine AJ (ι:={i:Nat//i<=d.length/\VU all (d.drop i)=VU all d}) (λi=>⟨[(0,.p Ez d),(3,.p Cj all),(4,.p (.int .i64) (i.1:Int))],[]⟩) (λi=>d.length-i.1) ⟨0,GO _,rfl⟩ (eW []) (λi=>?_)
 obtain⟨i,hi,hf⟩:=i;simp only;repeat'(first|exact a6|apply eS rfl|refine rX c ?_ ?_|refine rC ?_ ?_<;>intro a<;>try(cases a;done))
 .exact a
 .have o:i<d.length:=by exact eV
  rw[uL all d o]at hf;have A:(d.getD i d0).2.2.length<=AP:=(v _ (AF d d0 o)).2.2.1;have z:(List.getD d i (ByteArray.empty,[],[])).2.2=(d.getD i d0).2.2:=rfl;rw[z];generalize (d.getD i d0).2.2=l at *;simp only[AP]at A;refine AJ (ι:={k:Nat//k<=l.length/\pM all l k (l.drop k)=pM all l 0 l}) (λk=>⟨[(0,.p Ez d),(3,.p Cj all),(4,.p (.int .i64) (i:Int)),(5,.p T63 l),(6,.p (.int .i64) (k.1:Int))],[]⟩) (λk=>l.length-k.1) ⟨0,GO _,rfl⟩ (eW []) (λk=>?_)
  obtain⟨k,hk,b⟩:=k;have r:=λh:k<l.length=>A0z all l h;simp only;repeat'(first|exact a6|apply eS rfl|apply AB|refine rX c ?_ ?_|refine rC ?_ ?_<;>intro a<;>try(cases a;done))
  .exact a
  .have e:k<l.length:=by exact eV
   rw[r e,At a]at b;rw[<-b,At df]at hf;exact fI c [.tmp 2] (by rw[<-hf];exact eR)
  .have e:k<l.length:=by exact eV
   have q:(k:Int)<(l.length:Int):=aT.2 e;rw[r e,An (by rw[a];simp)]at b;refine AJ (ι:={m:Nat//m<=k/\((l.take m).any λy=>AK y.1 (l.getD k f0V).1)=false}) (λm=>⟨[(0,.p Ez d),(3,.p Cj all),(4,.p (.int .i64) (i:Int)),(5,.p T63 l),(6,.p (.int .i64) (k:Int)),(7,.p (.int .i64) (m.1:Int))],[]⟩) (λm=>k-m.1) ⟨0,GO _,rfl⟩ (eW []) (λm=>?_)
   obtain⟨m,B,g⟩:=m;have s:=λh:m<l.length=>Mw l f0V (λy=>AK y.1 (l.getD k f0V).1) h;simp only;repeat'(first|exact a6|apply eS rfl|apply AB|refine rX c ?_ ?_|refine rC ?_ ?_<;>intro a<;>try(cases a;done))
   .have h1:(m:Int)<(k:Int):=a;exact⟨eV,q⟩
   .have f:m<k:=aT.1 a4;have n:=s O1;have t:((l.take k).any λy=>AK y.1 (l.getD k f0V).1)=true:=by
     rw[bY];exact⟨l.getD m f0V,by
      rw[ABU];refine⟨m,O1,?_⟩;simp[AS,show m<l.length by omega],a⟩
    rw[At t]at b;rw[<-b,At df]at hf;exact fI c [.tmp 2] (by rw[<-hf];exact eR)
   .omega
   .have f:m<k:=aT.1 a4;have n:=s O1;refine⟨⟨m+1,O1,?_⟩,a2,AC [] rfl rfl ?_ ?_⟩
    .rw[n,g];exact a
    .exact eN
    exact eN
   .exact q
   .have f:m=k:=by omega
    subst f;rw[An (by rw[g];simp),At a]at b;rw[<-b,At df]at hf;exact fI c [.tmp 2] (by rw[<-hf];exact eR)
   .have:=x;simp only[AP]at this;omega
   have f:m=k:=by omega
   subst f;rw[An (by rw[g];simp),An (by rw[a];simp)]at b;exact⟨⟨m+1,O1,b⟩,a2,eW []⟩
  .omega
  have e:l.drop k=[]:=No (AAf.1 a);rw[e]at b;rw[<-b,An (by simp[pM])]at hf;exact⟨⟨i+1,O1,hf⟩,a2,eW []⟩
 have e:d.drop i=[]:=No eV;rw[e]at hf;exact fI c [.tmp 2] (by rw[<-hf];first|exact eR|refine OC ?_;rfl)
end
section
attribute [local go_sem] Zq Zh MB K8
def HC (s:ByteArray) (o:List ByteArray) (x:AI):List ByteArray:=if (DA x s).2=true then Ds o x.1 else o
def FK (d:List AI) (s:ByteArray):List ByteArray:=d.foldl (HC s) []
theorem lN (s:ByteArray) (d:List AI) (k:Nat):(FK (d.take k) s).length<=k:=by
 have key:∀(l:List AI) (o:List ByteArray),(l.foldl (HC s) o).length<=o.length+l.length:=by
  intro l;induction l with
  | nil=>intro o;simp
  | cons x l b =>
   intro o;have h1:=b (HC s o x);have a:(HC s o x).length<=o.length+1:=by
    unfold HC;split
    .exact L9 o x.1
    omega
   simp only[ON,Is];omega
 have h1:=key (d.take k) [];have a:=AAY k d;unfold FK;simp only[AAt]at h1;omega
def DT (d:List AI) (s:ByteArray):ByteArray×Bool:=if (A8 d (FK d s)).length=1 then ((A8 d (FK d s)).getD 0 ByteArray.empty,true) else (ByteArray.empty,false)
def Zz:Ab:={ ins:=[Ez,T9],pre:=λ(d,_,_)=>Pe d/\List.length d<=256,out:=λ(d,s,_)=>[.p T9 (DT d s).1,.p .bool (DT d s).2] }
theorem fE:Af Tryz.prog 118 Zz:=by
 refine fK [0,1,4,5,6,7,9,10,14,26,39] Tryz.func118 Tryz.ntmps118 (AG eH (AG Q8 (AG VI AH))) ?_;rintro w0 O0 ⟨d,s,u⟩ c-⟨l,f⟩;have f:d.length<=256:=f;simp only[Zz,AM];repeat'(first|exact a6|apply eS rfl|refine rX c ?_ ?_)
 refine AJ (ι:={i:Nat//i<=d.length}) (λi=>⟨[(0,.p Ez d),(1,.p T9 s),(6,.p Cj (FK (d.take i.1) s)),(7,.p (.int .i64) (i.1:Int))],[]⟩) (λi=>d.length-i.1) ⟨0,GO _⟩ (AC [] rfl rfl ?_ ?_) (λi=>?_)
 .exact eN
 .refine eM ?_;rfl
 obtain⟨i,hi⟩:=i;have hi:i<=d.length:=hi;have hn:=lN s d i;have hs:=λh:i<d.length=>Ep (HC s) d d0 [] h;have j:∀e,FK e s=e.foldl (HC s) []:=λ_=>rfl;rw[<-j,<-j]at hs;unfold HC at hs;simp only;repeat'(first|exact a6|apply eS rfl|apply AB|refine rX c ?_ ?_|refine rC ?_ ?_<;>intro a<;>try(cases a;done))
 .exact a
 .exact⟨a4,O1⟩
 .exact eV
 .have b:i<d.length:=by exact eV
  have e:=hs b;rw[At a]at e;refine⟨⟨i+1,O1⟩,a2,AC [] rfl rfl ?_ ?_⟩
  .exact eN
  simp only[e];exact eN
 .exact eV
 .have b:i<d.length:=by exact eV
  have e:=hs b;rw[An (by rw[a];simp)]at e;refine⟨⟨i+1,O1⟩,a2,AC [] rfl rfl ?_ ?_⟩
  .exact eN
  simp only[e];exact eN
 .exact⟨l,f,O1⟩
 .have b:d.take i=d:=BY eV;rw[b]at a ⊢;have h1:DT d s=(ByteArray.empty,false):=by
   unfold DT;rw[An O1]
  exact fI c [.tmp 4,.tmp 5] (by rw[h1];first|exact eR|refine OC ?_;first|rfl|exact⟨rfl,rfl⟩)
 .have g:((A8 d (FK (d.take i) s)).length:Int)=1:=by simpa using a
  have k:(0:Int)<((A8 d (FK (d.take i) s)).length:Int):=by rw[g];decide
  exact k
 have b:d.take i=d:=BY eV;rw[b]at a ⊢;have g:((A8 d (FK d s)).length:Int)=1:=by simpa using a
 have h1:DT d s=((A8 d (FK d s)).getD 0 ByteArray.empty,true):=by
  unfold DT;rw[At O1]
 exact fI c [.tmp 4,.tmp 5] (by rw[h1];exact eR)
end
section
attribute [local go_sem] Zq Ta pC A08
def Jp (l:List AR) (t:Int) (s:ByteArray) (o:List Int×Bool) (x:AI):List Int×Bool :=
 if (!(DA x s).2||!K7 l (BN l x.1) t)=true then o else (ET o.1 (l.getD (BN l (DA x s).1).toNat c0).2,true)
def FL (d:List AI) (l:List AR) (t:Int) (s:ByteArray):List Int×Bool:=d.foldl (Jp l t s) ((l.getD 0 c0).2,false)
def lO (d:List AI) (l:List AR):Prop:=(∀x∈d,0<=BN l x.1)/\∀x∈d,∀y∈x.2.2,0<=BN l y.2
theorem fF (s:ByteArray):∀(l:List (ByteArray×ByteArray)),(eG s l).2=true->∃y∈l,y.2=(eG s l).1
 | [],h=>by cases h
 | x :: l,h=>by
  simp only[eG]at h ⊢;split at h
  .rename_i h1;rw[At h1];exact⟨x,sc,rfl⟩
  rename_i h1;rw[An h1];obtain⟨y,a,e⟩:=fF s l h;exact⟨y,by simp[a],e⟩
theorem lO.value {d:List AI} {l:List AR} (h:lO d l) {x:AI} (b:x∈d) (a:(DA x s).2=true):0<=BN l (DA x s).1:=by
 obtain⟨y,c,e⟩:=fF s x.2.2 a;have:=h.2 x b y c;rw[e]at this;exact this
theorem A0B {l:List AR} (t:Int) (s:ByteArray) (x:AI) {o:List Int×Bool} (h:o.1.length<=64):(Jp l t s o x).1.length<=64:=by
 unfold Jp;split
 .exact h
 exact aS (eI _ _) h
theorem VV {l:List AR} (t:Int) (s:ByteArray):∀(d:List AI) {o:List Int×Bool},o.1.length<=64->(d.foldl (Jp l t s) o).1.length<=64
 | [],_,h=>h
 | x :: d,_,h=>by rw[ON];exact VV t s d (A0B t s x h)
theorem fG (s:ByteArray):∀(l:List AR) (k:Nat),KX s k l<((k+l.length:Nat):Int)
 | [],k=>by simp only[KX];omega
 | x :: l,k=>by
  simp only[KX];split
  .simp only[Is];omega
  have:=fG s l (k+1);simp only[Is];omega
theorem SX (l:List AR) (s:ByteArray):BN l s<(l.length:Int):=by
 have:=fG s l 0;rw[AB6]at this;exact this
def A4d:Ab:={ ins:=[Ez,Jg,T3,T9],pre:=λ(d,l,t,_,_)=>lO d l/\((0:Int)<=t/\t<(List.length l:Int))/\List.length l<=256/\(∀x∈(l:List AR),x.2.length<=64),out:=λ(d,l,t,s,_)=>[.p Ba (FL d l t s).1,.p .bool (FL d l t s).2] }
theorem A0C:Af Tryz.prog 109 A4d:=by
 refine fK [0,1,2,3,8,9,10,11,12,13,14,22,48] Tryz.func109 Tryz.ntmps109 (AG eH (AG X5 (AG pD (AG A09 AH)))) ?_;rintro w0 O0 ⟨d,l,t,s,u⟩ f ⟨⟨z,F⟩,-⟩ ⟨q,ht,m,v⟩;have m:l.length<=256:=m;have E:∀x∈(l:List AR),x.2.length<=100000:=λx h=>aS (v x h) df;have n:0<List.length l:=aT.1 (ACU ht.1 ht.2);simp only[AP]at z;simp only[A4d,AM];repeat'(first|exact a6|apply eS rfl|refine rX f ?_ ?_)
 .exact aT.2 n
 have k:FL d l t s=d.foldl (Jp l t s) ((l.getD 0 c0).2,false):=rfl;have w:(l.getD 0 c0).2.length<=64:=v _ (AF l c0 n);have y:(List.getD l 0 (ByteArray.empty,[])).2=(l.getD 0 c0).2:=rfl;rw[y];generalize (l.getD 0 c0).2=c at *;refine AJ (ι:={i:Nat//i<=d.length}) (λi=>⟨[(0,.p Ez d),(1,.p Jg l),(2,.p T3 t),(3,.p T9 s),(10,.p .bool ((d.take i.1).foldl (Jp l t s) (c,false)).2),(11,.p Ba ((d.take i.1).foldl (Jp l t s) (c,false)).1),(12,.p (.int .i64) (i.1:Int))],[]⟩) (λi=>d.length-i.1) ⟨0,GO _⟩ (AC [] rfl rfl ?_ ?_) (λi=>?_)
 .exact eN
 .refine eM ?_;exact⟨rfl,rfl⟩
 obtain⟨i,hi⟩:=i;have hi:i<=d.length:=hi;have A:=VV (l:=l) t s (d.take i) (o:=(c,false)) w;have hs:=λh:i<d.length=>Ep (Jp l t s) d d0 (c,false) h;have D:=λh:i<d.length=>q.1 _ (AF d d0 h);have C:=λ(h:i<d.length) (g:(DA (d.getD i d0) s).2=true)=>q.value (AF d d0 h) g;have j:∀o x,Jp l t s o x=(if (!(DA x s).2||!K7 l (BN l x.1) t)=true then o else (ET o.1 (l.getD (BN l (DA x s).1).toNat c0).2,true)):=λ_ _=>rfl;generalize r:(d.take i).foldl (Jp l t s) (c,false)=o at *;simp only;repeat'(first|exact a6|apply eS rfl|apply AB|refine rX f ?_ ?_|refine rC ?_ ?_<;>intro a<;>try(cases a;done))
 .exact a
 .have b:i<d.length:=aT.1 a;exact⟨λ_=>a,λ_=>⟨⟨D b,SX _ _⟩,ht,E⟩⟩
 .exact eV
 .have b:i<d.length:=aT.1 a4;have e:=hs b;rw[j,At (by rw[AA4,gO,gO];exact a)]at e;refine⟨⟨i+1,O1⟩,a2,AC [] rfl rfl ?_ ?_⟩
  .exact eN
  refine eM ?_;rw[e];exact⟨rfl,rfl⟩
 .have b:i<d.length:=aT.1 a4;exact⟨⟨C b a.1,SX _ _⟩,aS A df⟩
 .exact eV
 .have b:i<d.length:=aT.1 a4;have e:=hs b;have B:¬(!(DA (d.getD i d0) s).2||!K7 l (BN l (d.getD i d0).1) t)=true:=by
   rw[AA4,gO,gO];rintro (h|h)
   .rw[show (DA (d.getD i d0) s).2=true from a.1]at h;cases h
   rw[show K7 l (BN l (d.getD i d0).1) t=true from a.2]at h;cases h
  rw[j,An B]at e;refine⟨⟨i+1,O1⟩,a2,AC [] rfl rfl ?_ ?_⟩
  .exact eN
  refine eM ?_;rw[e];exact⟨rfl,rfl⟩
 have b:d.take i=d:=BY (AAf.1 a);rw[b]at r;rw[r]at k;exact fI f [.tmp 8,.tmp 9] (by rw[k];exact eR)
end
theorem SY:∀ {l:List AI},L7 l=0->∀x∈l,x.2.1.length<=256/\x.2.2.length<=256
 | [],_,x,a=>by cases a
 | y :: l,h,x,a=>by
  simp only[L7]at h;split at h
  .cases h
  rename_i h1;rcases By.1 a with rfl|a
  .exact⟨O1,O1⟩
  exact SY h x a
theorem Ke {d:List AI} (h:BB d=0):∀x∈d,x.2.1.length<=256/\x.2.2.length<=256:=by
 have h1:E0 d=0:=by
  unfold BB at h;split at h
  .rename_i h1;exact absurd h h1
  rename_i h1;exact DO h1
 unfold E0 at h1;split at h1
 .cases h1
 exact SY h1
theorem OW {d:List AI} (h:BB d=0):∀x∈AL d,x.2.length<=64:=by
 intro x e;obtain⟨-,a,-⟩:=A2 h;obtain⟨b,c,rfl⟩:=DS.1 e;exact Pt (OV a) b c
theorem fH {all:List ByteArray} {l:List FV}:∀ {r:List FV} {k:Nat},pM all l k r=0->∀y∈r,Aa all y.2=true
 | [],_,_,y,a=>by cases a
 | x :: r,k,h,y,a=>by
  simp only[pM]at h;split at h
  .cases h
  split at h
  .cases h
  split at h
  .cases h
  rename_i b;rcases By.1 a with rfl|a
  .simpa using b
  exact fH h y a
theorem YE {all:List ByteArray}:∀ {l:List AI},VU all l=0->∀x∈l,∀y∈x.2.2,Aa all y.2=true
 | [],_,x,a=>by cases a
 | z :: l,h,x,a=>by
  simp only[VU]at h;split at h
  .rename_i h1;exact absurd h h1
  rename_i h1;rcases By.1 a with rfl|a
  .exact fH (DO h1)
  exact YE h x a
theorem Pv {d:List AI} (h:BB d=0) (b:Kd d=0):lO d (AL d) :=
 ⟨λx a=>MH h a,λx a y c=>Gk h (YE b x a y c)⟩
section
attribute [local go_sem] RK VK lM Zz A4d
def Kg (d:List AI) (l:List AR) (t:Nat) (s:ByteArray):Bool:=(FL d l (t:Int) s).2&&((FL d l (t:Int) s).1.length:Int)==0
def Z0 (d:List AI) (l:List AR) (f:List ByteArray) (t:Nat):Bool:=f.any (Kg d l t)
def IB (d:List AI) (l:List AR) (f:List ByteArray) (n:Nat):Bool:=(List.range n).any (Z0 d l f)
theorem fJ (d:List AI) (l:List AR) (f:List ByteArray) (n:Nat):IB d l f (n+1)=(IB d l f n||Z0 d l f n):=by
 unfold IB;rw[AAE,AC8];simp
def Aq (d:List AI):Int :=
 if (CB d).2≠0 then (CB d).2 else if 64<(BM d).length then 7 else if Kd d≠0 then Kd d else
 if ((BM d).all λs=>(DT d s).2)=false then 10 else if IB d (CB d).1 (BM d) (CB d).1.length=true then 11 else 0
def Tc:Ab:={ ins:=[Ez],pre:=λ_=>True,out:=λ(d,_)=>[.p C3 (Aq d)] }
theorem YF:Af Tryz.prog 107 Tc:=by
 refine fK [0,2,3,4,5,6,7,9,10,11,12,13,20,26,30,35,48,52,58,77] Tryz.func107 Tryz.ntmps107 (AG Pu (AG VL (AG A0A (AG fE (AG A0C AH))))) ?_;rintro w0 O0 ⟨d,u⟩ b - -;simp only[Tc,AM];repeat'(first|exact a6|apply eS rfl|refine rX b ?_ ?_|refine rC ?_ ?_<;>intro a<;>try(cases a;done))
 .have h1:Aq d=(CB d).2:=by unfold Aq;rw[At a]
  exact fI b [.tmp 2] (by rw[h1];exact eR)
 .have c:(CB d).2=0:=by simpa using a
  obtain⟨e,-,-⟩:=Bd c;obtain⟨-,r,-⟩:=A2 e;exact⟨r,λx L=>(Ke e x L).2⟩
 .have c:(CB d).2=0:=by simpa using ‹((CB d).2 != 0)=false›
  have h1:Aq d=7:=by
   unfold Aq;rw[An (by rw[c];simp),At O1]
  exact fI b [.tmp 2] (by rw[h1];exact eR)
 .have c:(CB d).2=0:=by simpa using ‹((CB d).2 != 0)=false›
  obtain⟨e,-,-⟩:=Bd c;exact(A2 e).2.1
 .have c:(CB d).2=0:=by simpa using ‹((CB d).2 != 0)=false›
  have h1:Aq d=Kd d:=by
   unfold Aq;rw[An (by rw[c];simp),An O1,At a]
  exact fI b [.tmp 2] (by rw[h1];exact eR)
 have c:(CB d).2=0:=by simpa using ‹((CB d).2 != 0)=false›
 have v:Kd d=0:=by simpa using a
 obtain⟨e,C,B⟩:=Bd c;obtain⟨H,r,-⟩:=A2 e;have E:=Pv e v;have K:=OW e;have M:=pL e;have D:(AL d).length<=256:=by rw[H9];exact C
 have g:Aq d=if ((BM d).all λs=>(DT d s).2)=false then 10 else if IB d (CB d).1 (BM d) (CB d).1.length=true then 11 else 0:=by
  unfold Aq;rw[An (by rw[c];simp),An O1,An (by rw[v];simp)]
 rw[B]at g ⊢;generalize AL d=l at *;generalize BM d=f at *;refine AJ (ι:={i:Nat//i<=f.length/\((f.take i).all λs=>(DT d s).2)=true}) (λi=>⟨[(0,.p Ez d),(3,.p Jg l),(5,.p Cj f),(7,.p (.int .i64) (i.1:Int))],[]⟩) (λi=>f.length-i.1) ⟨0,GO _,rfl⟩ (eW []) (λi=>?_)
 obtain⟨i,hi,n⟩:=i;have G:=λh:i<f.length=>GJ f ByteArray.empty (λs=>(DT d s).2) h;simp only;repeat'(first|exact a6|apply eS rfl|apply AB|refine rX b ?_ ?_|refine rC ?_ ?_<;>intro a<;>try(cases a;done))
 .exact⟨a,H,r⟩
 .have j:i<f.length:=aT.1 a4;have z:(f.all λs=>(DT d s).2)=false:=by
   rw[ABL];intro h;have:=NO.1 h _ (AF f ByteArray.empty j);rw[show (DT d (f.getD i ByteArray.empty)).2=false from a]at this;cases this
  rw[At z]at g;exact fI b [.tmp 2] (by rw[g];exact eR)
 .omega
 .have j:i<f.length:=aT.1 a4;refine⟨⟨i+1,j,?_⟩,a2,AC [] rfl rfl ?_ ?_⟩
  .rw[G j,n];exact a
  .exact eN
  exact eN
 have j:f.take i=f:=BY (AAf.1 a);rw[j]at n;rw[An (by rw[n];simp)]at g;refine AJ (ι:={t:Nat//t<=l.length/\IB d l f t=false}) (λt=>⟨[(0,.p Ez d),(3,.p Jg l),(5,.p Cj f),(10,.p (.int .i64) (t.1:Int))],[]⟩) (λt=>l.length-t.1) ⟨0,GO _,rfl⟩ (eW []) (λt=>?_)
 obtain⟨t,ht,y⟩:=t;have J:=fJ d l f t;simp only;repeat'(first|exact a6|apply eS rfl|refine rX b ?_ ?_|refine rC ?_ ?_<;>intro a<;>try(cases a;done))
 .have w:t<l.length:=aT.1 a;refine AJ (ι:={k:Nat//k<=f.length/\(f.take k).any (Kg d l t)=false}) (λk=>⟨[(0,.p Ez d),(3,.p Jg l),(5,.p Cj f),(10,.p (.int .i64) (t:Int)),(11,.p (.int .i64) (k.1:Int))],[]⟩) (λk=>f.length-k.1) ⟨0,GO _,rfl⟩ (eW []) (λk=>?_)
  obtain⟨k,hk,o⟩:=k;have F:=λh:k<f.length=>Mw f ByteArray.empty (Kg d l t) h;simp only;repeat'(first|exact a6|apply eS rfl|apply AB|refine rX b ?_ ?_|refine rC ?_ ?_<;>intro a<;>try(cases a;done))
  .exact⟨a,E,a4,D,K⟩
  .have m:k<f.length:=aT.1 a4;have q:Kg d l t (f.getD k ByteArray.empty)=true:=by
    unfold Kg;rw[AT,AAh];exact a
   have A:IB d l f l.length=true:=by
    unfold IB;rw[bY];exact⟨t,tO.2 w,Ik f ByteArray.empty _ m q⟩
   rw[At A]at g;exact fI b [.tmp 2] (by rw[g];exact eR)
  .omega
  .have m:k<f.length:=aT.1 a4;have q:Kg d l t (f.getD k ByteArray.empty)=false:=by
    rw[ABL];unfold Kg;intro h;rw[AT,AAh]at h;exact a h.1 h.2
   refine⟨⟨k+1,m,?_⟩,a2,AC [] rfl rfl ?_ ?_⟩
   .rw[F m,o,q];rfl
   .exact eN
   exact eN
  .omega
  have m:f.take k=f:=BY (AAf.1 a);rw[m]at o;refine⟨⟨t+1,w,?_⟩,a2,AC [] rfl rfl ?_ ?_⟩
  .rw[J,y];exact o
  .exact eN
  exact eN
 have I:t=l.length:=by exact eV
 subst I;rw[An (by rw[y];simp)]at g;exact fI b [.tmp 2] (by rw[g];exact eR)
end
section
attribute [local go_sem] Tc RK VK Zz Ta
abbrev Pw:=ByteArray×Int
theorem CE {d:List AI} (h:Aq d=0):(CB d).2=0/\(BM d).length<=64/\Kd d=0:=by
 unfold Aq at h;split at h
 .rename_i h1;exact absurd h h1
 rename_i h1;split at h
 .cases h
 rename_i b;split at h
 .rename_i a;exact absurd h a
 rename_i a;exact⟨DO h1,O1,DO a⟩
def MJ (d:List AI) (s:ByteArray):Pw:=(s,BN (AL d) (DT d s).1)
def DD (d:List AI):List Pw×Int:=if Aq d≠0 then ([],Aq d) else ((BM d).map (MJ d),0)
theorem XG {α:Type} (f:α->X) (l:List α) (d:α) (h:k<l.length):(l.take (k+1)).map f=(l.take k).map f++[f (l.getD k d)]:=by
 rw[Ay l d h,AAH];rfl
theorem Z1 {α:Type} (f:α->X) (l:List α) (h:k<=l.length):((l.take k).map f).length=k:=by simp[h]
def RL:Ab:={ ins:=[Ez],pre:=λ_=>True,out:=λ(d,_)=>[.p TW (DD d).1,.p C3 (DD d).2] }
theorem fL:Af Tryz.prog 67 RL:=by
 refine fK [0,2,3,4,5,7,8,9,10,15,27] Tryz.func67 Tryz.ntmps67 (AG YF (AG Pu (AG VL (AG fE (AG X5 AH))))) ?_;rintro w0 O0 ⟨d,u⟩ g - -;simp only[RL,AM];repeat'(first|exact a6|apply eS rfl|refine rX g ?_ ?_|refine rC ?_ ?_<;>intro a<;>try(cases a;done))
 .have h1:DD d=([],Aq d):=by unfold DD;rw[At a]
  exact fI g [.tmp 2,.tmp 3] (by rw[h1];exact eR)
 .have c:Aq d=0:=by simpa using a
  obtain⟨k,-,-⟩:=CE c;obtain⟨b,-,-⟩:=Bd k;exact⟨(A2 b).2.1,λx r=>(Ke b x r).2⟩
 have c:Aq d=0:=by simpa using a
 obtain⟨k,s,-⟩:=CE c;obtain⟨b,-,m⟩:=Bd k;obtain⟨q,l,-⟩:=A2 b;have o:DD d=((BM d).map (MJ d),0):=by unfold DD;rw[An (by rw[c];simp)]
 rw[m];generalize BM d=f at *;refine AJ (ι:={i:Nat//i<=f.length}) (λi=>⟨[(0,.p Ez d),(5,.p Jg (AL d)),(7,.p Cj f),(8,.sr 49 yW 0 ((f.take i.1).map (MJ d)).length),(9,.p (.int .i64) (i.1:Int))],[(49,.arr 172 yW ((f.take i.1).map (MJ d)))]⟩) (λi=>f.length-i.1) ⟨0,GO _⟩ (eW [(49,.nil)]) (λi=>?_)
 obtain⟨i,hi⟩:=i;have n:=Z1 (MJ d) f hi;have hs:=λh:i<f.length=>XG (MJ d) f ByteArray.empty h;simp only;repeat'(first|exact a6|apply eS rfl|apply AB|refine rX g ?_ ?_|refine rC ?_ ?_<;>intro a<;>try(cases a;done))
 .exact⟨a,q,l⟩
 .refine⟨a,?_⟩;rw[n];simp only[AP];omega
 .omega
 .have j:i<f.length:=aT.1 a;have e:=hs j;refine⟨⟨i+1,j⟩,a2,AC [(49,.nm 49)] rfl rfl ?_ ?_⟩
  .simp only[e];refine eM ?_;rfl
  simp only[e];exact eN
 have j:f.take i=f:=BY (AAf.1 a);rw[j];refine C9 [49] ?_;exact fI g [.tmp 2,.tmp 3] (by rw[o];exact eR)
end
section
attribute [local go_sem] Tc RK VK A4d k7
def Sy (d:List AI) (l:List AR) (f:List ByteArray) (t:Nat) (n:Nat):List (Int×Int) :=
 ((List.range n).filter λ(i:Nat)=>(FL d l (t:Int) (f.getD i ByteArray.empty)).2).map λ(i:Nat)=>((i:Int),G3 l (FL d l (t:Int) (f.getD i ByteArray.empty)).1)
def Jq (d:List AI) (l:List AR) (f:List ByteArray) (n:Nat):List (List (Int×Int)):=(List.range n).map λt=>Sy d l f t f.length
def A9 (d:List AI):List (List (Int×Int))×Int:=if Aq d≠0 then ([],Aq d) else (Jq d (AL d) (BM d) (AL d).length,0)
theorem YG (d:List AI) (l:List AR) (f:List ByteArray) (t n:Nat):Sy d l f t (n+1)=Sy d l f t n++if (FL d l (t:Int) (f.getD n ByteArray.empty)).2=true then [((n:Int),G3 l (FL d l (t:Int) (f.getD n ByteArray.empty)).1)] else []:=by
 unfold Sy;rw[AAE,ABF,AAH]
 congr 1
 rw[AAW,ACm];split<;>rfl
theorem A0D (d:List AI) (l:List AR) (f:List ByteArray) (t n:Nat):(Sy d l f t n).length<=n:=by
 unfold Sy;rw[On];exact aS (AB8 _ _) sc
theorem lP (d:List AI) (l:List AR) (f:List ByteArray) (n:Nat):Jq d l f (n+1)=Jq d l f n++[Sy d l f n f.length]:=by simp[Jq,AAE]
theorem YH (d:List AI) (l:List AR) (f:List ByteArray) (n:Nat):(Jq d l f n).length=n:=by simp[Jq]
theorem A0E {d:List AI} {l:List AR} (h:∀x∈l,x.2.length<=64) (t:Int) (s:ByteArray):(FL d l t s).1.length<=64:=by
 unfold FL;refine VV t s d ?_;rw[AS];cases hh:l[0]? with
 | none=>simp
 | some x=>exact h x (AAO hh)
def VW:Ab:={ ins:=[Ez],pre:=λ_=>True,out:=λ(d,_)=>[.p A3X (A9 d).1,.p C3 (A9 d).2] }
theorem lQ:Af Tryz.prog 64 VW:=by
 refine fK [0,2,3,4,5,7,8,9,10,11,12,13,17,29,35,49] Tryz.func64 Tryz.ntmps64 (AG YF (AG Pu (AG VL (AG A0C (AG A0i AH))))) ?_;rintro w0 O0 ⟨d,u⟩ e - -;simp only[VW,AM];repeat'(first|exact a6|apply eS rfl|refine rX e ?_ ?_|refine rC ?_ ?_<;>intro a<;>try(cases a;done))
 .have h1:A9 d=([],Aq d):=by unfold A9;rw[At a]
  exact fI e [.tmp 2,.tmp 3] (by rw[h1];exact eR)
 .have h:Aq d=0:=by simpa using a
  obtain⟨m,-,-⟩:=CE h;obtain⟨b,-,-⟩:=Bd m;exact⟨(A2 b).2.1,λx z=>(Ke b x z).2⟩
 have h:Aq d=0:=by simpa using a
 obtain⟨m,B,o⟩:=CE h;obtain⟨b,j,r⟩:=Bd m;obtain⟨D,A,-⟩:=A2 b;have y:A9 d=(Jq d (AL d) (BM d) (AL d).length,0):=by unfold A9;rw[An (by rw[h];simp)]
 have w:=Pv b o;have n:=OW b;have v:(AL d).length<=256:=by rw[H9];exact j
 rw[r];generalize AL d=l at *;generalize BM d=f at *;have q:=λt s=>A0E (d:=d) n t s;refine AJ (ι:={t:Nat//t<=l.length}) (λt=>⟨[(0,.p Ez d),(5,.p Jg l),(7,.p Cj f),(8,.sr 61 XD 0 (Jq d l f t.1).length),(9,.p (.int .i64) (t.1:Int))],[(61,.arr 112 XD (Jq d l f t.1))]⟩) (λt=>l.length-t.1) ⟨0,GO _⟩ (AC [(61,.nil)] rfl rfl ?_ ?_) (λt=>?_)
 .refine eM ?_;rfl
 .refine eM ?_;rfl
 obtain⟨t,ht⟩:=t;have j:=YH d l f t;have hs:=lP d l f t;simp only;repeat'(first|exact a6|apply eS rfl|refine rX e ?_ ?_|refine rC ?_ ?_<;>intro a<;>try(cases a;done))
 .refine AJ (ι:={i:Nat//i<=f.length}) (λi=>⟨[(0,.p Ez d),(5,.p Jg l),(7,.p Cj f),(8,.sr 61 XD 0 (Jq d l f t).length),(9,.p (.int .i64) (t:Int)),(10,.sr 57 yV 0 (Sy d l f t i.1).length),(11,.p (.int .i64) (i.1:Int))],[(61,.arr 112 XD (Jq d l f t)),(57,.arr 149 yV (Sy d l f t i.1))]⟩) (λi=>f.length-i.1) ⟨0,GO _⟩ (AC [(61,.nm 61),(57,.nil)] rfl rfl ?_ ?_) (λi=>?_)
  .refine eM ?_;rfl
  .refine eM ?_;rfl
  obtain⟨i,hi⟩:=i;have C:=A0D d l f t i;have c:=YG d l f t i;simp only;repeat'(first|exact a6|apply eS rfl|apply AB|refine rX e ?_ ?_|refine rC ?_ ?_<;>intro a<;>try(cases a;done))
  .exact⟨a,w,a4,v,n⟩
  .refine⟨aS (q _ _) df,?_⟩;simp only[AP];omega
  .omega
  .have g:i<f.length:=aT.1 a4;rw[At a]at c;refine⟨⟨i+1,g⟩,a2,AC [(61,.nm 61),(57,.nm 57)] rfl rfl ?_ ?_⟩
   .simp only[c];exact eN
   simp only[c];exact eN
  .omega
  .have g:i<f.length:=aT.1 a4;rw[An (by rw[a];simp),AAu]at c;refine⟨⟨i+1,g⟩,a2,AC [(61,.nm 61),(57,.nm 57)] rfl rfl ?_ ?_⟩
   .simp only[c];exact eN
   simp only[c];exact eN
  .rw[j];simp only[AP];omega
  .omega
  have k:t<l.length:=aT.1 a4;have g:i=f.length:=by omega
  subst g;refine⟨⟨t+1,k⟩,a2,AC [(61,.nm 61)] rfl rfl ?_ ?_⟩
  .simp only[hs];exact eN
  simp only[hs];exact eN
 have k:t=l.length:=by omega
 subst k;refine C9 [61] ?_;exact fI e [.tmp 2,.tmp 3] (by rw[y];exact eR)
end
section
attribute [local go_sem] K8
def K9 (l:List ByteArray) (n:Nat):List FV:=(List.range n).map λk=>(l.getD (2*k) ByteArray.empty,l.getD (2*k+1) ByteArray.empty)
theorem VX (l:List ByteArray) (n:Nat):K9 l (n+1)=K9 l n++[(l.getD (2*n) ByteArray.empty,l.getD (2*n+1) ByteArray.empty)]:=by simp[K9,AAE]
theorem YI (l:List ByteArray) (n:Nat):(K9 l n).length=n:=by simp[K9]
def Z2 (s:ByteArray):List ByteArray:=if AK s ByteArray.empty=true then [] else [s]
def F4 (n s:ByteArray) (l:List ByteArray):AI:=(n,Z2 s,K9 l (l.length / 2))
def pO:Ab:={ ins:=[T9,T9,Cj],pre:=λ(_,_,l,_)=>List.length l<=1000,out:=λ(n,s,l,_)=>[.p yX (F4 n s l)] }
theorem pP:Af Tryz.prog 68 pO:=by
 refine fK [0,1,2,6,7,8,12,20] Tryz.func68 Tryz.ntmps68 AH ?_;rintro w0 O0 ⟨n,s,l,u⟩ b-i;have i:l.length<=1000:=i;simp only[pO,AM];repeat'(first|exact a6|apply eS rfl|apply AB|refine rX b ?_ ?_|refine rC ?_ ?_<;>intro a<;>try(cases a;done))
 .have f:=a;refine C9 [14] ?_;refine AJ (ι:={k:Nat//2*k<=l.length}) (λk=>⟨[(2,.p Cj l),(6,.bp 6 [] 0),(7,.bp 7 [] 0),(8,.p (.int .i64) ((2*k.1:Nat):Int))],[(6,.box 65 true [.p T9 ByteArray.empty,.raw (.slice none 0 0),.raw (.slice none 0 0)]),(7,.box 65 true [.p T9 n,.p Cj [s],.sr 36 kQ 0 (K9 l k.1).length]),(36,.arr 196 kQ (K9 l k.1))]⟩) (λk=>l.length-2*k.1) ⟨0,GO _⟩ (AC [(6,.nm 6),(7,.nm 7),(36,.nil)] rfl rfl ?_ ?_) (λk=>?_)
  .first|exact eN|refine eM ?_
   exact⟨rfl,rfl⟩
  .first|exact eN|refine eM ?_
  obtain⟨k,hk⟩:=k;have g:=YI l k;have d:=VX l k;simp only;repeat'(first|exact a6|apply eS rfl|apply AB|refine rX b ?_ ?_|refine rC ?_ ?_<;>intro a<;>try(cases a;done))
  .exact eV
  .refine⟨eV,⟨eV,eV⟩,⟨eV,eV⟩,?_⟩;rw[g];simp only[AP];exact eV
  .exact eV
  .have c:2*k+1<l.length:=by exact eV
   have e:((2*k:Nat):Int)+1=((2*k+1:Nat):Int):=by omega
   refine⟨⟨k+1,O1⟩,a2,AC [(6,.nm 6),(7,.nm 7),(36,.nm 36)] rfl rfl ?_ ?_⟩
   .simp only[d];first|exact eN|refine eM ?_
    rw[e];rfl
   simp only[d];first|exact eN|refine eM ?_
   show ((2*k:Nat):Int)+2=((2*(k+1):Nat):Int);omega
  have c:k=l.length / 2:=by exact eV
  refine C9 [36] ?_;have h:F4 n s l=(n,[s],K9 l k):=by
   unfold F4 Z2;rw[<-c,An (by rw[show AK s ByteArray.empty=false from f];simp)]
  exact fI b [.cell 6 65] (by rw[h];exact eR)
 have f:=a;refine AJ (ι:={k:Nat//2*k<=l.length}) (λk=>⟨[(2,.p Cj l),(6,.bp 6 [] 0),(7,.bp 7 [] 0),(8,.p (.int .i64) ((2*k.1:Nat):Int))],[(6,.box 65 true [.p T9 ByteArray.empty,.raw (.slice none 0 0),.raw (.slice none 0 0)]),(7,.box 65 true [.p T9 n,.p Cj ([]:List ByteArray),.sr 36 kQ 0 (K9 l k.1).length]),(36,.arr 196 kQ (K9 l k.1))]⟩) (λk=>l.length-2*k.1) ⟨0,GO _⟩ (AC [(6,.nm 6),(7,.nm 7),(36,.nil)] rfl rfl ?_ ?_) (λk=>?_)
 .first|exact eN|refine eM ?_
  exact⟨rfl,rfl⟩
 .first|exact eN|refine eM ?_
 obtain⟨k,hk⟩:=k;have g:=YI l k;have d:=VX l k;simp only;repeat'(first|exact a6|apply eS rfl|apply AB|refine rX b ?_ ?_|refine rC ?_ ?_<;>intro a<;>try(cases a;done))
 .exact eV
 .refine⟨eV,⟨eV,eV⟩,⟨eV,eV⟩,?_⟩;rw[g];simp only[AP];exact eV
 .exact eV
 .have c:2*k+1<l.length:=by exact eV
  have e:((2*k:Nat):Int)+1=((2*k+1:Nat):Int):=by omega
  refine⟨⟨k+1,O1⟩,a2,AC [(6,.nm 6),(7,.nm 7),(36,.nm 36)] rfl rfl ?_ ?_⟩
  .simp only[d];first|exact eN|refine eM ?_
   rw[e];rfl
  simp only[d];first|exact eN|refine eM ?_
  show ((2*k:Nat):Int)+2=((2*(k+1):Nat):Int);omega
 have c:k=l.length / 2:=by exact eV
 refine C9 [36] ?_;have h:F4 n s l=(n,([]:List ByteArray),K9 l k):=by
  unfold F4 Z2;rw[<-c,At (show AK s ByteArray.empty=true from f)]
 exact fI b [.cell 6 65] (by rw[h];exact eR)
end
section
attribute [local go_sem] pO K8 KY cs2 My Jk Io NG cs7 cs8
def Bq:List AI:=[
 F4 { data:=#[116,111,112] } { data:=#[] } [],
 F4 { data:=#[108,105,115,116] } { data:=#[116,111,112] } [],
 F4 { data:=#[99,111,110,115] } { data:=#[108,105,115,116] } [{ data:=#[70,73,82,83,84] },{ data:=#[116,111,112] },{ data:=#[82,69,83,84] },{ data:=#[108,105,115,116] }],
 F4 { data:=#[110,117,108,108] } { data:=#[108,105,115,116] } [],
 F4 { data:=#[100,108,105,115,116] } { data:=#[116,111,112] } [{ data:=#[76,73,83,84] },{ data:=#[108,105,115,116] },{ data:=#[76,65,83,84] },{ data:=#[108,105,115,116] }],
 F4 { data:=#[105,110,100,101,120] } { data:=#[116,111,112] } [],
 F4 { data:=#[104,97,110,100,108,101] } { data:=#[105,110,100,101,120] } [],
 F4 { data:=#[101,118,101,110,116] } { data:=#[105,110,100,101,120] } [],
 F4 { data:=#[101,110,116,105,116,121] } { data:=#[105,110,100,101,120] } [],
 F4 { data:=#[114,101,108] } { data:=#[116,111,112] } [{ data:=#[76,65,66,69,76] },{ data:=#[104,97,110,100,108,101] }],
 F4 { data:=#[113,101,113] } { data:=#[116,111,112] } [{ data:=#[72,73,71,72] },{ data:=#[104,97,110,100,108,101] },{ data:=#[76,79,87] },{ data:=#[104,97,110,100,108,101] }],
 F4 { data:=#[115,101,109] } { data:=#[116,111,112] } [{ data:=#[84,79,80] },{ data:=#[104,97,110,100,108,101] },{ data:=#[73,78,68,69,88] },{ data:=#[105,110,100,101,120] },{ data:=#[82,69,76,83] },{ data:=#[100,108,105,115,116] },{ data:=#[67,79,78,83] },{ data:=#[100,108,105,115,116] }],
 F4 { data:=#[115,105,103,110] } { data:=#[116,111,112] } [{ data:=#[83,69,77] },{ data:=#[115,101,109] },{ data:=#[65,82,71,83] },{ data:=#[108,105,115,116] }]]
def IC:Ab:={ ins:=[],pre:=λ_=>True,out:=λ_=>[.p Ez Bq] }
theorem lR:Af Tryz.prog 29 IC:=by
 refine fKP [0] [3,6,12,14,16,18,20] [] Tryz.func29 Tryz.ntmps29 (AG pP AH) ?_;rintro w0 O0 u a - -;simp only[IC,AM];repeat'(first|exact a6|apply eS rfl|refine rX a ?_ ?_)
 exact fI a [.tmp 0] (by unfold Bq;exact eR)
end
section
attribute [local go_sem] VW RK A0y RL
abbrev FA:=ByteArray×List Int×List Int×List (Int×Int)
abbrev AE:=List FA×List Pw
def EO (l:List AR) (v:List (List (Int×Int))) (n:Nat):List FA:=(List.range n).map λi=>((l.getD i c0).1,(l.getD i c0).2,YD l (i:Int),v.getD i [])
theorem lS (l:List AR) (v:List (List (Int×Int))) (n:Nat):EO l v (n+1)=EO l v n++[((l.getD n c0).1,(l.getD n c0).2,YD l (n:Int),v.getD n [])]:=by simp[EO,AAE]
theorem Jr (l:List AR) (v:List (List (Int×Int))) (n:Nat):(EO l v n).length=n:=by simp[EO]
def Bn (d:List AI):AE:=(EO (AL d) (A9 d).1 (AL d).length,(DD d).1)
def Ad (d:List AI):AE×Int:=if (A9 d).2≠0 then (([],[]),(A9 d).2) else (Bn d,0)
def Fx:Ab:={ ins:=[Ez],pre:=λ_=>True,out:=λ(d,_)=>[.p GH (Ad d).1,.p C3 (Ad d).2] }
theorem VY:Af Tryz.prog 28 Fx:=by
 refine fK [0,2,3,4,5,6,8,9,10,18,29] Tryz.func28 Tryz.ntmps28 (AG lQ (AG Pu (AG A4b (AG fL AH)))) ?_;rintro w0 O0 ⟨d,u⟩ b - -;simp only[Fx,AM];repeat'(first|exact a6|apply eS rfl|refine rX b ?_ ?_|refine rC ?_ ?_<;>intro a<;>try(cases a;done))
 .have h1:Ad d=(([],[]),(A9 d).2):=by unfold Ad;rw[At a]
  exact fI b [.cell 2 26,.tmp 3] (by rw[h1];exact eR)
 have c:(A9 d).2=0:=by simpa using a
 have f:Aq d=0:=by
  unfold A9 at c;split at c
  .rename_i h;exact absurd c h
  rename_i h;exact DO h
 obtain⟨t,x,w⟩:=CE f;obtain⟨j,m,k⟩:=Bd t;have g:Ad d=(Bn d,0):=by unfold Ad;rw[An (by rw[c];simp)]
 have r:(A9 d).1.length=(AL d).length:=by
  unfold A9;rw[An (by rw[f];simp)];exact YH _ _ _ _
 have s:=OW j;have o:(AL d).length<=256:=by rw[H9];exact m
 unfold Bn at g;rw[k];generalize AL d=l at *;generalize (A9 d).1=v at *;refine AJ (ι:={n:Nat//n<=l.length}) (λn=>⟨[(0,.p Ez d),(2,.bp 2 [] 0),(4,.p A3X v),(6,.p Jg l),(8,.bp 8 [] 0),(9,.p (.int .i64) (n.1:Int))],[(2,.box 26 true [.raw (.slice none 0 0),.raw (.slice none 0 0)]),(8,.box 26 true [.sr 53 kR 0 (EO l v n.1).length,.raw (.slice none 0 0)]),(53,.arr 114 kR (EO l v n.1))]⟩) (λn=>l.length-n.1) ⟨0,GO _⟩ (AC [(2,.nm 2),(8,.nm 8),(53,.nil)] rfl rfl ?_ ?_) (λn=>?_)
 .refine eM ?_;exact⟨rfl,rfl⟩
 .exact eN
 obtain⟨n,hn⟩:=n;have q:=Jr l v n;have i:=lS l v n;simp only;repeat'(first|exact a6|apply eS rfl|apply AB|refine rX b ?_ ?_|refine rC ?_ ?_<;>intro a<;>try(cases a;done))
 .refine⟨a,a,⟨a,o,s⟩,by rw[r];exact a,?_⟩;rw[q];simp only[AP];omega
 .omega
 .have e:n<l.length:=aT.1 a;refine⟨⟨n+1,e⟩,a2,AC [(2,.nm 2),(8,.nm 8),(53,.nm 53)] rfl rfl ?_ ?_⟩
  .simp only[i];exact eN
  simp only[i];exact eN
 have e:n=l.length:=by omega
 subst e;refine C9 [53] ?_;exact fI b [.cell 2 26,.tmp 3] (by rw[g];exact eR)
end
section
def lT:Ab:={ ins:=[Ba,T3],pre:=λ(_,i,_)=>(0:Int)<=i,out:=λ(b,i,_)=>[.p Q6 (F1 b i)],lend:=true }
attribute [local go_sem] lT
theorem A0F:Af Tryz.prog 125 lT:=by
 refine fK [0,1,4,8] Tryz.func125 Tryz.ntmps125 AH ?_;rintro w0 O0 ⟨b,i,u⟩ c-hi;simp only[lT,AM];repeat'(first|exact a6|apply eS rfl|refine rX c ?_ ?_|refine rC ?_ ?_<;>intro a<;>try(cases a;done))
 .exact⟨hi,a⟩
 .have h1:F1 b i=b.getD i.toNat 0:=by unfold F1;rw[At a]
  exact fI c [.tmp 4] (by rw[h1];exact eR)
 have h1:F1 b i=0:=by unfold F1;rw[An (ABh.2 a)]
 exact fI c [.tmp 4] (by rw[h1];exact eR)
def MK (a b:List Int):Bool:=(List.range a.length).all λi=>Cp .andNot .u64 (a.getD i 0) (F1 b (i:Int))==0
def fN (a b:List Int) (n:Nat):Bool:=(List.range n).all λi=>Cp .andNot .u64 (a.getD i 0) (F1 b (i:Int))==0
theorem lU (a b:List Int) (n:Nat):fN a b (n+1)=(fN a b n&&Cp .andNot .u64 (a.getD n 0) (F1 b (n:Int))==0):=by
 unfold fN;rw[AAE,ACn];simp
def Px:Ab:={ ins:=[Ba,Ba],pre:=λ_=>True,out:=λ(a,b,_)=>[.p .bool (MK a b)],lend:=true }
attribute [local go_sem] Px
theorem VZ:Af Tryz.prog 75 Px:=by
 refine fK [0,1,4,5,6,7,8,9,10,19] Tryz.func75 Tryz.ntmps75 (AG A0F AH) ?_;rintro w0 O0 ⟨a,b,u⟩ e ⟨⟨g,-⟩,-⟩ -;simp only[AP]at g;simp only[Px,AM];repeat'(first|exact a6|apply eS rfl|refine rX e ?_ ?_)
 have h:MK a b=fN a b a.length:=rfl;refine AJ (ι:={n:Nat//n<=a.length/\fN a b n=true}) (λn=>⟨[(1,.p Ba b),(7,.p Ba a),(8,.p (.int .i64) (a.length:Int)),(9,.p (.int .i64) (n.1:Int))],[]⟩) (λn=>a.length-n.1) ⟨0,GO _,rfl⟩ (eW []) (λn=>?_)
 obtain⟨n,hn,f⟩:=n;have hs:=lU a b n;simp only;repeat'(first|exact a6|apply eS rfl|apply AB|refine rX e ?_ ?_|refine rC ?_ ?_<;>intro d<;>try(cases d;done))
 .exact d
 .have c:n<a.length:=by exact eV
  have h1:MK a b=false:=by
   unfold MK;rw[ABA];exact⟨n,tO.2 c,by simpa using d⟩
  exact fI e [.tmp 4] (by rw[h1];exact eR)
 .exact eV
 .have c:n<a.length:=by exact eV
  refine⟨⟨n+1,c,?_⟩,a2,AC [] rfl rfl ?_ ?_⟩
  .rw[hs,f];simpa using d
  .exact eN
  exact eN
 have c:n=a.length:=by exact eV
 subst c;exact fI e [.tmp 4] (by rw[h,f];exact eR)
abbrev RM:FA:=(ByteArray.empty,[],[],[])
def Ai (h:AE) (a b:Int):Bool:=MK (h.1.getD b.toNat RM).2.1 (h.1.getD a.toNat RM).2.1
def NZ:Ab:={ ins:=[GH,T3,T3],pre:=λ(h,a,b,_)=>((0:Int)<=a/\a<(List.length (h:AE).1:Int))/\((0:Int)<=b/\b<(List.length (h:AE).1:Int)),out:=λ(h,a,b,_)=>[.p .bool (Ai h a b)],lend:=true }
theorem Py:Af Tryz.prog 32 NZ:=by
 refine fK [0,1,2,3,6] Tryz.func32 Tryz.ntmps32 (AG VZ AH) ?_;rintro w0 O0 ⟨⟨ht,hf⟩,a,b,u⟩ c-⟨ha,d⟩;simp only[NZ,AM];repeat'(first|exact a6|apply eS rfl|refine rX c ?_ ?_)
 .exact⟨d,ha⟩
 exact fI c [.tmp 6] (by unfold Ai;exact eR)
end
section
attribute [local go_sem] Px
def Va:Ab:={ ins:=[Ba],pre:=λ(b,_)=>List.length b<=100000,out:=λ(b,_)=>[.p Ba (BS b)] }
attribute [local go_sem] Va
theorem lV:Af Tryz.prog 210 Va:=by
 refine fK [0,2,3,15] Tryz.func210 Tryz.ntmps210 AH ?_;rintro w0 O0 ⟨b,u⟩ d-f;have f:b.length<=100000:=f;simp only[Va,AM];repeat'(first|exact a6|apply eS rfl|refine rX d ?_ ?_)
 refine AJ (ι:={n:Nat//n<=b.length/\Ck b n=Ck b b.length}) (λn=>⟨[(0,.p Ba b),(3,.p (.int .i64) (n.1:Int))],[]⟩) (λn=>n.1) ⟨b.length,OS _,rfl⟩ (eW []) (λn=>?_)
 obtain⟨n,hn,g⟩:=n;simp only;repeat'(first|apply eS rfl|apply AB|refine rX d ?_ ?_|refine rC ?_ ?_<;>intro c<;>try(cases c;done))
 .constructor
  .exact eV
  intro h;refine⟨?_,?_⟩<;>exact eV
 .exact eV
 .obtain⟨h1,a⟩:=c;obtain⟨m,rfl⟩:∃m,n=m+1:=⟨n-1,O1⟩;have e:(((m+1:Nat):Int)-1)=(m:Int):=by omega
  rw[e]at a;have a:b.getD m 0=0:=a;have j:Ck b m=Ck b b.length:=by
   rw[<-g];show _=if b.getD m 0=0 then Ck b m else m+1
   rw[At a]
  refine⟨⟨m,O1,j⟩,sc,AC [] rfl rfl ?_ ?_⟩
  .exact eN
  simp only[e];exact eN
 .exact AAf.2 hn
 have i:Ck b n=n:=by
  cases n with
  | zero=>rfl
  | succ m =>
   have e:(((m+1:Nat):Int)-1)=(m:Int):=by omega
   rw[e]at c;have a:=c O1;have a:¬b.getD m 0=0:=a;show (if b.getD m 0=0 then Ck b m else m+1)=m+1;rw[An a]
 have h1:BS b=b.take n:=by unfold BS;rw[<-g,i]
 rw[<-h1];exact fI d [.tmp 2]
def Gl (g:Nat->Int) (n i:Nat):List Int:=(List.range n).map λj=>if j<i then g j else 0
theorem YJ (g:Nat->Int) (n i:Nat):(Gl g n i).length=n:=by simp[Gl]
theorem lW (g:Nat->Int) (n:Nat):Gl g n 0=List.replicate n 0:=by
 apply AAJ
 .simp[Gl]
 intro j h1 a;simp[Gl]
theorem uM (g:Nat->Int) (n i:Nat):(Gl g n i).set i (g i)=Gl g n (i+1):=by
 apply AAJ
 .simp[Gl]
 intro j h1 b;simp only[Gl,List.getElem_set,ACf,ACl];split
 .rename_i e;rw[At O1,e]
 rename_i e;by_cases a:j<i
 .rw[At a,At O1]
 rw[An a,An O1]
def Z3 (a b:List Int) (i:Nat):Int:=Cp .and .u64 (a.getD i 0) (b.getD i 0)
def Fy (a b:List Int):List Int:=BS (Gl (Z3 a b) (min a.length b.length) (min a.length b.length))
def A0G:Ab:={ ins:=[Ba,Ba],pre:=λ(a,_,_)=>List.length a<=100000,out:=λ(a,b,_)=>[.p Ba (Fy a b)] }
attribute [local go_sem] A0G
theorem A4e:Af Tryz.prog 193 A0G:=by
 refine fK [0,1,4,5,6,14,15,16] Tryz.func193 Tryz.ntmps193 (AG lV AH) ?_;rintro w0 O0 ⟨a,b,u⟩ d-ha;have ha:a.length<=100000:=ha;simp only[A0G,AM];repeat'(first|exact a6|apply eS rfl|refine rX d ?_ ?_)
 .split<;>simp only[AP]<;>dsimp only[Ty.den]at *<;>omega
 have g:Int.toNat (if ((List.length b:Nat):Int)<((List.length a:Nat):Int) then ((List.length b:Nat):Int) else ((List.length a:Nat):Int))=min (List.length a) (List.length b):=by split<;>omega
 rw[g];have h:Fy a b=BS (Gl (Z3 a b) (min a.length b.length) (min a.length b.length)):=rfl;have j:min a.length b.length<=a.length:=Nat.min_le_left _ _;have k:min a.length b.length<=b.length:=Nat.min_le_right _ _;generalize min a.length b.length=n at *;refine AJ (ι:={i:Nat//i<=n}) (λi=>⟨[(0,.p Ba a),(1,.p Ba b),(5,.sr 12 Q6 0 n),(14,.p (.int .i64) (n:Int)),(15,.p (.int .i64) (i.1:Int))],[(12,.arr 205 Q6 (Gl (Z3 a b) n i.1))]⟩) (λi=>n-i.1) ⟨0,GO _⟩ (AC [(12,.nm 12)] rfl rfl ?_ ?_) (λi=>?_)
 .refine eM ?_;rw[lW]
 .exact eN
 obtain⟨i,hi⟩:=i;have f:=YJ (Z3 a b) n i;simp only;repeat'(first|exact a6|apply eS rfl|apply AB|refine rX d ?_ ?_|refine rC ?_ ?_<;>intro c<;>try(cases c;done))
 .have e:i<n:=aT.1 c;exact⟨eV,eV,c⟩
 .exact eV
 .have e:i<n:=aT.1 c;refine⟨⟨i+1,e⟩,a2,AC [(12,.nm 12)] rfl rfl ?_ ?_⟩
  .simp only[<-uM];refine eM ?_;rfl
  exact eN
 have e:i=n:=by omega
 subst e;have ht:(Gl (Z3 a b) i i).take i=Gl (Z3 a b) i i:=BY (by rw[f];exact OS _);refine C9 [12] ?_;repeat'(first|apply eS rfl|refine rX d ?_ ?_)
 .rw[ht,f];dsimp only[Ty.den]at *;omega
 rw[ht];exact fI d [.tmp 4] (by rw[h];exact eR)
def Du (a b:List Int):Bool:=MK a b&&MK b a
def Z4:Ab:={ ins:=[Ba,Ba],pre:=λ_=>True,out:=λ(a,b,_)=>[.p .bool (Du a b)],lend:=true }
attribute [local go_sem] Z4
theorem uN:Af Tryz.prog 195 Z4:=by
 refine fK [0,1,4] Tryz.func195 Tryz.ntmps195 (AG VZ AH) ?_;rintro w0 O0 ⟨a,b,u⟩ c - -;simp only[Z4,AM];repeat'(first|exact a6|apply eS rfl|refine rX c ?_ ?_)
 exact fI c [.tmp 4] (by unfold Du;exact eR)
def Ew (c:List Int):Nat->List FA->Int
 | _,[]=>-1
 | k,t :: l=>if Du t.2.1 c=true then (k:Int) else Ew c (k+1) l
theorem lX (c:List Int) (l:List FA) (h:k<l.length):Ew c k (l.drop k)=if Du (l.getD k RM).2.1 c=true then (k:Int) else Ew c (k+1) (l.drop (k+1)):=by
 rw[OR h];have e:l.getD k RM=l[k]:=by simp[AS,h]
 rw[e];rfl
theorem A0H (c:List Int) (t:FA):BF Tryz.prog 194 [.p kR t,.bp 1 [] 0] [(1,.box 111 false [.p Ba c])] [1] (λres b=>res=.p .bool (Du t.2.1 c)/\b=[(1,.box 111 false [.p Ba c])]):=by
 refine J0 [0,1,2,3] [] [] Tryz.func194 Tryz.ntmps194 (AG uN AH) ?_;intro w0 K O0 ρ0 a d e;simp only[Au];repeat'(first|exact a6|apply eS rfl|refine rX a ?_ ?_)
 refine Ev.ent (σ':=⟨[(3,.p .bool (Du t.2.1 c))],[(1,.box 111 false [.p Ba c])]⟩) ?_ (AC [(1,.nm 1)] rfl rfl ?_ ?_)
 .exact fM a [.tmp 3] (.p .bool (Du t.2.1 c)) eT ⟨rfl,rfl⟩
 .exact eN
 exact eN
theorem uO (l:List FA) (c:List Int) (i:l.length<=100000):BF Tryz.prog 76 [.p SM l,.clo 194 [1]] [(1,.box 111 false [.p Ba c])] [1] (λres g=>res=.p T3 (Ew c 0 l)/\g=[(1,.box 111 false [.p Ba c])]):=by
 refine J0 [0,1,4,5,7,8,9,16] [] [] Tryz.func76 Tryz.ntmps76 AH ?_;intro w0 K O0 ρ0 b j m;simp only[Au];repeat'(first|exact a6|apply eS rfl|refine rX b ?_ ?_)
 refine AJ (ι:={k:Nat//k<=l.length/\Ew c k (l.drop k)=Ew c 0 l}) (λk=>⟨[(0,.p SM l),(1,.clo 194 [1]),(7,.p (.int .i64) (l.length:Int)),(8,.p (.int .i64) (k.1:Int))],[(1,.box 111 false [.p Ba c])]⟩) (λk=>l.length-k.1) ⟨0,GO _,rfl⟩ (eW [(1,.nm 1)]) (λk=>?_)
 obtain⟨k,hk,hf⟩:=k;have f:=λh:k<l.length=>lX c l h;simp only;repeat'(first|exact a6|apply eS rfl|refine rX b ?_ ?_|refine rC ?_ ?_<;>intro a<;>try(cases a;done))
 .have d:k<l.length:=aT.1 a;have e:=f d;refine cP 5 b ?_ ?_
  .exact a
  refine rM b (A0H c (l.getD k RM)) [(1,.nm 1)] [] ?_ ?_ ?_
  .exact eN
  .exact eN
  rintro _ _ ⟨rfl,rfl⟩;refine⟨[(1,.nm 1)],.p .bool (Du (l.getD k RM).2.1 c),[(1,.box 111 false [.p Ba c])],rfl,rfl,?_,?_,rfl,rfl,FF ?_⟩
  .exact eN
  .exact eN
  repeat'(first|exact a6|apply eS rfl|apply AB|refine rX b ?_ ?_|refine rC ?_ ?_<;>intro a<;>try(cases a;done))
  .have a:Du (l.getD k RM).2.1 c=true:=a;rw[At a,hf]at e;refine Ev.ent (σ':=⟨[(4,.p (.int .i64) (k:Int))],[(1,.box 111 false [.p Ba c])]⟩) ?_ (AC [(1,.nm 1)] rfl rfl ?_ ?_)
   .exact fM b [.tmp 4] (.p T3 (k:Int)) eT ⟨by rw[e],rfl⟩
   .exact eN
   exact eN
  .omega
  have a:Du (l.getD k RM).2.1 c=false:=a;rw[An (by rw[a];simp)]at e;exact⟨⟨k+1,d,e.symm.trans hf⟩,a2,eW [(1,.nm 1)]⟩
 have d:l.drop k=[]:=No (AAf.1 a);rw[d]at hf;have hf:(-1:Int)=Ew c 0 l:=hf;refine Ev.ent (σ':=⟨[(4,.p (.int .i64) (-1))],[(1,.box 111 false [.p Ba c])]⟩) ?_ (AC [(1,.nm 1)] rfl rfl ?_ ?_)
 .exact fM b [.tmp 4] (.p T3 (-1)) eT ⟨by rw[hf],rfl⟩
 .exact eN
 exact eN
def Be (h:AE) (t:Int):List Int:=(h.1.getD t.toNat RM).2.1
def Cs (h:AE) (a b:Int):Int×Bool :=
 if (Fy (Be h a) (Be h b)).length=0 then (0,false) else if Ew (Fy (Be h a) (Be h b)) 0 h.1<0 then (0,false) else (Ew (Fy (Be h a) (Be h b)) 0 h.1,true)
def pQ:Ab:={ ins:=[GH,T3,T3],pre:=λ(h,a,b,_)=>((0:Int)<=a/\a<(List.length (h:AE).1:Int))/\((0:Int)<=b/\b<(List.length (h:AE).1:Int))/\List.length (h:AE).1<=100000/\(∀x∈(h:AE).1,x.2.1.length<=100000),out:=λ(h,a,b,_)=>[.p T3 (Cs h a b).1,.p .bool (Cs h a b).2],lend:=true }
theorem A4f:Af Tryz.prog 179 pQ:=by
 refine fK [0,1,2,3,6,7,8,9,25,31] Tryz.func179 Tryz.ntmps179 (AG A4e AH) ?_;rintro w0 O0 ⟨⟨ht,hf⟩,a,b,u⟩ d-⟨ha,g,j,l⟩;simp only[pQ,AM];refine Ev.ent (σ':=⟨[(0,.p GH (ht,hf)),(1,.p T3 a),(2,.p T3 b)],[]⟩) ?_ (AC [] rfl rfl ?_ ?_)
 .repeat'(first|exact a6|apply eS rfl|refine rX d ?_ ?_|refine rC ?_ ?_<;>intro e<;>try(cases e;done))
  .refine⟨ha,g,?_⟩;have h1:Int.toNat a<List.length ht:=(ACT ha.1).2 ha.2;exact l _ (AF (ht:List FA) RM h1)
  .have k:Cs (ht,hf) a b=(0,false):=by
    unfold Cs;rw[At (by unfold Be;exact Int.ofNat.inj e)]
   exact fI d [.tmp 6,.tmp 7] (by rw[k];exact eR)
  have i:∀c,c=Fy (List.getD ht (Int.toNat a) (ByteArray.empty,[],[],[])).2.1 (List.getD ht (Int.toNat b) (ByteArray.empty,[],[],[])).2.1->c=Fy (Be (ht,hf) a) (Be (ht,hf) b):=λc h=>h;have f:Cs (ht,hf) a b=if Ew (Fy (Be (ht,hf) a) (Be (ht,hf) b)) 0 ht<0 then (0,false) else (Ew (Fy (Be (ht,hf) a) (Be (ht,hf) b)) 0 ht,true):=by
   unfold Cs;rw[An (λh=>e (by unfold Be at h;exact ABj Int.ofNat h))]
  generalize n:Fy (List.getD ht (Int.toNat a) (ByteArray.empty,[],[],[])).2.1 (List.getD ht (Int.toNat b) (ByteArray.empty,[],[],[])).2.1=c at *;rw[<-i c rfl]at f;refine cP 3 d ?_ ?_
  .trivial
  refine rM d (uO ht c j) [(1,.nm 8)] [] ?_ ?_ ?_
  .exact eN
  .exact eN
  rintro _ _ ⟨rfl,rfl⟩;refine⟨[(8,.nm 1)],.p T3 (Ew c 0 ht),[(8,.box 111 false [.p Ba c])],rfl,rfl,?_,?_,rfl,rfl,?_⟩
  .exact eN
  .exact eN
  generalize Ew c 0 ht=m at *;refine rL d ?_ ?_
  .trivial
  repeat'(first|exact a6|apply eS rfl|refine rX d ?_ ?_|refine rC ?_ ?_<;>intro e<;>try(cases e;done))
  .rw[At e]at f;exact fI d [.tmp 6,.tmp 7] (by rw[f];exact eR)
  rw[An (ABh.2 e)]at f;exact fI d [.tmp 6,.tmp 7] (by rw[f];exact eR)
 .exact eN
 exact eN
end
theorem Vb (l:List (List Int)) (i k:Nat):l <+: GK l i k:=by
 unfold GK;split
 .exact ACQ _ _
 exact ABu _
theorem Vc (i:Nat):∀(n k:Nat) (l:List (List Int)),l <+: GL i n k l
 | 0,_,l=>ABu l
 | n+1,k,l=>by
  unfold GL;split
  .exact(Vb l i k).trans (Vc i n (k+1) _)
  exact ABu l
theorem Pz:∀(n i:Nat) (l:List (List Int)),l <+: H4 n i l
 | 0,_,l=>ABu l
 | n+1,i,l=>by
  unfold H4;split
  .exact(Vc i i 0 l).trans (Pz n (i+1) _)
  exact ABu l
theorem P0 {m:List (List Int)} (h:l <+: m) (hk:k<l.length):m.getD k []=l.getD k []:=by
 obtain⟨t,rfl⟩:=h;simp only[AS];rw[AAn hk]
def LA (l:List (List Int)) (q p:Nat):Prop:=ET (l.getD q []) (l.getD p [])=[]\/ET (l.getD q []) (l.getD p [])∈l
theorem LA.pre {m:List (List Int)} (h:l <+: m) {q p:Nat} (c:q<l.length) (b:p<l.length) (a:LA l q p):LA m q p:=by
 unfold LA at a ⊢;rw[P0 h c,P0 h b];rcases a with a|a
 .exact .inl a
 exact .inr (h.subset a)
theorem A4g {b:List Int} (h:k6 l b=true):b∈l:=by
 obtain⟨x,a,e⟩:=bY.1 h;have:x=b:=by simpa[HB] using e
 rw[<-this];exact a
theorem lY {i k:Nat} (hi:i<l.length) (hk:k<l.length):LA (GK l i k) i k:=by
 have b:=Vb l i k;unfold LA;rw[P0 b hi,P0 b hk];unfold GK;split
 .right;simp
 rename_i a;rw[AT,If,gO]at a;by_cases h0:0<((ET (l.getD i []) (l.getD k [])).length:Int)
 .right;cases hh:k6 l (ET (l.getD i []) (l.getD k [])) with
  | true=>exact A4g hh
  | false=>exact absurd ⟨h0,hh⟩ a
 left;exact AAc O1
theorem Vd {i:Nat}:∀ {n k:Nat} {l:List (List Int)},n+k=i->i<l.length->(GL i n k l).length<=256->(∀p,p<k->LA l i p)->∀p,p<i->LA (GL i n k l) i p
 | 0,k,l,hn,hi,a,h=>λp c=>h p O1
 | n+1,k,l,hn,hi,a,h=>by
  unfold GL at a ⊢;split at a
  .rename_i b;rw[At b];have c:=Vb l i k;refine Vd O1 (AB0 hi c.length_le) a λp d=>?_;by_cases e:p=k
   .subst e;exact lY hi O1
   exact(h p O1).pre c hi O1
  rename_i b;exact absurd (by omega:l.length<=256) b
theorem Ve:∀ {n i:Nat} {l:List (List Int)},257<=n+i->(H4 n i l).length<=256->i<=l.length->(∀q p,p<q->q<i->LA l q p)->∀q p,p<q->q<(H4 n i l).length->LA (H4 n i l) q p
 | 0,i,l,hn,a,g,h=>λq p c f=>by
  have k:l.length<=256:=a;omega
 | n+1,i,l,hn,a,g,h=>by
  unfold H4 at a ⊢;split at a
  .rename_i b;rw[At b];have d:=Vc i i 0 l;have m:=d.length_le;have j:=(Pz n (i+1) (GL i i 0 l)).length_le;refine Ve O1 a O1 λq p c f=>?_;by_cases e:q=i
   .subst e;exact Vd O1 b.1 O1 (λp d=>by omega) p c
   exact(h q p c O1).pre d O1 O1
  rename_i b;rw[An b];intro q p c f;exact h q p c (by
   refine DO λhh=>b ⟨O1,a⟩)
theorem Z5 {c:List (List Int)} (a:(A0 c).length<=256):∀q p,p<q->q<(A0 c).length->LA (A0 c) q p :=
 Ve O1 a (GO _) (λq p _ h=>by omega)
theorem A0I (a b:List Int) (k:Nat):(ET a b).getD k 0=if k<a.length then Cp .and .u64 (a.getD k 0) (b.getD k 0) else 0:=by
 unfold ET;rw[Po];split
 .rename_i h;exact Mz .and a b h
 rename_i h;rw[AS,oN (by rw[Eb];omega)];rfl
theorem Gm {b:List Int} (h:¬k<b.length):b.getD k 0=0:=by
 rw[AS,oN O1];rfl
theorem P1 (ha:H7 a) (c:H7 b) (i:Nat):BI (ET a b) i=(BI a i&&BI b i):=by
 unfold BI;rw[A0I];split
 .rw[H6 (BQ ha _) (BQ c _),oF,Nat.testBit_and]
 rename_i h;rw[Gm h];simp
theorem P2 (ha:H7 a) (d:H7 b):H7 (ET a b):=by
 refine OO λx c=>?_;unfold GI at c;obtain⟨i,-,rfl⟩:=Do.1 c;rw[Hh,H6 (BQ ha _) (BQ d _)];have h1:=BQ ha i;have e:(a.getD i 0).toNat &&& (b.getD i 0).toNat<=(a.getD i 0).toNat:=ACI;have f:=h1.1;have g:=h1.2;exact⟨AAX _,O1⟩
theorem RN (b:List Int):∀n,Ck b n=0\/b.getD (Ck b n-1) 0≠0
 | 0=>.inl rfl
 | n+1=>by
  unfold Ck;split
  .exact RN b n
  rename_i h;right;simpa using h
theorem A4h {n:Nat} (h0:n≠0) (h1:n<18446744073709551616):∃r,r<64/\n.testBit r=true:=by
 refine DO λb=>h0 ?_;refine Nat.eq_of_testBit_eq λr=>?_;rw[Nat.zero_testBit];by_cases c:r<64
 .cases a:n.testBit r with
  | false=>rfl
  | true=>exact absurd ⟨r,c,a⟩ b
 have e:(18446744073709551616:Nat)=2 ^ 64:=by decide
 rw[e]at h1;exact Nat.testBit_lt_two_pow (AB0 h1 (Nat.pow_le_pow_right df O1))
theorem fO {b:List Int} (a:H7 b) (h:b.getD k 0≠0):∃i,BI b i=true:=by
 have hu:=BQ a k;have h1:=hu.1;have c:=hu.2;obtain⟨r,d,ht⟩:=A4h (n:=(b.getD k 0).toNat) O1 O1;refine⟨64*k+r,?_⟩;unfold BI;rw[show (64*k+r) / 64=k by omega,show (64*k+r) % 64=r by omega];exact ht
theorem lZ {b:List Int} (a:H7 b) (h:BS b≠[]):∃i,BI b i=true:=by
 rcases RN b b.length with h1|h1
 .exact absurd (by unfold BS;rw[h1];rfl) h
 exact fO a h1
theorem YK (ha:H7 a) (c:H7 b) (h:∀i,BI a i=true->BI b i=true) (k:Nat):Cp .andNot .u64 (a.getD k 0) (b.getD k 0)=0:=by
 rw[RH];have:(BitVec.ofInt 64 (a.getD k 0) &&& ~~~BitVec.ofInt 64 (b.getD k 0))=0#64:=by
  apply BitVec.eq_of_getLsbD_eq;intro r e;rw[BitVec.getLsbD_and,BitVec.getLsbD_not,<-ABY,<-ABY,FY (BQ ha k),FY (BQ c k)];have hk:=h (64*k+r);unfold BI at hk;rw[show (64*k+r) / 64=k by omega,show (64*k+r) % 64=r by omega]at hk;cases d:(a.getD k 0).toNat.testBit r with
  | false=>simp
  | true=>rw[hk d];simp
 rw[this];rfl
theorem FM (ha:H7 a) (c:H7 b):Eo a b=true↔∀i,BI a i=true->BI b i=true:=by
 constructor
 .exact λh i hi=>ME ha c h hi
 intro h;unfold Eo Q9 BS;have h1:Ck (GI .andNot a b a.length) (GI .andNot a b a.length).length=0:=by
  rw[Eb];exact RI λk hk=>by rw[Mz _ _ _ hk];exact YK ha c h k
 rw[h1];rfl
structure Iu (l:List (List Int)):Prop where
 wds:∀c∈l,H7 c
 some:∀c∈l,∃i,BI c i=true
 wid:∀c∈l,c.length<=64
 meet:∀a∈l,∀b∈l,(∃i,BI a i=true/\BI b i=true)->∃t∈l,∀i,BI t i=(BI a i&&BI b i)
structure Bs (l:List (List Int)):Prop where
 wds:∀c∈l,H7 c
 some:∀c∈l,∃i,BI c i=true
theorem RP (h:¬k<l.length):l.getD k []=[]:=by
 rw[AS,oN O1];rfl
theorem Bs.get (h:Bs l) (k:Nat):H7 (l.getD k []):=by
 by_cases hk:k<l.length
 .exact h.wds _ (Ac hk)
 rw[RP hk];intro x a;cases a
theorem A4i (h:Bs l) (i k:Nat):Bs (GK l i k):=by
 unfold GK;split
 .rename_i b;rw[AT,If]at b;refine⟨λc a=>?_,λc a=>?_⟩
  .rcases IN.1 a with a|a
   .exact h.wds c a
   have:c=ET (l.getD i []) (l.getD k []):=by simpa using a
   rw[this];exact P2 (h.get i) (h.get k)
  rcases IN.1 a with a|a
  .exact h.some c a
  have:c=ET (l.getD i []) (l.getD k []):=by simpa using a
  rw[this];have g:ET (l.getD i []) (l.getD k [])≠[]:=by
   intro e;rw[e]at b;exact absurd b.1 sc
  have m:H7 (GI .and (l.getD i []) (l.getD k []) (l.getD i []).length):=by
   intro x d;unfold GI at d;obtain⟨j,-,rfl⟩:=Do.1 d;rw[Hh,H6 (BQ (h.get i) _) (BQ (h.get k) _)];have h1:=BQ (h.get i) j;have n:((l.getD i []).getD j 0).toNat &&& ((l.getD k []).getD j 0).toNat<=((l.getD i []).getD j 0).toNat:=ACI;have o:=h1.1;have p:=h1.2;exact⟨AAX _,O1⟩
  obtain⟨j,f⟩:=lZ m g;exact⟨j,by unfold ET;rw[OM];exact f⟩
 exact h
theorem pR {i:Nat}:∀ {n k:Nat} {l:List (List Int)},Bs l->Bs (GL i n k l)
 | 0,_,_,h=>h
 | n+1,k,l,h=>by
  unfold GL;split
  .exact pR (A4i h i k)
  exact h
theorem pS:∀ {n i:Nat} {l:List (List Int)},Bs l->Bs (H4 n i l)
 | 0,_,_,h=>h
 | n+1,i,l,h=>by
  unfold H4;split
  .exact pS (pR h)
  exact h
theorem uP {d:List AI} (f:BB d=0):Bs (AZ d):=by
 obtain⟨-,l,-⟩:=A2 f;have h:=Dt d d.length;rw[sL]at h;have b:(AO d).length<=4096:=by omega
 refine⟨λc a=>?_,λc a=>?_⟩
 .unfold AZ at a;obtain⟨s,-,rfl⟩:=Do.1 a;exact(CA (d:=d) b s 0).2.1
 unfold AZ at a;obtain⟨s,hs,rfl⟩:=Do.1 a;obtain⟨j,g,e⟩:=CK ByteArray.empty hs;have i:0<=Av d s:=by
  obtain⟨x,k,e⟩:=DR hs;rw[<-e];exact DQ k
 exact⟨j,(CA (d:=d) b s j).1.2 ⟨g,by rw[e];exact OP i⟩⟩
theorem Vf {d:List AI} (m:BB d=0) (u:(A0 (AZ d)).length<=256):Iu (A0 (AZ d)):=by
 obtain⟨-,r,-⟩:=A2 m;have g:Bs (A0 (AZ d)):=pS (uP m);have o:=Z5 u;refine⟨g.wds,g.some,Pt (OV r),λa ha b s hi=>?_⟩;obtain⟨q,f,rfl⟩:=CK [] ha;obtain⟨p,j,rfl⟩:=CK [] s;have key:∀q p,q<(A0 (AZ d)).length->p<(A0 (AZ d)).length->LA (A0 (AZ d)) q p->(∃i,BI ((A0 (AZ d)).getD q []) i=true/\BI ((A0 (AZ d)).getD p []) i=true) ->
   ∃t∈A0 (AZ d),∀i,BI t i=(BI ((A0 (AZ d)).getD q []) i&&BI ((A0 (AZ d)).getD p []) i):=by
  intro q p f j c hi;have n:=P1 (g.get q) (g.get p);rcases c with c|c
  .obtain⟨i,k,l⟩:=hi;have:=n i;rw[c,k,l]at this;unfold BI at this;simp at this
  exact⟨_,c,n⟩
 rcases ACs p q with h|h|h
 .exact key q p f j (o q p h f) hi
 .subst h;exact⟨_,Ac f,λi=>by rw[Bool.and_self]⟩
 obtain⟨t,ht,e⟩:=key p q j f (o p q h j) (by obtain⟨i,k,l⟩:=hi;exact⟨i,l,k⟩);exact⟨t,ht,λi=>by rw[e i,Bool.and_comm]⟩
def GV (h:AE):Prop:=Iu (h.1.map λt=>t.2.1)/\h.1.length<=256
theorem Gn (d:List AI):GV (Ad d).1:=by
 unfold Ad;split
 .exact⟨⟨λc h=>(by cases h),λc h=>(by cases h),λc h=>(by cases h),λc h=>(by cases h)⟩,sc⟩
 rename_i g;have g:(A9 d).2=0:=DO g;have m:Aq d=0:=by
  unfold A9 at g;split at g
  .rename_i h;exact absurd g h
  rename_i h;exact DO h
 obtain⟨o,-,-⟩:=CE m;obtain⟨l,k,-⟩:=Bd o;have hf:=Vf l k;have f:∀c,c∈((Bn d).1.map λt=>t.2.1)↔c∈A0 (AZ d):=by
  intro c;have e:((Bn d).1.map λt=>t.2.1)=(AL d).map λx=>x.2:=by
   show ((EO _ _ _).map λt=>t.2.1)=_;unfold EO;rw[AAU];apply AAJ
   .simp
   intro i h1 p;simp[AS,show i<(AL d).length by simpa using h1]
  rw[e];constructor
  .intro h;obtain⟨x,n,rfl⟩:=Do.1 h;obtain⟨b,j,rfl⟩:=DS.1 n;exact j
  intro h;exact Do.2 ⟨_,DS.2 ⟨c,h,rfl⟩,rfl⟩
 refine⟨⟨λc h=>hf.wds c ((f c).1 h),λc h=>hf.some c ((f c).1 h),λc h=>hf.wid c ((f c).1 h),λa ha b j hi=>?_⟩,?_⟩
 .obtain⟨t,ht,e⟩:=hf.meet a ((f a).1 ha) b ((f b).1 j) hi;exact⟨t,(f t).2 ht,e⟩
 show (EO _ _ _).length<=256;rw[Jr,H9];exact k
theorem CY {h:AE} {t:Int} (a:0<=t) (b:t<(h.1.length:Int)):Be h t∈h.1.map λt=>t.2.1 :=
 Do.2 ⟨_,AF h.1 RM (k:=t.toNat) O1,rfl⟩
theorem Vg (ha:H7 a) (c:H7 b):MK a b=true↔∀i,BI a i=true->BI b i=true:=by
 constructor
 .intro h i hi;by_cases hk:i / 64<a.length
  .have h1:=NO.1 h (i / 64) (tO.2 hk);rw[AAh,Hh]at h1;exact SU (BQ ha _) (BQ c _) h1 (ADh _ df) hi
  exfalso;unfold BI at hi;rw[Gm hk]at hi;simp at hi
 intro h;unfold MK;rw[NO];intro k _;rw[AAh,Hh];exact YK ha c h k
theorem A0J (ha:H7 a) (c:H7 b) (i:Nat):BI (Fy a b) i=(BI a i&&BI b i):=by
 unfold Fy;rw[OM];unfold BI;have:(Gl (Z3 a b) (min a.length b.length) (min a.length b.length)).getD (i / 64) 0=Cp .and .u64 (a.getD (i / 64) 0) (b.getD (i / 64) 0):=by
  by_cases h:i / 64<min a.length b.length
  .unfold Gl;rw[AS,AAV,ABy h];show (if i / 64<min a.length b.length then Z3 a b (i / 64) else 0)=_;rw[At h];rfl
  rw[Gm (by rw[YJ];exact h),H6 (BQ ha _) (BQ c _)];by_cases h1:i / 64<a.length
  .rw[Gm (b:=b) O1];simp
  rw[Gm (b:=a) h1];simp
 rw[this,H6 (BQ ha _) (BQ c _),oF,Nat.testBit_and]
theorem A0K (ha:H7 a) (d:H7 b):H7 (Fy a b):=by
 refine OO λx c=>?_;unfold Gl at c;obtain⟨j,-,rfl⟩:=Do.1 c;split
 .unfold Z3;rw[H6 (BQ ha _) (BQ d _)];have h1:=BQ ha j;have e:(a.getD j 0).toNat &&& (b.getD j 0).toNat<=(a.getD j 0).toNat:=ACI;have f:=h1.1;have g:=h1.2;exact⟨AAX _,O1⟩
 exact⟨df,df⟩
theorem Vh (c:List Int):∀(l:List FA) (k:Nat),(Ew c k l=-1/\∀t∈l,Du t.2.1 c=false)\/((k:Int)<=Ew c k l/\Ew c k l<(k:Int)+l.length/\Du (l.getD ((Ew c k l).toNat-k) RM).2.1 c=true)
 | [],k=>.inl ⟨rfl,λt ht=>by cases ht⟩
 | x :: l,k=>by
  simp only[Ew];split
  .rename_i h;right;refine⟨O1,by simp only[Is];omega,?_⟩;rw[show ((k:Int).toNat-k)=0 by omega];exact h
  rename_i h;have h:Du x.2.1 c=false:=by simpa using h
  rcases Vh c l (k+1) with ⟨h1,a⟩|⟨h1,a,b⟩
  .left;refine⟨h1,λt ht=>?_⟩;rcases By.1 ht with rfl|ht
   .exact h
   exact a t ht
  right;refine⟨O1,by simp only[Is];omega,?_⟩;rw[show ((Ew c (k+1) l).toNat-k)=((Ew c (k+1) l).toNat-(k+1))+1 by omega];exact b
def Tb2 (h:AE) (t:Int) (i:Nat):Bool:=BI (Be h t) i
theorem B0 {h:AE} (hk:GV h) {a b:Int} (c:0<=a) (d:a<(h.1.length:Int)) (e:0<=b) (b1:b<(h.1.length:Int)):Ai h a b=true↔∀i,Tb2 h b i=true->Tb2 h a i=true :=
 Vg (hk.1.wds _ (CY e b1)) (hk.1.wds _ (CY c d))
theorem A0M {h:AE} (hk:GV h) {a b:Int} (f:0<=a) (g:a<(h.1.length:Int)) (j:0<=b) (b1:b<(h.1.length:Int)) :
  ((Cs h a b).2=true->0<=(Cs h a b).1/\(Cs h a b).1<(h.1.length:Int)/\∀i,Tb2 h (Cs h a b).1 i=(Tb2 h a i&&Tb2 h b i))/\((∃i,Tb2 h a i=true/\Tb2 h b i=true)->(Cs h a b).2=true):=by
 have r:=hk.1.wds _ (CY f g);have s:=hk.1.wds _ (CY j b1);have c:=A0J r s;have n:=A0K r s;have heq:∀t∈h.1,Du t.2.1 (Fy (Be h a) (Be h b))=true↔∀i,BI t.2.1 i=BI (Fy (Be h a) (Be h b)) i:=by
  intro t ht;have wt:=hk.1.wds t.2.1 (Do.2 ⟨t,ht,rfl⟩);unfold Du;rw[AT,Vg wt n,Vg n wt];constructor
  .rintro⟨u,v⟩ i;rw[AC1];exact⟨u i,v i⟩
  intro e;exact⟨λi hi=>by rw[<-e i];exact hi,λi hi=>by rw[e i];exact hi⟩
 unfold Cs;by_cases d:(Fy (Be h a) (Be h b)).length=0
 .rw[At d];refine⟨λe=>(by cases e),?_⟩;rintro⟨i,p,q⟩;exfalso;have:=c i;rw[AAc d]at this;unfold Tb2 at p q;rw[p,q]at this;unfold BI at this;simp at this
 rw[An d];rcases Vh (Fy (Be h a) (Be h b)) h.1 0 with ⟨h1,l⟩|⟨h1,l,m⟩
 .rw[At O1];refine⟨λe=>(by cases e),λhi=>?_⟩;exfalso;obtain⟨t,ht,e⟩:=hk.1.meet _ (CY f g) _ (CY j b1) hi;obtain⟨x,o,rfl⟩:=Do.1 ht;have:=(heq x o).2 (λi=>by rw[c i];exact e i);rw[l x o]at this;cases this
 have h1:0<=Ew (Fy (Be h a) (Be h b)) 0 h.1:=by omega
 rw[An O1];refine⟨λ_=>⟨h1,a2,λi=>?_⟩,λ_=>rfl⟩;rw[Nat.sub_zero]at m;have w:=AF h.1 RM (k:=(Ew (Fy (Be h a) (Be h b)) 0 h.1).toNat) O1;have:=(heq _ w).1 m i;rw[c i]at this;exact this
theorem ML {h:AE} (hk:GV h) {a b:Int} (l:0<=a) (m:a<(h.1.length:Int)) (n:0<=b) (b1:b<(h.1.length:Int)) :
  ((Cs h a b).2=true->0<=(Cs h a b).1/\(Cs h a b).1<(h.1.length:Int)/\Ai h a (Cs h a b).1=true/\Ai h b (Cs h a b).1=true) /\
  ∀x,0<=x->x<(h.1.length:Int)->Ai h a x=true->Ai h b x=true->(Cs h a b).2=true/\Ai h (Cs h a b).1 x=true:=by
 obtain⟨r,u⟩:=A0M hk l m n b1;refine⟨λe=>?_,λx g k s t=>?_⟩
 .obtain⟨c,d,f⟩:=r e;refine⟨c,d,(B0 hk l m c d).2 λi hi=>?_,(B0 hk n b1 c d).2 λi hi=>?_⟩
  .rw[f i,AT]at hi;exact hi.1
  rw[f i,AT]at hi;exact hi.2
 have o:=(B0 hk l m g k).1 s;have p:=(B0 hk n b1 g k).1 t;obtain⟨i,hi⟩:=hk.1.some _ (CY g k);have e:=u ⟨i,o i hi,p i hi⟩;obtain⟨c,d,f⟩:=r e;refine⟨e,(B0 hk c d g k).2 λj q=>?_⟩;rw[f j,AT];exact⟨o j q,p j q⟩
def Nrm (c:List Int):Prop:=c.length=0\/c.getD (c.length-1) 0≠0
theorem OX (b:List Int):Nrm (BS b):=by
 unfold Nrm BS;have a:=VD b b.length;rw[Of,ABO a];rcases RN b b.length with h|h
 .exact .inl h
 by_cases h0:Ck b b.length=0
 .exact .inl h0
 right;rw[AS,List.getElem?_take_of_lt O1,<-AS];exact h
theorem A4j (ha:H7 a) (f:H7 b) (h:∀i,BI a i=BI b i) (k:Nat):a.getD k 0=b.getD k 0:=by
 have c:=BQ ha k;have d:=BQ f k;have j:=c.1;have l:=c.2;have m:=d.1;have o:=d.2;have e:(a.getD k 0).toNat=(b.getD k 0).toNat:=by
  refine Nat.eq_of_testBit_eq λr=>?_;by_cases g:r<64
  .have:=h (64*k+r);unfold BI at this;rw[show (64*k+r) / 64=k by omega,show (64*k+r) % 64=r by omega]at this;exact this
  have big:∀n:Nat,n<18446744073709551616->n.testBit r=false:=λn hn=>by
   have e:(18446744073709551616:Nat)=2 ^ 64:=by decide
   rw[e]at hn;exact Nat.testBit_lt_two_pow (AB0 hn (Nat.pow_le_pow_right df O1))
  rw[big _ O1,big _ O1]
 omega
theorem pT (d:∀k,a.getD k 0=b.getD k 0) (c:Nrm b):b.length<=a.length:=by
 rcases c with h|h
 .omega
 refine DO λe=>h ?_;rw[<-d];exact Gm O1
theorem l0 (ha:H7 a) (e:H7 b) (g:Nrm a) (j:Nrm b) (h:∀i,BI a i=BI b i):a=b:=by
 have c:=A4j ha e h;have f:a.length=b.length:=ACj (pT (λk=>(c k).symm) g) (pT c j);refine AAJ f λi h1 d=>?_;have:=c i;simpa[AS,h1,d] using this
theorem fP {α:Type} (l:List α) (x:α) (n:Nat):List.Perm (l.take n++[x]++l.drop n) (x :: l):=by
 have h:l.take n++[x]++l.drop n=l.take n++x :: l.drop n:=by simp
 rw[h];refine AD8.trans ?_;rw[ABS]
def pU (l:List ByteArray):Prop:=l.Pairwise λa b=>AK a b=false
theorem Iv {a b:ByteArray} (h:AK a b=false):AK b a=false:=by
 cases hh:AK b a with
 | false=>rfl
 | true=>rw[Bv hh]at h;cases h
theorem Vi {l:List ByteArray} (h:pU l) (hs:∀x∈l,AK x s=false):pU (Ds l s):=by
 unfold Ds;split
 .exact h
 refine(List.Perm.pairwise_iff (λb=>Iv b) (fP l s _)).2 ?_;exact AAv.2 ⟨λx a=>Iv (hs x a),h⟩
theorem Vj {d:List AI} (hn:Cm d=0):pU (AO d):=by
 have key:∀k,k<=d.length->pU (AO (d.take k))/\∀s∈AO (d.take k),∃i,i<k/\(d.getD i d0).1=s:=by
  intro k;induction k with
  | zero =>
   intro _;exact⟨.nil,λs hs=>by cases hs⟩
  | succ k c =>
   intro hk;obtain⟨h1,a⟩:=c O1;have e:AO (d.take (k+1))=Ds (AO (d.take k)) (d.getD k d0).1:=by
    have:d.take (k+1)=d.take k++[d.getD k d0]:=Ay d d0 O1;rw[this];unfold AO;rw[ABz];rfl
   rw[e];refine⟨Vi h1 λx b=>?_,λs hs=>?_⟩
   .obtain⟨i,hi,rfl⟩:=a x b;cases hh:AK (d.getD i d0).1 (d.getD k d0).1 with
    | false=>rfl
    | true =>
     have g:=Iq d hh;rw[MF hn (j:=i) O1,MF hn (j:=k) O1]at g;omega
   rcases Fv hs with hs|hs
   .obtain⟨i,hi,e⟩:=a s hs;exact⟨i,O1,e⟩
   exact⟨k,O1,hs.symm⟩
 have:=(key d.length (OS _)).1
 rwa [sL]at this
structure Nd (l:List (List Int)):Prop where
 nd:l.Nodup
 nrm:∀c∈l,Nrm c
theorem A4k {c:List Int} (h:Nd l) (b:c∉l) (hn:Nrm c):Nd (l++[c]):=by
 refine⟨?_,λx a=>?_⟩
 .rw[ABe];refine⟨h.nd,sc,λx a y d e=>b ?_⟩;have:y=c:=by simpa using d
  rw[<-this,<-e];exact a
 rcases IN.1 a with a|a
 .exact h.nrm x a
 have:x=c:=by simpa using a
 rw[this];exact hn
theorem A4l (h:Nd l) (i k:Nat):Nd (GK l i k):=by
 unfold GK;split
 .rename_i a;rw[AT,gO]at a;refine A4k h (λb=>?_) (OX _);have:k6 l (ET (l.getD i []) (l.getD k []))=true:=bY.2 ⟨_,b,by unfold HB;exact ABm rfl⟩;rw[this]at a;cases a.2
 exact h
theorem pV {i:Nat}:∀ {n k:Nat} {l:List (List Int)},Nd l->Nd (GL i n k l)
 | 0,_,_,h=>h
 | n+1,k,l,h=>by
  unfold GL;split
  .exact pV (A4l h i k)
  exact h
theorem Td:∀ {n i:Nat} {l:List (List Int)},Nd l->Nd (H4 n i l)
 | 0,_,_,h=>h
 | n+1,i,l,h=>by
  unfold H4;split
  .exact Td (pV h)
  exact h
theorem RQ {d:List AI} (m:BB d=0):Nd (AZ d):=by
 obtain⟨-,l,-,hn,p⟩:=A2 m;have q:=Dt d d.length;rw[sL]at q;have hap:=Vj hn;refine⟨?_,λc n=>?_⟩
 .unfold AZ List.Nodup;rw[AAI,iN];intro i j hi a o e;have h1:=(iN.1 hap) i j hi a o;have g:∀k,(hk:k<(AO d).length)->(AO d).getD k ByteArray.empty=(AO d)[k]:=λk hk=>by simp[AS,hk]
  have f:=(CA (d:=d) (all:=AO d) O1 (AO d)[j] 0).2.1;have b:=eU hn p l hi a (by
   rw[g i hi,g j a,e];unfold DH;have:=(FM f f).2 λ_ h=>h;rw[this];rfl)
  rw[g i hi,g j a,h1]at b;cases b
 obtain⟨s,hs,rfl⟩:=Do.1 n;unfold Ec ofF;split
 .exact OX _
 exact .inl rfl
theorem MM {d:List AI}:∀ {l:List (List Int)} {o:List AR},(o.map (·.2)++l).Nodup->((l.foldl (RJ d) o).map (·.2)).Nodup
 | [],o,h=>by simpa using h
 | b :: l,o,h=>by
  rw[ON];refine MM ?_;unfold RJ GN Zy;have c:=(fP o (Gj d (AO d) (AZ d) b,b) (Fa (Gj d (AO d) (AZ d) b,b) o o.length)).map (λx:AR=>x.2);have e:List.Perm ((o.take (Fa (Gj d (AO d) (AZ d) b,b) o o.length)++[(Gj d (AO d) (AZ d) b,b)]++o.drop (Fa (Gj d (AO d) (AZ d) b,b) o o.length)).map (λx:AR=>x.2)++l) (o.map (·.2)++b :: l) :=
   (c.append_right l).trans (AD8 (a:=b)).symm
  exact e.nodup_iff.2 h
def JL (h:AE):Prop:=∀a b,0<=a->a<(h.1.length:Int)->0<=b->b<(h.1.length:Int)->Ai h a b=true->Ai h b a=true->a=b
theorem A7G {h:AE} (hk:GV h) (hn:Nd (h.1.map λt=>t.2.1)):JL h:=by
 intro a b c d f b1 h1 l;have n:=hk.1.wds _ (CY c d);have o:=hk.1.wds _ (CY f b1);have e:Be h a=Be h b:=l0 n o (hn.nrm _ (CY c d)) (hn.nrm _ (CY f b1)) λi=>by
  rw[AC1];exact⟨(B0 hk f b1 c d).1 l i,(B0 hk c d f b1).1 h1 i⟩
 have j:=iN.1 hn.nd;have g:∀k:Int,0<=k->(hk:k<(h.1.length:Int))->Be h k=(h.1.map λt=>t.2.1)[k.toNat]'(by rw[On];omega):=λk p q=>by
  unfold Be;simp[AS,show k.toNat<h.1.length by omega]
 rw[g a c d,g b f b1]at e;rcases Int.lt_trichotomy a b with m|heq|m
 .exact absurd e (j a.toNat b.toNat (by rw[On];omega) (by rw[On];omega) O1)
 .exact heq
 exact absurd e.symm (j b.toNat a.toNat (by rw[On];omega) (by rw[On];omega) O1)
theorem SZ (d:List AI):JL (Ad d).1:=by
 refine A7G (Gn d) ?_;unfold Ad;split
 .exact⟨.nil,λc h=>(by cases h)⟩
 rename_i a;have a:(A9 d).2=0:=DO a;have g:Aq d=0:=by
  unfold A9 at a;split at a
  .rename_i h;exact absurd a h
  rename_i h;exact DO h
 obtain⟨m,-,-⟩:=CE g;obtain⟨f,o,-⟩:=Bd m;have hf:Nd (A0 (AZ d)):=Td (RQ f);have e:((Bn d).1.map λt=>t.2.1)=(AL d).map λx=>x.2:=by
  show ((EO _ _ _).map λt=>t.2.1)=_;unfold EO;rw[AAU];apply AAJ
  .simp
  intro i h1 n;simp[AS,show i<(AL d).length by simpa using h1]
 show Nd ((Bn d).1.map λt=>t.2.1);rw[e];refine⟨MM (by simpa using hf.nd),λc k=>?_⟩;obtain⟨x,l,rfl⟩:=Do.1 k;obtain⟨b,j,rfl⟩:=DS.1 l;exact hf.nrm b j
section
attribute [local go_sem] pQ
def D6 (f:Int):List (Int×Int)->Int×Bool
 | []=>(0,false)
 | x :: l=>if x.1=f then (x.2,true) else D6 f l
theorem Vk (f:Int) (l:List (Int×Int)) (h:k<l.length):D6 f (l.drop k)=if (l.getD k (0,0)).1=f then ((l.getD k (0,0)).2,true) else D6 f (l.drop (k+1)):=by
 rw[OR h];have e:l.getD k (0,0)=l[k]:=by simp[AS,h]
 rw[e];rfl
def Z6 (h:AE) (t:Int):List (Int×Int):=(h.1.getD t.toNat RM).2.2.2
def CL (h:AE) (t f:Int):Int×Bool:=D6 f (Z6 h t)
def Na:Ab:={ ins:=[GH,T3,T3],pre:=λ(h,t,_,_)=>(0:Int)<=t/\t<(List.length (h:AE).1:Int),out:=λ(h,t,f,_)=>[.p T3 (CL h t f).1,.p .bool (CL h t f).2],lend:=true }
attribute [local go_sem] Na
theorem A4m:Af Tryz.prog 142 Na:=by
 refine fK [0,1,2,3,6,7,9,15,16,17,18,26] Tryz.func142 Tryz.ntmps142 AH ?_;rintro w0 O0 ⟨⟨ht,hf⟩,t,f,u⟩ a o ⟨i,j⟩;simp only[Na,AM];refine Ev.ent (σ':=⟨[(0,.p GH (ht,hf)),(1,.p T3 t),(2,.p T3 f)],[]⟩) ?_ (AC [] rfl rfl ?_ ?_)
 .repeat'(first|exact a6|apply eS rfl|refine rX a ?_ ?_)
  .exact⟨i,j⟩
  have n:∀l,l=(List.getD ht (Int.toNat t) (ByteArray.empty,[],[],[])).2.2.2->CL (ht,hf) t f=D6 f l:=λl e=>by rw[e];rfl
  have q:List.length (List.getD ht (Int.toNat t) (ByteArray.empty,[],[],[])).2.2.2<=140737488355328:=(o.1.1.2 _ (AF (ht:List FA) RM ((ACT i).2 j))).2.2.2.1;generalize (List.getD ht (Int.toNat t) (ByteArray.empty,[],[],[])).2.2.2=l at *;rw[n l rfl];refine AJ (ι:={k:Nat//k<=List.length l/\D6 f l=D6 f (l.drop k)}) (λk=>⟨[(2,.p T3 f),(15,.p XD l),(16,.p (.int .i64) (List.length l:Int)),(17,.p (.int .i64) (k.1:Int))],[]⟩) (λk=>List.length l-k.1) ⟨0,GO _,rfl⟩ (eW []) (λk=>?_)
  obtain⟨k,hk,b⟩:=k;have g:=λh:k<List.length l=>Vk f l h;simp only;repeat'(first|exact a6|apply eS rfl|refine rX a ?_ ?_|refine rC ?_ ?_<;>intro c<;>try(cases c;done))
  .exact c
  .refine cP 5 a ?_ ?_
   .trivial
   refine AAy a ?_;refine rL a ?_ ?_
   .trivial
   repeat'(first|exact a6|apply eS rfl|apply AB|refine rX a ?_ ?_|refine rC ?_ ?_<;>intro c<;>try(cases c;done))
   .have d:k<List.length l:=by exact eV
    rw[g d,At c]at b;exact fI a [.tmp 6,.tmp 7] (by rw[b];exact eR)
   .omega
   have d:k<List.length l:=by exact eV
   rw[g d,An c]at b;exact⟨⟨k+1,d,b⟩,a2,eW []⟩
  have m:List.drop k (l:List (Int×Int))=[]:=No eV;rw[m]at b;have b:D6 f l=(0,false):=b;exact fI a [.tmp 6,.tmp 7] (by rw[b];exact eR)
 .exact eN
 exact eN
abbrev EI:=List Int×List Int
def DB (h:AE) (s:EI) (n t:Int):Option EI :=
 if (Cs h (s.1.getD n.toNat 0) t).2=true then some (if (Cs h (s.1.getD n.toNat 0) t).1=s.1.getD n.toNat 0 then s else (s.1.set n.toNat (Cs h (s.1.getD n.toNat 0) t).1,s.2++[n])) else none
def Dv (h:AE) (s:EI):List (Nat×Obj):=[(1,.box 163 true [.p GH h,.sr 2 T3 0 s.1.length,.p CH s.2]),(2,.arr 3 T3 s.1)]
theorem fQ (h:AE) (hk:GV h) (s:EI) {t:Int} (n0:0<=n) (n1:n<(s.1.length:Int)) (f:0<=s.1.getD n.toNat 0) (ty1:s.1.getD n.toNat 0<(h.1.length:Int)) (k:0<=t) (l:t<(h.1.length:Int)) (i:s.2.length<=1000000000) :
  BF Tryz.prog 141 [.bp 1 [] 0,.p T3 n,.p T3 t] (Dv h s) [1]
  (λres d=>(DB h s n t=none/\res=.p .bool false/\d=Dv h s)\/∃e,DB h s n t=some e/\res=.p .bool true/\d=Dv h e):=by
 obtain⟨ty,w⟩:=s;simp only at n1 f ty1 i;have hh:h.1.length<=100000:=aS hk.2 O1;have g:∀x∈h.1,x.2.1.length<=100000:=λx j=>aS (hk.1.wid x.2.1 (Do.2 ⟨x,j,rfl⟩)) O1;refine J0 [0,1,2,6,7,8,26,35] [] [] Tryz.func141 Tryz.ntmps141 (AG A4f AH) ?_;intro w0 K O0 ρ0 c o q;simp only[Dv,Au];repeat'(first|exact a6|apply eS rfl|refine rX c ?_ ?_|refine rC ?_ ?_<;>intro b<;>try(cases b;done))
 .exact⟨⟨n0,n1⟩,⟨f,ty1⟩,⟨k,l⟩,hh,g⟩
 .have a:DB h (ty,w) n t=none:=by unfold DB;rw[An (by simp only;rw[b];simp)]
  refine Ev.ent (σ':=⟨[(6,.p .bool false)],Dv h (ty,w)⟩) ?_ (AC [(1,.nm 1),(2,.nm 2)] rfl rfl ?_ ?_)
  .exact fM c [.tmp 6] (.p .bool false) eT (.inl ⟨a,rfl,rfl⟩)
  .unfold Dv;exact eN
  exact eN
 .exact⟨n0,n1⟩
 .exact⟨n0,n1⟩
 .simp only[AP];omega
 .have a:DB h (ty,w) n t=some (ty.set n.toNat (Cs h (ty.getD n.toNat 0) t).1,w++[n]):=by unfold DB;rw[At a4,An b]
  generalize (Cs h (ty.getD n.toNat 0) t).1=m at *;have r:(w++[n]).take (w.length+1)=w++[n]:=BY sc;refine C9 [61] ?_;refine Ev.ent (σ':=⟨[(6,.p .bool true)],Dv h (ty.set n.toNat m,w++[n])⟩) ?_ (AC [(1,.nm 1),(2,.nm 2)] rfl rfl ?_ ?_)
  .exact fM c [.tmp 6] (.p .bool true) eT (.inr ⟨_,a,rfl,rfl⟩)
  .unfold Dv;simp only[AAp];exact eN
  exact eN
 have a:DB h (ty,w) n t=some (ty,w):=by unfold DB;rw[At a4,At (by simpa using b)]
 refine Ev.ent (σ':=⟨[(6,.p .bool true)],Dv h (ty,w)⟩) ?_ (AC [(1,.nm 1),(2,.nm 2)] rfl rfl ?_ ?_)
 .exact fM c [.tmp 6] (.p .bool true) eT (.inr ⟨_,a,rfl,rfl⟩)
 .unfold Dv;exact eN
 exact eN
end
section
variable {α:Type}
structure SO (o:α->α->Int):Prop where
 anti:∀a b,o b a=- o a b
 trans:∀ {a b c},o a b<0->o b c<0->o a c<0
variable {o:α->α->Int} {d:α}
def fR (d:α) (l:List α) (i j:Nat):List α:=(l.set i (l.getD j d)).set j (l.getD i d)
theorem fS {l:List α} {i j:Nat} (hi:i<l.length) (c:j<l.length) (k:Nat):(fR d l i j).getD k d=if k=j then l.getD i d else if k=i then l.getD j d else l.getD k d:=by
 unfold fR;simp only[AS,ABf,AAp];by_cases a:j=k
 .rw[At a,At O1,At a.symm];rfl
 rw[An a,An (show ¬k=j by omega)];by_cases b:i=k
 .rw[At b,At O1,At b.symm];rfl
 rw[An b,An (show ¬k=i by omega)]
theorem uQ {l:List α} {i j:Nat} (hi:i<l.length) (a:j<l.length):(fR d l i j).Perm l:=by
 have b:l.getD i d=l[i]:=by rw[AS,As hi];rfl
 have c:l.getD j d=l[j]:=by rw[AS,As a];rfl
 unfold fR;rw[b,c];exact List.set_set_perm hi a
structure YL (d:α) (a b:Nat) (l r:List α):Prop where
 perm:r.Perm l
 out:∀k,k<a\/b<=k->r.getD k d=l.getD k d
 inn:∀i,a<=i->i<b->∃j,a<=j/\j<b/\r.getD i d=l.getD j d
theorem YL.len {a b:Nat} {l r:List α} (h:YL d a b l r):r.length=l.length:=h.perm.length_eq
theorem YL.refl (a b:Nat) (l:List α):YL d a b l l:=⟨List.Perm.refl _,λ_ _=>rfl,λi h1 c=>⟨i,h1,c,rfl⟩⟩
theorem YL.trans {a b:Nat} {l r s:List α} (h:YL d a b l r) (c:YL d a b r s):YL d a b l s:=⟨c.perm.trans h.perm,λk hk=>(c.out k hk).trans (h.out k hk),λi h1 g=>by
 obtain⟨j,m,n,e⟩:=c.inn i h1 g;obtain⟨k,o,p,f⟩:=h.inn j m n;exact⟨k,o,p,e.trans f⟩⟩
theorem YL.mono {a b:Nat} {l r:List α} (h:YL d a b l r) (ha:c<=a) (m:b<=f):YL d c f l r:=⟨h.perm,λk hk=>h.out k O1,λi h1 g=>by
 by_cases hi:a<=i/\i<b
 .obtain⟨j,n,o,e⟩:=h.inn i hi.1 hi.2;exact⟨j,O1,O1,e⟩
 exact⟨i,h1,g,h.out i O1⟩⟩
theorem YL.swap {a b:Nat} (l:List α) {i j:Nat} (g:a<=i) (h:i<b) (m:a<=j) (n:j<b) (q:b<=l.length):YL d a b l (fR d l i j):=by
 have f:=fS (d:=d) (l:=l) (i:=i) (j:=j) O1 O1;refine⟨uQ O1 O1,λk hk=>?_,λk o p=>?_⟩
 .rw[f k,An O1,An O1]
 rw[f k];by_cases c:k=j
 .rw[At c];exact⟨i,g,h,rfl⟩
 rw[An c];by_cases e:k=i
 .rw[At e];exact⟨j,m,n,rfl⟩
 rw[An e];exact⟨k,o,p,rfl⟩
def Dst (o:α->α->Int) (d:α) (l:List α):Prop:=∀i j,i<l.length->j<l.length->i≠j->o (l.getD i d) (l.getD j d)≠0
theorem pW (so:SO o) (l:List α):Dst o d l↔l.Pairwise λa b=>o a b≠0:=by
 have e:∀i (h:i<l.length),l.getD i d=l[i]:=λi h=>by rw[AS,As h];rfl
 rw[iN];constructor
 .intro h i j hi c f;have:=h i j hi c O1
  rwa [e i hi,e j c]at this
 intro h i j hi c f;rw[e i hi,e j c];rcases Nat.lt_or_gt_of_ne f with h1|h1
 .exact h i j hi c h1
 have g:=h j i c hi h1;rw[so.anti];omega
theorem Dst.perm (so:SO o) {l r:List α} (h:Dst o d l) (c:r.Perm l):Dst o d r:=by
 rw[pW so]at h ⊢;refine(c.symm.pairwise_iff ?_).1 h;intro a b e;rw[so.anti];omega
theorem Dst.lt (so:SO o) {l:List α} (h:Dst o d l) {i j:Nat} (hi:i<l.length) (b:j<l.length) (a:i≠j) (hn:¬o (l.getD i d) (l.getD j d)<0):o (l.getD j d) (l.getD i d)<0:=by
 have h1:=h i j hi b a;rw[so.anti];omega
def pX (o:α->α->Int) (d:α) (a b:Nat) (l:List α):Prop:=∀i j,a<=i->i<j->j<b->o (l.getD i d) (l.getD j d)<0
theorem A4n (a:Nat) (l:List α):pX o d a (a+1) l:=λi j h1 b c=>by omega
theorem YM {a b:Nat} {l r:List α} (h:pX o d a b l) (e:∀k,a<=k->k<b->r.getD k d=l.getD k d):pX o d a b r:=λi j h1 f c=>by
 rw[e i h1 O1,e j O1 c];exact h i j h1 f c
def A0N (o:α->α->Int) (d:α) (a i j:Nat) (m:List α):Prop:=(∀x y,a<=x->x<y->y<=i->x≠j->y≠j->o (m.getD x d) (m.getD y d)<0)/\∀y,j<y->y<=i->o (m.getD j d) (m.getD y d)<0
theorem l4 {a:Nat} {m:List α} (h:pX o d a i m):A0N o d a i i m:=⟨λx y h0 h1 b c e=>h x y h0 h1 O1,λy h1 b=>by omega⟩
theorem A0O (so:SO o) {a j:Nat} {m:List α} (h:A0N o d a i j m) (k:a<=j) (l:j<=i) (b:j=a\/o (m.getD (j-1) d) (m.getD j d)<0):pX o d a (i+1) m:=by
 intro x y h0 h1 g;by_cases c:x=j
 .subst c;exact h.2 y h1 O1
 by_cases e:y=j
 .subst e;rcases b with b|b
  .omega
  by_cases f:x=y-1
  .subst f;exact b
  exact so.trans (h.1 x (y-1) h0 O1 O1 c O1) b
 exact h.1 x y h0 h1 O1 c e
theorem uR {a j:Nat} {m:List α} (h:A0N o d a i j m) (h0:a<j) (q:j<=i) (hi:i<m.length) (p:o (m.getD j d) (m.getD (j-1) d)<0):A0N o d a i (j-1) (fR d m j (j-1)):=by
 have f:=fS (d:=d) (l:=m) (i:=j) (j:=j-1) O1 O1;refine⟨λx y g h1 e k n=>?_,λy h1 e=>?_⟩
 .rw[f x,f y,An k,An n];by_cases c:x=j
  .subst c;rw[At rfl,An O1];exact h.1 (x-1) y O1 O1 e O1 O1
  rw[An c];by_cases b:y=j
  .rw[At b];exact h.1 x (j-1) g O1 O1 c O1
  rw[An b];exact h.1 x y g h1 e c b
 rw[f (j-1),f y,At rfl,An O1];by_cases b:y=j
 .rw[At b];exact p
 rw[An b];exact h.2 y O1 e
structure PtE (o:α->α->Int) (d:α) (a b p:Nat) (m:List α):Prop where
 l:a<=p
 r:p<b
 lo:∀x,a<=x->x<p->o (m.getD x d) (m.getD p d)<0
 hi:∀x,p<x->x<b->o (m.getD p d) (m.getD x d)<0
structure Cut (o:α->α->Int) (d:α) (a0 b0 a b:Nat) (m:List α):Prop where
 s1:pX o d a0 a m
 s2:pX o d b b0 m
 c1:∀x y,a0<=x->x<a->a<=y->y<b0->o (m.getD x d) (m.getD y d)<0
 c2:∀x y,a0<=x->x<b->b<=y->y<b0->o (m.getD x d) (m.getD y d)<0
 ab:a0<=a/\a<=b/\b<=b0
theorem Cut.pin {n p a b:Nat} {m r:List α} (h:Cut o d n p a b m) (g:YL d a b m r):Cut o d n p a b r:=by
 obtain⟨A,C,B⟩:=h.ab;have key:∀(P:α->Prop) (lo hi:Nat),lo<=a->b<=hi->(∀y,lo<=y->y<hi->P (m.getD y d))->∀y,lo<=y->y<hi->P (r.getD y d):=λP lo hi h1 q s y c f=>by
  obtain⟨j,t,u,e⟩:=(g.mono h1 q).inn y c f;rw[e];exact s j t u
 refine⟨YM h.s1 λk v w=>g.out k O1,YM h.s2 λk v w=>g.out k O1,λx y i l c f=>?_,λx y i l c f=>?_,h.ab⟩
 .rw[g.out x O1];exact key (λz=>o (m.getD x d) z<0) a p (OS _) B (λy c f=>h.c1 x y i l c f) y c f
 rw[g.out y O1];exact key (λz=>o z (m.getD y d)<0) n b A (OS _) (λx i l=>h.c2 x y i l c f) x i l
theorem Cut.done {g k a b:Nat} {m:List α} (h:Cut o d g k a b m) (hs:pX o d a b m):pX o d g k m:=by
 obtain⟨n,p,q⟩:=h.ab;intro i j h1 c e;by_cases hi:i<a
 .by_cases f:j<a
  .exact h.s1 i j h1 c f
  exact h.c1 i j h1 hi O1 e
 by_cases f:j<b
 .exact hs i j O1 c f
 by_cases l:i<b
 .exact h.c2 i j h1 l O1 e
 exact h.s2 i j O1 c e
theorem Cut.left (so:SO o) {f g a b p:Nat} {m:List α} (h:Cut o d f g a b m) (c:PtE o d a b p m) (hs:pX o d a p m):Cut o d f g (p+1) b m:=by
 obtain⟨A,B,C⟩:=h.ab;have w:=c.l;have z:=c.r;refine⟨λi j h1 k v=>?_,h.s2,λx y q D E s=>?_,h.c2,O1⟩
 .by_cases hi:i<a
  .by_cases e:j<a
   .exact h.s1 i j h1 k e
   exact h.c1 i j h1 hi O1 O1
  by_cases e:j=p
  .rw[e];exact c.lo i O1 O1
  exact hs i j O1 k O1
 by_cases t:x<a
 .exact h.c1 x y q t O1 s
 by_cases n:y<b
 .by_cases u:x=p
  .rw[u];exact c.hi y O1 n
  exact so.trans (c.lo x O1 O1) (c.hi y O1 n)
 exact h.c2 x y q O1 O1 s
theorem Cut.right (so:SO o) {n a b p:Nat} {m:List α} (h:Cut o d k n a b m) (c:PtE o d a b p m) (hs:pX o d (p+1) b m):Cut o d k n a p m:=by
 obtain⟨C,D,E⟩:=h.ab;have A:=c.l;have B:=c.r;refine⟨h.s1,λi j h1 q s=>?_,λx y e f u g=>h.c1 x y e f u g,λx y e f u g=>?_,O1⟩
 .by_cases t:j<b
  .by_cases hi:i=p
   .rw[hi];exact c.hi j O1 t
   exact hs i j O1 q t
  by_cases v:i<b
  .exact h.c2 i j O1 v O1 s
  exact h.s2 i j O1 q s
 by_cases z:y<b
 .by_cases w:x<a
  .exact h.c1 x y e w O1 g
  by_cases hyp:y=p
  .rw[hyp];exact c.lo x O1 f
  exact so.trans (c.lo x O1 f) (c.hi y O1 z)
 exact h.c2 x y e O1 O1 g
def Bf (o:α->α->Int) (d:α) (a b:Nat) (m:List α):Prop:=a=0\/∀y,a<=y->y<b->o (m.getD (a-1) d) (m.getD y d)<0
theorem Bf.pin {a b:Nat} {m r:List α} (h:Bf o d a b m) (c:YL d a b m r):Bf o d a b r:=by
 rcases h with h|h
 .exact .inl h
 by_cases h0:a=0
 .exact .inl h0
 right;intro y i k;rw[c.out (a-1) O1];obtain⟨j,f,g,e⟩:=c.inn y i k;rw[e];exact h j f g
theorem Bf.sub {a b:Nat} {m:List α} (h:Bf o d a b m) (f:c<=b):Bf o d a c m:=h.imp id λh y e g=>h y e O1
end
section
def l5:Ab:={ ins:=[T3],pre:=λ_=>True,out:=λ_=>[.p .bool false] }
attribute [local go_sem] l5
def P3 (a b:Int):Int:=if a<b then -1 else if b<a then 1 else 0
def Gp:Ab:={ ins:=[T3,T3],pre:=λ_=>True,out:=λ(a,b,_)=>[.p T3 (P3 a b)] }
attribute [local go_sem] Gp
def ID:Ab:={ ins:=[C4,C4],pre:=λ_=>True,out:=λ(a,b,_)=>[.p T3 (P3 (Prod.fst a) (Prod.fst b))] }
attribute [local go_sem] ID
theorem A0Q:Af Tryz.prog 192 l5:=by
 refine fK [0,2] Tryz.func192 Tryz.ntmps192 AH ?_;rintro w0 O0 ⟨x,u⟩ a - -;simp only[l5,AM];repeat'(first|exact a6|apply eS rfl|refine rX a ?_ ?_)
 exact fI a [.tmp 2]
theorem XH:Af Tryz.prog 178 Gp:=by
 refine fK [0,1,4,5,6,11,12,13,16,19] Tryz.func178 Tryz.ntmps178 (AG A0Q AH) ?_;rintro w0 O0 ⟨a,b,u⟩ c - -;simp only[Gp,AM];repeat'(first|exact a6|apply eS rfl|refine rX c ?_ ?_|refine rC ?_ ?_<;>intro d<;>try(cases d;done))
 .have e:P3 a b=-1:=At d;exact fI c [.tmp 4] (by rw[e];exact eR)
 .have e:P3 a b=1:=by unfold P3;rw[An O1,At d]
  exact fI c [.tmp 4] (by rw[e];exact eR)
 have e:P3 a b=0:=by unfold P3;rw[An O1,An O1]
 exact fI c [.tmp 4] (by rw[e];exact eR)
theorem Kh:Af Tryz.prog 140 ID:=by
 refine fK [0,1,2,3,4] Tryz.func140 Tryz.ntmps140 (AG XH AH) ?_;rintro w0 O0 ⟨a,b,u⟩ c - -;simp only[ID,AM];repeat'(first|exact a6|apply eS rfl|refine rX c ?_ ?_)
 exact fI c [.tmp 4]
def MN (l:List (Int×Int)):Prop:=∀i,i+1<l.length->(l.getD i (0,0)).1<(l.getD (i+1) (0,0)).1
end
section
attribute [local go_sem] ID
def RR (a b:Int×Int):Int:=P3 a.1 b.1
theorem pY:SO RR:=⟨λa b=>by unfold RR P3;(repeat' split)<;>omega,λ{a b c} h1 d=>by
 unfold RR P3 at *
 (repeat' split at h1)<;>(repeat' split at d)<;>(repeat' split)<;>omega⟩
theorem A4o (l:List (Int×Int)) (N:l.length<=100000) (z:Dst RR (0,0) l) (a b:Nat) (I:a<=100000) (J:b<=l.length):BF Tryz.prog 200 [.sr 1000000 C4 0 l.length,.p T3 (a:Int),.p T3 (b:Int),.fn 140] [(1000000,.arr 59 C4 l)] [1000000] (λres G=>res=.raw (.tuple #[])/\∃r,G=[(1000000,.arr 59 C4 r)]/\YL (0,0) a b l r/\pX RR (0,0) a b r):=by
 refine J0 [0,1,2,3,8,9,14,34] [] [] Tryz.func200 Tryz.ntmps200 (AG Kh AH) ?_;intro w0 K O0 ρ0 d P Q;simp only[Au];repeat'(first|exact a6|apply eS rfl|apply AB|refine rX d ?_ ?_|refine rC ?_ ?_<;>intro e<;>try(cases e;done))
 .omega
 refine AJ (ι:={s:Nat×List (Int×Int)//a+1<=s.1/\(s.1=a+1\/s.1<=b)/\YL (0,0) a b l s.2/\pX RR (0,0) a s.1 s.2}) (λs=>⟨[(0,.sr 1000000 C4 0 l.length),(1,.p T3 (a:Int)),(2,.p T3 (b:Int)),(3,.fn 140),(8,.p (.int .i64) (s.1.1:Int))],[(1000000,.arr 59 C4 s.1.2)]⟩) (λs=>b-s.1.1) ⟨(a+1,l),OS _,.inl rfl,YL.refl a b l,A4n a l⟩ (AC [(1000000,.nm 1000000)] rfl rfl ?_ ?_) (λs=>?_)
 .first|exact eN|refine eM ?_
 .first|exact eN|refine eM ?_
 obtain⟨⟨i,m⟩,C,D,n,hs⟩:=s;simp only at C D n hs ⊢;have O:=n.len;repeat'(first|exact a6|apply eS rfl|apply AB|refine rX d ?_ ?_|refine rC ?_ ?_<;>intro e<;>try(cases e;done))
 .have E:i<b:=by exact eV
  refine AJ (ι:={t:Nat×List (Int×Int)//a<=t.1/\t.1<=i/\YL (0,0) a b l t.2/\A0N RR (0,0) a i t.1 t.2}) (λt=>⟨[(0,.sr 1000000 C4 0 l.length),(1,.p T3 (a:Int)),(2,.p T3 (b:Int)),(3,.fn 140),(8,.p (.int .i64) (i:Int)),(9,.p (.int .i64) (t.1.1:Int))],[(1000000,.arr 59 C4 t.1.2)]⟩) (λt=>t.1.1) ⟨(i,m),O1,OS i,n,l4 hs⟩ (AC [(1000000,.nm 1000000)] rfl rfl ?_ ?_) (λt=>?_)
  .first|exact eN|refine eM ?_
  .first|exact eN|refine eM ?_
  obtain⟨⟨j,c⟩,ha,u,g,q⟩:=t;simp only at ha u g q ⊢;have L:=g.len;have A:=z.perm pY g.perm;repeat'(first|exact a6|apply eS rfl|apply AB|refine rX d ?_ ?_)
  .dsimp only[Ty.den]at *;exact⟨λ_=>by omega,λ_=>⟨O1,O1⟩,λ_=>⟨O1,O1⟩⟩
  have o:a<j->((j:Int)-1).toNat=j-1:=λ_=>by omega
  refine UY a1 ?_ ?_
  .intro f;simp only[AT,If]at f;have k:a<j:=by omega
   have v:RR (c.getD j (0,0)) (c.getD ((j:Int)-1).toNat (0,0))<0:=f.2;rw[o k]at v;have F:fR (0,0) c j (j-1)=(c.set j (c.getD (j-1) (0,0))).set (j-1) (c.getD j (0,0)):=rfl;repeat'(first|exact a6|apply eS rfl|apply AB|refine rP d ?_ ?_|fail)
   (refine Lz drawsAny d 16 [([0,1,5,6,7,8,9,10,11,12,13,14],15)] [2,3,4] a5 (mxA ?_ ?_);(next=>exact kL);refine mxL d [] ?_ ?_;(next=>exact kL);refine mxE d ?_ ?_ ?_;(next=>exact kL);(next=>exact kL))
   rw[o k];repeat'(first|exact a6|apply eS rfl|apply AB|refine rX d ?_ ?_|refine rC ?_ ?_<;>intro e<;>try(cases e;done))
   .dsimp only[Ty.den]at *;omega
   refine⟨⟨(j-1,fR (0,0) c j (j-1)),a2,a2,g.trans (YL.swap c O1 O1 O1 O1 O1),uR q k u O1 v⟩,a2,AC [(1000000,.nm 1000000)] rfl rfl ?_ ?_⟩
   .simp only;rw[F];first|exact eN|refine eM ?_
   simp only;rw[show ((j-1:Nat):Int)=(j:Int)-1 by omega];first|exact eN|refine eM ?_
  intro f;have B:j=a\/RR (c.getD (j-1) (0,0)) (c.getD j (0,0))<0:=by
   by_cases k:j=a
   .exact .inl k
   right;simp only[AB9,Wx]at f;rw[o O1]at f;rcases f with h|h
   .omega
   exact A.lt pY O1 O1 O1 h
  repeat'(first|exact a6|apply eS rfl|apply AB|refine rX d ?_ ?_|refine rC ?_ ?_<;>intro e<;>try(cases e;done))
  .exact eV
  refine⟨⟨(i+1,c),a2,.inr E,g,A0O pY q ha u B⟩,a2,AC [(1000000,.nm 1000000)] rfl rfl ?_ ?_⟩
  .first|exact eN|refine eM ?_
  first|exact eN|refine eM ?_
 have M:b<=i:=by exact eV
 exact fM d [] (.raw (.tuple #[])) rfl ⟨rfl,m,rfl,n,λx y h1 w H=>hs x y h1 w O1⟩
end
def MO (x:Int×Int) (s:List (Int×Int)):Nat->Nat
 | 0=>0
 | n+1=>if x.1<(s.getD n (0,0)).1 then MO x s n else n+1
def RS (s:List (Int×Int)) (x:Int×Int):List (Int×Int):=s.take (MO x s s.length)++[x]++s.drop (MO x s s.length)
def Ae (l:List (Int×Int)):List (Int×Int):=l.foldl RS []
theorem Z7 (x:Int×Int) (s:List (Int×Int)):∀n,MO x s n<=n
 | 0=>OS _
 | n+1=>by
  unfold MO;have:=Z7 x s n;split<;>omega
theorem A0R (s:List (Int×Int)) (x:Int×Int):(RS s x).length=s.length+1:=by
 have:=Z7 x s s.length;simp[RS];omega
theorem Ki (l:List (Int×Int)) (x:Int×Int):Ae (l++[x])=RS (Ae l) x:=by simp[Ae]
theorem MP:∀(l s:List (Int×Int)),(l.foldl RS s).length=s.length+l.length
 | [],s=>by simp
 | x :: l,s=>by simp[MP l,A0R];omega
theorem CZ (l:List (Int×Int)):(Ae l).length=l.length:=by simp[Ae,MP]
theorem A0S {P:Program} {f:FuncId} {sp:Ab} {p:IV sp.ins->Prop} (h:Af P f sp) (e:∀d,p d->sp.pre d):Af P f { sp with pre:=p }:=⟨h.1,λw O g ds a b c d=>h.2 w O g ds a b c (e ds d)⟩
def P4:Ab:={ ins:=[L5],pre:=λ(l,_)=>l.length<=8796093022207,out:=λ(l,_)=>[.own 59 C4 (Ae l)] }
theorem YN:Af Tryz.prog 101 P4:=by
 refine fK [0,2,3,4,5,6,10,30] Tryz.func101 Tryz.ntmps101 AH ?_;rintro w0 O0 ⟨l,u⟩ c t m;simp only[P4]at m;simp only[P4,AM];repeat'(first|exact a6|apply eS rfl|refine rX c ?_ ?_)
 refine AJ (ι:={p:Nat//p<=l.length}) (λk=>⟨[(0,.p L5 l),(3,.sr 10 C4 0 (Ae (l.take k.1)).length),(4,.p (.int .i64) (k.1:Int))],[(10,.arr 59 C4 (Ae (l.take k.1)))]⟩) (λk=>l.length-k.1) ⟨0,O1⟩ (AC [(10,.nil)] rfl rfl ?_ ?_) (λk=>?_)
 .refine eM ?_;rfl
 .refine eM ?_;rfl
 obtain⟨k,h⟩:=k;have s:(Ae (l.take k)).length=k:=by rw[CZ,Of];exact ABO h
 repeat'(first|exact a6|apply eS rfl|refine rX c ?_ ?_|refine rC ?_ ?_<;>intro b<;>try(cases b;done))
 .refine AJ (ι:={q:Nat//q<=(Ae (l.take k)).length/\MO (l.getD k (0,0)) (Ae (l.take k)) q=MO (l.getD k (0,0)) (Ae (l.take k)) (Ae (l.take k)).length}) (λq=>⟨[(0,.p L5 l),(3,.sr 10 C4 0 (Ae (l.take k)).length),(4,.p (.int .i64) (k:Int)),(5,.p (.int .i64) (q.1:Int))],[(10,.arr 59 C4 (Ae (l.take k)))]⟩) (λq=>q.1) ⟨(Ae (l.take k)).length,sc⟩ (eW [(10,.nm 10)]) (λq=>?_)
  obtain⟨q,n,g⟩:=q;have i:k<l.length:=by omega
  have o:=l.length_take_le k;have d:(List.take q (Ae (List.take k l))).length=q:=by rw[Of];exact ABO n
  repeat'(first|exact a6|apply eS rfl|apply AB|refine rX c ?_ ?_|refine rC ?_ ?_<;>intro b<;>try(cases b;done))
  .exact eV
  .exact eV
  .obtain⟨h1,a⟩:=b;obtain⟨q,rfl⟩:∃r,q=r+1:=⟨q-1,O1⟩;have e:((q+1:Nat):Int)-1=(q:Int):=by omega
   refine⟨⟨q,O1,?_⟩,ABn q,AC [(10,.nm 10)] rfl rfl ?_ ?_⟩
   .rw[<-g];simp only[MO];rw[e,oF]at a;rw[At a]
   .exact eN
   refine eM ?_;show (q:Int)+1-1=q;omega
  .refine⟨eV,?_⟩;rw[d];unfold AP;omega
  .refine⟨eV,?_⟩;rw[d];simp only[AP];omega
  .refine⟨eV,?_⟩;rw[d];simp only[AP,ABv];omega
  .exact eV
  have j:MO (l.getD k (0,0)) (Ae (l.take k)) q=q:=by
   cases q with
   | zero=>rfl
   | succ q =>
    have e:((q+1:Nat):Int)-1=(q:Int):=by omega
    have:=b O1;rw[e,oF]at this;simp only[MO];rw[An O1]
  have h1:=Ay l (0,0) i;have a:Ae (l.take (k+1))=_:=(ABj Ae h1).trans (Ki _ _);unfold RS at a;rw[<-g,j]at a;refine⟨⟨k+1,eV⟩,by simp only;exact eV,AC [(10,.nm 37)] rfl rfl ?_ ?_⟩
  .refine eM ?_;exact a.symm
  refine eM ?_;have f:=ABj List.length a;rw[IS,IS]at f;exact f.symm
 have hk:l.take k=l:=BY eV;refine N2 c (.inl rfl) (rv:=.tmp 2) rfl ?_;simp only[K2,I9,HA,go_sem,Nat.reduceEqDiff,reduceCtorEq,Nat.reduceAdd,Nat.reduceSub,Nat.reduceMul,Nat.reduceLeDiff,Nat.reduceLT,Int.reduceLE,Int.reduceToNat,Int.reduceNeg,↓reduceIte];rw[hk];first|rfl|exact⟨rfl,rfl⟩|exact⟨rfl,rfl,rfl⟩
section
attribute [local go_sem] P4
abbrev AD:=Int×List (Int×Int)
def Dw (f:List AD):Nat->List Int×List Int->Int->List Int×List Int
 | 0,s,_=>s
 | k+1,s,n=>(Ae (f.getD n.toNat (0,[])).2).foldl (λs a=>if s.1.getD a.2.toNat 0<0 then Dw f k s a.2 else s) (s.1.set n.toNat (s.2.length:Int),s.2++[n])
def LL (l:List Int):Nat:=l.countP (λx=>decide (x<0))
def AX (f:List AD):Prop:=f.length<=100000/\∀x∈f,x.2.length<=100000/\∀a∈x.2,0<=a.2/\a.2<(f.length:Int)
def P5 (f:List AD):Prop:=f.length<=100000/\∀x∈f,x.2.length<=8796093022207/\∀a∈x.2,0<=a.2/\a.2<(f.length:Int)
theorem AX.big {f:List AD} (h:AX f):P5 f:=⟨h.1,λx a=>⟨aS (h.2 x a).1 df,(h.2 x a).2⟩⟩
def RT (f:List AD) (s:List Int×List Int):Prop:=s.1.length=f.length/\s.2.length+LL s.1<=f.length
theorem A0T {l:List Int} {n:Nat} {v:Int} (hn:n<l.length) (a:l.getD n 0<0) (d:0<=v):LL (l.set n v)+1=LL l:=by
 induction l generalizing n with
 | nil=>simp at hn
 | cons x r c =>
  cases n with
  | zero =>
   have b:x<0:=by simpa using a
   have:¬v<0:=by omega
   simp[LL,ABR,b,this]
  | succ n =>
   have h1:=c (n:=n) (by simpa using hn) (by simpa using a);simp only[LL,ACP,ABR]at h1 ⊢;omega
theorem l6 {f:List AD} {s:List Int×List Int} (h:RT f s) (d:0<=n) (hn:n<f.length) (b:s.1.getD n.toNat 0<0) :
  RT f (s.1.set n.toNat (s.2.length:Int),s.2++[n])/\LL (s.1.set n.toNat (s.2.length:Int))+1=LL s.1:=by
 obtain⟨h1,c⟩:=h;have a:=A0T (l:=s.1) (n:=n.toNat) (v:=(s.2.length:Int)) O1 b O1;refine⟨⟨by simpa using h1,?_⟩,a⟩;simp only[IS,nO];omega
theorem uS (s:List (Int×Int)) (x:Int×Int):(RS s x).Perm (x :: s):=by
 unfold RS;refine(List.perm_append_comm.append_right _).trans ?_;simp
theorem LB:∀(l s:List (Int×Int)),(l.foldl RS s).Perm (l++s)
 | [],s=>List.Perm.refl _
 | x :: l,s=>by
  refine(LB l (RS s x)).trans ?_;refine(List.Perm.append_left l (uS s x)).trans ?_;exact AD8
theorem Er (l:List (Int×Int)):(Ae l).Perm l:=by
 have:=LB l [];simpa[Ae] using this
theorem A0U {f:List AD} (hf:AX f) (n:Int):List.length (f.getD n.toNat (0,[])).2<=100000:=by
 by_cases h:n.toNat<f.length
 .have a:f.getD n.toNat (0,[])∈f:=by
   rw[AS,As h];exact AAd h
  exact(hf.2 _ a).1
 rw[AS,oN O1];simp
theorem M2 {f:List AD} (hf:P5 f) (n:Int):List.length (f.getD n.toNat (0,[])).2<=8796093022207:=by
 by_cases h:n.toNat<f.length
 .have a:f.getD n.toNat (0,[])∈f:=by
   rw[AS,As h];exact AAd h
  exact(hf.2 _ a).1
 rw[AS,oN O1];simp
theorem P6 {f:List AD} (hf:P5 f) {a:Int×Int} (ha:a∈Ae (f.getD n.toNat (0,[])).2):0<=a.2/\a.2<f.length:=by
 have ha:=(Er _).mem_iff.1 ha;by_cases h:n.toNat<f.length
 .have b:f.getD n.toNat (0,[])∈f:=by
   rw[AS,As h];exact AAd h
  exact(hf.2 _ b).2 a ha
 rw[AS,oN O1]at ha;simp at ha
def EP (f:List AD) (k:Nat) (s:List Int×List Int) (a:Int×Int):List Int×List Int:=if s.1.getD a.2.toNat 0<0 then Dw f k s a.2 else s
theorem Fb (f:List AD) (k:Nat) (s:List Int×List Int) (n:Int):Dw f (k+1) s n=(Ae (f.getD n.toNat (0,[])).2).foldl (EP f k) (s.1.set n.toNat (s.2.length:Int),s.2++[n]):=rfl
theorem Te {f:List AD} {k:Nat} (h:∀(s:List Int×List Int) (n:Int),RT f s->0<=n->n<f.length->s.1.getD n.toNat 0<0->RT f (Dw f k s n)/\LL (Dw f k s n).1<=LL s.1) :
  ∀(l:List (Int×Int)) (t:List Int×List Int),(∀a∈l,0<=a.2/\a.2<(f.length:Int))->RT f t->RT f (l.foldl (EP f k) t)/\LL (l.foldl (EP f k) t).1<=LL t.1
 | [],t,_,ht=>⟨ht,OS _⟩
 | a :: l,t,c,ht=>by
  simp only[ON];by_cases g:t.1.getD a.2.toNat 0<0
  .obtain⟨i,j⟩:=h t a.2 ht (c a sc).1 (c a sc).2 g;have e:EP f k t a=Dw f k t a.2:=At g;rw[e];obtain⟨m,o⟩:=Te h l _ (λb d=>c b (by simp[d])) i;exact⟨m,aS o j⟩
  have e:EP f k t a=t:=An g;rw[e];exact Te h l t (λb d=>c b (by simp[d])) ht
theorem RU {f:List AD} (hf:P5 f):∀(k:Nat) (s:List Int×List Int) (n:Int),RT f s->0<=n->n<f.length->s.1.getD n.toNat 0<0->RT f (Dw f k s n)/\LL (Dw f k s n).1<=LL s.1
 | 0,s,n,h,_,_,_=>⟨h,OS _⟩
 | k+1,s,n,h,h0,h1,d=>by
  obtain⟨e,g⟩:=l6 h h0 h1 d;obtain⟨b,c⟩:=Te (RU hf k) _ _ (λa ha=>P6 hf ha) e;rw[Fb];exact⟨b,by simp only at c g;omega⟩
theorem RW {α:Type} (g:X->α->X) (l:List α) (d:α) (t:X) {i:Nat} (hi:i<l.length):(l.take (i+1)).foldl g t=g ((l.take i).foldl g t) (l.getD i d):=by
 rw[Ay l d hi,ABz];rfl
def LC (f:List AD) (s:List Int×List Int):List (Nat×Obj):=[(1,.box 175 true [.p Ff f,.sr 2 T3 0 s.1.length,.sr 3 T3 0 s.2.length]),(2,.arr 3 T3 s.1),(3,.arr 3 T3 s.2)]
theorem uT (f:List AD) (hf:P5 f):∀(k:Nat) (s:List Int×List Int) (n:Int),RT f s->0<=n->n<f.length->s.1.getD n.toNat 0<0->LL s.1<=k ->
  BF Tryz.prog 100 [.bp 1 [] 0,.p T3 n] (LC f s) [1] (λres M=>res=.raw (.tuple #[])/\M=LC f (Dw f k s n)):=by
 intro k;induction k with
 | zero =>
  intro s n h0 h1 u B N;obtain⟨_,O⟩:=l6 h0 h1 u B;omega
 | succ k J =>
  intro s n A w m x hk;obtain⟨num,g⟩:=s;obtain⟨t,v⟩:=l6 A w m x;obtain⟨G,H⟩:=A;simp only at G H x t v hk;refine J0 [0,1,4,5,40,54] [] [] Tryz.func100 Tryz.ntmps100 (AG YN AH) ?_;intro w0 K O0 ρ0 c Q R;simp only[LC,Au];repeat'(first|exact a6|apply eS rfl|refine rX c ?_ ?_)
  .exact eV
  .have:=hf.1;simp only[AP];omega
  .have I:=M2 hf n;exact⟨⟨w,m⟩,aS I O1⟩
  have l:=λa (ha:a∈Ae (f.getD n.toNat (0,[])).2)=>P6 hf ha;have D:(Ae (f.getD n.toNat (0,[])).2).length<=8796093022207:=by rw[CZ];exact M2 hf n
  generalize C:Ae (f.getD n.toNat (0,[])).2=L at l D;generalize o:(num.set n.toNat (g.length:Int),g++[n])=s1 at t;have F:∀i,RT f ((L.take i).foldl (EP f k) s1)/\LL ((L.take i).foldl (EP f k) s1).1<=LL s1.1:=λi=>Te (RU hf k) _ _ (λa ha=>l a (AAC ha)) t;have m:num.set n.toNat (g.length:Int)=s1.1:=by rw[<-o]
  have P:g++[n]=s1.2:=by rw[<-o]
  rw[m]at v;refine AJ (ι:={i:Nat//i<=L.length}) (λi=>⟨[(0,.bp 1 [] 0),(1,.p T3 n),(4,.p L5 L),(5,.p (.int .i64) (i.1:Int))],LC f ((L.take i.1).foldl (EP f k) s1)⟩) (λi=>L.length-i.1) ⟨0,O1⟩ (A9j [36] (AC [(1,.nm 1),(2,.nm 2),(3,.nm 3)] rfl rfl ?_ ?_)) (λi=>?_)
  .simp only[LC];refine eM ?_;simp only[ACY];rw[<-o];simp
  .exact eN
  obtain⟨i,hi⟩:=i;obtain⟨r,E⟩:=F i;have q:=λ(h:i<L.length)=>RW (EP f k) L (0,0) s1 h;generalize z:(L.take i).foldl (EP f k) s1=b at r E q;simp only[LC];repeat'(first|exact a6|apply eS rfl|apply AB|refine rX c ?_ ?_|refine rC ?_ ?_<;>intro j<;>try(cases j;done))
  .have d:i<L.length:=by exact eV
   have:=l _ (AF L (0,0) d);obtain⟨h1,u⟩:=r;refine⟨eV,this.1,?_⟩;rw[h1];exact this.2
  .have d:i<L.length:=by exact eV
   have y:=l _ (AF L (0,0) d);refine cP 6 c ?_ ?_
   .exact eV
   refine rM c (J b (L.getD i (0,0)).2 r y.1 y.2 (by simpa using j) O1) [(1,.nm 1),(2,.nm 2),(3,.nm 3)] [2,3] ?_ ?_ ?_
   .exact eN
   .simp only[LC];exact eN
   rintro _ _ ⟨rfl,rfl⟩;refine⟨[(1,.nm 1),(2,.nm 2),(3,.nm 3)],.raw (.tuple #[]),LC f (Dw f k b (L.getD i (0,0)).2),rfl,rfl,?_,?_,rfl,rfl,FF ?_⟩
   .simp only[LC];exact eN
   .exact eN
   repeat'(first|apply eS rfl|apply AB|refine rX c ?_ ?_)
   .exact eV
   have e:EP f k b (L.getD i (0,0))=Dw f k b (L.getD i (0,0)).2:=At (by simpa using j);refine⟨⟨i+1,O1⟩,a2,AC [(1,.nm 1),(2,.nm 2),(3,.nm 3)] rfl rfl ?_ ?_⟩
   .simp only[LC,q d,e];exact eN
   exact eN
  .exact eV
  .have d:i<L.length:=by exact eV
   have e:EP f k b (L.getD i (0,0))=b:=An (by simpa using j);refine⟨⟨i+1,O1⟩,a2,AC [(1,.nm 1),(2,.nm 2),(3,.nm 3)] rfl rfl ?_ ?_⟩
   .simp only[q d,e];exact eN
   exact eN
  have hk:L.take i=L:=BY eV;rw[hk]at z;have h1:Dw f (k+1) (num,g) n=b:=by rw[Fb,C,<-z,<-o]
  rw[h1];exact fM c [] (.raw (.tuple #[])) rfl ⟨rfl,rfl⟩
end
section
attribute [local go_sem] P4
def YO (f:List AD) (s:List Int×List Int):Prop:=∀n∈s.2,0<=n/\n<(f.length:Int)
theorem Vl {f:List AD} (hf:P5 f):∀(k:Nat) (s:List Int×List Int) (n:Int),YO f s->0<=n->n<f.length->YO f (Dw f k s n)
 | 0,s,n,h,_,_=>h
 | k+1,s,n,h,h0,h1=>by
  rw[Fb];have key:∀(l:List (Int×Int)) (t:List Int×List Int),(∀a∈l,0<=a.2/\a.2<(f.length:Int))->YO f t->YO f (l.foldl (EP f k) t):=by
   intro l;induction l with
   | nil=>intro t _ ht;exact ht
   | cons a l g =>
    intro t d ht;simp only[ON];refine g _ (λb e=>d b (by simp[e])) ?_;unfold EP;split
    .exact Vl hf k t a.2 ht (d a sc).1 (d a sc).2
    exact ht
  refine key _ _ (λa ha=>P6 hf ha) ?_;intro m c;simp only[IN,iS]at c;rcases c with c|rfl
  .exact h m c
  exact⟨h0,h1⟩
def Fc (f:List AD) (root:Int):List Int×List Int:=Dw f f.length (List.replicate f.length (-1),[]) root
def XI (num:List Int) (a:Int×Int):Int×Int:=(a.1,num.getD a.2.toNat 0)
def Nb (f:List AD) (num:List Int) (n:Int):AD:=((f.getD n.toNat (0,[])).1,(Ae (f.getD n.toNat (0,[])).2).map (XI num))
def Gq (f:List AD) (root:Int):List AD:=(Fc f root).2.map (Nb f (Fc f root).1)
theorem fT (m:Nat):LL (List.replicate m (-1))=m:=by
 induction m with
 | zero=>rfl
 | succ m a=>simp only[LL,List.replicate_succ,ABR]at a ⊢;simp[a]
theorem tr0 (f:List AD):RT f (List.replicate f.length (-1),[]):=⟨sc,by simp[fT]⟩
theorem pZ {f:List AD} (h0:0<=n) (h1:n<f.length):(List.replicate f.length (-1:Int)).getD n.toNat 0<0:=by
 have:n.toNat<f.length:=by omega
 simp[AS,ABI,this]
theorem fU {f:List AD} (hf:P5 f) (h0:0<=n) (h1:n<f.length):RT f (Fc f n)/\YO f (Fc f n) :=
 ⟨(RU hf _ _ n (tr0 f) h0 h1 (pZ h0 h1)).1,Vl hf _ _ n (λm a=>by simp at a) h0 h1⟩
theorem A4p {f:List AD} (hf:AX f) (h0:0<=n) (h1:n<f.length):RT f (Fc f n)/\YO f (Fc f n):=fU hf.big h0 h1
theorem Vm {α b:Type} (g:α->b) (h:b->α) (L:List α) (d:α) (hk:k<L.length) (u:α->α):((L.take k).map u++L.drop k).set k (u (L.getD k d))=(L.take (k+1)).map u++L.drop (k+1)/\((L.take k).map u++L.drop k).getD k d=L.getD k d:=by
 have h1:((L.take k).map u).length=k:=by simp;omega
 have a:L.drop k=L.getD k d :: L.drop (k+1):=by
  rw[OR hk,AS,As hk];rfl
 constructor
 .rw[Ay L d hk,ACy _ _ O1,h1,ABB,a];simp
 rw[AS,AAi O1,h1,ABB,a];rfl
def fV:Ab:={ ins:=[Ff,T3],pre:=λ(f,n,_)=>AX f/\0<=n/\n<(List.length f:Int),out:=λ(f,n,_)=>[.p Ff (Gq f n)] }
def l7:Ab:={ ins:=[Ff,T3],pre:=λ(f,n,_)=>P5 f/\0<=n/\n<(List.length f:Int),out:=λ(f,n,_)=>[.p Ff (Gq f n)] }
theorem fW:Af Tryz.prog 60 l7:=by
 refine fK [0,1,2,4,5,6,7,8,9,10,11,19,40,60] Tryz.func60 Tryz.ntmps60 (AG YN AH) ?_;rintro w0 O0 ⟨f,root,u⟩ d-⟨hf,l,m⟩;simp only[l7,AM];have G:=hf.1;repeat'(first|exact a6|apply eS rfl|refine rX d ?_ ?_)
 refine AJ (ι:={i:Nat//i<=f.length}) (λi=>⟨[(1,.p T3 root),(2,.bp 2 [] 0),(4,.bp 4 [] 0),(5,.bp 14 [] 0),(6,.p (.int .i64) (i.1:Int))],[(2,.box 34 true [.p J1 f]),(4,.box 34 true [.raw (.slice none 0 0)]),(14,.box 175 true [.p Ff f,.sr 10 T3 0 i.1,.raw (.slice none 0 0)]),(10,.arr 3 T3 (List.replicate i.1 (-1)))]⟩) (λi=>f.length-i.1) ⟨0,O1⟩ (AC [(2,.nm 2),(4,.nm 4),(14,.nm 14),(10,.nil)] rfl rfl ?_ ?_) (λi=>?_)
 .refine eM ?_;rfl
 .exact eN
 obtain⟨i,hi⟩:=i;repeat'(first|exact a6|apply eS rfl|apply AB|refine rX d ?_ ?_|refine rC ?_ ?_<;>intro h<;>try(cases h;done))
 .simp only[AP];omega
 .exact eV
 .have hi:i<List.length f:=by exact eV
  refine⟨⟨i+1,O1⟩,a2,AC [(2,.nm 2),(4,.nm 4),(14,.nm 14),(10,.nm 10)] rfl rfl ?_ ?_⟩
  .refine eM ?_;rw[List.replicate_succ'];simp
  exact eN
 have A:i=List.length f:=by exact eV
 subst A;have w:=fU hf l m;refine cP 2 d ?_ ?_
 .trivial
 refine rM d (uT f hf (List.length f) (List.replicate (List.length f) (-1),[]) root (tr0 f) l m (pZ l m) (by rw[fT];exact OS _)) [(1,.nm 14),(2,.nm 10),(3,.nil)] [10] ?_ ?_ ?_
 .exact eN
 .simp only[LC];refine eM ?_;simp
 rintro _ _ ⟨rfl,rfl⟩;refine⟨[(14,.nm 1),(101,.nm 2),(102,.nm 3)],.raw (.tuple #[]),[(14,.box 175 true [.p Ff f,.sr 101 T3 0 (Fc f root).1.length,.sr 102 T3 0 (Fc f root).2.length]),(101,.arr 3 T3 (Fc f root).1),(102,.arr 3 T3 (Fc f root).2)],rfl,rfl,?_,?_,rfl,rfl,FF ?_⟩
 .simp only[LC,Fc];exact eN
 .exact eN
 have z:Gq f root=(Fc f root).2.map (Nb f (Fc f root).1):=rfl;rw[z];generalize Fc f root=s at w;obtain⟨num,c⟩:=s;obtain⟨⟨r,t⟩,j⟩:=w;simp only at r t;have j:∀n∈c,0<=n/\n<(List.length f:Int):=j;repeat'(first|exact a6|apply eS rfl|refine rX d ?_ ?_)
 refine AJ (ι:={i:Nat//i<=c.length}) (λi=>⟨[(2,.bp 2 [] 0),(4,.bp 4 [] 0),(5,.bp 14 [] 0),(7,.bp 7 [] 0),(8,.p (.int .i64) (i.1:Int))],[(2,.box 34 true [.p J1 f]),(4,.box 34 true [.raw (.slice none 0 0)]),(14,.box 175 true [.p Ff f,.sr 101 T3 0 num.length,.sr 102 T3 0 c.length]),(101,.arr 3 T3 num),(102,.arr 3 T3 c),(7,.box 34 true [.sr 200 TX 0 i.1]),(200,.arr 57 TX ((c.take i.1).map (Nb f num)))]⟩) (λi=>c.length-i.1) ⟨0,O1⟩ (eW [(2,.nm 2),(4,.nm 4),(14,.nm 14),(101,.nm 101),(102,.nm 102),(7,.nm 7),(200,.nil)]) (λi=>?_)
 obtain⟨i,hi⟩:=i;repeat'(first|exact a6|apply eS rfl|refine rX d ?_ ?_|refine rC ?_ ?_<;>intro h<;>try(cases h;done))
 .have hi:i<c.length:=by exact eV
  exact⟨eV,j _ (AF c 0 hi)⟩
 .exact aS (M2 hf _) O1
 .have hi:i<c.length:=by exact eV
  have q:=λa (ha:a∈Ae (f.getD (Int.toNat (c.getD i 0)) (0,[])).2)=>P6 hf ha;have v:Nb f num (c.getD i 0)=((f.getD (Int.toNat (c.getD i 0)) (0,[])).1,(Ae (f.getD (Int.toNat (c.getD i 0)) (0,[])).2).map (XI num)):=rfl;have B:=M2 hf (c.getD i 0);generalize List.getD f (Int.toNat (c.getD i 0)) (0,[])=x at *;obtain⟨E,o⟩:=x;simp only at q v B;have F:=CZ o;generalize Ae o=L at *;refine AJ (ι:={k:Nat//k<=L.length}) (λk=>⟨[(2,.bp 2 [] 0),(4,.bp 4 [] 0),(5,.bp 14 [] 0),(7,.bp 7 [] 0),(8,.p (.int .i64) (i:Int)),(9,.bp 9 [] 0),(10,.sr 56 C4 0 L.length),(11,.p (.int .i64) (k.1:Int))],[(56,.arr 59 C4 ((L.take k.1).map (XI num)++L.drop k.1)),(9,.box 57 true [.p T3 E,.p L5 o]),(2,.box 34 true [.p J1 f]),(4,.box 34 true [.raw (.slice none 0 0)]),(14,.box 175 true [.p Ff f,.sr 101 T3 0 num.length,.sr 102 T3 0 c.length]),(101,.arr 3 T3 num),(102,.arr 3 T3 c),(7,.box 34 true [.sr 200 TX 0 i]),(200,.arr 57 TX ((c.take i).map (Nb f num)))]⟩) (λk=>L.length-k.1) ⟨0,O1⟩ (eW [(2,.nm 2),(4,.nm 4),(14,.nm 14),(101,.nm 101),(102,.nm 102),(7,.nm 7),(200,.nm 200),(9,.nm 9),(56,.nm 56)]) (λk=>?_)
  obtain⟨k,hk⟩:=k;repeat'(first|exact a6|apply eS rfl|apply AB|refine rX d ?_ ?_|refine rC ?_ ?_<;>intro h<;>try(cases h;done))
  .have g:k<L.length:=by exact eV
   have e:=(Vm (XI num) (λb=>b) L (0,0) g (XI num)).2;rw[e];have:=q _ (AF L (0,0) g);rw[r];exact⟨eV,this,eV⟩
  .exact eV
  .have g:k<L.length:=by exact eV
   have e:=Vm (XI num) (λb=>b) L (0,0) g (XI num);refine⟨⟨k+1,O1⟩,a2,AC [(2,.nm 2),(4,.nm 4),(14,.nm 14),(101,.nm 101),(102,.nm 102),(7,.nm 7),(200,.nm 200),(9,.nm 9),(56,.nm 56)] rfl rfl ?_ ?_⟩
   .refine eM ?_;rw[e.2];exact e.1
   exact eN
  .simp only[AP];have:=t;omega
  .exact eV
  have g:L.take k=L:=BY eV;have y:L.drop k=[]:=No eV;refine⟨⟨i+1,O1⟩,a2,AC [(2,.nm 2),(4,.nm 4),(14,.nm 14),(101,.nm 101),(102,.nm 102),(7,.nm 7),(200,.nm 200)] rfl rfl ?_ ?_⟩
  .refine eM ?_;rw[g,y,AAu,Ay c 0 hi,AAH,oR,ABC,v];have C:List.take i ((c.take i).map (Nb f num))=(c.take i).map (Nb f num):=BY (by rw[On,Of];omega);have D:List.take L.length (L.map (XI num))=L.map (XI num):=BY (by rw[On];omega);rw[C,D]
  exact eN
 have hk:c.take i=c:=BY eV;rw[hk];refine fI d [.cell 4 34] (by first|exact eR|refine OC ?_;exact BY (by rw[On];exact eV))
theorem A4q:Af Tryz.prog 60 fV:=A0S fW λ_ h=>⟨h.1.big,h.2⟩
end
def Dn (f:List AD):Nat->List Int->Int->List Int
 | 0,o,_=>o
 | k+1,o,n=>(f.getD n.toNat (0,[])).2.foldl (λo a=>if a.2∈o then o else Dn f k o a.2) (o++[n])
def BA (f:List AD) (k:Nat) (o:List Int) (a:Int×Int):List Int:=if a.2∈o then o else Dn f k o a.2
theorem Ca (f:List AD) (k:Nat) (o:List Int) (n:Int):Dn f (k+1) o n=(f.getD n.toNat (0,[])).2.foldl (BA f k) (o++[n]):=rfl
structure LM (f:List AD) (o:List Int):Prop where
 nd:o.Nodup
 rng:∀x∈o,0<=x/\x<(f.length:Int)
theorem LM.len {f:List AD} {o:List Int} (h:LM f o):o.length<=f.length:=by
 have h1:(o.map Int.toNat).Nodup:=by
  rw[List.Nodup,AAI];refine h.nd.imp_of_mem λ{a b} ha c g e=>g ?_;have:=h.rng a ha;have:=h.rng b c;omega
 have:=DC f.length (o.map Int.toNat) h1 (λj d=>by
  obtain⟨x,i,rfl⟩:=Do.1 d;have:=h.rng x i;omega)
 simpa using this
theorem LM.snoc {f:List AD} {o:List Int} (h:LM f o) (h0:0<=n) (h1:n<f.length) (hn:n∉o):LM f (o++[n]):=by
 refine⟨?_,λx c=>?_⟩
 .rw[ABe];refine⟨h.nd,sc,λa ha b d=>?_⟩;grind
 rcases IN.1 c with c|c
 .exact h.rng x c
 grind
theorem Gr {f:List AD} {k:Nat} (j:∀(o:List Int) (n:Int),LM f o->0<=n->n<f.length->n∉o->LM f (Dn f k o n)/\o <+: Dn f k o n) :
  ∀(l:List (Int×Int)) (o:List Int),(∀a∈l,0<=a.2/\a.2<(f.length:Int))->LM f o->LM f (l.foldl (BA f k) o)/\o <+: l.foldl (BA f k) o
 | [],o,_,h=>⟨h,ABu _⟩
 | a :: l,o,i,h=>by
  simp only[ON];have c:LM f (BA f k o a)/\o <+: BA f k o a:=by grind [BA]
  obtain⟨d,e⟩:=Gr j l _ (λb g=>i b (by simp[g])) c.1;exact⟨d,c.2.trans e⟩
theorem CM {f:List AD} (hf:AX f) {a:Int×Int} (ha:a∈(f.getD n.toNat (0,[])).2):0<=a.2/\a.2<f.length:=by
 by_cases h:n.toNat<f.length
 .have b:f.getD n.toNat (0,[])∈f:=by
   rw[AS,As h];exact AAd h
  exact(hf.2 _ b).2 a ha
 grind
theorem FN {f:List AD} (hf:AX f):∀(k:Nat) (o:List Int) (n:Int),LM f o->0<=n->n<f.length->n∉o->LM f (Dn f k o n)/\o <+: Dn f k o n
 | 0,o,n,h,_,_,_=>⟨h,ABu _⟩
 | k+1,o,n,h,h0,h1,d=>by
  obtain⟨b,c⟩:=Gr (FN hf k) _ _ (λa ha=>CM hf ha) (h.snoc h0 h1 d);rw[Ca];exact⟨b,(ACQ o [n]).trans c⟩
theorem Kj {f:List AD} (hf:AX f):∀(k:Nat) (o:List Int) (n:Int),LM f o->0<=n->n<f.length->n∉o->f.length-o.length<=k ->
  n∈Dn f k o n/\∀x∈Dn f k o n,x∈o\/∀a∈(f.getD x.toNat (0,[])).2,a.2∈Dn f k o n
 | 0,o,n,h,h0,h1,i,hk=>by
  have:=(h.snoc h0 h1 i).len;grind
 | k+1,o,n,h,h0,h1,i,hk=>by
  have key:∀(l:List (Int×Int)) (t:List Int),(∀a∈l,0<=a.2/\a.2<(f.length:Int))->LM f t->f.length-t.length<=k ->
    (∀a∈l,a.2∈l.foldl (BA f k) t)/\∀x∈l.foldl (BA f k) t,x∈t\/∀a∈(f.getD x.toNat (0,[])).2,a.2∈l.foldl (BA f k) t:=by
   intro l;induction l with
   | nil=>exact λt _ _ _=>⟨λa ha=>(by cases ha),λx m=>.inl m⟩
   | cons a l u =>
    intro t j ht r;simp only[ON];have s:LM f (BA f k t a)/\t <+: BA f k t a/\a.2∈BA f k t a/\∀x∈BA f k t a,x∈t\/∀b∈(f.getD x.toNat (0,[])).2,b.2∈BA f k t a:=by
     unfold BA;split
     .grind
     rename_i hn;have q:=j a sc;obtain⟨c,d⟩:=FN hf k t a.2 ht q.1 q.2 hn;obtain⟨e,p⟩:=Kj hf k t a.2 ht q.1 q.2 hn r;exact⟨c,d,e,p⟩
    obtain⟨c,d,e,p⟩:=s;have v:=d.length_le;obtain⟨w,y⟩:=u (BA f k t a) (λb g=>j b (by simp[g])) c O1;obtain⟨_,z⟩:=Gr (FN hf k) l (BA f k t a) (λb g=>j b (by simp[g])) c;refine⟨λb g=>?_,λx m=>?_⟩
    .grind
    grind
  have hs:=h.snoc h0 h1 i;obtain⟨c,d⟩:=key (f.getD n.toNat (0,[])).2 (o++[n]) (λa ha=>CM hf ha) hs (by simp only[IS,nO];omega);obtain⟨_,e⟩:=Gr (FN hf k) (f.getD n.toNat (0,[])).2 (o++[n]) (λa ha=>CM hf ha) hs;rw[Ca];refine⟨e.subset sc,λx m=>?_⟩;grind
def E1 (o:List Int) (x:Int):Int:=if x∈o then (o.idxOf x:Int) else 0
def LN (o:List Int) (a:Int×Int):Int×Int:=(a.1,E1 o a.2)
def HD (f:List AD) (o:List Int) (n:Int):AD:=((f.getD n.toNat (0,[])).1,(f.getD n.toNat (0,[])).2.map (LN o))
def AN (f:List AD) (root:Int):List AD:=(Dn f f.length [] root).map (HD f (Dn f f.length [] root))
def JM (f:List AD):Prop:=∀x∈f,MN x.2/\x.2.length<=200
theorem Vn {f:List AD} (hf:JM f) (n:Int):MN (f.getD n.toNat (0,[])).2/\(f.getD n.toNat (0,[])).2.length<=200:=by
 by_cases h:n.toNat<f.length
 .have a:f.getD n.toNat (0,[])∈f:=by
   rw[AS,As h];exact AAd h
  exact hf _ a
 rw[AS,oN O1];exact⟨λi hi=>by simp at hi,sc⟩
theorem Gt {l:List (Int×Int)} (h:MN l):Ae l=l:=by
 have key:∀i,i<=l.length->Ae (l.take i)=l.take i:=by
  intro i;induction i with
  | zero=>intro _;rfl
  | succ i d =>
   intro hi;rw[Ay l (0,0) O1,Ki,d O1];have b:(l.take i).length=i:=by rw[Of];omega
   have c:MO (l.getD i (0,0)) (l.take i) (l.take i).length=(l.take i).length:=by
    rw[b];cases i with
    | zero=>rfl
    | succ i =>
     have h1:=h i O1;have a:(l.take (i+1)).getD i (0,0)=l.getD i (0,0):=by grind
     simp only[MO];rw[a,An O1]
   unfold RS;rw[c,sL,ADa,AAu]
 have:=key l.length (OS _)
 rwa [sL]at this
structure LD (f:List AD) (num o:List Int):Prop where
 len:num.length=f.length
 get:∀j,j<f.length->num.getD j 0=if (j:Int)∈o then (o.idxOf (j:Int):Int) else -1
theorem LD.neg {f:List AD} {num o:List Int} (h:LD f num o) (h0:0<=n) (h1:n<f.length):num.getD n.toNat 0<0↔n∉o:=by
 have:=h.get n.toNat O1;grind
theorem uU {o:List Int} (h:n∉o):(o++[n]).idxOf n=o.length:=by rw[List.idxOf_append,An h];simp
theorem LD.snoc {f:List AD} {num o:List Int} (h:LD f num o) (h0:0<=n) (h1:n<f.length) (hn:n∉o):LD f (num.set n.toNat (o.length:Int)) (o++[n]):=by
 refine⟨by simpa using h.len,λj a=>?_⟩;have c:j<num.length:=by rw[h.len];exact a
 by_cases e:j=n.toNat
 .grind
 have en:¬(j:Int)=n:=by omega
 simp only[AS];rw[ACF (λb=>e b.symm)];have:=h.get j a;grind
theorem Vo {f:List AD} (hf:AX f) (hs:JM f):∀(k:Nat) (s:List Int×List Int) (n:Int),LD f s.1 s.2->LM f s.2->0<=n->n<f.length->n∉s.2->(Dw f k s n).2=Dn f k s.2 n/\LD f (Dw f k s n).1 (Dw f k s n).2
 | 0,s,n,h,_,_,_,_=>⟨rfl,h⟩
 | k+1,s,n,h,r,h0,h1,g=>by
  have key:∀(l:List (Int×Int)) (t:List Int×List Int),(∀a∈l,0<=a.2/\a.2<(f.length:Int))->LD f t.1 t.2->LM f t.2->(l.foldl (EP f k) t).2=l.foldl (BA f k) t.2/\LD f (l.foldl (EP f k) t).1 (l.foldl (EP f k) t).2:=by
   intro l;induction l with
   | nil=>exact λt _ ht _=>⟨rfl,ht⟩
   | cons a l x =>
    intro t i ht j;simp only[ON];have q:=i a sc;have u:=ht.neg q.1 q.2;have v:(EP f k t a).2=BA f k t.2 a/\LD f (EP f k t a).1 (EP f k t a).2/\LM f (EP f k t a).2:=by
     unfold EP BA;by_cases d:a.2∈t.2
     .grind
     rw[An d,At (by rw[u];exact d)];obtain⟨c,e⟩:=Vo hf hs k t a.2 ht j q.1 q.2 d;exact⟨c,e,by rw[c];exact(FN hf k t.2 a.2 j q.1 q.2 d).1⟩
    obtain⟨c,e,o⟩:=v;obtain⟨m,w⟩:=x (EP f k t a) (λb p=>i b (by simp[p])) e o;rw[c]at m;exact⟨m,w⟩
  rw[Fb,Ca,Gt (Vn hs n).1];exact key _ (s.1.set n.toNat (s.2.length:Int),s.2++[n]) (λa ha=>CM hf ha) (h.snoc h0 h1 g) (r.snoc h0 h1 g)
theorem Vp {f:List AD} (hf:AX f) (hs:JM f) {root:Int} (h0:0<=root) (h1:root<f.length):Gq f root=AN f root:=by
 have i:LD f (List.replicate f.length (-1)) []:=⟨sc,λj h=>by simp[AS,ABI,h]⟩;have d:LM f []:=⟨sc,λx g=>by cases g⟩;obtain⟨c,b⟩:=Vo hf hs f.length (List.replicate f.length (-1),[]) root i d h0 h1 sc;have c:(Fc f root).2=Dn f f.length [] root:=c;have b:LD f (Fc f root).1 (Fc f root).2:=b;have k:=(Kj hf f.length [] root d h0 h1 sc sc).2;have l:=(FN hf f.length [] root d h0 h1 sc).1;unfold Gq AN;rw[c]at b ⊢;generalize Dn f f.length [] root=o at *;refine oS λx g=>?_;unfold Nb HD;rw[Gt (Vn hs x).1];refine ABj _ (oS λa ha=>?_);unfold XI LN E1;have e:a.2∈o:=by grind
 have m:=CM hf ha;have:=b.get a.2.toNat O1;rw[show ((a.2.toNat:Nat):Int)=a.2 by omega]at this;rw[this,At e,At e]
def wO (o:List Int):List (Int×Int):=(List.range o.length).map λi=>(o.getD i 0,(i:Int))
theorem fX (o:List Int) (n:Int):wO (o++[n])=wO o++[(n,(o.length:Int))]:=by
 unfold wO;rw[IS,nO,AAE,AAH]
 congr 1
 .refine oS λi hi=>?_;grind
 simp[AS]
theorem uV (k:Int) (a b:List (Int×Int)):BV T3 T3 k (a++b)=(BV T3 T3 k a).or (BV T3 T3 k b):=by
 induction a with
 | nil=>rfl
 | cons x a c =>
  simp only[To,BV];split
  .rfl
  exact c
theorem GX {α:Type} {p:List α->Prop} (h0:p []) (h1:∀l a,p l->p (l++[a])) (l:List α):p l:=by
 have:∀n (l:List α),l.length=n->p l:=by
  intro n;induction n with
  | zero=>intro l b;rw[List.length_eq_zero_iff.1 b];exact h0
  | succ n d =>
   intro l b;have c:l≠[]:=by intro e;subst e;simp at b
   rw[<-List.dropLast_concat_getLast c];exact h1 _ _ (d _ (by simp[b]))
 exact this _ l rfl
theorem RY (o:List Int) (x:Int):BV T3 T3 x (wO o)=if x∈o then some (o.idxOf x:Int) else none:=by
 induction o using GX with
 | h0=>rfl
 | h1 o n a =>
  rw[fX,uV,a];by_cases b:x∈o
  .grind
  grind [uU,BV,Hc]
theorem uW (k v:Int) (l:List (Int×Int)) (h:BV T3 T3 k l=none):FH T3 T3 k v l=l++[(k,v)]:=by
 induction l with
 | nil=>rfl
 | cons x l a =>
  simp only[BV]at h;simp only[FH,To];split at h
  .cases h
  grind
theorem A0V {o:List Int} (hn:n∉o):FH T3 T3 n (o.length:Int) (wO o)=wO (o++[n]):=by grind [uW,RY,fX]
theorem A4r (o:List Int) (x:Int):(BV T3 T3 x (wO o)).getD 0=E1 o x:=by grind [RY,E1]
theorem Vq (o:List Int) (x:Int):(BV T3 T3 x (wO o)).isSome=decide (x∈o):=by
 rw[RY];split<;>simp[*]
def YP (l:List (Int×Int)):Prop:=l.Pairwise λa b=>a.1≠b.1
def uX (l:List (Int×Int)):Prop:=l.Pairwise λa b=>a.1<b.1
theorem YQ (x:Int×Int) (s:List (Int×Int)):∀n,(∀j,MO x s n<=j->j<n->x.1<(s.getD j (0,0)).1)/\(MO x s n=0\/¬x.1<(s.getD (MO x s n-1) (0,0)).1)
 | 0=>⟨λj h1 a=>by omega,.inl rfl⟩
 | n+1=>by
  obtain⟨h1,a⟩:=YQ x s n;unfold MO;split
  .rename_i h;refine⟨λj b c=>?_,a⟩;by_cases e:j=n
   .rw[e];exact h
   exact h1 j b O1
  rename_i h;exact⟨λj b c=>by omega,.inr (by simpa using h)⟩
theorem A4s {s:List (Int×Int)} (hs:uX s) {x:Int×Int} (m:∀a∈s,a.1≠x.1):uX (RS s x):=by
 obtain⟨h1,c⟩:=YQ x s s.length;have n:=Z7 x s s.length;unfold RS;generalize MO x s s.length=p at *;have d:=hs;unfold uX at d;rw[<-ABS p s,ABW]at d;have j:∀i (h:i<s.length),s.getD i (0,0)=s[i]:=λi h=>by rw[AS,As h];rfl
 have l:∀a∈s.take p,a.1<x.1:=by
  intro a ha;rcases c with c|c
  .subst c;simp at ha
  obtain⟨i,hi,rfl⟩:=wL.1 ha;rw[Of]at hi;rw[List.getElem_take];by_cases q:p=0
  .omega
  have g:p-1<s.length:=by omega
  rw[j (p-1) g]at c;have o:=m s[p-1] (AAd g);by_cases e:i=p-1
  .subst e;omega
  have:=(iN.1 hs) i (p-1) O1 g O1;omega
 have k:∀a∈s.drop p,x.1<a.1:=by
  intro a ha;obtain⟨i,hi,rfl⟩:=wL.1 ha;rw[ABv]at hi;rw[List.getElem_drop,<-j (p+i) O1];exact h1 (p+i) O1 O1
 unfold uX;rw[AAg,ABW];refine⟨d.1,?_,λa ha b f=>?_⟩
 .rw[AC7,AAv];exact⟨k,d.2.1⟩
 rcases By.1 (by simpa using f:b∈x :: s.drop p) with rfl|f
 .exact l a ha
 exact d.2.2 a ha b f
theorem IE {l:List (Int×Int)} (h:YP l):uX (Ae l):=by
 induction l using GX with
 | h0=>exact List.Pairwise.nil
 | h1 l a d =>
  unfold YP at h;rw[ABW]at h;rw[Ki];exact A4s (d h.1) λb c=>h.2.2 b ((Er l).mem_iff.1 c) a sc
theorem uY {l:List (Int×Int)} (d:r.Perm l) (h1:uX r) (c:uX l):r=l :=
 List.Perm.eq_of_pairwise (le:=λa b:Int×Int=>a.1<b.1) (λa b _ _ e f=>by omega) h1 c d
theorem Tf {l:List (Int×Int)} (h:uX l):MN l:=by
 intro i hi;have a:∀i (h:i<l.length),l.getD i (0,0)=l[i]:=λi h=>by rw[AS,As h];rfl
 rw[a i O1,a (i+1) hi];exact(iN.1 h) i (i+1) O1 hi O1
theorem A0W {l:List (Int×Int)} (h:MN l):uX l:=by
 refine iN.2 λi j hi f k=>?_;have c:∀i (h:i<l.length),l.getD i (0,0)=l[i]:=λi h=>by rw[AS,As h];rfl
 have key:∀d i,i+d+1<l.length->(l.getD i (0,0)).1<(l.getD (i+d+1) (0,0)).1:=by
  intro d;induction d with
  | zero=>exact λi hi=>h i hi
  | succ d g =>
   intro i hi;have a:=g i O1;have b:=h (i+d+1) O1;have e:i+(d+1)+1=i+d+1+1:=by omega
   rw[e];omega
 have:=key (j-i-1) i O1;rw[show i+(j-i-1)+1=j by omega,c i hi,c j f]at this;exact this
theorem A7H {l:List (Int×Int)} (h:uX l):YP l:=h.imp λg=>by omega
theorem A7I {l:List (Int×Int)} (h:YP l):Dst RR (0,0) l:=by
 rw[pW pY];refine h.imp λ{a b} g e=>g ?_;unfold RR P3 at e;split at e
 .omega
 split at e<;>omega
theorem l8 {l:List (Int×Int)} (h:YP l) (c:r.Perm l) (hs:pX RR (0,0) 0 l.length r):r=Ae l:=by
 refine uY (c.trans (Er l).symm) (iN.2 λi j hi b d=>?_) (IE h);have a:∀i (h:i<r.length),r.getD i (0,0)=r[i]:=λi h=>by rw[AS,As h];rfl
 have:=hs i j (GO _) d (by rw[<-c.length_eq];exact b);rw[a i hi,a j b]at this;unfold RR P3 at this;split at this
 .assumption
 split at this<;>omega
theorem MQ {l:List (Int×Int)} (h:YP l):Ae (Ae l)=Ae l:=Gt (Tf (IE h))
def SS (l:List (Int×Int)):Prop:=l.length<=200/\(l.length<=12\/MN l)
def wP (f:List AD):Prop:=∀x∈f,YP x.2/\SS x.2
def DK (f:List AD):List AD:=f.map λx=>(x.1,Ae x.2)
theorem Ee (f:List AD):(DK f).length=f.length:=On _
theorem P7 (f:List AD) (n:Nat):(DK f).getD n (0,[])=((f.getD n (0,[])).1,Ae (f.getD n (0,[])).2):=by
 unfold DK;simp only[AS,AAV];cases f[n]?<;>rfl
theorem M3 {f:List AD} (h:AX f):AX (DK f):=by
 refine⟨by rw[Ee];exact h.1,λx d=>?_⟩;obtain⟨y,e,rfl⟩:=Do.1 d;obtain⟨b,c⟩:=h.2 y e;refine⟨by simp only[CZ];exact b,λa ha=>?_⟩;rw[Ee];exact c a ((Er _).mem_iff.1 ha)
theorem A0X {f:List AD} (h:wP f):JM (DK f):=by
 intro x c;obtain⟨y,d,rfl⟩:=Do.1 c;obtain⟨a,b⟩:=h y d;exact⟨Tf (IE a),by simp only[CZ];exact b.1⟩
theorem YR {f:List AD} (h:JM f):DK f=f:=by
 unfold DK
 conv=>rhs;rw[<-List.map_id f]
 refine oS λx a=>?_;rw[Gt (h x a).1];rfl
theorem A0Y {f:List AD} (h:JM f):wP f:=λx a=>⟨A7H (A0W (h x a).1),(h x a).2,.inr (h x a).1⟩
theorem p5 {f:List AD} (hf:wP f) (n:Int):YP (f.getD n.toNat (0,[])).2/\SS (f.getD n.toNat (0,[])).2:=by
 by_cases h:n.toNat<f.length
 .have a:f.getD n.toNat (0,[])∈f:=by
   rw[AS,As h];exact AAd h
  exact hf _ a
 rw[AS,oN O1];exact⟨List.Pairwise.nil,sc,.inl sc⟩
theorem Sa {f:List AD} (h:wP f):∀(k:Nat) (s:List Int×List Int) (n:Int),Dw (DK f) k s n=Dw f k s n
 | 0,_,_=>rfl
 | k+1,s,n=>by
  rw[Fb,Fb,P7];simp only;rw[MQ (p5 h n).1];refine ABj (λg=>List.foldl g _ _) ?_;funext s a;unfold EP;rw[Sa h k s a.2]
theorem uZ {f:List AD} (h:wP f) (r:Int):Gq (DK f) r=Gq f r:=by
 have ht:Fc (DK f) r=Fc f r:=by
  unfold Fc;rw[Ee,Sa h]
 unfold Gq;rw[ht];refine oS λn _=>?_;unfold Nb;rw[P7];simp only;rw[MQ (p5 h n).1]
theorem Iw {f:List AD} (hf:AX f) (hn:wP f) {root:Int} (h0:0<=root) (h1:root<f.length):Gq f root=AN (DK f) root:=by
 rw[<-uZ hn];exact Vp (M3 hf) (A0X hn) h0 (by rw[Ee];exact h1)
section
attribute [local go_sem] ID
theorem A0Z {l:List (Int×Int)} (h:MN l) {i j:Nat} (c:i<j) (a:j<l.length):(l.getD i (0,0)).1<(l.getD j (0,0)).1:=by
 induction j with
 | zero=>omega
 | succ j b =>
  have h1:=h j a;by_cases e:i=j
  .rw[e];exact h1
  exact Int.lt_trans (b O1 O1) h1
theorem l9 {x:Int} (h:y<x) (a:P3 x y<0):False:=by
 unfold P3 at a
 (repeat' split at a)<;>omega
def GP (l:List (Int×Int)) (s:Nat):List (Nat×Obj):=[(1000000,.arr 59 C4 l),(70,.box 3 false [.p T3 (s:Int)])]
theorem Vs (l:List (Int×Int)) (so:MN l) (a b s:Nat) (ab:a<b) (f:b<l.length) (hs:s<=1000):BF Tryz.prog 217 [.sr 1000000 C4 0 l.length,.p T3 (a:Int),.p T3 (b:Int),.bp 70 [] 0,.fn 140] (GP l s) [1000000,70] (λres g=>res=.tup [.p T3 (a:Int),.p T3 (b:Int)]/\g=GP l s):=by
 refine J0 [0,1,2,3,4,10,11,22] [] [] Tryz.func217 Tryz.ntmps217 (AG Kh AH) ?_;intro w0 K O0 ρ0 d i j;simp only[Au,GP];have h:a<l.length:=by omega
 have e:=A0Z so ab f;repeat'(first|exact a6|apply eS rfl|apply AB|refine rX d ?_ ?_|refine rC ?_ ?_<;>intro c<;>try(cases c;done))
 .exact kL
 .exact(l9 e c).elim
 .exact(l9 e c).elim
 exact fM d [.tmp 10,.tmp 11] (.tup [.p T3 (a:Int),.p T3 (b:Int)]) eT ⟨rfl,rfl⟩
theorem Z8 (l:List (Int×Int)) (so:MN l) (a b c s:Nat) (ab:a<b) (f:b<c) (cl:c<l.length) (hs:s<=900):BF Tryz.prog 216 [.sr 1000000 C4 0 l.length,.p T3 (a:Int),.p T3 (b:Int),.p T3 (c:Int),.bp 70 [] 0,.fn 140] (GP l s) [1000000,70] (λres g=>res=.p T3 (b:Int)/\g=GP l s):=by
 refine J0 [0,1,2,3,4,5,12] [] [] Tryz.func216 Tryz.ntmps216 AH ?_;intro w0 K O0 ρ0 d h i;simp only[Au,GP];repeat'(first|exact a6|apply eS rfl|apply AB|refine rX d ?_ ?_|refine rC ?_ ?_<;>intro e<;>try(cases e;done))
 refine cP 5 d ?_ ?_
 .trivial
 refine rM d (Vs l so a b s ab O1 O1) [(1000000,.nm 1000000),(70,.nm 70)] [] ?_ ?_ ?_
 .first|exact eN|refine eM ?_
 .simp only[GP];first|exact eN|refine eM ?_
 rintro _ _ ⟨rfl,rfl⟩;refine⟨[(1000000,.nm 1000000),(70,.nm 70)],.tup [.p T3 (a:Int),.p T3 (b:Int)],[(1000000,.arr 59 C4 l),(70,.box 3 false [.p T3 (s:Int)])],rfl,rfl,?_,?_,rfl,rfl,?_⟩
 .simp only[GP];first|exact eN|refine eM ?_
 .first|exact eN|refine eM ?_
 refine rL d ?_ ?_
 .trivial
 repeat'(first|exact a6|apply eS rfl|apply AB|refine rX d ?_ ?_|refine rC ?_ ?_<;>intro e<;>try(cases e;done))
 refine cP 5 d ?_ ?_
 .trivial
 refine rM d (Vs l so b c s f cl O1) [(1000000,.nm 1000000),(70,.nm 70)] [] ?_ ?_ ?_
 .first|exact eN|refine eM ?_
 .simp only[GP];first|exact eN|refine eM ?_
 rintro _ _ ⟨rfl,rfl⟩;refine⟨[(1000000,.nm 1000000),(70,.nm 70)],.tup [.p T3 (b:Int),.p T3 (c:Int)],[(1000000,.arr 59 C4 l),(70,.box 3 false [.p T3 (s:Int)])],rfl,rfl,?_,?_,rfl,rfl,?_⟩
 .simp only[GP];first|exact eN|refine eM ?_
 .first|exact eN|refine eM ?_
 refine rL d ?_ ?_
 .trivial
 repeat'(first|exact a6|apply eS rfl|apply AB|refine rX d ?_ ?_|refine rC ?_ ?_<;>intro e<;>try(cases e;done))
 refine cP 5 d ?_ ?_
 .trivial
 refine rM d (Vs l so a b s ab O1 O1) [(1000000,.nm 1000000),(70,.nm 70)] [] ?_ ?_ ?_
 .first|exact eN|refine eM ?_
 .simp only[GP];first|exact eN|refine eM ?_
 rintro _ _ ⟨rfl,rfl⟩;refine⟨[(1000000,.nm 1000000),(70,.nm 70)],.tup [.p T3 (a:Int),.p T3 (b:Int)],[(1000000,.arr 59 C4 l),(70,.box 3 false [.p T3 (s:Int)])],rfl,rfl,?_,?_,rfl,rfl,?_⟩
 .simp only[GP];first|exact eN|refine eM ?_
 .first|exact eN|refine eM ?_
 refine rL d ?_ ?_
 .trivial
 repeat'(first|exact a6|apply eS rfl|apply AB|refine rX d ?_ ?_|refine rC ?_ ?_<;>intro e<;>try(cases e;done))
 exact fM d [.tmp 12] (.p T3 (b:Int)) eT ⟨rfl,rfl⟩
theorem Z9 (l:List (Int×Int)) (so:MN l) (b s:Nat) (f:1<=b) (d:b+1<l.length) (g:l.length<=100000) (hs:s<=900):BF Tryz.prog 215 [.sr 1000000 C4 0 l.length,.p T3 (b:Int),.bp 70 [] 0,.fn 140] (GP l s) [1000000,70] (λres e=>res=.p T3 (b:Int)/\e=GP l s):=by
 refine J0 [0,1,2,3,8] [] [] Tryz.func215 Tryz.ntmps215 AH ?_;intro w0 K O0 ρ0 a h i;simp only[Au,GP];have key:=Z8 l so (b-1) b (b+1) s O1 O1 d hs;rw[show ((b-1:Nat):Int)=(b:Int)-1 by omega,show ((b+1:Nat):Int)=(b:Int)+1 by omega]at key;repeat'(first|exact a6|apply eS rfl|apply AB|refine rX a ?_ ?_|refine rC ?_ ?_<;>intro c<;>try(cases c;done))
 refine cP 8 a ?_ ?_
 .exact kL
 refine rM a (key) [(1000000,.nm 1000000),(70,.nm 70)] [] ?_ ?_ ?_
 .first|exact eN|refine eM ?_
 .simp only[GP];first|exact eN|refine eM ?_
 rintro _ _ ⟨rfl,rfl⟩;refine⟨[(1000000,.nm 1000000),(70,.nm 70)],.p T3 (b:Int),[(1000000,.arr 59 C4 l),(70,.box 3 false [.p T3 (s:Int)])],rfl,rfl,?_,?_,rfl,rfl,?_⟩
 .simp only[GP];first|exact eN|refine eM ?_
 .first|exact eN|refine eM ?_
 refine rL a ?_ ?_
 .trivial
 repeat'(first|exact a6|apply eS rfl|apply AB|refine rX a ?_ ?_|refine rC ?_ ?_<;>intro c<;>try(cases c;done))
 exact fM a [.tmp 8] (.p T3 (b:Int)) eT ⟨rfl,rfl⟩
theorem A4t (l:List (Int×Int)) (d:l.length<=100000) (so:MN l) (a b:Nat) (h:a+13<=b) (i:b<=l.length):BF Tryz.prog 203 [.sr 1000000 C4 0 l.length,.p T3 (a:Int),.p T3 (b:Int),.fn 140] [(1000000,.arr 59 C4 l)] [1000000] (λres g=>(∃j:Nat,res=.tup [.p T3 (j:Int),.p T3 (1:Int)])/\g=[(1000000,.arr 59 C4 l)]):=by
 refine J0 [0,1,2,3,8,9,10,11,12,13,14,34,36,55,57,60] [] [] Tryz.func203 Tryz.ntmps203 AH ?_;intro w0 K O0 ρ0 c k m;simp only[Au];obtain⟨t,ht⟩:∃t,t=(b-a) / 4:=⟨_,rfl⟩;have et:((b:Int)-(a:Int)).tdiv 4=(t:Int):=by
  rw[ABx O1];omega
 have n:4*t<=b-a:=by omega
 have o:3<=t:=by omega
 clear ht
 (apply eS rfl;refine rX c ?_ ?_;(next=>first|exact a6|exact kL))
 (apply eS rfl;refine rX c ?_ ?_;(next=>first|exact a6|exact kL))
 (apply eS rfl;refine rX c ?_ ?_;(next=>first|exact a6|exact kL))
 (apply eS rfl;refine rX c ?_ ?_;(next=>first|exact a6|exact kL|(rw[et];refine⟨⟨df,?_⟩,?_,?_⟩<;>omega)))
 (apply eS rfl;refine rX c ?_ ?_;(next=>first|exact a6|exact kL|(rw[et];refine⟨⟨df,?_⟩,?_,?_⟩<;>omega)))
 (apply eS rfl;refine rX c ?_ ?_;(next=>first|exact a6|exact kL|(rw[et];refine⟨⟨df,?_⟩,?_,?_⟩<;>omega)))
 rw[et,show (a:Int)+(t:Int)*1=((a+t:Nat):Int) by omega,show (a:Int)+(t:Int)*2=((a+t*2:Nat):Int) by omega,show (a:Int)+(t:Int)*3=((a+t*3:Nat):Int) by omega];refine UW ?_;refine A3D (ι:=Unit) (λ_=>⟨[(11,.bp 11 [] 0),(13,.p T3 ((a+t*2:Nat):Int))],[(1000000,.arr 59 C4 l),(11,.box 3 false [.p T3 (0:Int)])]⟩) ?_ (λx=>?_)
 .repeat'(first|exact a6|apply eS rfl|apply AB|refine rX c ?_ ?_)
  refine rC ?_ ?_<;>intro e
  .repeat'(first|exact a6|apply eS rfl|apply AB|refine rX c ?_ ?_)
   refine rC (λf=>?_) (λf=>?_)
   .repeat'(first|exact a6|apply eS rfl|apply AB|refine rP c ?_ ?_|fail)
    refine cP 3 c ?_ ?_
    .trivial
    refine rM c (Z9 l so (a+t) 0 O1 O1 d O1) [(1000000,.nm 1000000),(70,.nm 11)] [] ?_ ?_ ?_
    .first|exact eN|refine eM ?_
    .simp only[GP];first|exact eN|refine eM ?_
    rintro _ _ ⟨rfl,rfl⟩;refine⟨[(1000000,.nm 1000000),(11,.nm 70)],.p T3 ((a+t:Nat):Int),[(1000000,.arr 59 C4 l),(11,.box 3 false [.p T3 (0:Int)])],rfl,rfl,?_,?_,rfl,rfl,?_⟩
    .simp only[GP];first|exact eN|refine eM ?_
    .first|exact eN|refine eM ?_
    refine rL c ?_ ?_
    .trivial
    repeat'(first|exact a6|apply eS rfl|apply AB|refine rX c ?_ ?_)
    refine cP 3 c ?_ ?_
    .trivial
    refine rM c (Z9 l so (a+t*2) 0 O1 O1 d O1) [(1000000,.nm 1000000),(70,.nm 11)] [] ?_ ?_ ?_
    .first|exact eN|refine eM ?_
    .simp only[GP];first|exact eN|refine eM ?_
    rintro _ _ ⟨rfl,rfl⟩;refine⟨[(1000000,.nm 1000000),(11,.nm 70)],.p T3 ((a+t*2:Nat):Int),[(1000000,.arr 59 C4 l),(11,.box 3 false [.p T3 (0:Int)])],rfl,rfl,?_,?_,rfl,rfl,?_⟩
    .simp only[GP];first|exact eN|refine eM ?_
    .first|exact eN|refine eM ?_
    refine rL c ?_ ?_
    .trivial
    repeat'(first|exact a6|apply eS rfl|apply AB|refine rX c ?_ ?_)
    refine cP 3 c ?_ ?_
    .trivial
    refine rM c (Z9 l so (a+t*3) 0 O1 O1 d O1) [(1000000,.nm 1000000),(70,.nm 11)] [] ?_ ?_ ?_
    .first|exact eN|refine eM ?_
    .simp only[GP];first|exact eN|refine eM ?_
    rintro _ _ ⟨rfl,rfl⟩;refine⟨[(1000000,.nm 1000000),(11,.nm 70)],.p T3 ((a+t*3:Nat):Int),[(1000000,.arr 59 C4 l),(11,.box 3 false [.p T3 (0:Int)])],rfl,rfl,?_,?_,rfl,rfl,?_⟩
    .simp only[GP];first|exact eN|refine eM ?_
    .first|exact eN|refine eM ?_
    refine rL c ?_ ?_
    .trivial
    repeat'(first|exact a6|apply eS rfl|apply AB|refine rX c ?_ ?_)
    refine cP 5 c ?_ ?_
    .trivial
    refine rM c (Z8 l so (a+t) (a+t*2) (a+t*3) 0 O1 O1 O1 O1) [(1000000,.nm 1000000),(70,.nm 11)] [] ?_ ?_ ?_
    .first|exact eN|refine eM ?_
    .simp only[GP];first|exact eN|refine eM ?_
    rintro _ _ ⟨rfl,rfl⟩;refine⟨[(1000000,.nm 1000000),(11,.nm 70)],.p T3 ((a+t*2:Nat):Int),[(1000000,.arr 59 C4 l),(11,.box 3 false [.p T3 (0:Int)])],rfl,rfl,?_,?_,rfl,rfl,?_⟩
    .simp only[GP];first|exact eN|refine eM ?_
    .first|exact eN|refine eM ?_
    refine rL c ?_ ?_
    .trivial
    repeat'(first|exact a6|apply eS rfl|apply AB|refine rX c ?_ ?_)
    refine⟨(),AC [(1000000,.nm 1000000),(11,.nm 11)] rfl rfl ?_ ?_⟩
    .first|exact eN|refine eM ?_
    first|exact eN|refine eM ?_
   repeat'(first|exact a6|apply eS rfl|apply AB|refine rP c ?_ ?_|fail)
   refine cP 5 c ?_ ?_
   .trivial
   refine rM c (Z8 l so (a+t) (a+t*2) (a+t*3) 0 O1 O1 O1 O1) [(1000000,.nm 1000000),(70,.nm 11)] [] ?_ ?_ ?_
   .first|exact eN|refine eM ?_
   .simp only[GP];first|exact eN|refine eM ?_
   rintro _ _ ⟨rfl,rfl⟩;refine⟨[(1000000,.nm 1000000),(11,.nm 70)],.p T3 ((a+t*2:Nat):Int),[(1000000,.arr 59 C4 l),(11,.box 3 false [.p T3 (0:Int)])],rfl,rfl,?_,?_,rfl,rfl,?_⟩
   .simp only[GP];first|exact eN|refine eM ?_
   .first|exact eN|refine eM ?_
   refine rL c ?_ ?_
   .trivial
   repeat'(first|exact a6|apply eS rfl|apply AB|refine rX c ?_ ?_)
   refine⟨(),AC [(1000000,.nm 1000000),(11,.nm 11)] rfl rfl ?_ ?_⟩
   .first|exact eN|refine eM ?_
   first|exact eN|refine eM ?_
  exfalso;omega
 repeat'(first|exact a6|apply eS rfl|apply AB|refine rX c ?_ ?_|refine rC ?_ ?_<;>intro e<;>try(cases e;done))
 refine Ev.ent (σ':=⟨[(8,.p T3 ((a+t*2:Nat):Int)),(9,.p T3 (1:Int))],[(1000000,.arr 59 C4 l)]⟩) ?_ (AC [(1000000,.nm 1000000)] rfl rfl ?_ ?_)
 .exact fM c [.tmp 8,.tmp 9] (.tup [.p T3 ((a+t*2:Nat):Int),.p T3 (1:Int)]) eT ⟨⟨_,rfl⟩,rfl⟩
 .first|exact eN|refine eM ?_
 first|exact eN|refine eM ?_
theorem A4u (l:List (Int×Int)) (q:l.length<=100000) (so:MN l) (n0:0<l.length):BF Tryz.prog 205 [.sr 1000000 C4 0 l.length,.p T3 (0:Int),.p T3 (l.length:Int),.fn 140] [(1000000,.arr 59 C4 l)] [1000000] (λres n=>res=.p .bool true/\n=[(1000000,.arr 59 C4 l)]):=by
 refine J0 [0,1,2,3,8,9,10,11,12,16,36,41,45,65,69,84,104,109,124] [] [] Tryz.func205 Tryz.ntmps205 (AG Kh AH) ?_;intro w0 K O0 ρ0 a r t;simp only[Au];repeat'(first|exact a6|apply eS rfl|apply AB|refine rX a ?_ ?_|refine rC ?_ ?_<;>intro c<;>try(cases c;done))
 .exact kL
 refine AJ (ι:=Unit) (λs=>⟨[(0,.sr 1000000 C4 0 l.length),(1,.p T3 (0:Int)),(2,.p T3 (l.length:Int)),(3,.fn 140),(9,.p (.int .i64) (1:Int)),(10,.p (.int .i64) (0:Int))],[(1000000,.arr 59 C4 l)]⟩) (λs=>0) () (AC [(1000000,.nm 1000000)] rfl rfl ?_ ?_) (λs=>?_)
 .first|exact eN|refine eM ?_
 .first|exact eN|refine eM ?_
  rfl
 repeat'(first|exact a6|apply eS rfl|apply AB|refine rX a ?_ ?_)
 refine rC ?_ ?_<;>intro c
 .repeat'(first|exact a6|apply eS rfl|apply AB|refine rX a ?_ ?_)
  refine AJ (ι:={k:Nat//1<=k/\k<=l.length}) (λs=>⟨[(0,.sr 1000000 C4 0 l.length),(1,.p T3 (0:Int)),(2,.p T3 (l.length:Int)),(3,.fn 140),(9,.p (.int .i64) (s.1:Int)),(10,.p (.int .i64) (0:Int))],[(1000000,.arr 59 C4 l)]⟩) (λs=>l.length-s.1) ⟨1,OS _,n0⟩ (AC [(1000000,.nm 1000000)] rfl rfl ?_ ?_) (λs=>?_)
  .first|exact eN|refine eM ?_
  .first|exact eN|refine eM ?_
   rfl
  obtain⟨k,e,f⟩:=s;simp only at e f ⊢;have d:((k:Int)-1).toNat=k-1:=by omega
  repeat'(first|exact a6|apply eS rfl|apply AB|refine rX a ?_ ?_)
  .dsimp only[Ty.den];exact⟨λ_=>by omega,λ_=>by omega,λ_=>by omega⟩
  refine UY a1 ?_ ?_
  .intro b;simp only[AT,If,gO,Wx]at b;obtain⟨h1,o⟩:=b;repeat'(first|exact a6|apply eS rfl|apply AB|refine rX a ?_ ?_)
   .exact kL
   refine⟨⟨k+1,O1,O1⟩,a2,AC [(1000000,.nm 1000000)] rfl rfl ?_ ?_⟩
   .first|exact eN|refine eM ?_
   first|exact eN|refine eM ?_
  intro b;rw[d]at b;have g:k=l.length:=by
   refine DO λhn=>?_;have m:=A0Z so (i:=k-1) (j:=k) O1 O1;simp only[AB9,Wx,ABG,If]at b;rcases b with h|h
   .omega
   exact l9 m h
  subst g;clear b;repeat'(first|exact a6|apply eS rfl|apply AB|refine rX a ?_ ?_|refine rC ?_ ?_<;>intro c<;>try(cases c;done))
  exact fM a [.tmp 8] (.p .bool true) eT ⟨rfl,rfl⟩
 exfalso;simp at c
theorem A4v (l:List (Int×Int)) (u:l.length<=200) (nd:YP l) (so:l.length<=12\/MN l) (c:Int) (m:13<=l.length->c≠0):BF Tryz.prog 190 [.sr 1000000 C4 0 l.length,.p T3 (0:Int),.p T3 (l.length:Int),.p T3 c,.fn 140] [(1000000,.arr 59 C4 l)] [1000000] (λres t=>res=.raw (.tuple #[])/\t=[(1000000,.arr 59 C4 (Ae l))]):=by
 refine J0 [0,1,2,3,4,10,11,12,13,14,15,16,17,18,19,20,25,32,39,56,75,80,97,125] [] [] Tryz.func190 Tryz.ntmps190 AH ?_;intro w0 K O0 ρ0 a v w;simp only[Au];repeat'(first|exact a6|apply eS rfl|apply AB|refine rX a ?_ ?_)
 refine AJ (ι:=Unit) (λs=>⟨[(0,.sr 1000000 C4 0 l.length),(1,.p T3 (0:Int)),(2,.p T3 (l.length:Int)),(3,.p T3 c),(4,.fn 140),(10,.p .bool true),(11,.p .bool true)],[(1000000,.arr 59 C4 l)]⟩) (λs=>0) () (AC [(1000000,.nm 1000000)] rfl rfl ?_ ?_) (λs=>?_)
 .first|exact eN|refine eM ?_
 .first|exact eN|refine eM ?_
 repeat'(first|exact a6|apply eS rfl|apply AB|refine rX a ?_ ?_)
 .exact kL
 refine rC ?_ ?_<;>intro b
 .have key:=A4o l O1 (A7I nd) 0 l.length O1 (OS _);rw[show ((0:Nat):Int)=0 from rfl]at key;repeat'(first|exact a6|apply eS rfl|apply AB|refine rX a ?_ ?_)
  refine cP 4 a ?_ ?_
  .trivial
  refine rM a (key) [(1000000,.nm 1000000)] [] ?_ ?_ ?_
  .first|exact eN|refine eM ?_
  .first|exact eN|refine eM ?_
  rintro _ _ ⟨rfl,r,rfl,n,o⟩;have h:=l8 nd n.perm o;subst h;have x:=CZ l;refine⟨[(1000000,.nm 1000000)],.raw (.tuple #[]),[(1000000,.arr 59 C4 (Ae l))],rfl,rfl,?_,?_,rfl,rfl,FF ?_⟩
  .first|exact eN|refine eM ?_
  .first|exact eN|refine eM ?_
  repeat'(first|exact a6|apply eS rfl|apply AB|refine rX a ?_ ?_|refine rC ?_ ?_<;>intro b<;>try(cases b;done))
  exact fM a [] (.raw (.tuple #[])) rfl ⟨rfl,rfl⟩
 have i:13<=l.length:=by omega
 have hs:MN l:=so.resolve_left O1;have k:=m i;rw[Gt hs];repeat'(first|exact a6|apply eS rfl|apply AB|refine rX a ?_ ?_)
 refine rC (λd=>?_) (λd=>?_)
 .exact absurd d k
 have key:=A4t l O1 hs 0 l.length O1 (OS _);rw[show ((0:Nat):Int)=0 from rfl]at key;have q:=A4u l O1 hs O1;repeat'(first|exact a6|apply eS rfl|apply AB|refine rX a ?_ ?_)
 refine rC (λe=>?_) (λe=>?_)
 .cases e
 repeat'(first|exact a6|apply eS rfl|apply AB|refine rX a ?_ ?_)
 refine cP 4 a ?_ ?_
 .trivial
 refine rM a (key) [(1000000,.nm 1000000)] [] ?_ ?_ ?_
 .first|exact eN|refine eM ?_
 .first|exact eN|refine eM ?_
 rintro _ _ ⟨⟨j,rfl⟩,rfl⟩;refine⟨[(1000000,.nm 1000000)],.tup [.p T3 (j:Int),.p T3 (1:Int)],[(1000000,.arr 59 C4 l)],rfl,rfl,?_,?_,rfl,rfl,?_⟩
 .first|exact eN|refine eM ?_
 .first|exact eN|refine eM ?_
 refine rL a ?_ ?_
 .trivial
 repeat'(first|exact a6|apply eS rfl|apply AB|refine rX a ?_ ?_)
 refine rC (λf=>?_) (λf=>?_)
 .exact absurd f df
 repeat'(first|exact a6|apply eS rfl|apply AB|refine rX a ?_ ?_)
 refine rC (λg=>?_) (λg=>?_)
 .repeat'(first|exact a6|apply eS rfl|apply AB|refine rX a ?_ ?_)
  refine cP 4 a ?_ ?_
  .trivial
  refine rM a (q) [(1000000,.nm 1000000)] [] ?_ ?_ ?_
  .first|exact eN|refine eM ?_
  .first|exact eN|refine eM ?_
  rintro _ _ ⟨rfl,rfl⟩;refine⟨[(1000000,.nm 1000000)],.p .bool true,[(1000000,.arr 59 C4 l)],rfl,rfl,?_,?_,rfl,rfl,FF ?_⟩
  .first|exact eN|refine eM ?_
  .first|exact eN|refine eM ?_
  repeat'(first|exact a6|apply eS rfl|apply AB|refine rX a ?_ ?_|refine rC ?_ ?_<;>intro b<;>try(cases b;done))
  exact fM a [] (.raw (.tuple #[])) rfl ⟨rfl,rfl⟩
 exact absurd g df
end
end Go.Proofs.YtglkoagnnnpimaaGreatDoor.Fw
