/- Contracts of functions and plain laws. -/
import Derived.Test.YtglkoagnnnpimaaGreatDoorDZJ
import Derived.Test.YtglkoagnnnpimaaGreatDoorDZI
set_option linter.unusedVariables false
set_option linter.unusedSimpArgs false
namespace Go.Proofs.YtglkoagnnnpimaaGreatDoor.Fw
attribute [local irreducible] Ev
attribute [local go_sem] oM AL List.toList_toArray B6 evG evK XA FE Ld Ie HL Gf SC Lc Ce Dq PG DR C3 frz sT G0 De BD F9 Bg AV.frz AV.frzs AV.drp AV.drps AV.names AV.namess aq G1 LR LS UL J1 B2 CA Kw EU J4 EV J6 J5 J7 W8 R4 Hl Mn GB Ek W9 S1 qUn Kx JM N0 Fj EK J8 LU E3 UN C6 E4 Fk S2 JN PD Fl PC R6 S3 NX J9 LV Df DJ Fs EL I0 DZ Fm Da E5 Ge DR C9 PA S0 Qy HG J3 J2 LT PE R9 NY N4 N2 LY UO N3 LZ b5 SB SA AV.trn AV.trns ET C5 Obj.trn K5 kK Dd D1 Db E6 Cl Fq Ai lk IZ G8 Iy bin sR ZE sV UM UJ zfx AV.cellss sS zfs pfs AV.cells CW E2 JL GC R8 CX PB Ty.cell1 J0 FI EJ Gc Ix E1 LI NW O9 Gb HF Nz UI W7 NL LH bX jH UK Ia DA Hk RV.flat Ty.flat Ty.size St.add upd del Bl Value.oneCell' ZC Ty.dflt Jz TV JT Tc List.take_succ_cons List.take_zero List.length_cons oQ oT Ta Lv Pi JV M0 A3E HN PX PY PZ Pa Uk Ul Pb KJ Za Option.map_some Option.map_none Option.bind_some Option.getD_some Option.getD_none Option.isNone_none Option.isNone_some Bool.and_true Bool.true_and Bool.and_false Bool.false_and Bool.not_true Bool.not_false if_true if_false List.length_cons List.length_nil and_true true_and and_self List.all_cons List.all_nil List.append_nil List.nil_append List.cons_append List.getElem?_cons_zero List.getElem?_cons_succ List.getElem?_nil List.map_cons List.map_nil List.set_cons_zero List.set_cons_succ List.isEmpty_nil List.isEmpty_cons decide_true decide_false beq_self_eq_true bne_self_eq_false Nat.zero_add Nat.add_zero Nat.sub_zero Int.toNat_natCast Int.toNat_zero Int.toNat_one List.take_length List.length_append List.length_singleton true_or or_true or_self false_or or_false Ty.agg.injEq Ty.slice.injEq Ty.prod.injEq Ty.int.injEq Option.some.injEq beq_iff_eq Lt evMG evMQ opM I9 Nc CH K4 HO Uo K3 I8 KK My Ls Q7 Pe Q8 Uq Pd TX TY Mx Af Al Op.operands Call.operands List.filterMap_cons List.filterMap_nil List.append_eq Bool.cond_false_right Bool.cond_true_left cond_true cond_false implies_true decide_eq_true_eq beq_true beq_false Bool.or_true Bool.or_false Bool.true_or Bool.false_or Option.isSome_some Array.empty_append List.append_toArray GA PH Ft Ib b4 R7 b3 Gd Hb Ha JO Iz LX N1 ZF sU HZ inB La GV HH Lb Ap oX List.drop_zero EE Ih dH DC OH C2 AV.fgt AV.fgts Obj.fgt A4 A1 Af EZ Lx B3 Ly List.any_cons List.any_nil o0 kD dJ kE NN S6 qs List.flatMap_cons List.flatMap_nil List.cons_append tn dP Nf List.take_succ_cons List.drop_succ_cons dR Hw Bh yY RH CZ Cw Ao Fv Lm CC matchAVs DK I7 KH Hs KI
attribute [local go_sem] ty1 ty2 ty3 ty4 ty5 ty9 A76 A77 A78 A79 A7a A7b A7c A7d A7e A7f A7g A7h A7i A7j A7k A7l A7m A7n A7o A7p A7q A7r A7s A7t A7u A7v A7w A7x zB zC zD zE zF zG zH zI zJ zK zL zN zO zP zQ zR zS zT zU zV zW zX zY zZ z0 z4 z5 z6 z7 z8 z9 A00 A01 A02 A03 A04 A05 A06
set_option maxRecDepth 100000
set_option maxHeartbeats 4000000
variable {k i c f:Nat} {a b:List Int} {o m:List ByteArray} {s x:ByteArray} {l W:List (List Int)} {Z X:Type} {n y:Int} {Y r:List (Int×Int)} {V:Int×Int}
section
def CP (a b c:Int):Bool:=decide (a<=c)&&decide (c<=b)
def Zj:AZ:={ ins:=[.int .u8],pre:=λ_=>True,out:=λ(c,_)=>[.p .bool (CP 48 57 c)] }
attribute [local go_sem] Zj
def kW:AZ:={ ins:=[.int .u8],pre:=λ_=>True,out:=λ(c,_)=>[.p .bool (CP 65 90 c)] }
attribute [local go_sem] kW
def kX:AZ:={ ins:=[.int .u8],pre:=λ_=>True,out:=λ(c,_)=>[.p .bool (CP 97 122 c)] }
attribute [local go_sem] kX
theorem VM:Ac Tryz.prog 165 Zj:=by
 refine fK [0,2] Tryz.func165 Tryz.ntmps165 AH ?_;rintro w0 O0 ⟨c,u⟩ a - -;simp only[Zj,AL];repeat'(first|exact a6|apply eS rfl|refine rX a ?_ ?_)
 exact fI a [.tmp 2] (by unfold CP;exact eR)
theorem A0c:Ac Tryz.prog 198 kW:=by
 refine fK [0,2] Tryz.func198 Tryz.ntmps198 AH ?_;rintro w0 O0 ⟨c,u⟩ a - -;simp only[kW,AL];repeat'(first|exact a6|apply eS rfl|refine rX a ?_ ?_)
 exact fI a [.tmp 2] (by unfold CP;exact eR)
theorem A0d:Ac Tryz.prog 199 kX:=by
 refine fK [0,2] Tryz.func199 Tryz.ntmps199 AH ?_;rintro w0 O0 ⟨c,u⟩ a - -;simp only[kX,AL];repeat'(first|exact a6|apply eS rfl|refine rX a ?_ ?_)
 exact fI a [.tmp 2] (by unfold CP;exact eR)
def OP (c:Int) (big:Bool):Bool:=CP 48 57 c||c==45||big&&CP 65 90 c||!big&&CP 97 122 c
def A0e:AZ:={ ins:=[.int .u8,.bool],pre:=λ_=>True,out:=λ(c,b,_)=>[.p .bool (OP c b)] }
attribute [local go_sem] A0e
theorem A3Z:Ac Tryz.prog 188 A0e:=by
 refine fK [0,1,4] Tryz.func188 Tryz.ntmps188 (AE VM (AE A0c (AE A0d AH))) ?_;rintro w0 O0 ⟨c,b,u⟩ a - -;simp only[A0e,AL];repeat'(first|exact a6|apply eS rfl|refine rX a ?_ ?_)
 exact fI a [.tmp 4] (by unfold OP;exact eR)
abbrev Nh (s:ByteArray) (i:Nat):Int:=((s.data.getD i 0).toNat:Int)
def OQ (s:ByteArray):Bool:=decide ((s.size:Int)<1)||decide (32<(s.size:Int))||CP 48 57 (Nh s 0)||Nh s 0==45
def BF (s:ByteArray) (big:Bool):Bool:=!OQ s&&(List.range s.size).all λi=>OP (Nh s i) big
def kY:AZ:={ ins:=[T9,.bool],pre:=λ_=>True,out:=λ(s,b,_)=>[.p .bool (BF s b)] }
attribute [local go_sem] kY
theorem eA:Ac Tryz.prog 174 kY:=by
 refine fK [0,1,4,5,23,27,35] Tryz.func174 Tryz.ntmps174 (AE VM (AE A3Z AH)) ?_;rintro w0 O0 ⟨s,b,u⟩ d - -;simp only[kY,AL];repeat'(first|exact a6|apply eS rfl|refine rX d ?_ ?_|refine rC ?_ ?_<;>intro a<;>try(cases a;done))
 .constructor
  .intro h;simp only[bY,AAb,aS]at h;have:1<=(s.size:Int):=by omega
   exact this
  intro h;simp only[bY,AAb,aS]at h;have:1<=(s.size:Int):=by omega
  exact this
 .have h1:OQ s=true:=by
   unfold OQ Nh;simp only[tO,IN,AA9];exact a
  have c:BF s b=false:=by unfold BF;rw[h1];rfl
  exact fI d [.tmp 4] (by rw[c];exact eR)
 have h1:OQ s=false:=by
  unfold OQ Nh;simp only[AAb,aS,AB6];exact⟨⟨⟨O1,O1⟩,a.1.2⟩,a.2⟩
 have g:s.size<=32:=by omega
 refine AI (ι:={k:Nat//k<=s.size/\((List.range k).all λi=>OP (Nh s i) b)=true}) (λk=>⟨[(0,.p T9 s),(1,.p .bool b),(5,.p (.int .i64) (k.1:Int))],[]⟩) (λk=>s.size-k.1) ⟨0,sc⟩ (eW []) (λk=>?_)
 obtain⟨k,hk,f⟩:=k;repeat'(first|exact a6|apply eS rfl|apply AB|refine rX d ?_ ?_|refine rC ?_ ?_<;>intro a<;>try(cases a;done))
 .exact a
 .have e:k<s.size:=by omega
  have c:BF s b=false:=by
   unfold BF;rw[AB0];refine .inr (ABh.2 λh=>?_);have:=No.1 h k (oS.2 e);rw[show OP (Nh s k) b=false from a]at this;cases this
  exact fI d [.tmp 4] (by rw[c];exact eR)
 .omega
 .have e:k<s.size:=by omega
  refine⟨⟨k+1,O1,?_⟩,a2,AC [] rfl rfl ?_ ?_⟩
  .rw[AAz,ACk,f];rw[ABZ,ABA,List.all_nil,Bool.and_true];exact a
  .exact eN
  exact eN
 have e:k=s.size:=by omega
 subst e;have c:BF s b=true:=by unfold BF;rw[h1,f];rfl
 exact fI d [.tmp 4] (by rw[c];exact eR)
def X4:AZ:={ ins:=[T9],pre:=λ_=>True,out:=λ(s,_)=>[.p .bool (BF s false)] }
def Pn:AZ:={ ins:=[T9],pre:=λ_=>True,out:=λ(s,_)=>[.p .bool (BF s true)] }
theorem Zk:Ac Tryz.prog 136 X4:=by
 refine fK [0,2] Tryz.func136 Tryz.ntmps136 (AE eA AH) ?_;rintro w0 O0 ⟨s,u⟩ a - -;simp only[X4,AL];repeat'(first|exact a6|apply eS rfl|refine rX a ?_ ?_)
 exact fI a [.tmp 2]
theorem VN:Ac Tryz.prog 146 Pn:=by
 refine fK [0,2] Tryz.func146 Tryz.ntmps146 (AE eA AH) ?_;rintro w0 O0 ⟨s,u⟩ a - -;simp only[Pn,AL];repeat'(first|exact a6|apply eS rfl|refine rX a ?_ ?_)
 exact fI a [.tmp 2]
end
section
theorem M4 {α:Type} (l:List α) (d:α) (p:α->Bool) (h:k<l.length):(l.take (k+1)).any p=((l.take k).any p||p (l.getD k d)):=by
 rw[Ay l d h,AC4];simp
theorem Ik {α:Type} (l:List α) (d:α) (p:α->Bool) (h:k<l.length) (a:p (l.getD k d)=true):l.any p=true :=
 aT.2 ⟨_,AF l d h,a⟩
def Aa (l:List ByteArray) (s:ByteArray):Bool:=l.any λx=>AK x s
def JB:AZ:={ ins:=[CV,T9],pre:=λ_=>True,out:=λ(l,n,_)=>[.p .bool (Aa l n)],lend:=true }
attribute [local go_sem] JB
theorem Gj:Ac Tryz.prog 158 JB:=by
 refine fK [0,1,4,5,9,17] Tryz.func158 Tryz.ntmps158 AH ?_;rintro w0 O0 ⟨l,n,u⟩ a ⟨⟨e,-⟩,-⟩ -;simp only[AP]at e;simp only[JB,AL];repeat'(first|exact a6|apply eS rfl|refine rX a ?_ ?_)
 refine AI (ι:={k:Nat//k<=l.length/\(l.take k).any (λx=>AK x n)=false}) (λk=>⟨[(0,.p CV l),(1,.p T9 n),(5,.p (.int .i64) (k.1:Int))],[]⟩) (λk=>l.length-k.1) ⟨0,sc⟩ (eW []) (λk=>?_)
 obtain⟨k,hk,c⟩:=k;repeat'(first|exact a6|apply eS rfl|apply AB|refine rX a ?_ ?_|refine rC ?_ ?_<;>intro b<;>try(cases b;done))
 .exact eV
 .have d:k<l.length:=by exact eV
  have h1:Aa l n=true:=Ik l ByteArray.empty _ d b;exact fI a [.tmp 4] (by rw[h1];exact eR)
 .exact eV
 .have d:k<l.length:=by exact eV
  refine⟨⟨k+1,eV,?_⟩,by simp only;exact eV,AC [] rfl rfl ?_ ?_⟩
  .rw[M4 l ByteArray.empty _ d,c];exact b
  .exact eN
  exact eN
 have hk:l.take k=l:=BY eV;rw[hk]at c;have h1:Aa l n=false:=c;exact fI a [.tmp 4] (by rw[h1];exact eR)
def W4 (l:List ByteArray) (s:ByteArray):Nat:=(l.takeWhile λx=>CK x s).length
theorem kZ {α:Type} (p:α->Bool) (d:α):∀(l:List α) (k:Nat),k<=(l.takeWhile p).length->((k<l.length/\p (l.getD k d)=true)↔k+1<=(l.takeWhile p).length)
 | [],k,h=>by simp
 | x :: l,k,h=>by
  by_cases a:p x=true
  .rw[List.takeWhile_cons,At a]at h ⊢;cases k with
   | zero=>simp[a]
   | succ k =>
    have:=kZ p d l k (by simpa using h);simpa using this
  rw[List.takeWhile_cons,An a]at h ⊢;have hk:k=0:=by simpa using h
  subst hk;simp[a]
theorem A68 {α:Type} (p:α->Bool) (l:List α):(l.takeWhile p).length<=l.length:=(List.takeWhile_sublist p).length_le
def Dt (l:List ByteArray) (s:ByteArray):List ByteArray :=
 if (decide (W4 l s<l.length)&&AK (l.getD (W4 l s) ByteArray.empty) s)=true then l else l.take (W4 l s)++[s]++l.drop (W4 l s)
def Zl:AZ:={ ins:=[CV,T9],pre:=λ(l,_,_)=>List.length l<=100000,out:=λ(l,n,_)=>[.p CV (Dt l n)] }
attribute [local go_sem] Zl
theorem RL:Ac Tryz.prog 148 Zl:=by
 refine fK [0,1,4,5,6,18,32] Tryz.func148 Tryz.ntmps148 AH ?_;rintro w0 O0 ⟨l,n,u⟩ c-m;have m:l.length<=100000:=m;simp only[Zl,AL];repeat'(first|exact a6|apply eS rfl|refine rX c ?_ ?_)
 refine AI (ι:={k:Nat//k<=W4 l n}) (λk=>⟨[(0,.p CV l),(1,.p T9 n),(5,.raw (.slice none 0 0)),(6,.p (.int .i64) (k.1:Int))],[]⟩) (λk=>l.length-k.1) ⟨0,sc⟩ (eW []) (λk=>?_)
 obtain⟨k,hk⟩:=k;have d:=A68 (λx=>CK x n) l;have i:=kZ (λx=>CK x n) ByteArray.empty l k hk;simp only;repeat'(first|exact a6|apply eS rfl|apply AB|refine rX c ?_ ?_|refine rC ?_ ?_<;>intro a<;>try(cases a;done))
 .exact λh=>h
 .have h1:k<l.length/\CK (l.getD k ByteArray.empty) n=true:=⟨eV,a.2⟩;exact eV
 .have h1:k<l.length/\CK (l.getD k ByteArray.empty) n=true:=⟨eV,a.2⟩;exact⟨⟨k+1,i.1 h1⟩,a2,eW []⟩
 .exact λh=>h
 .rename_i f;have g:k=W4 l n:=by
   refine ACg hk (AD2 λh=>?_);have:=i.2 h;rw[f (f4.2 this.1)]at this;cases this.2
  have e:Dt l n=l:=by
   unfold Dt;rw[<-g,At];rw[AT,IN];exact⟨f4.1 a.1,a.2⟩
  exact fI c [.tmp 4] (by rw[e];exact eR)
 .have j:=AAQ k l;have b:k<=l.length:=gO hk d;simp only[AP];exact⟨AA7.2 b,by dsimp only[Ty.den]at *;omega⟩
 .have j:=AAQ k l;have b:k<=l.length:=gO hk d;simp only[AP];dsimp only[Ty.den]at *;omega
 .have j:=AAQ k l;have b:k<=l.length:=gO hk d;have q:(l.drop k).length<=l.length:=by rw[ABn];omega
  simp only[AP];exact⟨AA7.2 b,by dsimp only[Ty.den]at *;omega⟩
 rename_i f;have g:k=W4 l n:=by
  refine ACg hk (AD2 λh=>?_);have:=i.2 h;rw[f (f4.2 this.1)]at this;cases this.2
 have e:Dt l n=l.take k++[n]++l.drop k:=by
  unfold Dt;rw[<-g,An];rw[AT,IN];intro h;rw[a (f4.2 h.1)]at h;cases h.2
 have b:k<=l.length:=gO hk d;have o:(l.take k).length+1+(l.drop k).length=(l.take k++[n]++l.drop k).length:=by simp only[IS,nO]
 rw[o,<-e];refine Cj [38] ?_;exact fI c [.tmp 4]
end
section
def F5 (b:List Int) (i:Int):Int:=if i<b.length then b.getD i.toNat 0 else 0
def eB:AZ:={ ins:=[Ba,T3],pre:=λ(_,i,_)=>(0:Int)<=i,out:=λ(b,i,_)=>[.p RJ (F5 b i)],lend:=true }
attribute [local go_sem] eB
theorem pI:Ac Tryz.prog 166 eB:=by
 refine fK [0,1,4,8] Tryz.func166 Tryz.ntmps166 AH ?_;rintro w0 O0 ⟨b,i,u⟩ c-hi;simp only[eB,AL];repeat'(first|exact a6|apply eS rfl|refine rX c ?_ ?_|refine rC ?_ ?_<;>intro a<;>try(cases a;done))
 .exact⟨hi,a⟩
 .have h1:F5 b i=b.getD i.toNat 0:=by unfold F5;rw[At a]
  exact fI c [.tmp 4] (by rw[h1];exact eR)
 have h1:F5 b i=0:=by unfold F5;rw[An (AAy.2 a)]
 exact fI c [.tmp 4] (by rw[h1];exact eR)
def Cm (b:List Int):Nat->Nat
 | 0=>0
 | n+1=>if b.getD n 0=0 then Cm b n else n+1
def BS (b:List Int):List Int:=b.take (Cm b b.length)
theorem VO (b:List Int):∀n,Cm b n<=n
 | 0=>On _
 | n+1=>by
  unfold Cm;split
  .exact Nat.le_succ_of_le (VO b n)
  exact On _
def KQ:AZ:={ ins:=[Ba],pre:=λ(b,_)=>List.length b<=100000,out:=λ(b,_)=>[.p Ba (BS b)] }
attribute [local go_sem] KQ
theorem M5:Ac Tryz.prog 151 KQ:=by
 refine fK [0,2,3,15] Tryz.func151 Tryz.ntmps151 AH ?_;rintro w0 O0 ⟨b,u⟩ d-f;have f:b.length<=100000:=f;simp only[KQ,AL];repeat'(first|exact a6|apply eS rfl|refine rX d ?_ ?_)
 refine AI (ι:={n:Nat//n<=b.length/\Cm b n=Cm b b.length}) (λn=>⟨[(0,.p Ba b),(3,.p (.int .i64) (n.1:Int))],[]⟩) (λn=>n.1) ⟨b.length,On _,rfl⟩ (eW []) (λn=>?_)
 obtain⟨n,hn,g⟩:=n;simp only;repeat'(first|apply eS rfl|apply AB|refine rX d ?_ ?_|refine rC ?_ ?_<;>intro c<;>try(cases c;done))
 .constructor
  .exact eV
  intro h;refine⟨?_,?_⟩<;>exact eV
 .exact eV
 .obtain⟨h1,a⟩:=c;obtain⟨m,rfl⟩:∃m,n=m+1:=⟨n-1,O1⟩;have e:(((m+1:Nat):Int)-1)=(m:Int):=by omega
  rw[e]at a;have a:b.getD m 0=0:=a;have j:Cm b m=Cm b b.length:=by
   rw[<-g];show _=if b.getD m 0=0 then Cm b m else m+1
   rw[At a]
  refine⟨⟨m,O1,j⟩,sc,AC [] rfl rfl ?_ ?_⟩
  .exact eN
  simp only[e];exact eN
 .have k:=AAQ n b;simp only[AP];exact⟨AA7.2 hn,by dsimp only[Ty.den]at *;omega⟩
 have i:Cm b n=n:=by
  cases n with
  | zero=>rfl
  | succ m =>
   have e:(((m+1:Nat):Int)-1)=(m:Int):=by omega
   rw[e]at c;have a:=c O1;have a:¬b.getD m 0=0:=a;show (if b.getD m 0=0 then Cm b m else m+1)=m+1;rw[An a]
 have h1:BS b=b.take n:=by unfold BS;rw[<-g,i]
 rw[<-h1];refine Cj [18] ?_;exact fI d [.tmp 2]
end
section
attribute [local go_sem] eB KQ
def A0f (w:Int) (r:Int):Bool:=Cu .and .u64 (bZ .u64 w r) 1==1
def S9 (b:List Int) (i:Int):Bool:=if (decide (i<0)||decide ((b.length:Int)<=i.tdiv 64))=true then false else A0f (b.getD (i.tdiv 64).toNat 0) (i.tmod 64)
def A0g:AZ:={ ins:=[Ba,T3],pre:=λ_=>True,out:=λ(b,i,_)=>[.p .bool (S9 b i)],lend:=true }
theorem A7y {w:Int} (h0:0<=w) (r:Int):0<=bZ .u64 w r/\bZ .u64 w r<=w:=by
 unfold bZ;have a:(0:Int)<2 ^ (min r.toNat IntKind.u64.bits):=Int.pow_pos df;rw[Int.fdiv_eq_ediv_of_nonneg _ (Int.le_of_lt a)];exact⟨Int.ediv_nonneg h0 (Int.le_of_lt a),Int.ediv_le_self _ h0⟩
theorem A0h:Ac Tryz.prog 162 A0g:=by
 refine fK [0,1,4,13] Tryz.func162 Tryz.ntmps162 AH ?_;rintro w0 O0 ⟨b,i,u⟩ d ⟨⟨m,k⟩,e,-⟩ -;have e:IR .i64 i:=e;rw[Pb]at e;have j:0<=i->Int.tdiv i 64=i / 64/\Int.tmod i 64=i % 64:=λh=>⟨ABp h,ABH h⟩;simp only[A0g,AL];repeat'(first|exact a6|apply eS rfl|refine rX d ?_ ?_|refine rC ?_ ?_<;>intro c<;>try(cases c;done))
 .intro h;have h0:0<=i:=by simpa using h
  obtain⟨a,g⟩:=j h0;rw[a];refine⟨df,?_,?_⟩<;>exact eV
 .have h1:S9 b i=false:=by
   unfold S9;rw[At];rw[tO,IN,IN];exact c
  exact fI d [.tmp 4] (by rw[h1];exact eR)
 .obtain⟨h0,l⟩:=c;obtain⟨a,g⟩:=j h0;rw[a]at l;have f:IR .u64 (b.getD (i / 64).toNat 0):=k _ (AF b 0 eV);rw[KJ]at f;have hs:=A7y f.1 (i % 64);rw[a,g];refine⟨⟨df,eV,eV⟩,⟨eV,eV⟩,⟨df,eV,eV⟩,⟨eV,eV⟩,eV,hs.1,ABB hs.2 f.2⟩
 have h1:S9 b i=A0f (b.getD (i.tdiv 64).toNat 0) (i.tmod 64):=by
  unfold S9;rw[An];rw[tO,IN,IN];rintro (h|h)<;>omega
 exact fI d [.tmp 4] (by rw[h1];unfold A0f;exact eR)
end
section
attribute [local go_sem] eB KQ
def GK (op:BinOp) (a b:List Int) (n:Nat):List Int:=(List.range n).map λi=>Cu op .u64 (a.getD i 0) (F5 b (i:Int))
theorem Ea (op:BinOp) (a b:List Int) (n:Nat):(GK op a b n).length=n:=by simp[GK]
theorem X5 (op:BinOp) (a b:List Int) (n:Nat):GK op a b (n+1)=GK op a b n++[Cu op .u64 (a.getD n 0) (F5 b (n:Int))]:=by simp[GK,AAz]
def ER (a b:List Int):List Int:=BS (GK .and a b a.length)
def A0i:AZ:={ ins:=[Ba,Ba],pre:=λ(a,_,_)=>List.length a<=100000,out:=λ(a,b,_)=>[.p Ba (ER a b)] }
theorem A0j:Ac Tryz.prog 150 A0i:=by
 refine fK [0,1,4,5,6,10] Tryz.func150 Tryz.ntmps150 (AE pI (AE M5 AH)) ?_;rintro w0 O0 ⟨a,b,u⟩ c-ha;have ha:a.length<=100000:=ha;simp only[A0i,AL];repeat'(first|exact a6|apply eS rfl|refine rX c ?_ ?_)
 refine AI (ι:={n:Nat//n<=a.length}) (λn=>⟨[(0,.p Ba a),(1,.p Ba b),(5,.sr 23 RJ 0 n.1),(6,.p (.int .i64) (n.1:Int))],[(23,.arr 205 RJ (GK .and a b n.1))]⟩) (λn=>a.length-n.1) ⟨0,Do _⟩ (AC [(23,.nil)] rfl rfl ?_ ?_) (λn=>?_)
 .refine eM ?_;rfl
 .exact eN
 obtain⟨n,hn⟩:=n;have f:=Ea .and a b n;have hs:=X5 .and a b n;simp only;repeat'(first|exact a6|apply eS rfl|apply AB|refine rX c ?_ ?_|refine rC ?_ ?_<;>intro d<;>try(cases d;done))
 .refine⟨d,?_⟩;simp only[AP];dsimp only[Ty.den]at *;omega
 .exact eV
 .have e:n<a.length:=by exact eV
  refine⟨⟨n+1,O1⟩,a2,AC [(23,.nm 23)] rfl rfl ?_ ?_⟩
  .simp only[hs];refine eM ?_;rw[BY (by rw[f];exact On _)]
  exact eN
 have e:n=a.length:=by exact eV
 subst e;refine Cj [23] ?_;have ht:(GK .and a b a.length).take a.length=GK .and a b a.length:=BY (by rw[Ea];exact On _);repeat'(first|apply eS rfl|refine rX c ?_ ?_)
 .rw[ht,Ea];exact ha
 rw[ht];exact fI c [.tmp 4] (by unfold ER;exact eR)
def RM (a b:List Int):List Int:=BS (GK .andNot a b a.length)
def k5:AZ:={ ins:=[Ba,Ba],pre:=λ(a,_,_)=>List.length a<=100000,out:=λ(a,b,_)=>[.p Ba (RM a b)] }
attribute [local go_sem] k5
theorem A0k:Ac Tryz.prog 127 k5:=by
 refine fK [0,1,4,5,6,10] Tryz.func127 Tryz.ntmps127 (AE pI (AE M5 AH)) ?_;rintro w0 O0 ⟨a,b,u⟩ c-ha;have ha:a.length<=100000:=ha;simp only[k5,AL];repeat'(first|exact a6|apply eS rfl|refine rX c ?_ ?_)
 refine AI (ι:={n:Nat//n<=a.length}) (λn=>⟨[(0,.p Ba a),(1,.p Ba b),(5,.sr 23 RJ 0 n.1),(6,.p (.int .i64) (n.1:Int))],[(23,.arr 205 RJ (GK .andNot a b n.1))]⟩) (λn=>a.length-n.1) ⟨0,Do _⟩ (AC [(23,.nil)] rfl rfl ?_ ?_) (λn=>?_)
 .refine eM ?_;rfl
 .exact eN
 obtain⟨n,hn⟩:=n;have f:=Ea .andNot a b n;have hs:=X5 .andNot a b n;simp only;repeat'(first|exact a6|apply eS rfl|apply AB|refine rX c ?_ ?_|refine rC ?_ ?_<;>intro d<;>try(cases d;done))
 .refine⟨d,?_⟩;simp only[AP];dsimp only[Ty.den]at *;omega
 .exact eV
 .have e:n<a.length:=by exact eV
  refine⟨⟨n+1,O1⟩,a2,AC [(23,.nm 23)] rfl rfl ?_ ?_⟩
  .simp only[hs];refine eM ?_;rw[BY (by rw[f];exact On _)]
  exact eN
 have e:n=a.length:=by exact eV
 subst e;refine Cj [23] ?_;have ht:(GK .andNot a b a.length).take a.length=GK .andNot a b a.length:=BY (by rw[Ea];exact On _);repeat'(first|apply eS rfl|refine rX c ?_ ?_)
 .rw[ht,Ea];exact ha
 rw[ht];exact fI c [.tmp 4] (by unfold RM;exact eR)
def Em (a b:List Int):Bool:=((RM a b).length:Int)==0
def Po:AZ:={ ins:=[Ba,Ba],pre:=λ(a,_,_)=>List.length a<=100000,out:=λ(a,b,_)=>[.p .bool (Em a b)],lend:=true }
attribute [local go_sem] Po
theorem RN:Ac Tryz.prog 79 Po:=by
 refine fK [0,1,4] Tryz.func79 Tryz.ntmps79 (AE A0k AH) ?_;rintro w0 O0 ⟨a,b,u⟩ c-ha;have ha:a.length<=100000:=ha;simp only[Po,AL];repeat'(first|exact a6|apply eS rfl|refine rX c ?_ ?_)
 .exact ha
 exact fI c [.tmp 4] (by unfold Em;exact eR)
def DM (a b:List Int):Bool:=Em a b&&Em b a
def Zm:AZ:={ ins:=[Ba,Ba],pre:=λ(a,b,_)=>List.length a<=100000/\List.length b<=100000,out:=λ(a,b,_)=>[.p .bool (DM a b)],lend:=true }
theorem t8:Ac Tryz.prog 161 Zm:=by
 refine fK [0,1,4] Tryz.func161 Tryz.ntmps161 (AE RN AH) ?_;rintro w0 O0 ⟨a,b,u⟩ c-⟨ha,d⟩;simp only[Zm,AL];repeat'(first|exact a6|apply eS rfl|refine rX c ?_ ?_)
 .exact⟨ha,λ_=>d⟩
 exact fI c [.tmp 4] (by unfold DM;exact eR)
end
section
attribute [local go_sem] A0g
def HA (a b:List Int):Bool:=decide (a=b)
def VP:AZ:={ ins:=[Ba,Ba],pre:=λ_=>True,out:=λ(a,b,_)=>[.p .bool (HA a b)],lend:=true }
theorem pJ:Ac Tryz.prog 152 VP:=by
 refine fK [0,1,4,5,10,14,25] Tryz.func152 Tryz.ntmps152 AH ?_;rintro w0 O0 ⟨a,b,u⟩ d ⟨⟨ha,-⟩,-⟩ -;simp only[AP]at ha;simp only[VP,AL];repeat'(first|exact a6|apply eS rfl|refine rX d ?_ ?_|refine rC ?_ ?_<;>intro c<;>try(cases c;done))
 .have h1:HA a b=false:=by
   unfold HA;rw[aS];rintro rfl;exact c rfl
  exact fI d [.tmp 4] (by rw[h1];exact eR)
 have f:a.length=b.length:=by
  have:(a.length:Int)=(b.length:Int):=by simpa using c
  exact Int.ofNat_inj.1 this
 refine AI (ι:={k:Nat//k<=a.length/\a.take k=b.take k}) (λk=>⟨[(0,.p Ba a),(1,.p Ba b),(5,.p (.int .i64) (k.1:Int))],[]⟩) (λk=>a.length-k.1) ⟨0,Do _,rfl⟩ (eW []) (λk=>?_)
 obtain⟨k,hk,hf⟩:=k;simp only;repeat'(first|exact a6|apply eS rfl|apply AB|refine rX d ?_ ?_|refine rC ?_ ?_<;>intro c<;>try(cases c;done))
 .exact⟨c,by rw[<-f];exact c⟩
 .have e:k<a.length:=by exact eV
  have h1:HA a b=false:=by
   unfold HA;rw[aS];rintro rfl;exact c rfl
  exact fI d [.tmp 4] (by rw[h1];exact eR)
 .exact eV
 .have e:k<a.length:=by exact eV
  have g:a.getD k 0=b.getD k 0:=by simpa using c
  refine⟨⟨k+1,O1,?_⟩,a2,AC [] rfl rfl ?_ ?_⟩
  .rw[Ay a 0 e,Ay b 0 O1,hf];rw[show a.getD k 0=b.getD k 0 from g]
  .exact eN
  exact eN
 have e:k=a.length:=by exact eV
 subst e;rw[oR,f,oR]at hf;have h1:HA a b=true:=by unfold HA;rw[hf];simp
 exact fI d [.tmp 4] (by rw[h1];exact eR)
end
section
attribute [local go_sem] A0g
def Ni (b:List Int) (n:Nat):List Int:=((List.range n).filter λ(i:Nat)=>S9 b (i:Int)).map λ(i:Nat)=>(i:Int)
def Hx (b:List Int):List Int:=Ni b (64*b.length)
theorem k6 (b:List Int) (n:Nat):Ni b (n+1)=Ni b n++if S9 b (n:Int)=true then [(n:Int)] else []:=by
 unfold Ni;rw[AAz,AC2,AAT]
 congr 1
 rw[AAO,ACj];split<;>rfl
theorem t9 (b:List Int) (n:Nat):(Ni b n).length<=n:=by
 unfold Ni;rw[Of];exact gO (ABu _ _) sc
def A0l:AZ:={ ins:=[Ba],pre:=λ(b,_)=>List.length b<=100000,out:=λ(b,_)=>[.p Bx (Hx b)] }
attribute [local go_sem] A0l
theorem A40:Ac Tryz.prog 185 A0l:=by
 refine fK [0,2,3,4,9,14] Tryz.func185 Tryz.ntmps185 (AE A0h AH) ?_;rintro w0 O0 ⟨b,u⟩ c-e;have e:b.length<=100000:=e;simp only[A0l,AL];repeat'(first|exact a6|apply eS rfl|refine rX c ?_ ?_)
 refine AI (ι:={n:Nat//n<=64*b.length}) (λn=>⟨[(0,.p Ba b),(3,.sr 18 T3 0 (Ni b n.1).length),(4,.p (.int .i64) (n.1:Int))],[(18,.arr 3 T3 (Ni b n.1))]⟩) (λn=>64*b.length-n.1) ⟨0,Do _⟩ (AC [(18,.nil)] rfl rfl ?_ ?_) (λn=>?_)
 .refine eM ?_;rfl
 .refine eM ?_;rfl
 obtain⟨n,hn⟩:=n;have f:=t9 b n;have hs:=k6 b n;simp only;repeat'(first|exact a6|apply eS rfl|apply AB|refine rX c ?_ ?_|refine rC ?_ ?_<;>intro a<;>try(cases a;done))
 .exact eV
 .rw[a,At rfl]at hs;simp only[AP];dsimp only[Ty.den]at *;omega
 .exact eV
 .have d:n<64*b.length:=by exact eV
  rw[a,At rfl]at hs;refine⟨⟨n+1,O1⟩,a2,AC [(18,.nm 18)] rfl rfl ?_ ?_⟩
  .simp only[hs];exact eN
  simp only[hs];exact eN
 .exact eV
 .have d:n<64*b.length:=by exact eV
  rw[a,An sc,AAu]at hs;refine⟨⟨n+1,O1⟩,a2,AC [(18,.nm 18)] rfl rfl ?_ ?_⟩
  .simp only[hs];exact eN
  simp only[hs];exact eN
 have d:n=64*b.length:=by exact eV
 subst d;refine Cj [18] ?_;exact fI c [.tmp 2] (by unfold Hx;exact eR)
def k7:AZ:={ ins:=[Ba],pre:=λ(b,_)=>List.length b<=100000,out:=λ(b,_)=>[.p T3 ((Hx b).length:Int)],lend:=true }
theorem A0m:Ac Tryz.prog 164 k7:=by
 refine fK [0,2] Tryz.func164 Tryz.ntmps164 (AE A40 AH) ?_;rintro w0 O0 ⟨b,u⟩ a-c;simp only[k7,AL];repeat'(first|exact a6|apply eS rfl|refine rX a ?_ ?_)
 .exact c
 exact fI a [.tmp 2]
end
section
attribute [local go_sem] JB X4
abbrev AJ:=ByteArray×List ByteArray×List (ByteArray×ByteArray)
abbrev d0:AJ:=(ByteArray.empty,[],[])
def C4 (s:ByteArray):Nat->List AJ->Int
 | _,[]=>-1
 | k,x :: l=>if AK x.1 s=true then (k:Int) else C4 s (k+1) l
def Aq (l:List AJ) (s:ByteArray):Int:=C4 s 0 l
theorem Sb (s:ByteArray) (l:List AJ) (h:k<l.length):C4 s k (l.drop k)=if AK (l.getD k d0).1 s=true then (k:Int) else C4 s (k+1) (l.drop (k+1)):=by
 rw[OR h];have e:l.getD k d0=l[k]:=by simp[AS,h]
 rw[e];rfl
def OT:AZ:={ ins:=[Ey,T9],pre:=λ_=>True,out:=λ(l,s,_)=>[.p T3 (Aq l s)] }
attribute [local go_sem] OT
theorem L7:Ac Tryz.prog 181 OT:=by
 refine fK [0,1,4,5,9,18] Tryz.func181 Tryz.ntmps181 AH ?_;rintro w0 O0 ⟨l,s,u⟩ c ⟨⟨d,-⟩,-⟩ -;simp only[AP]at d;simp only[OT,AL];repeat'(first|exact a6|apply eS rfl|refine rX c ?_ ?_)
 refine AI (ι:={k:Nat//k<=l.length/\C4 s k (l.drop k)=Aq l s}) (λk=>⟨[(0,.p Ey l),(1,.p T9 s),(5,.p (.int .i64) (k.1:Int))],[]⟩) (λk=>l.length-k.1) ⟨0,Do _,rfl⟩ (eW []) (λk=>?_)
 obtain⟨k,hk,hf⟩:=k;simp only;repeat'(first|exact a6|apply eS rfl|apply AB|refine rX c ?_ ?_|refine rC ?_ ?_<;>intro b<;>try(cases b;done))
 .exact b
 .have a:k<l.length:=by exact eV
  rw[Sb s l a,At b]at hf;exact fI c [.tmp 4] (by rw[<-hf];exact eR)
 .exact eV
 .have a:k<l.length:=by exact eV
  rw[Sb s l a,An (by rw[b];simp)]at hf;exact⟨⟨k+1,O1,hf⟩,a2,eW []⟩
 have a:l.drop k=[]:=Is eV;rw[a]at hf;exact fI c [.tmp 4] (by rw[<-hf];first|exact eR|refine KP ?_;rfl)
def L8:List AJ->Int
 | []=>0
 | x :: l=>if 256<x.2.1.length\/256<x.2.2.length then 7 else L8 l
def Ez (l:List AJ):Int:=if 256<l.length then 7 else L8 l
theorem Sc (l:List AJ) (h:k<l.length):L8 (l.drop k)=if 256<(l.getD k d0).2.1.length\/256<(l.getD k d0).2.2.length then 7 else L8 (l.drop (k+1)):=by
 rw[OR h];have e:l.getD k d0=l[k]:=by simp[AS,h]
 rw[e];rfl
def Zn:AZ:={ ins:=[Ey],pre:=λ_=>True,out:=λ(l,_)=>[.p C0 (Ez l)] }
attribute [local go_sem] Zn
theorem A0n:Ac Tryz.prog 153 Zn:=by
 refine fK [0,2,3,6,10,28] Tryz.func153 Tryz.ntmps153 AH ?_;rintro w0 O0 ⟨l,u⟩ b ⟨⟨d,-⟩,-⟩ -;simp only[AP]at d;simp only[Zn,AL];repeat'(first|exact a6|apply eS rfl|refine rX b ?_ ?_|refine rC ?_ ?_<;>intro a<;>try(cases a;done))
 .have h1:Ez l=7:=by unfold Ez;rw[At eV]
  exact fI b [.tmp 2] (by rw[h1];exact eR)
 have h1:Ez l=L8 l:=by unfold Ez;rw[An eV]
 refine AI (ι:={k:Nat//k<=l.length/\L8 (l.drop k)=Ez l}) (λk=>⟨[(0,.p Ey l),(3,.p (.int .i64) (k.1:Int))],[]⟩) (λk=>l.length-k.1) ⟨0,Do _,h1.symm⟩ (eW []) (λk=>?_)
 obtain⟨k,hk,hf⟩:=k;simp only;repeat'(first|exact a6|apply eS rfl|apply AB|refine rX b ?_ ?_|refine rC ?_ ?_<;>intro a<;>try(cases a;done))
 .exact⟨a,λ_=>a⟩
 .have c:k<l.length:=by exact eV
  rw[Sc l c,At (by
   rcases a with h|h
   .exact .inl (f4.1 h)
   exact .inr (f4.1 h))]at hf
  exact fI b [.tmp 2] (by rw[<-hf];exact eR)
 .exact eV
 .have c:k<l.length:=by exact eV
  rw[Sc l c,An (by
   rintro (h|h)
   .have:=AA7.1 a.1;exact absurd h (Nat.not_lt.2 this)
   have:=AA7.1 a.2;exact absurd h (Nat.not_lt.2 this))]at hf
  exact⟨⟨k+1,O1,hf⟩,a2,eW []⟩
 have c:l.drop k=[]:=Is eV;rw[c]at hf;exact fI b [.tmp 2] (by rw[<-hf];first|exact eR|refine KP ?_;rfl)
theorem GL {α:Type} (l:List α) (d:α) (p:α->Bool) (h:k<l.length):(l.take (k+1)).all p=((l.take k).all p&&p (l.getD k d)):=by
 rw[Ay l d h,ACk];simp
def JC (x:AJ) (done:List ByteArray):Bool:=x.2.1.all λs=>Aa done s
def Zo:AZ:={ ins:=[zA,CV],pre:=λ_=>True,out:=λ(x,l,_)=>[.p .bool (JC x l)],lend:=true }
attribute [local go_sem] Zo
theorem A0o:Ac Tryz.prog 182 Zo:=by
 refine fK [0,1,2,4,5,10,20] Tryz.func182 Tryz.ntmps182 (AE Gj AH) ?_;rintro w0 O0 ⟨⟨nm,sup,d⟩,l,u⟩ c ⟨⟨-,⟨e,-⟩,-⟩,-⟩ -;simp only[AP]at e;simp only[Zo,AL];repeat'(first|exact a6|apply eS rfl|refine rX c ?_ ?_)
 refine AI (ι:={k:Nat//k<=sup.length/\(sup.take k).all (λs=>Aa l s)=true}) (λk=>⟨[(1,.p CV l),(2,.bp 2 [] 0),(5,.p (.int .i64) (k.1:Int))],[(2,.box 65 true [.p T9 nm,.p CV sup,.p T63 d])]⟩) (λk=>sup.length-k.1) ⟨0,sc⟩ (eW [(2,.nm 2)]) (λk=>?_)
 obtain⟨k,hk,hf⟩:=k;simp only;repeat'(first|exact a6|apply eS rfl|apply AB|refine rX c ?_ ?_|refine rC ?_ ?_<;>intro b<;>try(cases b;done))
 .exact b
 .have a:k<sup.length:=by exact eV
  have h1:JC (nm,sup,d) l=false:=by
   unfold JC;refine ABh.2 λh=>?_;have:=No.1 h _ (AF sup ByteArray.empty a);rw[b]at this;cases this
  exact fI c [.tmp 4] (by rw[h1];exact eR)
 .have:=e;exact eV
 .have a:k<sup.length:=by exact eV
  refine⟨⟨k+1,O1,?_⟩,a2,AC [(2,.nm 2)] rfl rfl ?_ ?_⟩
  .rw[GL sup ByteArray.empty _ a,hf];exact b
  .exact eN
  exact eN
 have a:sup.take k=sup:=BY eV;rw[a]at hf;have h1:JC (nm,sup,d) l=true:=hf;exact fI c [.tmp 4] (by rw[h1];exact eR)
def OU (d:List AJ):Nat->List AJ->Int
 | _,[]=>0
 | k,x :: l=>if BF x.1 false=false then 1 else if Aq d x.1<(k:Int) then 4 else OU d (k+1) l
def Cq (d:List AJ):Int:=OU d 0 d
theorem L9 (d l:List AJ) (h:k<l.length):OU d k (l.drop k)=if BF (l.getD k d0).1 false=false then 1 else if Aq d (l.getD k d0).1<(k:Int) then 4 else OU d (k+1) (l.drop (k+1)):=by
 rw[OR h];have e:l.getD k d0=l[k]:=by simp[AS,h]
 rw[e];rfl
def Zp:AZ:={ ins:=[Ey],pre:=λ_=>True,out:=λ(l,_)=>[.p C0 (Cq l)] }
attribute [local go_sem] Zp
theorem A0p:Ac Tryz.prog 154 Zp:=by
 refine fK [0,2,3,7,16,25] Tryz.func154 Tryz.ntmps154 (AE Zk (AE L7 AH)) ?_;rintro w0 O0 ⟨l,u⟩ c ⟨⟨e,-⟩,-⟩ -;simp only[AP]at e;simp only[Zp,AL];repeat'(first|exact a6|apply eS rfl|refine rX c ?_ ?_)
 refine AI (ι:={k:Nat//k<=l.length/\OU l k (l.drop k)=Cq l}) (λk=>⟨[(0,.p Ey l),(3,.p (.int .i64) (k.1:Int))],[]⟩) (λk=>l.length-k.1) ⟨0,Do _,rfl⟩ (eW []) (λk=>?_)
 obtain⟨k,hk,hf⟩:=k;simp only;repeat'(first|exact a6|apply eS rfl|apply AB|refine rX c ?_ ?_|refine rC ?_ ?_<;>intro b<;>try(cases b;done))
 .exact b
 .have a:k<l.length:=by exact eV
  rw[L9 l l a,At b]at hf;exact fI c [.tmp 2] (by rw[<-hf];exact eR)
 .assumption
 .rename_i d;have a:k<l.length:=by exact eV
  rw[L9 l l a,An (by rw[d];simp),At b]at hf;exact fI c [.tmp 2] (by rw[<-hf];exact eR)
 .exact eV
 .rename_i d;have a:k<l.length:=by exact eV
  rw[L9 l l a,An (by rw[d];simp),An (AAy.2 b)]at hf;exact⟨⟨k+1,O1,hf⟩,a2,eW []⟩
 have a:l.drop k=[]:=Is eV;rw[a]at hf;exact fI c [.tmp 2] (by rw[<-hf];first|exact eR|refine KP ?_;rfl)
def TA (d:List AJ) (l:List ByteArray):Nat->List ByteArray->Int
 | _,[]=>0
 | k,x :: r=>if Aq d x<0 then 5 else if Aa (l.take k) x=true then 4 else TA d l (k+1) r
def KR (d:List AJ):List AJ->Int
 | []=>0
 | x :: l=>if TA d x.2.1 0 x.2.1≠0 then TA d x.2.1 0 x.2.1 else KR d l
def KS (d:List AJ):Int:=KR d d
theorem RP (d:List AJ) (l:List ByteArray) (h:k<l.length):TA d l k (l.drop k)=if Aq d (l.getD k ByteArray.empty)<0 then 5 else if Aa (l.take k) (l.getD k ByteArray.empty)=true then 4 else TA d l (k+1) (l.drop (k+1)):=by
 rw[OR h];have e:l.getD k ByteArray.empty=l[k]:=by simp[AS,h]
 rw[e];rfl
theorem Zq (d l:List AJ) (h:k<l.length):KR d (l.drop k)=if TA d (l.getD k d0).2.1 0 (l.getD k d0).2.1≠0 then TA d (l.getD k d0).2.1 0 (l.getD k d0).2.1 else KR d (l.drop (k+1)):=by
 rw[OR h];have e:l.getD k d0=l[k]:=by simp[AS,h]
 rw[e];rfl
def Ti:AZ:={ ins:=[Ey],pre:=λ_=>True,out:=λ(l,_)=>[.p C0 (KS l)] }
attribute [local go_sem] Ti
theorem uA:Ac Tryz.prog 155 Ti:=by
 refine fK [0,2,3,4,5,9,20,29,37] Tryz.func155 Tryz.ntmps155 (AE Gj (AE L7 AH)) ?_;rintro w0 O0 ⟨l,u⟩ d ⟨⟨h,g⟩,-⟩ -;simp only[AP]at h;simp only[Ti,AL];repeat'(first|exact a6|apply eS rfl|refine rX d ?_ ?_)
 refine AI (ι:={i:Nat//i<=l.length/\KR l (l.drop i)=KS l}) (λi=>⟨[(0,.p Ey l),(3,.p (.int .i64) (i.1:Int))],[]⟩) (λi=>l.length-i.1) ⟨0,Do _,rfl⟩ (eW []) (λi=>?_)
 obtain⟨i,hi,hf⟩:=i;simp only;repeat'(first|exact a6|apply eS rfl|refine rX d ?_ ?_|refine rC ?_ ?_<;>intro b<;>try(cases b;done))
 .exact b
 .have f:i<l.length:=by exact eV
  have j:=g _ (AF l d0 f);have m:(l.getD i d0).2.1.length<=AP:=j.2.1.1;simp only[AP]at m;rw[Zq l l f]at hf;generalize (l.getD i d0).2.1=sup at *;refine AI (ι:={k:Nat//k<=sup.length/\TA l sup k (sup.drop k)=TA l sup 0 sup}) (λk=>⟨[(0,.p Ey l),(3,.p (.int .i64) (i:Int)),(4,.p CV sup),(5,.p (.int .i64) (k.1:Int))],[]⟩) (λk=>sup.length-k.1) ⟨0,Do _,rfl⟩ (eW []) (λk=>?_)
  obtain⟨k,hk,c⟩:=k;simp only;repeat'(first|exact a6|apply eS rfl|apply AB|refine rX d ?_ ?_|refine rC ?_ ?_<;>intro b<;>try(cases b;done))
  .exact b
  .have a:k<sup.length:=by exact eV
   rw[RP l sup a,At b]at c;rw[<-c,At df]at hf;exact fI d [.tmp 2] (by rw[<-hf];exact eR)
  .exact eV
  .rename_i e;have a:k<sup.length:=by exact eV
   rw[RP l sup a,An (AAy.2 e),At b]at c;rw[<-c,At df]at hf;exact fI d [.tmp 2] (by rw[<-hf];exact eR)
  .exact eV
  .rename_i e;have a:k<sup.length:=by exact eV
   rw[RP l sup a,An (AAy.2 e),An (by rw[b];simp)]at c;exact⟨⟨k+1,O1,c⟩,a2,eW []⟩
  .exact eV
  have a:sup.drop k=[]:=Is eV;rw[a]at c;rw[<-c,An (by simp[TA])]at hf;exact⟨⟨i+1,O1,hf⟩,a2,eW []⟩
 have a:l.drop i=[]:=Is eV;rw[a]at hf;exact fI d [.tmp 2] (by rw[<-hf];first|exact eR|refine KP ?_;rfl)
end
section
attribute [local go_sem] OT Zo JB Zl
theorem Eo {α:Type} (g:X->α->X) (l:List α) (d:α) (t:X) {i:Nat} (hi:i<l.length):(l.take (i+1)).foldl g t=g ((l.take i).foldl g t) (l.getD i d):=by
 rw[Ay l d hi,ABq];rfl
theorem MA (l:List ByteArray) (s:ByteArray):(Dt l s).length<=l.length+1:=by
 unfold Dt;split
 .omega
 have:=A68 (λx=>CK x s) l;have a:W4 l s<=l.length:=this;simp only[IS,ON,ABn,nO];omega
def AN (l:List AJ):List ByteArray:=l.foldl (λo x=>Dt o x.1) []
theorem Du (l:List AJ) (k:Nat):(AN (l.take k)).length<=k:=by
 have key:∀(l:List AJ) (o:List ByteArray),(l.foldl (λo x=>Dt o x.1) o).length<=o.length+l.length:=by
  intro l;induction l with
  | nil=>intro o;simp
  | cons x l b =>
   intro o;have h1:=b (Dt o x.1);have a:=MA o x.1;simp only[OS,NO];omega
 have h1:=key (l.take k) [];have a:=AAQ k l;unfold AN;simp only[AAl]at h1;omega
def Pp:AZ:={ ins:=[Ey],pre:=λ(l,_)=>List.length l<=100000,out:=λ(l,_)=>[.p CV (AN l)] }
attribute [local go_sem] Pp
theorem X6:Ac Tryz.prog 112 Pp:=by
 refine fK [0,2,3,4,8] Tryz.func112 Tryz.ntmps112 (AE RL AH) ?_;rintro w0 O0 ⟨l,u⟩ a-d;have d:l.length<=100000:=d;simp only[Pp,AL];repeat'(first|exact a6|apply eS rfl|refine rX a ?_ ?_)
 refine AI (ι:={k:Nat//k<=l.length}) (λk=>⟨[(0,.p Ey l),(3,.p CV (AN (l.take k.1))),(4,.p (.int .i64) (k.1:Int))],[]⟩) (λk=>l.length-k.1) ⟨0,Do _⟩ (AC [] rfl rfl ?_ ?_) (λk=>?_)
 .exact eN
 .refine eM ?_;rfl
 obtain⟨k,hk⟩:=k;have hn:=Du l k;have hs:=λh:k<l.length=>Eo (λ(o:List ByteArray) (x:AJ)=>Dt o x.1) l d0 [] h;simp only;repeat'(first|exact a6|apply eS rfl|apply AB|refine rX a ?_ ?_|refine rC ?_ ?_<;>intro c<;>try(cases c;done))
 .exact⟨c,O1⟩
 .exact eV
 .have b:k<l.length:=by exact eV
  have e:=hs b;refine⟨⟨k+1,O1⟩,a2,AC [] rfl rfl ?_ ?_⟩
  .exact eN
  simp only;have e:AN (l.take (k+1))=Dt (AN (l.take k)) (l.getD k d0).1:=e;rw[e];exact eN
 have b:l.take k=l:=BY eV;rw[b];exact fI a [.tmp 2]
def Il (out:List ByteArray) (s:Bool×ByteArray) (x:AJ):Bool×ByteArray :=
 if (Aa out x.1||!JC x out)=true then s else (true,if (!s.1||CK x.1 s.2)=true then x.1 else s.2)
def Hy (d:List AJ) (out:List ByteArray):Bool×ByteArray:=d.foldl (Il out) (false,ByteArray.empty)
def Im (d:List AJ):Nat->List ByteArray->List ByteArray
 | 0,out=>out
 | n+1,out=>if (Hy d out).1=true then Im d n (out++[(Hy d out).2]) else out
def Bn (d:List AJ):List ByteArray:=Im d d.length []
def Hz (d:List AJ) (out:List ByteArray):Nat:=d.countP λx=>!Aa out x.1
theorem CD (s:ByteArray):AK s s=true:=by unfold AK;simp
theorem OV (out:List ByteArray) (s x:ByteArray):Aa (out++[s]) x=(Aa out x||AK s x):=by
 unfold Aa;simp[AC4]
theorem uB (d:List AJ) (out:List ByteArray) (h:(Hy d out).1=true):∃x∈d,x.1=(Hy d out).2/\Aa out x.1=false:=by
 have key:∀(l:List AJ) (s:Bool×ByteArray),(∀x∈l,x∈d)->(s.1=true->∃x∈d,x.1=s.2/\Aa out x.1=false)->(l.foldl (Il out) s).1=true ->
   ∃x∈d,x.1=(l.foldl (Il out) s).2/\Aa out x.1=false:=by
  intro l;induction l with
  | nil=>intro s _ hs h;exact hs h
  | cons y l i =>
   intro s e hs h;rw[OS]at h ⊢;refine i _ (λx f=>e x (by simp[f])) (λb=>?_) h;unfold Il at b ⊢;split
   .rename_i a;rw[At a]at b;exact hs b
   rename_i a;simp only;have g:Aa out y.1=false:=by
    cases hh:Aa out y.1 with
    | false=>rfl
    | true=>rw[hh]at a;simp at a
   split
   .exact⟨y,e y sc,rfl,g⟩
   rename_i c;have:s.1=true:=by
    cases hh:s.1 with
    | true=>rfl
    | false=>rw[hh]at c;simp at c
   exact hs this
 exact key d _ (λ_ h=>h) (λh=>by cases h) h
theorem eC {d:List AJ} {out:List ByteArray} (h:(Hy d out).1=true):Hz d (out++[(Hy d out).2])<Hz d out:=by
 obtain⟨x,e,h1,c⟩:=uB d out h;generalize (Hy d out).2=s at *;unfold Hz;have key:∀l:List AJ,(l.countP λy=>!Aa (out++[s]) y.1)<=l.countP λy=>!Aa out y.1:=by
  intro l;refine List.countP_mono_left λy _ a=>?_;rw[OV]at a;cases hh:Aa out y.1 with
  | false=>rfl
  | true=>rw[hh]at a;simp at a
 obtain⟨f,g,rfl⟩:=List.append_of_mem e;rw[ACO,ACO,ABI,ABI];have i:=key f;have j:=key g;have b:Aa (out++[s]) x.1=true:=by rw[OV,h1,CD,Bool.or_true]
 rw[b,c];simp only[Bool.not_true,ACs,AB1];simp only[ABc,ABi];omega
def Zr:AZ:={ ins:=[Ey],pre:=λ(l,_)=>List.length l<=100000,out:=λ(l,_)=>[.p CV (Bn l)] }
theorem uC:Ac Tryz.prog 156 Zr:=by
 refine fK [0,2,3,4,5,6,7,11,29,40,46] Tryz.func156 Tryz.ntmps156 (AE Gj (AE A0o AH)) ?_;rintro w0 O0 ⟨d,u⟩ j-r;have r:d.length<=100000:=r;simp only[Zr,AL];repeat'(first|exact a6|apply eS rfl|refine rX j ?_ ?_)
 refine AI (ι:={x:Nat×List ByteArray×Bool//x.1+x.2.1.length<=d.length/\(x.2.2=true->Hz d x.2.1<=x.1/\Im d x.1 x.2.1=Bn d)/\(x.2.2=false->x.2.1=Bn d)}) (λx=>⟨[(0,.p Ey d),(3,.sr 50 T9 0 x.1.2.1.length),(4,.p .bool x.1.2.2)],[(50,.arr 9 T9 x.1.2.1)]⟩) (λx=>(if x.1.2.2=true then x.1.1+1 else 0)) ⟨(d.length,[],true),sc,λ_=>⟨List.countP_le_length,rfl⟩,λh=>by cases h⟩ (eW [(50,.nil)]) (λx=>?_)
 obtain⟨⟨n,out,D⟩,s,t,v⟩:=x;simp only at s t v;simp only;repeat'(first|exact a6|apply eS rfl|refine rX j ?_ ?_|refine rC ?_ ?_<;>intro a<;>try(cases a;done))
 .subst a;obtain⟨hu,w⟩:=t rfl;have C:({ data:=#[] }:ByteArray).size<=AP:=by decide
  rw[At C];refine AI (ι:={y:Nat×Bool×ByteArray//y.1<=d.length/\(d.take y.1).foldl (Il out) (false,ByteArray.empty)=y.2}) (λy=>⟨[(0,.p Ey d),(3,.sr 50 T9 0 out.length),(4,.p .bool y.1.2.1),(5,.p T9 y.1.2.2),(6,.p (.int .i64) (y.1.1:Int))],[(50,.arr 9 T9 out)]⟩) (λy=>d.length-y.1.1) ⟨(0,false,ByteArray.empty),sc,rfl⟩ (AC [(50,.nm 50)] rfl rfl ?_ ?_) (λy=>?_)
  .exact eN
  .refine eM ?_;rfl
  obtain⟨⟨k,z,b⟩,hk,c⟩:=y;simp only at hk c;have q:∀h:k<d.length,(d.take (k+1)).foldl (Il out) (false,ByteArray.empty)=Il out (z,b) (d.getD k d0):=λh=>by
   rw[Eo (Il out) d d0 _ h,c]
  simp only;repeat'(first|exact a6|apply eS rfl|apply AB|refine rX j ?_ ?_|refine rC ?_ ?_<;>intro a<;>try(cases a;done))
  .exact⟨a,λ_=>a⟩
  .exact eV
  .have g:k<d.length:=by exact eV
   refine⟨⟨(k+1,z,b),a2,?_⟩,a2,AC [(50,.nm 50)] rfl rfl ?_ ?_⟩
   .simp only;rw[q g];unfold Il;rw[At];rw[tO,bY];exact a
   .exact eN
   exact eN
  .exact λ_=>by assumption
  .assumption
  .exact eV
  .rename_i f;have g:k<d.length:=by exact eV
   refine⟨⟨(k+1,true,(d.getD k d0).1),a2,?_⟩,a2,AC [(50,.nm 50)] rfl rfl ?_ ?_⟩
   .simp only;rw[q g];unfold Il;rw[An (by rw[f.1,f.2];simp),At (by rw[tO,bY];exact a)]
   .exact eN
   exact eN
  .exact eV
  .rename_i f;have g:k<d.length:=by exact eV
   refine⟨⟨(k+1,true,b),a2,?_⟩,a2,AC [(50,.nm 50)] rfl rfl ?_ ?_⟩
   .simp only;rw[q g];unfold Il;rw[An (by rw[f.1,f.2];simp),An (by rw[tO,bY];rintro (h|h)<;>simp_all)]
   .exact eN
   exact eN
  .simp only[AP];dsimp only[Ty.den]at *;omega
  .subst a;have l:d.take k=d:=BY eV;rw[l]at c;have i:Hy d out=(true,b):=c;have m:=eC (d:=d) (out:=out) (by rw[i]);rw[i]at m;obtain⟨e,rfl⟩:∃e,n=e+1:=⟨n-1,O1⟩;have o:Im d e (out++[b])=Bn d:=by
    rw[<-w];show _=if (Hy d out).1=true then Im d e (out++[(Hy d out).2]) else out
    rw[i,At rfl]
   have m:Hz d (out++[b])<Hz d out:=m;have B:Hz d (out++[b])<=e:=by omega
   exact⟨⟨(e,out++[b],true),by simp only[IS,nO];omega,λ_=>⟨B,o⟩,λh=>by cases h⟩,sc,eW [(50,.nm 50)]⟩
  subst a;have l:d.take k=d:=BY eV;rw[l]at c;have i:Hy d out=(false,b):=c;have o:out=Bn d:=by
   rw[<-w];cases n with
   | zero=>rfl
   | succ n =>
    show _=if (Hy d out).1=true then Im d n (out++[(Hy d out).2]) else out
    rw[i,An sc]
  exact⟨⟨(n,out,false),s,(λh=>by cases h),λ_=>o⟩,sc,eW [(50,.nm 50)]⟩
 subst a;have A:=v rfl;rw[A];refine Cj [50] ?_;exact fI j [.tmp 2]
end
section
attribute [local go_sem] Zn Zp Ti Zr
def H0 (d:List AJ):Nat:=d.countP λx=>x.2.1.length==0
theorem eD (d:List AJ) (h:k<d.length):H0 (d.take (k+1))=H0 (d.take k)+if ((d.getD k d0).2.1.length==0)=true then 1 else 0:=by
 unfold H0;rw[Ay d d0 h,ACO,ABI,List.countP_nil];omega
theorem uD (d:List AJ):H0 d<=d.length:=List.countP_le_length
def BA (d:List AJ):Int :=
 if Ez d≠0 then Ez d else if Cq d≠0 then Cq d else if KS d≠0 then KS d else if H0 d≠1 then 1 else if (Bn d).length<d.length then 6 else 0
theorem Sd {d:List AJ} (h:Ez d=0):d.length<=256:=by
 unfold Ez at h;split at h
 .cases h
 omega
def Tj:AZ:={ ins:=[Ey],pre:=λ_=>True,out:=λ(l,_)=>[.p C0 (BA l)] }
attribute [local go_sem] Tj
theorem uE:Ac Tryz.prog 111 Tj:=by
 refine fK [0,2,3,4,5,6,7,11,16,21,26,35,39,45] Tryz.func111 Tryz.ntmps111 (AE A0n (AE A0p (AE uA (AE uC AH)))) ?_;rintro w0 O0 ⟨d,u⟩ c - -;simp only[Tj,AL];repeat'(first|exact a6|apply eS rfl|refine rX c ?_ ?_|refine rC ?_ ?_<;>intro a<;>try(cases a;done))
 .have h1:BA d=Ez d:=by unfold BA;rw[At a]
  exact fI c [.tmp 2] (by rw[h1];exact eR)
 .rename_i hs;have hs:Ez d=0:=by simpa using hs
  have h1:BA d=Cq d:=by unfold BA;rw[An (by rw[hs];simp),At a]
  exact fI c [.tmp 2] (by rw[h1];exact eR)
 .rename_i hs hn;have hs:Ez d=0:=by simpa using hs
  have hn:Cq d=0:=by simpa using hn
  have h1:BA d=KS d:=by unfold BA;rw[An (by rw[hs];simp),An (by rw[hn];simp),At a]
  exact fI c [.tmp 2] (by rw[h1];exact eR)
 rename_i hs hn;have hs:Ez d=0:=by simpa using hs
 have hn:Cq d=0:=by simpa using hn
 have hu:KS d=0:=by simpa using a
 have i:=Sd hs;have h1:BA d=if H0 d≠1 then 1 else if (Bn d).length<d.length then 6 else 0:=by
  unfold BA;rw[An (by rw[hs];simp),An (by rw[hn];simp),An (by rw[hu];simp)]
 refine AI (ι:={k:Nat//k<=d.length}) (λk=>⟨[(0,.p Ey d),(6,.p (.int .i64) (H0 (d.take k.1):Int)),(7,.p (.int .i64) (k.1:Int))],[]⟩) (λk=>d.length-k.1) ⟨0,Do _⟩ (AC [] rfl rfl ?_ ?_) (λk=>?_)
 .exact eN
 .refine eM ?_;rfl
 obtain⟨k,hk⟩:=k;have j:=uD (d.take k);have l:=AAQ k d;have g:=λh:k<d.length=>eD d h;simp only;repeat'(first|exact a6|apply eS rfl|apply AB|refine rX c ?_ ?_|refine rC ?_ ?_<;>intro a<;>try(cases a;done))
 .exact a
 .exact eV
 .exact eV
 .have b:k<d.length:=by exact eV
  have e:=g b;rw[At (by rw[AA9];exact Int.ofNat_eq_zero.1 a)]at e;refine⟨⟨k+1,O1⟩,a2,AC [] rfl rfl ?_ ?_⟩
  .exact eN
  simp only[e];exact eN
 .exact eV
 .have b:k<d.length:=by exact eV
  have e:=g b;rw[An (by rw[AA9];exact λh=>a (Int.ofNat_eq_zero.2 h))]at e;refine⟨⟨k+1,O1⟩,a2,AC [] rfl rfl ?_ ?_⟩
  .exact eN
  simp only[e];exact eN
 .have b:d.take k=d:=BY eV;rw[b]at a;rw[At (λh=>a (by rw[h];rfl))]at h1;exact fI c [.tmp 2] (by rw[h1];exact eR)
 .show d.length<=100000;omega
 .rename_i f;have b:d.take k=d:=BY eV;rw[b]at f;have f:(H0 d:Int)=1:=by simpa using f
  rw[An O1,At (f4.1 a)]at h1;exact fI c [.tmp 2] (by rw[h1];exact eR)
 rename_i f;have b:d.take k=d:=BY eV;rw[b]at f;have f:(H0 d:Int)=1:=by simpa using f
 rw[An O1,An (λh=>absurd (AA7.1 a) (Nat.not_le.2 h))]at h1;exact fI c [.tmp 2] (by rw[h1];exact eR)
end
section
attribute [local go_sem] OT JB Zl
def Ja (o:List ByteArray) (s:ByteArray):List ByteArray:=if Aa o s=true then o else o++[s]
def MB (d:List AJ) (s:ByteArray):List ByteArray:=(d.getD (Aq d s).toNat d0).2.1
def H1 (d:List AJ):Nat->Nat->List ByteArray->List ByteArray
 | 0,_,o=>o
 | n+1,i,o=>if i<o.length then H1 d n (i+1) ((MB d (o.getD i ByteArray.empty)).foldl Ja o) else o
def Jb (l:List ByteArray):List ByteArray:=l.foldl Dt []
theorem X7 (l:List ByteArray):(Jb l).length<=l.length:=by
 have key:∀(l o:List ByteArray),(l.foldl Dt o).length<=o.length+l.length:=by
  intro l;induction l with
  | nil=>intro o;simp
  | cons x l a =>
   intro o;have h1:=a (Dt o x);have b:=MA o x;simp only[OS,NO];omega
 have:=key l [];simpa[Jb] using this
def KT (d:List AJ) (s:ByteArray):List ByteArray:=if Aq d s<0 then [] else Jb (H1 d d.length 0 [s])
def Pq (d:List AJ):Prop:=∀x∈d,∀s∈x.2.1,0<=Aq d s
theorem X8 (s:ByteArray):∀(l:List AJ) (k:Nat),C4 s k l=-1\/((k:Int)<=C4 s k l/\C4 s k l<(k:Int)+l.length/\AK (l.getD ((C4 s k l).toNat-k) d0).1 s=true)
 | [],_=>.inl rfl
 | x :: l,k=>by
  simp only[C4];split
  .rename_i h;right;refine⟨O1,by simp only[NO];omega,?_⟩;have:((k:Int).toNat-k)=0:=by omega
   rw[this];exact h
  rcases X8 s l (k+1) with h|⟨h1,b,a⟩
  .exact .inl h
  right;refine⟨O1,by simp only[NO];omega,?_⟩;have:((C4 s (k+1) l).toNat-k)=((C4 s (k+1) l).toNat-(k+1))+1:=by omega
  rw[this];exact a
theorem DN (d:List AJ) (s:ByteArray):Aq d s<0\/(0<=Aq d s/\Aq d s<(d.length:Int)/\AK (d.getD (Aq d s).toNat d0).1 s=true):=by
 rcases X8 s d 0 with h|⟨h1,a,b⟩
 .left;show C4 s 0 d<0;omega
 have a:Aq d s<((0:Nat):Int)+d.length:=a;exact .inr ⟨h1,O1,b⟩
theorem Ep {a b:ByteArray}:AK a b=true↔a.toList=b.toList:=by unfold AK;simp
theorem B0 {a b:ByteArray} (h:AK a b=true):AK b a=true:=Ep.2 (Ep.1 h).symm
theorem BP {a b c:ByteArray} (h:AK a b=true) (g:AK b c=true):AK a c=true:=Ep.2 ((Ep.1 h).trans (Ep.1 g))
structure Zs (d:List AJ) (o:List ByteArray):Prop where
 decl:∀s∈o,0<=Aq d s
 nd:o.Pairwise λa b=>AK a b=false
theorem KU (d:List AJ):∀ {o:List ByteArray},Zs d o->(o.map λs=>(Aq d s).toNat).Nodup
 | [],_=>by simp
 | s :: o,h=>by
  rw[sQ,AAA];have c:=AAv.1 h.nd;refine⟨λi=>?_,KU d ⟨λx a=>h.decl x (by simp[a]),c.2⟩⟩;obtain⟨x,a,e⟩:=GO.1 i;have h1:=h.decl s sc;have j:=h.decl x (by simp[a]);rcases DN d s with g|⟨_,_,f⟩
  .omega
  rcases DN d x with g|⟨_,_,b⟩
  .omega
  rw[e]at b;have:=c.1 x a;rw[BP (B0 f) b]at this;cases this
theorem Zs.len {d:List AJ} (h:Zs d o):o.length<=d.length:=by
 have:=DG d.length (o.map λs=>(Aq d s).toNat) (KU d h) (λj a=>by
  obtain⟨s,hs,rfl⟩:=GO.1 a;have h1:=h.decl s hs;rcases DN d s with g|⟨_,g,_⟩<;>omega)
 simpa using this
theorem Pr (h:Aa o s=false):∀x∈o,AK x s=false:=λx a=>by
 cases hh:AK x s with
 | false=>rfl
 | true=>exact absurd h (by rw[show Aa o s=true from aT.2 ⟨x,a,hh⟩];simp)
theorem pK {d:List AJ} (h:Zs d o) (hs:0<=Aq d s):Zs d (Ja o s):=by
 unfold Ja;split
 .exact h
 rename_i e;have e:Aa o s=false:=by simpa using e
 refine⟨λx c=>?_,?_⟩
 .rcases If.1 c with c|c
  .exact h.decl x c
  have:x=s:=by simpa using c
  rw[this];exact hs
 rw[ABP];refine⟨h.nd,sc,λa ha b f=>?_⟩;have:b=s:=by simpa using f
 rw[this];exact Pr e a ha
theorem eF {d:List AJ}:∀ {l o:List ByteArray},(∀s∈l,0<=Aq d s)->Zs d o->Zs d (l.foldl Ja o)/\o.length<=(l.foldl Ja o).length
 | [],o,_,h=>⟨h,On _⟩
 | s :: l,o,a,h=>by
  obtain⟨b,c⟩:=eF (l:=l) (λx e=>a x (by simp[e])) (pK h (a s sc));refine⟨b,gO ?_ c⟩;unfold Ja;split<;>simp
theorem eG {d:List AJ} (b:Pq d) (s:ByteArray):∀x∈MB d s,0<=Aq d x:=by
 intro x a;unfold MB at a;by_cases h:(Aq d s).toNat<d.length
 .exact b _ (AF d d0 h) x a
 rw[AS,oF O1]at a;cases a
def k8:AZ:={ ins:=[Ey,T9],pre:=λ(d,_,_)=>Pq d/\List.length d<=256,out:=λ(d,s,_)=>[.p CV (KT d s)] }
theorem A0q:Ac Tryz.prog 184 k8:=by
 refine fK [0,1,4,5,6,7,8,9,10,14,20,36,45,56] Tryz.func184 Tryz.ntmps184 (AE L7 (AE Gj (AE RL AH))) ?_;rintro w0 O0 ⟨d,s,u⟩ b ⟨⟨Q,G⟩,-⟩ ⟨O,z⟩;have z:d.length<=256:=z;simp only[k8,AL];repeat'(first|exact a6|apply eS rfl|refine rX b ?_ ?_|refine rC ?_ ?_<;>intro a<;>try(cases a;done))
 .have h1:KT d s=[]:=by unfold KT;rw[At a]
  exact fI b [.tmp 4] (by rw[h1];exact eR)
 have h1:KT d s=Jb (H1 d d.length 0 [s]):=by unfold KT;rw[An (AAy.2 a)]
 have F:Zs d [s]:=⟨λx y=>by
  have:x=s:=by simpa using y
  rw[this];exact a,sc⟩
 refine AI (ι:={x:Nat×List ByteArray//x.1<=x.2.length/\Zs d x.2/\H1 d (d.length-x.1) x.1 x.2=H1 d d.length 0 [s]}) (λx=>⟨[(0,.p Ey d),(1,.p T9 s),(5,.sr 16 T9 0 x.1.2.length),(6,.p (.int .i64) (x.1.1:Int))],[(16,.arr 9 T9 x.1.2)]⟩) (λx=>d.length-x.1.1) ⟨(0,[s]),sc,F,rfl⟩ (eW [(16,.nm 16)]) (λx=>?_)
 obtain⟨⟨i,o⟩,hi,c,t⟩:=x;simp only at hi c t;have U:=c.len;simp only;repeat'(first|exact a6|apply eS rfl|refine rX b ?_ ?_|refine rC ?_ ?_<;>intro a<;>try(cases a;done))
 .have q:i<o.length:=by exact eV
  have A:=c.decl _ (AF o ByteArray.empty q);refine⟨a,A,?_⟩;rcases DN d (o.getD i ByteArray.empty) with g|⟨_,g,_⟩
  .omega
  exact g
 .have q:i<o.length:=by exact eV
  have A:=c.decl _ (AF o ByteArray.empty q);have K:=eG O (o.getD i ByteArray.empty);have C:H1 d (d.length-(i+1)) (i+1) ((MB d (o.getD i ByteArray.empty)).foldl Ja o)=H1 d d.length 0 [s]:=by
   rw[<-t];obtain⟨m,B⟩:∃m,d.length-i=m+1:=⟨d.length-i-1,O1⟩;have H:d.length-(i+1)=m:=by omega
   rw[B,H];show _=if i<o.length then H1 d m (i+1) ((MB d (o.getD i ByteArray.empty)).foldl Ja o) else o
   rw[At q]
  have M:(MB d (o.getD i ByteArray.empty)).length<=AP:=by
   rcases DN d (o.getD i ByteArray.empty) with g|⟨_,g,_⟩
   .omega
   exact(G _ (AF d d0 (k:=(Aq d (o.getD i ByteArray.empty)).toNat) O1)).2.1.1
  have N:(List.getD d (Aq d (o.getD i ByteArray.empty)).toNat (ByteArray.empty,[],[])).2.1=MB d (o.getD i ByteArray.empty):=rfl;rw[N];generalize MB d (o.getD i ByteArray.empty)=sup at *;simp only[AP]at M;refine AI (ι:={k:Nat//k<=sup.length}) (λk=>⟨[(0,.p Ey d),(1,.p T9 s),(5,.sr 16 T9 0 ((sup.take k.1).foldl Ja o).length),(6,.p (.int .i64) (i:Int)),(7,.p CV sup),(8,.p (.int .i64) (k.1:Int))],[(16,.arr 9 T9 ((sup.take k.1).foldl Ja o))]⟩) (λk=>sup.length-k.1) ⟨0,Do _⟩ (AC [(16,.nm 16)] rfl rfl ?_ ?_) (λk=>?_)
  .refine eM ?_;rfl
  .refine eM ?_;rfl
  obtain⟨k,hk⟩:=k;have w:=eF (l:=sup.take k) (o:=o) (λx y=>K x (AAw y)) c;have S:=w.1.len;have E:=λh:k<sup.length=>Eo Ja sup ByteArray.empty o h;simp only;generalize D:(sup.take k).foldl Ja o=n at *;repeat'(first|exact a6|apply eS rfl|apply AB|refine rX b ?_ ?_|refine rC ?_ ?_<;>intro a<;>try(cases a;done))
  .exact a
  .refine⟨eV,?_⟩;simp only[AP];dsimp only[Ty.den]at *;omega
  .exact eV
  .have f:k<sup.length:=by exact eV
   have e:=E f;have r:Ja n (sup.getD k ByteArray.empty)=n++[sup.getD k ByteArray.empty]:=by unfold Ja;rw[An (by rw[a];simp)]
   rw[r]at e;refine⟨⟨k+1,O1⟩,a2,AC [(16,.nm 16)] rfl rfl ?_ ?_⟩
   .simp only[e];exact eN
   simp only[e];exact eN
  .exact eV
  .have f:k<sup.length:=by exact eV
   have e:=E f;have r:Ja n (sup.getD k ByteArray.empty)=n:=by unfold Ja;rw[At a]
   rw[r]at e;refine⟨⟨k+1,O1⟩,a2,AC [(16,.nm 16)] rfl rfl ?_ ?_⟩
   .simp only[e];exact eN
   simp only[e];exact eN
  .exact eV
  have f:sup.take k=sup:=BY eV;rw[f]at D;rw[D]at C;have J:=w.1;have T:=w.2;exact⟨⟨(i+1,n),a2,J,C⟩,a2,eW [(16,.nm 16)]⟩
 have I:o=H1 d d.length 0 [s]:=by
  rw[<-t];cases B:d.length-i with
  | zero=>rfl
  | succ m =>
   show _=if i<o.length then _ else o
   rw[An eV]
 rw[<-I]at h1;refine AI (ι:={j:Nat//j<=o.length}) (λj=>⟨[(0,.p Ey d),(5,.sr 16 T9 0 o.length),(9,.p CV ((o.take j.1).foldl Dt [])),(10,.p (.int .i64) (j.1:Int))],[(16,.arr 9 T9 o)]⟩) (λj=>o.length-j.1) ⟨0,Do _⟩ (AC [(16,.nm 16)] rfl rfl ?_ ?_) (λj=>?_)
 .exact eN
 .refine eM ?_;rfl
 obtain⟨j,R⟩:=j;have L:=λh:j<o.length=>Eo Dt o ByteArray.empty [] h;simp only;repeat'(first|exact a6|apply eS rfl|apply AB|refine rX b ?_ ?_|refine rC ?_ ?_<;>intro a<;>try(cases a;done))
 .refine⟨a,?_⟩;have:=X7 (o.take j);have P:=AAQ j o;unfold Jb at this;dsimp only[Ty.den]at *;omega
 .exact eV
 .have v:j<o.length:=by exact eV
  have e:=L v;refine⟨⟨j+1,O1⟩,a2,AC [(16,.nm 16)] rfl rfl ?_ ?_⟩
  .exact eN
  simp only[e];exact eN
 have v:o.take j=o:=BY eV;rw[v];exact fI b [.tmp 4] (by rw[h1];unfold Jb;exact eR)
end
section
attribute [local go_sem] OT JB Zl
def E8 (s:ByteArray) (o:List ByteArray) (x:AJ):List ByteArray:=if (Aa x.2.1 s&&!Aa o x.1)=true then o++[x.1] else o
def Cr (d:List AJ):Nat->Nat->List ByteArray->List ByteArray
 | 0,_,o=>o
 | n+1,i,o=>if i<o.length then Cr d n (i+1) (d.foldl (E8 (o.getD i ByteArray.empty)) o) else o
def Cs (d:List AJ) (s:ByteArray):List ByteArray:=if Aq d s<0 then [] else Jb (Cr d d.length 0 [s])
theorem VQ (s:ByteArray):∀(l:List AJ) (k:Nat) (x:AJ),x∈l->AK x.1 s=true->0<=C4 s k l
 | y :: l,k,x,a,h=>by
  simp only[C4];split
  .omega
  rename_i b;rcases By.1 a with rfl|a
  .exact absurd h b
  exact VQ s l (k+1) x a h
theorem DU {d:List AJ} {x:AJ} (a:x∈d):0<=Aq d x.1:=VQ x.1 d 0 x a (CD _)
theorem A41 {d:List AJ} (h:Zs d o) (s:ByteArray) {x:AJ} (b:x∈d):Zs d (E8 s o x):=by
 unfold E8;split
 .rename_i a;rw[AT,bY]at a;have:=pK h (DU b);unfold Ja at this
  rwa [An (by rw[a.2];simp)]at this
 exact h
theorem VR {d:List AJ} (s:ByteArray):∀ {l:List AJ} {o:List ByteArray},(∀x∈l,x∈d)->Zs d o->Zs d (l.foldl (E8 s) o)/\o.length<=(l.foldl (E8 s) o).length
 | [],o,_,h=>⟨h,On _⟩
 | x :: l,o,a,h=>by
  obtain⟨b,c⟩:=VR s (l:=l) (λy e=>a y (by simp[e])) (A41 h s (a x sc));refine⟨b,gO ?_ c⟩;unfold E8;split<;>simp
theorem RQ (s:ByteArray) {i:Nat}:∀ {l:List AJ} {o:List ByteArray},i<o.length->(l.foldl (E8 s) o).getD i ByteArray.empty=o.getD i ByteArray.empty
 | [],_,_=>rfl
 | x :: l,o,h=>by
  have a:i<(E8 s o x).length/\(E8 s o x).getD i ByteArray.empty=o.getD i ByteArray.empty:=by
   unfold E8;split
   .refine⟨by rw[IS];omega,?_⟩;simp only[AS];rw[AAm h]
   exact⟨h,rfl⟩
  rw[OS,RQ s a.1,a.2]
def Zt:AZ:={ ins:=[Ey,T9],pre:=λ(d,_,_)=>List.length d<=256,out:=λ(d,s,_)=>[.p CV (Cs d s)] }
attribute [local go_sem] Zt
theorem A0r:Ac Tryz.prog 157 Zt:=by
 refine fK [0,1,4,5,6,7,8,9,13,19,25,47,59] Tryz.func157 Tryz.ntmps157 (AE L7 (AE Gj (AE RL AH))) ?_;rintro w0 O0 ⟨d,s,u⟩ b-y;have y:d.length<=256:=y;simp only[Zt,AL];repeat'(first|exact a6|apply eS rfl|refine rX b ?_ ?_|refine rC ?_ ?_<;>intro a<;>try(cases a;done))
 .have h1:Cs d s=[]:=by unfold Cs;rw[At a]
  exact fI b [.tmp 4] (by rw[h1];exact eR)
 have h1:Cs d s=Jb (Cr d d.length 0 [s]):=by unfold Cs;rw[An (AAy.2 a)]
 have F:Zs d [s]:=⟨λx v=>by
  have:x=s:=by simpa using v
  rw[this];exact a,sc⟩
 refine AI (ι:={x:Nat×List ByteArray//x.1<=x.2.length/\Zs d x.2/\Cr d (d.length-x.1) x.1 x.2=Cr d d.length 0 [s]}) (λx=>⟨[(0,.p Ey d),(5,.sr 15 T9 0 x.1.2.length),(6,.p (.int .i64) (x.1.1:Int))],[(15,.arr 9 T9 x.1.2)]⟩) (λx=>d.length-x.1.1) ⟨(0,[s]),sc,F,rfl⟩ (eW [(15,.nm 15)]) (λx=>?_)
 obtain⟨⟨i,o⟩,hi,q,r⟩:=x;simp only at hi q r;have P:=q.len;simp only;repeat'(first|exact a6|apply eS rfl|refine rX b ?_ ?_|refine rC ?_ ?_<;>intro a<;>try(cases a;done))
 .have z:i<o.length:=by exact eV
  have B:Cr d (d.length-(i+1)) (i+1) (d.foldl (E8 (o.getD i ByteArray.empty)) o)=Cr d d.length 0 [s]:=by
   rw[<-r];obtain⟨m,A⟩:∃m,d.length-i=m+1:=⟨d.length-i-1,O1⟩;have G:d.length-(i+1)=m:=by omega
   rw[A,G];show _=if i<o.length then Cr d m (i+1) (d.foldl (E8 (o.getD i ByteArray.empty)) o) else o
   rw[At z]
  refine AI (ι:={k:Nat//k<=d.length}) (λk=>⟨[(0,.p Ey d),(5,.sr 15 T9 0 ((d.take k.1).foldl (E8 (o.getD i ByteArray.empty)) o).length),(6,.p (.int .i64) (i:Int)),(7,.p (.int .i64) (k.1:Int))],[(15,.arr 9 T9 ((d.take k.1).foldl (E8 (o.getD i ByteArray.empty)) o))]⟩) (λk=>d.length-k.1) ⟨0,Do _⟩ (AC [(15,.nm 15)] rfl rfl ?_ ?_) (λk=>?_)
  .refine eM ?_;rfl
  .refine eM ?_;rfl
  obtain⟨k,hk⟩:=k;have g:=VR (o.getD i ByteArray.empty) (l:=d.take k) (o:=o) (λx v=>AAw v) q;have N:=g.1.len;have E:=λh:k<d.length=>Eo (E8 (o.getD i ByteArray.empty)) d d0 o h;have D:((d.take k).foldl (E8 (o.getD i ByteArray.empty)) o).getD i ByteArray.empty=o.getD i ByteArray.empty:=RQ _ z;simp only;generalize C:(d.take k).foldl (E8 (o.getD i ByteArray.empty)) o=f at *;repeat'(first|exact a6|apply eS rfl|apply AB|refine rX b ?_ ?_|refine rC ?_ ?_<;>intro a<;>try(cases a;done))
  .have M:=g.2;refine⟨a,?_,λ_=>a⟩;dsimp only[Ty.den]at *;omega
  .refine⟨a4,?_⟩;simp only[AP];dsimp only[Ty.den]at *;omega
  .exact eV
  .have c:k<d.length:=by exact eV
   have e:=E c;rw[D]at a;have n:E8 (o.getD i ByteArray.empty) f (d.getD k d0)=f++[(d.getD k d0).1]:=by
    unfold E8;rw[At (by rw[AT,bY];exact a)]
   rw[n]at e;refine⟨⟨k+1,O1⟩,a2,AC [(15,.nm 15)] rfl rfl ?_ ?_⟩
   .simp only[e];exact eN
   simp only[e];exact eN
  .exact eV
  .have c:k<d.length:=by exact eV
   have e:=E c;rw[D]at a;have n:E8 (o.getD i ByteArray.empty) f (d.getD k d0)=f:=by
    unfold E8;rw[An];rw[AT,bY];rintro⟨h1,w⟩;rw[a h1]at w;cases w
   rw[n]at e;refine⟨⟨k+1,O1⟩,a2,AC [(15,.nm 15)] rfl rfl ?_ ?_⟩
   .simp only[e];exact eN
   simp only[e];exact eN
  .exact eV
  have c:d.take k=d:=BY eV;rw[c]at C;rw[C]at B;have I:=g.1;have O:=g.2;exact⟨⟨(i+1,f),a2,I,B⟩,a2,eW [(15,.nm 15)]⟩
 have H:o=Cr d d.length 0 [s]:=by
  rw[<-r];cases A:d.length-i with
  | zero=>rfl
  | succ m =>
   show _=if i<o.length then _ else o
   rw[An eV]
 rw[<-H]at h1;refine AI (ι:={j:Nat//j<=o.length}) (λj=>⟨[(0,.p Ey d),(5,.sr 15 T9 0 o.length),(8,.p CV ((o.take j.1).foldl Dt [])),(9,.p (.int .i64) (j.1:Int))],[(15,.arr 9 T9 o)]⟩) (λj=>o.length-j.1) ⟨0,Do _⟩ (AC [(15,.nm 15)] rfl rfl ?_ ?_) (λj=>?_)
 .exact eN
 .refine eM ?_;rfl
 obtain⟨j,L⟩:=j;have J:=λh:j<o.length=>Eo Dt o ByteArray.empty [] h;simp only;repeat'(first|exact a6|apply eS rfl|apply AB|refine rX b ?_ ?_|refine rC ?_ ?_<;>intro a<;>try(cases a;done))
 .refine⟨a,?_⟩;have:=X7 (o.take j);have K:=AAQ j o;unfold Jb at this;dsimp only[Ty.den]at *;omega
 .exact eV
 .have t:j<o.length:=by exact eV
  have e:=J t;refine⟨⟨j+1,O1⟩,a2,AC [(15,.nm 15)] rfl rfl ?_ ?_⟩
  .exact eN
  simp only[e];exact eN
 have t:o.take j=o:=BY eV;rw[t];exact fI b [.tmp 4] (by rw[h1];unfold Jb;exact eR)
end
section
attribute [local go_sem] OT Zl k8 JB
def E9 (d:List AJ) (o:List ByteArray) (x:ByteArray):List ByteArray:=if 0<=Aq d x then Dt o x else o
def Bi (d:List AJ) (l:List ByteArray):List ByteArray:=l.foldl (E9 d) []
theorem JD (d:List AJ) (l:List ByteArray):(Bi d l).length<=l.length:=by
 have key:∀(l o:List ByteArray),(l.foldl (E9 d) o).length<=o.length+l.length:=by
  intro l;induction l with
  | nil=>intro o;simp
  | cons x l a =>
   intro o;have h1:=a (E9 d o x);have b:(E9 d o x).length<=o.length+1:=by
    unfold E9;split
    .exact MA o x
    omega
   simp only[OS,NO];omega
 have:=key l [];simpa[Bi] using this
def RR:AZ:={ ins:=[Ey,CV],pre:=λ(_,l,_)=>List.length l<=100000,out:=λ(d,l,_)=>[.p CV (Bi d l)] }
attribute [local go_sem] RR
theorem eH:Ac Tryz.prog 183 RR:=by
 refine fK [0,1,4,5,6,10,19] Tryz.func183 Tryz.ntmps183 (AE L7 (AE RL AH)) ?_;rintro w0 O0 ⟨d,l,u⟩ c-f;have f:l.length<=100000:=f;simp only[RR,AL];repeat'(first|exact a6|apply eS rfl|refine rX c ?_ ?_)
 refine AI (ι:={k:Nat//k<=l.length}) (λk=>⟨[(0,.p Ey d),(1,.p CV l),(5,.p CV (Bi d (l.take k.1))),(6,.p (.int .i64) (k.1:Int))],[]⟩) (λk=>l.length-k.1) ⟨0,Do _⟩ (AC [] rfl rfl ?_ ?_) (λk=>?_)
 .exact eN
 .refine eM ?_;rfl
 obtain⟨k,hk⟩:=k;have hn:=JD d (l.take k);have g:=AAQ k l;have hs:=λh:k<l.length=>Eo (E9 d) l ByteArray.empty [] h;simp only;repeat'(first|exact a6|apply eS rfl|apply AB|refine rX c ?_ ?_|refine rC ?_ ?_<;>intro b<;>try(cases b;done))
 .exact b
 .exact⟨a4,O1⟩
 .exact eV
 .have a:k<l.length:=by exact eV
  have e:Bi d (l.take (k+1))=E9 d (Bi d (l.take k)) (l.getD k ByteArray.empty):=hs a;unfold E9 at e;rw[At b]at e;refine⟨⟨k+1,O1⟩,a2,AC [] rfl rfl ?_ ?_⟩
  .exact eN
  simp only[e];exact eN
 .exact eV
 .have a:k<l.length:=by exact eV
  have e:Bi d (l.take (k+1))=E9 d (Bi d (l.take k)) (l.getD k ByteArray.empty):=hs a;unfold E9 at e;rw[An (ACC.2 b)]at e;refine⟨⟨k+1,O1⟩,a2,AC [] rfl rfl ?_ ?_⟩
  .exact eN
  simp only[e];exact eN
 have a:l.take k=l:=BY eV;rw[a];exact fI c [.tmp 4]
def pL (d:List AJ) (all:List ByteArray) (i:Nat) (k:Nat):Bool:=(k:Int)==(i:Int)||!Aa (KT d (all.getD i ByteArray.empty)) (all.getD k ByteArray.empty)
def Ps (d:List AJ) (all:List ByteArray) (i n:Nat):Bool:=(List.range n).all (pL d all i)
def Pt (d:List AJ) (all:List ByteArray) (n:Nat):List ByteArray:=((List.range n).filter λi=>Ps d all i all.length).map λi=>all.getD i ByteArray.empty
def A7 (d:List AJ) (l:List ByteArray):List ByteArray:=Pt d (Bi d l) (Bi d l).length
theorem uF (d:List AJ) (all:List ByteArray) (n:Nat):Pt d all (n+1)=Pt d all n++if Ps d all n all.length=true then [all.getD n ByteArray.empty] else []:=by
 unfold Pt;rw[AAz,AC2,AAT]
 congr 1
 rw[AAO,ACj];split<;>rfl
theorem eI (d:List AJ) (all:List ByteArray) (n:Nat):(Pt d all n).length<=n:=by
 unfold Pt;rw[Of];exact gO (ABu _ _) sc
theorem k9 (d:List AJ) (all:List ByteArray) (i n:Nat):Ps d all i (n+1)=(Ps d all i n&&pL d all i n):=by
 unfold Ps;rw[AAz,ACk];simp
def MC:AZ:={ ins:=[Ey,CV],pre:=λ(d,l,_)=>Pq d/\List.length d<=256/\List.length l<=100000,out:=λ(d,l,_)=>[.p CV (A7 d l)] }
attribute [local go_sem] MC
theorem VS:Ac Tryz.prog 163 MC:=by
 refine fK [0,1,4,5,6,7,8,9,10,17,29,47] Tryz.func163 Tryz.ntmps163 (AE eH (AE A0q (AE Gj AH))) ?_;rintro w0 O0 ⟨d,l,u⟩ c-⟨n,f,g⟩;have f:d.length<=256:=f;have g:l.length<=100000:=g;have m:A7 d l=Pt d (Bi d l) (Bi d l).length:=rfl;have o:=JD d l;simp only[MC,AL];repeat'(first|exact a6|apply eS rfl|refine rX c ?_ ?_)
 .exact g
 rw[m];generalize Bi d l=all at *;refine AI (ι:={i:Nat//i<=all.length}) (λi=>⟨[(0,.p Ey d),(5,.sr 54 T9 0 (Pt d all i.1).length),(6,.p CV all),(7,.p (.int .i64) (i.1:Int))],[(54,.arr 9 T9 (Pt d all i.1))]⟩) (λi=>all.length-i.1) ⟨0,Do _⟩ (AC [(54,.nil)] rfl rfl ?_ ?_) (λi=>?_)
 .refine eM ?_;rfl
 .refine eM ?_;rfl
 obtain⟨i,hi⟩:=i;have q:=eI d all i;have b:=uF d all i;simp only;repeat'(first|exact a6|apply eS rfl|refine rX c ?_ ?_|refine rC ?_ ?_<;>intro a<;>try(cases a;done))
 .exact⟨a,n,f⟩
 .have h:i<all.length:=by exact eV
  refine AI (ι:={k:Nat//k<=all.length}) (λk=>⟨[(0,.p Ey d),(5,.sr 54 T9 0 (Pt d all i).length),(6,.p CV all),(7,.p (.int .i64) (i:Int)),(8,.p CV (KT d (all.getD i ByteArray.empty))),(9,.p .bool (Ps d all i k.1)),(10,.p (.int .i64) (k.1:Int))],[(54,.arr 9 T9 (Pt d all i))]⟩) (λk=>all.length-k.1) ⟨0,Do _⟩ (AC [(54,.nm 54)] rfl rfl ?_ ?_) (λk=>?_)
  .exact eN
  .refine eM ?_;rfl
  obtain⟨k,hk⟩:=k;have j:=k9 d all i k;simp only;repeat'(first|exact a6|apply eS rfl|apply AB|refine rX c ?_ ?_|refine rC ?_ ?_<;>intro a<;>try(cases a;done))
  .exact λ_=>a
  .exact eV
  .have e:k<all.length:=by exact eV
   refine⟨⟨k+1,O1⟩,a2,AC [(54,.nm 54)] rfl rfl ?_ ?_⟩
   .exact eN
   simp only[j];unfold pL;exact eN
  .refine⟨a4,?_⟩;simp only[AP];omega
  .exact eV
  .have e:k=all.length:=by exact eV
   subst e;rw[a,At rfl]at b;refine⟨⟨i+1,O1⟩,a2,AC [(54,.nm 54)] rfl rfl ?_ ?_⟩
   .simp only[b];exact eN
   simp only[b];exact eN
  .exact eV
  have e:k=all.length:=by exact eV
  subst e;rw[a,An sc,AAu]at b;refine⟨⟨i+1,O1⟩,a2,AC [(54,.nm 54)] rfl rfl ?_ ?_⟩
  .simp only[b];exact eN
  simp only[b];exact eN
 have h:i=all.length:=by exact eV
 subst h;refine Cj [54] ?_;exact fI c [.tmp 4]
end
section
attribute [local go_sem] KQ
def uG (b:List Int) (x:Int):List Int:=b.set (x.tdiv 64).toNat (Cu .or .u64 (b.getD (x.tdiv 64).toNat 0) (ZD .u64 1 (x.tmod 64)))
def wV (l:List Int):List Int:=l.foldl uG (List.replicate 64 0)
def okB (x:Int):Bool:=!(decide (x<0)||decide (4095<x))
def ofF (l:List Int):List Int×Int:=if l.all okB=true then (BS (wV l),0) else ([],2)
theorem Pu (l:List Int):(wV l).length=64:=by
 have key:∀(l b:List Int),(l.foldl uG b).length=b.length:=by
  intro l;induction l with
  | nil=>intro b;rfl
  | cons x l a =>
   intro b;rw[OS,a];simp[uG]
 unfold wV;rw[key];simp
def ofS:AZ:={ ins:=[Bx],pre:=λ_=>True,out:=λ(l,_)=>[.p Ba (ofF l).1,.p C0 (ofF l).2] }
theorem A9H:Ac Tryz.prog 159 ofS:=by
 refine fK [0,2,3,4,5,10,24] Tryz.func159 Tryz.ntmps159 (AE M5 AH) ?_;rintro w0 O0 ⟨l,u⟩ c ⟨⟨g,-⟩,-⟩ -;simp only[AP]at g;simp only[ofS,AL];repeat'(first|exact a6|apply eS rfl|refine rX c ?_ ?_)
 .simp only[AP];omega
 refine AI (ι:={k:Nat//k<=l.length/\(l.take k).all okB=true}) (λk=>⟨[(0,.p Bx l),(4,.sr 6 RJ 0 (wV (l.take k.1)).length),(5,.p (.int .i64) (k.1:Int))],[(6,.arr 205 RJ (wV (l.take k.1)))]⟩) (λk=>l.length-k.1) ⟨0,Do _,rfl⟩ (AC [(6,.nm 6)] rfl rfl ?_ ?_) (λk=>?_)
 .refine eM ?_;rfl
 .refine eM ?_;rfl
 obtain⟨k,hk,hf⟩:=k;have i:=Pu (l.take k);have hs:∀h:k<l.length,wV (l.take (k+1))=uG (wV (l.take k)) (l.getD k 0):=λh=>Eo uG l 0 _ h;simp only;repeat'(first|exact a6|apply eS rfl|apply AB|refine rX c ?_ ?_|refine rC ?_ ?_<;>intro a<;>try(cases a;done))
 .exact⟨a,λ_=>a⟩
 .have b:k<l.length:=by exact eV
  have h1:ofF l=([],2):=by
   unfold ofF;rw[An];intro h;have:=No.1 h _ (AF l 0 b);unfold okB at this;rw[bY,AAb,aS,aS]at this;rcases a with h|h
   .exact this.1 h
   exact this.2 h
  exact fI c [.tmp 2,.tmp 3] (by rw[h1];exact eR)
 .obtain⟨h0,h1⟩:=a;have d:Int.tdiv (l.getD k 0) 64=l.getD k 0 / 64:=ABp h0;have f:Int.tmod (l.getD k 0) 64=l.getD k 0 % 64:=ABH h0;rw[d,f,i];refine⟨?_,⟨df,?_,?_⟩,?_,⟨df,?_,?_⟩,⟨?_,?_⟩,?_,⟨df,?_,?_⟩,⟨?_,?_⟩,?_,?_,?_⟩<;>exact eV
 .exact eV
 .have b:k<l.length:=by exact eV
  have e:=hs b;refine⟨⟨k+1,O1,?_⟩,a2,AC [(6,.nm 6)] rfl rfl ?_ ?_⟩
  .rw[GL l 0 _ b,hf,ABZ];unfold okB;rw[bY,AAb,aS,aS];exact⟨AAy.2 a.1,AAy.2 a.2⟩
  .simp only[e];refine eM ?_;rfl
  simp only[e];refine eM ?_;rw[<-e,Pu,Pu]
 have b:l.take k=l:=BY eV;rw[b]at hf ⊢;have h1:ofF l=(BS (wV l),0):=by unfold ofF;rw[At hf]
 have j:=Pu l;refine Cj [6] ?_;repeat'(first|apply eS rfl|refine rX c ?_ ?_)
 .rw[j];decide
 exact fI c [.tmp 2,.tmp 3] (by rw[h1];exact eR)
end
section
attribute [local go_sem] VP Po
def lA (l:List (List Int)) (b:List Int):Bool:=l.any λx=>HA x b
def A7z:AZ:={ ins:=[S8,Ba],pre:=λ_=>True,out:=λ(l,b,_)=>[.p .bool (lA l b)],lend:=true }
theorem A7A:Ac Tryz.prog 160 A7z:=by
 refine fK [0,1,4,5,9,17] Tryz.func160 Tryz.ntmps160 (AE pJ AH) ?_;rintro w0 O0 ⟨l,n,u⟩ a ⟨⟨e,-⟩,-⟩ -;simp only[AP]at e;simp only[A7z,AL];repeat'(first|exact a6|apply eS rfl|refine rX a ?_ ?_)
 refine AI (ι:={k:Nat//k<=l.length/\(l.take k).any (λx=>HA x n)=false}) (λk=>⟨[(0,.p S8 l),(1,.p Ba n),(5,.p (.int .i64) (k.1:Int))],[]⟩) (λk=>l.length-k.1) ⟨0,sc⟩ (eW []) (λk=>?_)
 obtain⟨k,hk,c⟩:=k;repeat'(first|exact a6|apply eS rfl|apply AB|refine rX a ?_ ?_|refine rC ?_ ?_<;>intro b<;>try(cases b;done))
 .exact eV
 .have d:k<l.length:=by exact eV
  have h1:lA l n=true:=Ik l [] _ d b;exact fI a [.tmp 4] (by rw[h1];exact eR)
 .exact eV
 .have d:k<l.length:=by exact eV
  refine⟨⟨k+1,eV,?_⟩,by simp only;exact eV,AC [] rfl rfl ?_ ?_⟩
  .rw[M4 l [] _ d,c];exact b
  .exact eN
  exact eN
 have hk:l.take k=l:=BY eV;rw[hk]at c;have h1:lA l n=false:=c;exact fI a [.tmp 4] (by rw[h1];exact eR)
abbrev AR:=ByteArray×List Int
abbrev c0:AR:=(ByteArray.empty,[])
def K6 (l:List AR) (i j:Int):Bool:=Em (l.getD j.toNat c0).2 (l.getD i.toNat c0).2
def pM:AZ:={ ins:=[JZ,T3,T3],pre:=λ(l,i,j,_)=>((0:Int)<=i/\i<(List.length l:Int))/\((0:Int)<=j/\j<(List.length l:Int))/\(∀x∈(l:List AR),x.2.length<=100000),out:=λ(l,i,j,_)=>[.p .bool (K6 l i j)],lend:=true }
theorem pO:Ac Tryz.prog 117 pM:=by
 refine fK [0,1,2,6] Tryz.func117 Tryz.ntmps117 (AE RN AH) ?_;rintro w0 O0 ⟨l,i,j,u⟩ a-⟨hi,b,c⟩;simp only[pM,AL];repeat'(first|exact a6|apply eS rfl|refine rX a ?_ ?_)
 .exact⟨b,hi,c _ (AF (l:List AR) c0 eV)⟩
 exact fI a [.tmp 6] (by unfold K6;exact eR)
end
section
attribute [local go_sem] VP
def KV (s:ByteArray):Nat->List AR->Int
 | _,[]=>-1
 | k,x :: l=>if AK x.1 s=true then (k:Int) else KV s (k+1) l
def BN (l:List AR) (s:ByteArray):Int:=KV s 0 l
theorem X9 (s:ByteArray) (l:List AR) (h:k<l.length):KV s k (l.drop k)=if AK (l.getD k c0).1 s=true then (k:Int) else KV s (k+1) (l.drop (k+1)):=by
 rw[OR h];have e:l.getD k c0=l[k]:=by simp[AS,h]
 rw[e];rfl
def Tk:AZ:={ ins:=[JZ,T9],pre:=λ_=>True,out:=λ(l,s,_)=>[.p T3 (BN l s)],lend:=true }
theorem YA:Ac Tryz.prog 119 Tk:=by
 refine fK [0,1,4,5,9,18] Tryz.func119 Tryz.ntmps119 AH ?_;rintro w0 O0 ⟨l,s,u⟩ c ⟨⟨d,-⟩,-⟩ -;simp only[AP]at d;simp only[Tk,AL];repeat'(first|exact a6|apply eS rfl|refine rX c ?_ ?_)
 refine AI (ι:={k:Nat//k<=l.length/\KV s k (l.drop k)=BN l s}) (λk=>⟨[(0,.p JZ l),(1,.p T9 s),(5,.p (.int .i64) (k.1:Int))],[]⟩) (λk=>l.length-k.1) ⟨0,Do _,rfl⟩ (eW []) (λk=>?_)
 obtain⟨k,hk,hf⟩:=k;simp only;repeat'(first|exact a6|apply eS rfl|apply AB|refine rX c ?_ ?_|refine rC ?_ ?_<;>intro b<;>try(cases b;done))
 .exact b
 .have a:k<l.length:=by exact eV
  rw[X9 s l a,At b]at hf;exact fI c [.tmp 4] (by rw[<-hf];exact eR)
 .exact eV
 .have a:k<l.length:=by exact eV
  rw[X9 s l a,An (by rw[b];simp)]at hf;exact⟨⟨k+1,O1,hf⟩,a2,eW []⟩
 have a:l.drop k=[]:=Is eV;rw[a]at hf;exact fI c [.tmp 4] (by rw[<-hf];first|exact eR|refine KP ?_;rfl)
end
section
attribute [local go_sem] VP KQ
def Pv (s:List Int):Nat->List AR->Int
 | _,[]=>-1
 | k,x :: l=>if HA x.2 s=true then (k:Int) else Pv s (k+1) l
def G2 (l:List AR) (b:List Int):Int:=Pv (BS b) 0 l
theorem VT (s:List Int) (l:List AR) (h:k<l.length):Pv s k (l.drop k)=if HA (l.getD k c0).2 s=true then (k:Int) else Pv s (k+1) (l.drop (k+1)):=by
 rw[OR h];have e:l.getD k c0=l[k]:=by simp[AS,h]
 rw[e];rfl
def lB:AZ:={ ins:=[JZ,Ba],pre:=λ(_,b,_)=>List.length b<=100000,out:=λ(l,b,_)=>[.p T3 (G2 l b)],lend:=true }
theorem A0s:Ac Tryz.prog 110 lB:=by
 refine fK [0,1,4,5,6,12,21] Tryz.func110 Tryz.ntmps110 (AE M5 (AE pJ AH)) ?_;rintro w0 O0 ⟨l,b,u⟩ d ⟨⟨g,-⟩,-⟩ e;simp only[AP]at g;simp only[lB,AL];repeat'(first|exact a6|apply eS rfl|refine rX d ?_ ?_)
 .exact e
 have f:G2 l b=Pv (BS b) 0 l:=rfl;rw[f];generalize BS b=s at *;refine AI (ι:={k:Nat//k<=l.length/\Pv s k (l.drop k)=Pv s 0 l}) (λk=>⟨[(0,.p JZ l),(5,.p Ba s),(6,.p (.int .i64) (k.1:Int))],[]⟩) (λk=>l.length-k.1) ⟨0,Do _,rfl⟩ (eW []) (λk=>?_)
 obtain⟨k,hk,hf⟩:=k;simp only;repeat'(first|exact a6|apply eS rfl|apply AB|refine rX d ?_ ?_|refine rC ?_ ?_<;>intro c<;>try(cases c;done))
 .exact c
 .have a:k<l.length:=by exact eV
  rw[VT s l a,At c]at hf;exact fI d [.tmp 4] (by rw[<-hf];exact eR)
 .exact eV
 .have a:k<l.length:=by exact eV
  rw[VT s l a,An (by rw[c];simp)]at hf;exact⟨⟨k+1,O1,hf⟩,a2,eW []⟩
 have a:l.drop k=[]:=Is eV;rw[a]at hf;exact fI d [.tmp 4] (by rw[<-hf];first|exact eR|refine KP ?_;rfl)
end
section
attribute [local go_sem] VP
def eJ (s:ByteArray):List (ByteArray×ByteArray)->ByteArray×Bool
 | []=>(ByteArray.empty,false)
 | x :: l=>if AK x.1 s=true then (x.2,true) else eJ s l
def DD (x:AJ) (s:ByteArray):ByteArray×Bool:=eJ s x.2.2
theorem YB (s:ByteArray) (l:List (ByteArray×ByteArray)) (h:k<l.length):eJ s (l.drop k)=if AK (l.getD k (ByteArray.empty,ByteArray.empty)).1 s=true then ((l.getD k (ByteArray.empty,ByteArray.empty)).2,true) else eJ s (l.drop (k+1)):=by
 rw[OR h];have e:l.getD k (ByteArray.empty,ByteArray.empty)=l[k]:=by simp[AS,h]
 rw[e];rfl
def Zu:AZ:={ ins:=[zA,T9],pre:=λ_=>True,out:=λ(x,s,_)=>[.p T9 (DD x s).1,.p .bool (DD x s).2],lend:=true }
theorem eK:Ac Tryz.prog 149 Zu:=by
 refine fK [0,1,2,4,5,6,11,21] Tryz.func149 Tryz.ntmps149 AH ?_;rintro w0 O0 ⟨⟨nm,sup,a⟩,s,u⟩ d ⟨⟨-,-,f,-⟩,-⟩ -;simp only[AP]at f;simp only[Zu,AL];repeat'(first|exact a6|apply eS rfl|refine rX d ?_ ?_)
 have e:({ data:=#[] }:ByteArray).size<=AP:=by decide
 rw[At e];refine AI (ι:={k:Nat//k<=a.length/\eJ s (a.drop k)=DD (nm,sup,a) s}) (λk=>⟨[(1,.p T9 s),(2,.bp 2 [] 0),(6,.p (.int .i64) (k.1:Int))],[(2,.box 65 true [.p T9 nm,.p CV sup,.p T63 a])]⟩) (λk=>a.length-k.1) ⟨0,Do _,rfl⟩ (eW [(2,.nm 2)]) (λk=>?_)
 obtain⟨k,hk,hf⟩:=k;simp only;repeat'(first|exact a6|apply eS rfl|apply AB|refine rX d ?_ ?_|refine rC ?_ ?_<;>intro c<;>try(cases c;done))
 .exact c
 .assumption
 .have b:k<a.length:=by exact eV
  rw[YB s a b,At c]at hf;exact fI d [.tmp 4,.tmp 5] (by rw[<-hf];exact eR)
 .exact eV
 .have b:k<a.length:=by exact eV
  rw[YB s a b,An (by rw[c];simp)]at hf;exact⟨⟨k+1,O1,hf⟩,a2,eW [(2,.nm 2)]⟩
 have b:a.drop k=[]:=Is eV;rw[b]at hf;rw[At e];exact fI d [.tmp 4,.tmp 5] (by rw[<-hf];first|exact eR|refine KP ?_;exact⟨rfl,rfl⟩)
end
section
attribute [local go_sem] k7
def Fy (a b:AR):Bool:=decide (((Hx b.2).length:Int)<((Hx a.2).length:Int))||((Hx a.2).length:Int)==((Hx b.2).length:Int)&&CK a.1 b.1
def Zv:AZ:={ ins:=[Zi,Zi],pre:=λ(a,b,_)=>List.length (a:AR).2<=100000/\List.length (b:AR).2<=100000,out:=λ(a,b,_)=>[.p .bool (Fy a b)],lend:=true }
theorem uH:Ac Tryz.prog 116 Zv:=by
 refine fK [0,1,2,3,4,5,6] Tryz.func116 Tryz.ntmps116 (AE A0m AH) ?_;rintro w0 O0 ⟨⟨c,ac⟩,⟨e,d⟩,u⟩ a-⟨ha,b⟩;simp only[Zv,AL];repeat'(first|exact a6|apply eS rfl|refine rX a ?_ ?_)
 .exact ha
 .exact b
 exact fI a [.tmp 4] (by unfold Fy;exact eR)
end
section
attribute [local go_sem] Zt JB ofS
def OW (low all:List ByteArray) (n:Nat):List Int:=((List.range n).filter λ(i:Nat)=>Aa low (all.getD i ByteArray.empty)).map λ(i:Nat)=>(i:Int)
theorem uI (low all:List ByteArray) (n:Nat):OW low all (n+1)=OW low all n++if Aa low (all.getD n ByteArray.empty)=true then [(n:Int)] else []:=by
 unfold OW;rw[AAz,AC2,AAT]
 congr 1
 rw[AAO,ACj];split<;>rfl
theorem A0t (low all:List ByteArray) (n:Nat):(OW low all n).length<=n:=by
 unfold OW;rw[Of];exact gO (ABu _ _) sc
def Eb (d:List AJ) (all:List ByteArray) (s:ByteArray):List Int:=(ofF (OW (Cs d s) all all.length)).1
def A0u:AZ:={ ins:=[Ey,CV,T9],pre:=λ(d,l,_,_)=>List.length d<=256/\List.length l<=100000,out:=λ(d,l,s,_)=>[.p Ba (Eb d l s)] }
theorem A43:Ac Tryz.prog 113 A0u:=by
 refine fK [0,1,2,6,7,8,9,10,18,26] Tryz.func113 Tryz.ntmps113 (AE A0r (AE Gj (AE A9H AH))) ?_;rintro w0 O0 ⟨d,l,s,u⟩ b-⟨g,e⟩;have e:l.length<=100000:=e;have f:Eb d l s=(ofF (OW (Cs d s) l l.length)).1:=rfl;simp only[A0u,AL];repeat'(first|exact a6|apply eS rfl|refine rX b ?_ ?_)
 .exact g
 rw[f];generalize Cs d s=low at *;refine AI (ι:={n:Nat//n<=l.length}) (λn=>⟨[(0,.p Ey d),(1,.p CV l),(2,.p T9 s),(7,.p CV low),(8,.sr 30 T3 0 (OW low l n.1).length),(9,.p (.int .i64) (n.1:Int))],[(30,.arr 3 T3 (OW low l n.1))]⟩) (λn=>l.length-n.1) ⟨0,Do _⟩ (AC [(30,.nil)] rfl rfl ?_ ?_) (λn=>?_)
 .refine eM ?_;rfl
 .refine eM ?_;rfl
 obtain⟨n,hn⟩:=n;have h:=A0t low l n;have hs:=uI low l n;simp only;repeat'(first|exact a6|apply eS rfl|apply AB|refine rX b ?_ ?_|refine rC ?_ ?_<;>intro a<;>try(cases a;done))
 .exact a
 .rw[a,At rfl]at hs;simp only[AP];dsimp only[Ty.den]at *;omega
 .exact eV
 .have c:n<l.length:=by exact eV
  rw[a,At rfl]at hs;refine⟨⟨n+1,O1⟩,a2,AC [(30,.nm 30)] rfl rfl ?_ ?_⟩
  .simp only[hs];exact eN
  simp only[hs];exact eN
 .exact eV
 .have c:n<l.length:=by exact eV
  rw[a,An sc,AAu]at hs;refine⟨⟨n+1,O1⟩,a2,AC [(30,.nm 30)] rfl rfl ?_ ?_⟩
  .simp only[hs];exact eN
  simp only[hs];exact eN
 have c:n=l.length:=by exact eV
 subst c;refine Cj [30] ?_;repeat'(first|exact a6|apply eS rfl|refine rX b ?_ ?_)
 exact fI b [.tmp 6]
end
section
attribute [local go_sem] Zl
def Jc (o:List ByteArray) (f:ByteArray×ByteArray):List ByteArray:=Dt o f.1
def JE (o:List ByteArray) (x:AJ):List ByteArray:=x.2.2.foldl Jc o
def BM (d:List AJ):List ByteArray:=d.foldl JE []
theorem YC (l:List (ByteArray×ByteArray)):∀o:List ByteArray,(l.foldl Jc o).length<=o.length+l.length:=by
 induction l with
 | nil=>intro o;simp
 | cons x l a =>
  intro o;have h1:=a (Jc o x);have b:(Jc o x).length<=o.length+1:=MA o x.1;simp only[OS,NO];omega
theorem lC {d:List AJ} (h:∀x∈d,x.2.2.length<=256):∀(l:List AJ),(∀x∈l,x∈d)->∀o:List ByteArray,(l.foldl JE o).length<=o.length+256*l.length:=by
 intro l;induction l with
 | nil=>intro _ o;simp
 | cons x l c =>
  intro a o;have h1:=c (λy b=>a y (by simp[b])) (JE o x);have e:=YC x.2.2 o;have f:=h x (a x sc);have g:(JE o x).length=(x.2.2.foldl Jc o).length:=rfl;simp only[OS,NO];omega
def VU:AZ:={ ins:=[Ey],pre:=λ(d,_)=>List.length d<=256/\(∀x∈(d:List AJ),x.2.2.length<=256),out:=λ(d,_)=>[.p CV (BM d)] }
theorem VV:Ac Tryz.prog 108 VU:=by
 refine fK [0,2,3,4,5,9,19] Tryz.func108 Tryz.ntmps108 (AE RL AH) ?_;rintro w0 O0 ⟨d,u⟩ c-⟨f,m⟩;have f:d.length<=256:=f;simp only[VU,AL];repeat'(first|exact a6|apply eS rfl|refine rX c ?_ ?_)
 refine AI (ι:={i:Nat//i<=d.length}) (λi=>⟨[(0,.p Ey d),(3,.p CV (BM (d.take i.1))),(4,.p (.int .i64) (i.1:Int))],[]⟩) (λi=>d.length-i.1) ⟨0,Do _⟩ (AC [] rfl rfl ?_ ?_) (λi=>?_)
 .exact eN
 .refine eM ?_;rfl
 obtain⟨i,hi⟩:=i;have l:=lC m (d.take i) (λx h=>AAw h) [];have t:=AAQ i d;have hs:=λh:i<d.length=>Eo JE d d0 [] h;have g:∀e,BM e=e.foldl JE []:=λ_=>rfl;simp only;repeat'(first|exact a6|apply eS rfl|refine rX c ?_ ?_|refine rC ?_ ?_<;>intro a<;>try(cases a;done))
 .have j:i<d.length:=by exact eV
  have v:=m _ (AF d d0 j);have hs:=hs j;rw[<-g,<-g]at hs;rw[<-g]at l;generalize BM (d.take i)=o at *;refine AI (ι:={k:Nat//k<=(d.getD i d0).2.2.length}) (λk=>⟨[(0,.p Ey d),(3,.p CV (((d.getD i d0).2.2.take k.1).foldl Jc o)),(4,.p (.int .i64) (i:Int)),(5,.p (.int .i64) (k.1:Int))],[]⟩) (λk=>(d.getD i d0).2.2.length-k.1) ⟨0,Do _⟩ (AC [] rfl rfl ?_ ?_) (λk=>?_)
  .exact eN
  .refine eM ?_;rfl
  obtain⟨k,hk⟩:=k;have r:k<=(d.getD i d0).2.2.length:=hk;have q:=YC ((d.getD i d0).2.2.take k) o;have s:=AAQ k (d.getD i d0).2.2;have n:=λh:k<(d.getD i d0).2.2.length=>Eo Jc (d.getD i d0).2.2 (ByteArray.empty,ByteArray.empty) o h;simp only;repeat'(first|apply eS rfl|apply AB|refine rX c ?_ ?_|refine rC ?_ ?_<;>intro a<;>try(cases a;done))
  .assumption
  .refine⟨a4,a,?_⟩;simp only[AAl]at l;dsimp only[Ty.den]at *;omega
  .have h1:(k:Int)<((d.getD i d0).2.2.length:Int):=a;exact eV
  .have b:k<(d.getD i d0).2.2.length:=f4.1 a;have e:=n b;refine⟨⟨k+1,b⟩,a2,AC [] rfl rfl ?_ ?_⟩
   .exact eN
   simp only[e];unfold Jc;exact eN
  .have:=f;exact eV
  have b:(d.getD i d0).2.2.take k=(d.getD i d0).2.2:=BY (AA7.1 a);have e:BM (d.take (i+1))=((d.getD i d0).2.2.take k).foldl Jc o:=by rw[b];exact hs
  refine⟨⟨i+1,j⟩,a2,AC [] rfl rfl ?_ ?_⟩
  .exact eN
  simp only[e];exact eN
 have b:d.take i=d:=BY eV;rw[b];exact fI c [.tmp 2]
end
theorem YD {d:List AJ} {l:List ByteArray}:∀ {r:List ByteArray} {k:Nat},TA d l k r=0->∀s∈r,0<=Aq d s
 | [],_,_,s,hs=>by cases hs
 | x :: r,k,h,s,hs=>by
  simp only[TA]at h;split at h
  .cases h
  rename_i h1;split at h
  .cases h
  rcases By.1 hs with rfl|hs
  .omega
  exact YD h s hs
theorem Pw {d:List AJ}:∀ {l:List AJ},KR d l=0->∀x∈l,∀s∈x.2.1,0<=Aq d s
 | [],_,x,a=>by cases a
 | y :: l,h,x,a=>by
  simp only[KR]at h;split at h
  .rename_i h1;exact absurd h h1
  rename_i h1;rcases By.1 a with rfl|a
  .exact YD (DO h1)
  exact Pw h x a
theorem A0v {d:List AJ} (h:KS d=0):Pq d:=Pw h
theorem A2 {d:List AJ} (h:BA d=0):Pq d/\d.length<=256/\H0 d=1/\Cq d=0/\d.length<=(Bn d).length:=by
 unfold BA at h;split at h
 .rename_i h1;exact absurd h h1
 rename_i h1;split at h
 .rename_i a;exact absurd h a
 rename_i a;split at h
 .rename_i b;exact absurd h b
 rename_i b;split at h
 .cases h
 rename_i c;split at h
 .cases h
 rename_i e;exact⟨A0v (DO b),Sd (DO h1),DO c,DO a,O1⟩
section
attribute [local go_sem] A7z A0i
def GM (l:List (List Int)) (i k:Nat):List (List Int) :=
 if (decide (0<((ER (l.getD i []) (l.getD k [])).length:Int))&&!lA l (ER (l.getD i []) (l.getD k [])))=true then l++[ER (l.getD i []) (l.getD k [])] else l
def GN (i:Nat):Nat->Nat->List (List Int)->List (List Int)
 | 0,_,l=>l
 | n+1,k,l=>if l.length<=256 then GN i n (k+1) (GM l i k) else l
def H2:Nat->Nat->List (List Int)->List (List Int)
 | 0,_,l=>l
 | n+1,i,l=>if i<l.length/\l.length<=256 then H2 n (i+1) (GN i i 0 l) else l
def A0 (c:List (List Int)):List (List Int):=H2 257 0 c
theorem eL (a b:List Int):(ER a b).length<=a.length:=by
 unfold ER BS;have:=Ea .and a b a.length;rw[ON];omega
structure A69 (l:List (List Int)):Prop where
 len:l.length<=257
 wid:∀c∈l,c.length<=64
theorem MD (h:∀c∈l,c.length<=64) (k:Nat):(l.getD k []).length<=64:=by
 rw[AS];cases hh:l[k]? with
 | none=>simp
 | some x=>exact h x (AAM hh)
theorem eO (h:∀c∈l,c.length<=64) (i k:Nat):∀c∈GM l i k,c.length<=64:=by
 unfold GM;split
 .intro c a;rcases If.1 a with a|a
  .exact h c a
  have:c=ER (l.getD i []) (l.getD k []):=by simpa using a
  rw[this];exact gO (eL _ _) (MD h i)
 exact h
theorem A0w (l:List (List Int)) (i k:Nat):l.length<=(GM l i k).length/\(GM l i k).length<=l.length+1:=by
 unfold GM;split
 .simp
 exact⟨On _,Nat.le_succ _⟩
def Zw:AZ:={ ins:=[S8],pre:=λ(c,_)=>List.length c<=256/\∀x∈(c:List (List Int)),x.length<=64,out:=λ(c,_)=>[.p S8 (A0 c)] }
theorem uJ:Ac Tryz.prog 114 Zw:=by
 refine fK [0,2,3,4,5,6,18,28,48] Tryz.func114 Tryz.ntmps114 (AE A0j (AE A7A AH)) ?_;rintro w0 O0 ⟨c,u⟩ d-⟨n,t⟩;have n:c.length<=256:=n;simp only[Zw,AL];repeat'(first|exact a6|apply eS rfl|refine rX d ?_ ?_)
 .simp only[AP];dsimp only[Ty.den]at *;omega
 refine AI (ι:={x:Nat×List (List Int)//x.1<=256/\A69 x.2/\H2 (257-x.1) x.1 x.2=A0 c}) (λx=>⟨[(3,.sr 7 Ba 0 x.1.2.length),(4,.p (.int .i64) (x.1.1:Int))],[(7,.arr 111 Ba x.1.2)]⟩) (λx=>257-x.1.1) ⟨(0,c),sc,⟨a2,t⟩,rfl⟩ (eW [(7,.nm 7)]) (λx=>?_)
 obtain⟨⟨i,l⟩,hi,⟨q,s⟩,f⟩:=x;simp only at hi q s f;simp only;repeat'(first|exact a6|apply eS rfl|refine rX d ?_ ?_|refine rC ?_ ?_<;>intro a<;>try(cases a;done))
 .have w:i<l.length:=by omega
  have z:l.length<=256:=by omega
  have o:H2 (256-i) (i+1) (GN i i 0 l)=A0 c:=by
   have e:257-i=(256-i)+1:=by omega
   rw[<-f,e];show _=if i<l.length/\l.length<=256 then H2 (256-i) (i+1) (GN i i 0 l) else l
   rw[At ⟨w,z⟩]
  refine AI (ι:={y:Nat×List (List Int)//y.1<=i/\A69 y.2/\l.length<=y.2.length/\GN i (i-y.1) y.1 y.2=GN i i 0 l}) (λy=>⟨[(3,.sr 7 Ba 0 y.1.2.length),(4,.p (.int .i64) (i:Int)),(5,.p (.int .i64) (y.1.1:Int))],[(7,.arr 111 Ba y.1.2)]⟩) (λy=>i-y.1.1) ⟨(0,l),sc,⟨q,s⟩,On _,rfl⟩ (eW [(7,.nm 7)]) (λy=>?_)
  obtain⟨⟨k,m⟩,hk,⟨g,b⟩,r,hf⟩:=y;simp only at hk g b r hf;simp only;repeat'(first|exact a6|apply eS rfl|apply AB|refine rX d ?_ ?_|refine rC ?_ ?_<;>intro a<;>try(cases a;done))
  .exact⟨eV,eV,gO (MD b i) df⟩
  .simp only[AP];omega
  .omega
  .have e:GM m i k=m++[ER (m.getD i []) (m.getD k [])]:=by
    unfold GM;rw[At];rw[AT,IN,bY];exact a
   have C:=eO b i k;have D:=A0w m i k;refine⟨⟨(k+1,GM m i k),a2,⟨a2,C⟩,a2,?_⟩,a2,AC [(7,.nm 7)] rfl rfl ?_ ?_⟩
   .simp only;rw[<-hf,show i-k=(i-(k+1))+1 by omega];show _=if m.length<=256 then GN i (i-(k+1)) (k+1) (GM m i k) else m
    rw[At O1]
   .simp only[e];exact eN
   simp only[e];exact eN
  .omega
  .have e:GM m i k=m:=by
    unfold GM;rw[An];rw[AT,IN,bY];intro h;rw[a h.1]at h;exact absurd h.2 sc
   refine⟨⟨(k+1,m),a2,⟨g,b⟩,r,?_⟩,a2,AC [(7,.nm 7)] rfl rfl ?_ ?_⟩
   .simp only;rw[<-hf,show i-k=(i-(k+1))+1 by omega];show _=if m.length<=256 then GN i (i-(k+1)) (k+1) (GM m i k) else m
    rw[At O1,e]
   .exact eN
   exact eN
  .omega
  have B:m=GN i i 0 l:=by
   rw[<-hf];cases A:i-k with
   | zero=>rfl
   | succ j =>
    show _=if m.length<=256 then _ else m
    rw[An O1]
  rw[<-B]at o;refine⟨⟨(i+1,m),a2,⟨g,b⟩,?_⟩,a2,AC [(7,.nm 7)] rfl rfl ?_ ?_⟩
  .simp only;rw[show 257-(i+1)=256-i by omega];exact o
  .exact eN
  exact eN
 have v:l=A0 c:=by
  rw[<-f];cases A:257-i with
  | zero=>rfl
  | succ m =>
   show _=if i<l.length/\l.length<=256 then _ else l
   rw[An O1]
 rw[<-v];refine Cj [7] ?_;exact fI d [.tmp 2]
theorem LP {α:Type} (x y:α):(if ({ data:=#[] }:ByteArray).size<=AP then x else y)=x:=At (by show 0<=AP;decide)
theorem LK {α:Type} (a:UInt8) (x y:α):(if ({ data:=#[a] }:ByteArray).size<=AP then x else y)=x:=At (by show 1<=AP;decide)
theorem cs2 {α:Type} (a b:UInt8) (x y:α):(if ({ data:=#[a,b] }:ByteArray).size<=AP then x else y)=x:=At (by show 2<=AP;decide)
theorem Nj {α:Type} (a b c:UInt8) (x y:α):(if ({ data:=#[a,b,c] }:ByteArray).size<=AP then x else y)=x:=At (by show 3<=AP;decide)
theorem KW {α:Type} (a b c d:UInt8) (x y:α):(if ({ data:=#[a,b,c,d] }:ByteArray).size<=AP then x else y)=x:=At (by show 4<=AP;decide)
theorem JH {α:Type} (a b c d e:UInt8) (x y:α):(if ({ data:=#[a,b,c,d,e] }:ByteArray).size<=AP then x else y)=x:=At (by show 5<=AP;decide)
theorem OX {α:Type} (a b c d e f:UInt8) (x y:α):(if ({ data:=#[a,b,c,d,e,f] }:ByteArray).size<=AP then x else y)=x:=At (by show 6<=AP;decide)
theorem cs7 {α:Type} (a b c d e f g:UInt8) (x y:α):(if ({ data:=#[a,b,c,d,e,f,g] }:ByteArray).size<=AP then x else y)=x:=At (by show 7<=AP;decide)
theorem cs8 {α:Type} (a b c d e f g h:UInt8) (x y:α):(if ({ data:=#[a,b,c,d,e,f,g,h] }:ByteArray).size<=AP then x else y)=x:=At (by show 8<=AP;decide)
end
section
attribute [local go_sem] LK
abbrev Px:=ByteArray×Int
abbrev GX:=ByteArray×Int×List Px
abbrev NR:=Int×Int
abbrev CQ:=Int×Int×List ByteArray×List GX×List NR
abbrev e0D:GX:=(ByteArray.empty,0,[])
theorem FH {α:Type} (f:α->X) (l:List α) (d:α) (h:k<l.length):(l.take (k+1)).map f=(l.take k).map f++[f (l.getD k d)]:=by
 rw[Ay l d h];simp
theorem tk2 {α:Type} (A B:List α) (x y:α):(A++B++[x]).take (A.length+B.length+1)++[y]=A++(B++[x]++[y]):=by
 rw[BY (by simp only[IS,NO,AAl];omega)];simp
def D5 (n:Int):Nat->List Int->Int
 | _,[]=>-1
 | k,x :: r=>if x=n then (k:Int) else D5 n (k+1) r
def Ec (l:List Int) (n:Int):Int:=D5 n 0 l
theorem A0x (n:Int) (l:List Int) (h:k<l.length):D5 n k (l.drop k)=if l.getD k 0=n then (k:Int) else D5 n (k+1) (l.drop (k+1)):=by
 rw[OR h];have e:l.getD k 0=l[k]:=by simp[AS,h]
 rw[e];rfl
def Jd:AZ:={ ins:=[Bx,T3],pre:=λ_=>True,out:=λ(l,n,_)=>[.p T3 (Ec l n)],lend:=true }
attribute [local go_sem] Jd
theorem OY:Ac Tryz.prog 90 Jd:=by
 refine fK [0,1,4,5,9,17] Tryz.func90 Tryz.ntmps90 AH ?_;rintro w0 O0 ⟨l,n,u⟩ d ⟨⟨f,-⟩,-⟩ -;simp only[AP]at f;simp only[Jd,AL];repeat'(first|exact a6|apply eS rfl|apply AB|refine rX d ?_ ?_|refine rC ?_ ?_<;>intro a<;>try(cases a;done))
 refine AI (ι:={k:Nat//k<=l.length/\D5 n k (l.drop k)=Ec l n}) (λk=>⟨[(0,.p Bx l),(1,.p T3 n),(5,.p (.int .i64) (k.1:Int))],[]⟩) (λk=>l.length-k.1) ⟨0,Do _,rfl⟩ (eW []) (λk=>?_)
 obtain⟨k,hk,b⟩:=k;have e:=λh:k<l.length=>A0x n l h;simp only;repeat'(first|exact a6|apply eS rfl|apply AB|refine rX d ?_ ?_|refine rC ?_ ?_<;>intro a<;>try(cases a;done))
 .exact a
 .have c:k<l.length:=by exact eV
  rw[e c,At a]at b;exact fI d [.tmp 4] (by rw[<-b];exact eR)
 .omega
 .have c:k<l.length:=by exact eV
  rw[e c,An a]at b;exact⟨⟨k+1,O1,b⟩,a2,eW []⟩
 have c:l.drop k=[]:=Is eV;rw[c]at b;exact fI d [.tmp 4] (by rw[<-b];first|exact eR|refine KP ?_;rfl)
def VW (s:ByteArray):Bool:=AK s ⟨#[104]⟩||AK s ⟨#[101]⟩||AK s ⟨#[120]⟩||AK s ⟨#[105]⟩
def Je:AZ:={ ins:=[T9],pre:=λ_=>True,out:=λ(s,_)=>[.p .bool (VW s)] }
attribute [local go_sem] Je
theorem Se:Ac Tryz.prog 102 Je:=by
 refine fK [0,2] Tryz.func102 Tryz.ntmps102 AH ?_;rintro w0 O0 ⟨s,u⟩ a - -;simp only[Je,AL];repeat'(first|exact a6|apply eS rfl|apply AB|refine rX a ?_ ?_|refine rC ?_ ?_<;>intro b<;>try(cases b;done))
 exact fI a [.tmp 2] (by first|exact eR|refine KP ?_;rfl)
def LL (e:GX):List Int:=e.2.1 :: e.2.2.map (·.2)
def E0 (q:NR):List Int:=[q.1,q.2]
def BG (m:CQ):List Int:=[m.1,m.2.1]++m.2.2.2.1.flatMap LL++m.2.2.2.2.flatMap E0
def ME (m:CQ):Prop:=True/\m.2.2.2.1.length<=200000/\(∀e∈m.2.2.2.1,e.2.2.length<=100000)/\m.2.2.2.2.length<=200000
theorem Io {α b:Type} (f:α->List b) (B:Nat):∀l:List α,(∀e∈l,(f e).length<=B)->(l.flatMap f).length<=l.length*B
 | [],_=>by simp
 | x :: l,h=>by
  have h1:=h x jB;have c:=Io f B l λe a=>h e (IF _ a);simp only[ABU,IS,NO,ACp];omega
def A44:AZ:={ ins:=[dZ],pre:=λ(m,_)=>ME m,out:=λ(m,_)=>[.p Bx (BG m)] }
attribute [local go_sem] A44
def jD (tp ix:Int) (a:List GX) (i:Nat):List Int:=[tp,ix]++(a.take i).flatMap LL
theorem A0y (tp ix:Int) (a:List GX) {i:Nat} (h:i<a.length):jD tp ix a (i+1)=jD tp ix a i++[(a.getD i e0D).2.1]++(a.getD i e0D).2.2.map (·.2):=by
 unfold jD;rw[Ay a e0D h,ABG];simp[LL]
theorem pP {tp ix:Int} {a:List GX} (h1:a.length<=200000) (b:∀e∈a,e.2.2.length<=100000) (i:Nat):(jD tp ix a i).length<=20000200002:=by
 have:=Io LL 100001 (a.take i) λe d=>by
  have:=b e (AAw d);simp only[LL,NO,Of];omega
 have c:(a.take i).length<=200000:=by simp only[ON];omega
 have f:=AA6 100001 c;simp only[jD,IS,NO,AAl];omega
theorem A0z:Ac Tryz.prog 104 A44:=by
 refine fK [0,1,2,3,4,5,6,16,36,56] Tryz.func104 Tryz.ntmps104 AH ?_;rintro w0 O0 ⟨⟨tp,ix,m,a,cs⟩,u⟩ d-⟨-,h1,f,n⟩;have h1:a.length<=200000:=h1;have f:∀e∈a,e.2.2.length<=100000:=f;have n:cs.length<=200000:=n;have v:=pP (tp:=tp) (ix:=ix) h1 f;simp only[A44,AL];repeat'(first|exact a6|apply eS rfl|apply AB|refine rX d ?_ ?_|refine rC ?_ ?_<;>intro c<;>try(cases c;done))
 refine AI (ι:={i:Nat//i<=a.length}) (λi=>⟨[(1,.bp 1 [] 0),(3,.sr 11 T3 0 (jD tp ix a i.1).length),(4,.p (.int .i64) (i.1:Int))],[(11,.arr 3 T3 (jD tp ix a i.1)),(1,.box 41 true [.p T3 tp,.p T3 ix,.p CV m,.p Jy a,.p LO cs])]⟩) (λi=>a.length-i.1) ⟨0,Do _⟩ (AC [(1,.nm 1),(11,.nm 11)] rfl rfl ?_ ?_) (λi=>?_)
 .first|exact eN|refine eM ?_
  rfl
 .first|exact eN|refine eM ?_
  rfl
 obtain⟨i,hi⟩:=i;have A:=v i;have l:=λh:i<a.length=>A0y tp ix a h;simp only;repeat'(first|exact a6|apply eS rfl|apply AB|refine rX d ?_ ?_|refine rC ?_ ?_<;>intro c<;>try(cases c;done))
 .refine⟨c,?_⟩;simp only[AP];omega
 .have g:i<a.length:=by exact eV
  have l:=l g;have y:(a.getD i (ByteArray.empty,0,[])).2.2.length<=100000:=f _ (AF a e0D g);refine AI (ι:={k:Nat//k<=(a.getD i (ByteArray.empty,0,[])).2.2.length}) (λk=>⟨[(1,.bp 1 [] 0),(3,.sr 11 T3 0 (jD tp ix a i++[(a.getD i (ByteArray.empty,0,[])).2.1]++((a.getD i (ByteArray.empty,0,[])).2.2.take k.1).map (·.2)).length),(4,.p (.int .i64) (i:Int)),(5,.p (.int .i64) (k.1:Int))],[(11,.arr 3 T3 (jD tp ix a i++[(a.getD i (ByteArray.empty,0,[])).2.1]++((a.getD i (ByteArray.empty,0,[])).2.2.take k.1).map (·.2))),(1,.box 41 true [.p T3 tp,.p T3 ix,.p CV m,.p Jy a,.p LO cs])]⟩) (λk=>(a.getD i (ByteArray.empty,0,[])).2.2.length-k.1) ⟨0,Do _⟩ (AC [(1,.nm 1),(11,.nm 11)] rfl rfl ?_ ?_) (λk=>?_)
  .first|exact eN|refine eM ?_
  .first|exact eN|refine eM ?_
  obtain⟨k,hk⟩:=k;simp only;repeat'(first|exact a6|apply eS rfl|apply AB|refine rX d ?_ ?_|refine rC ?_ ?_<;>intro c<;>try(cases c;done))
  .omega
  .refine⟨f4.2 g,c,?_⟩;simp only[AP,Of,ON];omega
  .omega
  .have q:k<(a.getD i (ByteArray.empty,0,[])).2.2.length:=by exact eV
   have b:=FH (λx:Px=>x.2) (a.getD i (ByteArray.empty,0,[])).2.2 (ByteArray.empty,0) q;refine⟨⟨k+1,q⟩,a2,AC [(1,.nm 1),(11,.nm 11)] rfl rfl ?_ ?_⟩
   .simp only[b];first|exact eN|refine eM ?_
    rw[BY (by simp only[IS,NO,AAl];omega)];simp only[AA8]
   simp only[b];first|exact eN|refine eM ?_
   rfl
  .omega
  have b:(a.getD i (ByteArray.empty,0,[])).2.2.take k=(a.getD i (ByteArray.empty,0,[])).2.2:=BY eV;refine⟨⟨i+1,g⟩,a2,AC [(1,.nm 1),(11,.nm 11)] rfl rfl ?_ ?_⟩
  .simp only[b,l];first|exact eN|refine eM ?_
  simp only[b,l];first|exact eN|refine eM ?_
 have t:jD tp ix a i=[tp,ix]++a.flatMap LL:=by
  have b:a.take i=a:=BY eV;unfold jD;rw[b]
 have s:=λj:Nat=>Io E0 2 (cs.take j) λ_ _=>On 2;refine AI (ι:={j:Nat//j<=cs.length}) (λj=>⟨[(1,.bp 1 [] 0),(3,.sr 11 T3 0 (jD tp ix a i++(cs.take j.1).flatMap E0).length),(6,.p (.int .i64) (j.1:Int))],[(11,.arr 3 T3 (jD tp ix a i++(cs.take j.1).flatMap E0)),(1,.box 41 true [.p T3 tp,.p T3 ix,.p CV m,.p Jy a,.p LO cs])]⟩) (λj=>cs.length-j.1) ⟨0,Do _⟩ (AC [(1,.nm 1),(11,.nm 11)] rfl rfl ?_ ?_) (λj=>?_)
 .first|exact eN|refine eM ?_
 .first|exact eN|refine eM ?_
 obtain⟨j,z⟩:=j;have r:=s j;simp only[ON]at r;simp only;repeat'(first|exact a6|apply eS rfl|apply AB|refine rX d ?_ ?_|refine rC ?_ ?_<;>intro c<;>try(cases c;done))
 .refine⟨c,?_⟩;simp only[AP];omega
 .refine⟨c,?_⟩;simp only[AP];omega
 .omega
 .have o:j<cs.length:=by exact eV
  have b:(cs.take (j+1)).flatMap E0=(cs.take j).flatMap E0++[(cs.getD j (0,0)).1]++[(cs.getD j (0,0)).2]:=by
   rw[Ay cs (0,0) o,ABG];simp[E0]
  refine⟨⟨j+1,o⟩,a2,AC [(1,.nm 1),(11,.nm 11)] rfl rfl ?_ ?_⟩
  .simp only[b];first|exact eN|refine eM ?_
   exact tk2 _ _ _ _
  simp only[b];first|exact eN|refine eM ?_
  omega
 have b:cs.take j=cs:=BY eV;have w:BG (tp,ix,m,a,cs)=jD tp ix a i++cs.flatMap E0:=by rw[t];rfl
 simp only[b]at *;refine Cj [11] ?_;exact fI d [.tmp 2] (by rw[w];exact eR)
def RS (e:GX):List Int:=[e.2.1]
def Jf (m:CQ):List Int:=[m.1]++m.2.2.2.1.flatMap RS++m.2.2.2.2.flatMap E0
def A45:AZ:={ ins:=[dZ],pre:=λ(m,_)=>ME m,out:=λ(m,_)=>[.p Bx (Jf m)] }
attribute [local go_sem] A45
theorem A7B:Ac Tryz.prog 105 A45:=by
 refine fK [0,1,2,3,4,5,13,29] Tryz.func105 Tryz.ntmps105 AH ?_;rintro w0 O0 ⟨⟨tp,ix,e,a,cs⟩,u⟩ d-⟨-,h1,s,f⟩;have h1:a.length<=200000:=h1;have f:cs.length<=200000:=f;have r:=λj:Nat=>Io RS 1 (a.take j) λ_ _=>On 1;have m:=λj:Nat=>Io E0 2 (cs.take j) λ_ _=>On 2;simp only[A45,AL];repeat'(first|exact a6|apply eS rfl|apply AB|refine rX d ?_ ?_|refine rC ?_ ?_<;>intro b<;>try(cases b;done))
 refine AI (ι:={i:Nat//i<=a.length}) (λi=>⟨[(1,.bp 1 [] 0),(3,.sr 8 T3 0 ([tp]++(a.take i.1).flatMap RS).length),(4,.p (.int .i64) (i.1:Int))],[(8,.arr 3 T3 ([tp]++(a.take i.1).flatMap RS)),(1,.box 41 true [.p T3 tp,.p T3 ix,.p CV e,.p Jy a,.p LO cs])]⟩) (λi=>a.length-i.1) ⟨0,Do _⟩ (AC [(1,.nm 1),(8,.nm 8)] rfl rfl ?_ ?_) (λi=>?_)
 .first|exact eN|refine eM ?_
 .first|exact eN|refine eM ?_
 obtain⟨i,hi⟩:=i;have o:=r i;simp only[ON]at o;simp only;repeat'(first|exact a6|apply eS rfl|apply AB|refine rX d ?_ ?_|refine rC ?_ ?_<;>intro b<;>try(cases b;done))
 .refine⟨b,?_⟩;simp only[AP];omega
 .omega
 .have g:i<a.length:=by exact eV
  have c:(a.take (i+1)).flatMap RS=(a.take i).flatMap RS++[(a.getD i (ByteArray.empty,0,[])).2.1]:=by
   rw[Ay a (ByteArray.empty,0,[]) g,ABG];simp[RS]
  refine⟨⟨i+1,g⟩,a2,AC [(1,.nm 1),(8,.nm 8)] rfl rfl ?_ ?_⟩
  .simp only[c];first|exact eN|refine eM ?_
  simp only[c];first|exact eN|refine eM ?_
 have n:a.take i=a:=BY eV;simp only[n]at *;generalize k:a.flatMap RS=A at *;refine AI (ι:={j:Nat//j<=cs.length}) (λj=>⟨[(1,.bp 1 [] 0),(3,.sr 8 T3 0 ([tp]++A++(cs.take j.1).flatMap E0).length),(5,.p (.int .i64) (j.1:Int))],[(8,.arr 3 T3 ([tp]++A++(cs.take j.1).flatMap E0)),(1,.box 41 true [.p T3 tp,.p T3 ix,.p CV e,.p Jy a,.p LO cs])]⟩) (λj=>cs.length-j.1) ⟨0,Do _⟩ (AC [(1,.nm 1),(8,.nm 8)] rfl rfl ?_ ?_) (λj=>?_)
 .first|exact eN|refine eM ?_
 .first|exact eN|refine eM ?_
 obtain⟨j,t⟩:=j;have l:=m j;simp only[ON]at l;simp only;repeat'(first|exact a6|apply eS rfl|apply AB|refine rX d ?_ ?_|refine rC ?_ ?_<;>intro b<;>try(cases b;done))
 .refine⟨b,?_⟩;simp only[AP];omega
 .refine⟨b,?_⟩;simp only[AP];omega
 .omega
 .have h:j<cs.length:=by exact eV
  have c:(cs.take (j+1)).flatMap E0=(cs.take j).flatMap E0++[(cs.getD j (0,0)).1]++[(cs.getD j (0,0)).2]:=by
   rw[Ay cs (0,0) h,ABG];simp[E0]
  refine⟨⟨j+1,h⟩,a2,AC [(1,.nm 1),(8,.nm 8)] rfl rfl ?_ ?_⟩
  .simp only[c];first|exact eN|refine eM ?_
   exact ABj (tp :: ·) (tk2 A _ _ _)
  simp only[c];first|exact eN|refine eM ?_
  rfl
 have c:cs.take j=cs:=BY eV;have q:Jf (tp,ix,e,a,cs)=[tp]++A++cs.flatMap E0:=by rw[<-k];rfl
 simp only[c]at *;refine Cj [8] ?_;exact fI d [.tmp 2] (by rw[q];exact eR)
def Ab (out:List Int) (x:Int):List Int:=if Ec out x<0 then out++[x] else out
def IQ (l:List Int):List Int:=l.foldl Ab []
def fsS:AZ:={ ins:=[dZ],pre:=λ(m,_)=>ME m,out:=λ(m,_)=>[.p Bx (IQ (BG m))] }
attribute [local go_sem] fsS
theorem Tl {m:CQ} (h:ME m):(BG m).length<=20000600002:=by
 obtain⟨-,h1,a,b⟩:=h;have e:BG m=jD m.1 m.2.1 m.2.2.2.1 m.2.2.2.1.length++m.2.2.2.2.flatMap E0:=by simp[BG,jD]
 have c:=pP (tp:=m.1) (ix:=m.2.1) h1 a m.2.2.2.1.length;have d:=Io E0 2 m.2.2.2.2 λ_ _=>On 2;rw[e,IS];omega
theorem eP {α:Type} (g:X->α->X) (l:List α) (d:α) (b:X) (h:k<l.length):(l.take (k+1)).foldl g b=g ((l.take k).foldl g b) (l.getD k d):=by
 rw[Ay l d h,ABq];rfl
theorem lD (l:List Int):∀(out:List Int),(l.foldl Ab out).length<=out.length+l.length:=by
 induction l with
 | nil=>intro out;simp
 | cons x l a =>
  intro out;have h1:=a (Ab out x);have b:(Ab out x).length<=out.length+1:=by
   unfold Ab;split<;>simp
  simp only[OS,NO];omega
theorem A6a:Ac Tryz.prog 62 fsS:=by
 refine fK [0,1,2,3,4,5,12,21] Tryz.func62 Tryz.ntmps62 (AE A0z (AE OY AH)) ?_;rintro w0 O0 ⟨m,u⟩ e-d;have d:ME m:=d;have n:=Tl d;simp only[fsS,AL];repeat'(first|exact a6|apply eS rfl|apply AB|refine rX e ?_ ?_|refine rC ?_ ?_<;>intro b<;>try(cases b;done))
 .exact d
 have g:(m.1,m.2.1,m.2.2.1,m.2.2.2.1,m.2.2.2.2)=m:=rfl;simp only[g]at *;generalize BG m=l at *;refine AI (ι:={i:Nat//i<=l.length}) (λi=>⟨[(3,.p Bx l),(4,.sr 8 T3 0 ((l.take i.1).foldl Ab []).length),(5,.p (.int .i64) (i.1:Int))],[(8,.arr 3 T3 ((l.take i.1).foldl Ab []))]⟩) (λi=>l.length-i.1) ⟨0,Do _⟩ (AC [(8,.nm 8)] rfl rfl ?_ ?_) (λi=>?_)
 .first|exact eN|refine eM ?_
  rfl
 .first|exact eN|refine eM ?_
  rfl
 obtain⟨i,hi⟩:=i;have j:=lD (l.take i) [];simp only[ON,AAl]at j;have a:=λh:i<l.length=>eP Ab l 0 [] h;generalize f:(l.take i).foldl Ab []=A at *;simp only;repeat'(first|exact a6|apply eS rfl|apply AB|refine rX e ?_ ?_|refine rC ?_ ?_<;>intro b<;>try(cases b;done))
 .exact b
 .refine⟨a4,?_⟩;simp only[AP];omega
 .omega
 .have c:i<l.length:=by exact eV
  have a:=(a c).trans (At b);refine⟨⟨i+1,c⟩,a2,AC [(8,.nm 8)] rfl rfl ?_ ?_⟩
  .simp only[a];first|exact eN|refine eM ?_
  simp only[a];first|exact eN|refine eM ?_
 .omega
 .have c:i<l.length:=by exact eV
  have a:=(a c).trans (An (AAy.2 b));refine⟨⟨i+1,c⟩,a2,AC [(8,.nm 8)] rfl rfl ?_ ?_⟩
  .simp only[a];first|exact eN|refine eM ?_
  simp only[a];first|exact eN|refine eM ?_
 have k:IQ l=A:=by rw[<-f,BY eV];rfl
 refine Cj [8] ?_;exact fI e [.tmp 2] (by rw[k];exact eR)
end
section
attribute [local go_sem] Jd Je A44 A45 fsS X4 Pn LK JH
def Ax {β:Type} (g:Nat->Option β) (d:β):Nat->Nat->β
 | 0,_=>d
 | k+1,i=>match g i with
  | some r=>r
  | none=>Ax g d k (i+1)
theorem CR {a:Type} {g:Nat->Option a} {d r s:a} {n:Nat} (h:Ax g d (n-i) i=s) (hi:i<n) (b:g i=some r):s=r:=by
 rw[show n-i=(n-(i+1))+1 by omega]at h;rw[<-h,Ax,b]
theorem Cz {a:Type} {g:Nat->Option a} {d s:a} {n:Nat} (h:Ax g d (n-i) i=s) (hi:i<n) (b:g i=none):Ax g d (n-(i+1)) (i+1)=s:=by
 rw[show n-i=(n-(i+1))+1 by omega]at h;rw[<-h,Ax,b]
theorem Dh {g:Nat->Option Z} {d s:Z} {n:Nat} (h:Ax g d (n-i) i=s) (hi:n<=i):s=d:=by
 rw[show n-i=0 by omega]at h;exact h.symm
theorem FA {c:Type} {g:Nat->Option c} {d:c} (b:∀i r,g i=some r->r≠d):∀k i,Ax g d k i=d->∀j,i<=j->j<i+k->g j=none
 | 0,i,_,j,h1,f=>by omega
 | k+1,i,h,j,h1,f=>by
  cases a:g i with
  | some r=>rw[Ax,a]at h;exact absurd h (b i r a)
  | none =>
   rw[Ax,a]at h;by_cases e:j=i
   .rw[e];exact a
   exact FA b k (i+1) h j O1 O1
theorem HP {a:Type} {g:Nat->Option a} {d:a}:∀k i,(∀j,i<=j->j<i+k->g j=none)->Ax g d k i=d
 | 0,_,_=>rfl
 | k+1,i,h=>by
  rw[Ax,h i (On _) O1];exact HP k (i+1) λj h1 b=>h j O1 O1
def lE (xs:List Px) (i:Nat):Option Int :=
 if BF (xs.getD i (ByteArray.empty,0)).1 true=false\/AK (xs.getD i (ByteArray.empty,0)).1 ⟨#[76,65,66,69,76]⟩=true then some 1
 else if 0<(i:Int)/\(CK (xs.getD i (ByteArray.empty,0)).1 (xs.getD (i-1) (ByteArray.empty,0)).1=true\/AK (xs.getD i (ByteArray.empty,0)).1 (xs.getD (i-1) (ByteArray.empty,0)).1=true) then some 3 else none
def Py (e:GX):Int:=if BF e.1 false=true then Ax (lE e.2.2) 0 e.2.2.length 0 else 1
def A7C:AZ:={ ins:=[kU],pre:=λ_=>True,out:=λ(e,_)=>[.p C0 (Py e)],lend:=true }
attribute [local go_sem] A7C
theorem A7D:Ac Tryz.prog 103 A7C:=by
 refine fK [0,1,2,3,7,12,31,49] Tryz.func103 Tryz.ntmps103 (AE Zk (AE VN AH)) ?_;rintro w0 O0 ⟨⟨e,f,xs⟩,u⟩ b ⟨⟨-,-,g,-⟩,-⟩ -;simp only[AP]at g;simp only[A7C,AL];repeat'(first|exact a6|apply eS rfl|apply AB|refine rX b ?_ ?_|refine rC ?_ ?_<;>intro a<;>try(cases a;done))
 .have h:Py (e,f,xs)=1:=An (by rw[a];simp);exact fI b [.tmp 2] (by rw[h];exact eR)
 have hn:BF e false=true:=a;refine AI (ι:={i:Nat//i<=xs.length/\Ax (lE xs) 0 (xs.length-i) i=Py (e,f,xs)}) (λi=>⟨[(1,.bp 1 [] 0),(3,.p (.int .i64) (i.1:Int))],[(1,.box 54 true [.p T9 e,.p T3 f,.p T52 xs])]⟩) (λi=>xs.length-i.1) ⟨0,Do _,(At hn).symm⟩ (AC [(1,.nm 1)] rfl rfl ?_ ?_) (λi=>?_)
 .first|exact eN|refine eM ?_
 .first|exact eN|refine eM ?_
 obtain⟨i,hi,d⟩:=i;have h1:((i:Int)-1).toNat=i-1:=by omega
 simp only;repeat'(first|exact a6|apply eS rfl|apply AB|refine rX b ?_ ?_|refine rC ?_ ?_<;>intro a<;>try(cases a;done))
 all_goals try simp only[h1]at a
 .exact⟨a,λ_=>a⟩
 .rw[CR d eV (At a)];exact fI b [.tmp 2]
 .exact⟨λ_=>by exact eV,λ_=>by exact eV,λ_=>by exact eV⟩
 .rename_i c;rw[CR d eV ((An (by rw[c.1,c.2];simp)).trans (At a))];exact fI b [.tmp 2]
 .omega
 .rename_i c;refine⟨⟨i+1,eV,Cz d eV ((An (by rw[c.1,c.2];simp)).trans (An λq=>?_))⟩,a2,AC [(1,.nm 1)] rfl rfl ?_ ?_⟩
  .obtain⟨j,k⟩:=a q.1;rw[j,k]at q;simp at q
  .first|exact eN|refine eM ?_
  first|exact eN|refine eM ?_
 rw[Dh d eV];exact fI b [.tmp 2]
def eQ (a:List ByteArray) (i:Nat):Option Int:=if VW (a.getD i ByteArray.empty)=true then none else some 1
def XI (a:List GX) (i:Nat):Option Int:=if Py (a.getD i (ByteArray.empty,0,[]))=0 then none else some (Py (a.getD i (ByteArray.empty,0,[])))
def Zx (n:Int) (l:List Int) (i:Nat):Option Int:=if l.getD i 0<0\/n<=l.getD i 0 then some 2 else none
def A0A (a:List ByteArray) (l:List Int) (i:Nat):Option Int:=if AK (a.getD (l.getD i 0).toNat ByteArray.empty) ⟨#[104]⟩=true then none else some 2
def FM (m:CQ):Int :=
 if 16<(m.2.2.2.1.length:Int)\/16<(m.2.2.2.2.length:Int)\/256<(m.2.2.1.length:Int) then 7
 else if Ax (eQ m.2.2.1) 0 m.2.2.1.length 0≠0 then 1
 else if Ax (XI m.2.2.2.1) 0 m.2.2.2.1.length 0≠0 then Ax (XI m.2.2.2.1) 0 m.2.2.2.1.length 0
 else if Ax (Zx m.2.2.1.length (BG m)) 0 (BG m).length 0≠0 then 2
 else Ax (A0A m.2.2.1 (Jf m)) 0 (Jf m).length 0
def lF:AZ:={ ins:=[dZ],pre:=λ(m,_)=>ME m,out:=λ(m,_)=>[.p C0 (FM m)] }
theorem pQ (m:CQ):∀x∈Jf m,x∈BG m:=by
 intro x a;simp only[Jf,BG,If,AB9,By,RS,LL]at a ⊢;rcases a with (a|⟨e,b,a⟩)|a
 .exact .inl (.inl (.inl (by simpa using a)))
 .exact .inl (.inr ⟨e,b,.inl (by simpa using a)⟩)
 exact .inr a
theorem pR {l:List Int} (h:Ax (Zx n l) 0 l.length 0=0):∀x∈l,0<=x/\x<n:=by
 intro x c;obtain⟨j,b,rfl⟩:=AAd.1 c;have h1:=FA (λi r a=>by unfold Zx at a;split at a<;>cases a;decide) _ 0 h j (Do _) O1;unfold Zx at h1;split at h1
 .cases h1
 rename_i q;have e:l.getD j 0=l[j]:=by simp[AS,b]
 rw[e]at q;omega
theorem A0B:Ac Tryz.prog 61 lF:=by
 refine fK [0,1,2,3,4,5,6,7,8,9,25,30,39,44,54,61,78,84,95] Tryz.func61 Tryz.ntmps61 (AE A0z (AE A7B (AE Se (AE A7D AH)))) ?_;rintro w0 O0 ⟨⟨tp,ix,a,b,cs⟩,u⟩ e ⟨⟨-,-,⟨h0,-⟩,-,-⟩,-⟩ g;have g:ME (tp,ix,a,b,cs):=g;obtain⟨-,h1,B,m⟩:=id g;simp only[AP]at h0;have h1:b.length<=200000:=h1;have m:cs.length<=200000:=m;have k:FM (tp,ix,a,b,cs)=if 16<(b.length:Int)\/16<(cs.length:Int)\/256<(a.length:Int) then 7 else if Ax (eQ a) 0 a.length 0≠0 then 1 else if Ax (XI b) 0 b.length 0≠0 then Ax (XI b) 0 b.length 0
  else if Ax (Zx a.length (BG (tp,ix,a,b,cs))) 0 (BG (tp,ix,a,b,cs)).length 0≠0 then 2 else Ax (A0A a (Jf (tp,ix,a,b,cs))) 0 (Jf (tp,ix,a,b,cs)).length 0:=rfl
 have F:=Tl g;have C:(Jf (tp,ix,a,b,cs)).length<=600001:=by
  have I:=Io RS 1 b λ_ _=>On 1;have J:=Io E0 2 cs λ_ _=>On 2;simp only[Jf,IS,NO,AAl];omega
 simp only[lF,AL];repeat'(first|exact a6|apply eS rfl|apply AB|refine rX e ?_ ?_|refine rC ?_ ?_<;>intro c<;>try(cases c;done))
 .rw[k,At O1];exact fI e [.tmp 2]
 rw[k,An O1];clear k;generalize t:Ax (eQ a) 0 a.length 0=V;generalize s:Ax (XI b) 0 b.length 0=R;generalize r:BG (tp,ix,a,b,cs)=ol at *;generalize o:Jf (tp,ix,a,b,cs)=f at *;have z:∀x∈f,x∈ol:=by rw[<-r,<-o];exact pQ _
 generalize h:Ax (Zx a.length ol) 0 ol.length 0=v;generalize w:Ax (A0A a f) 0 f.length 0=H;refine AI (ι:={i:Nat//i<=a.length/\Ax (eQ a) 0 (a.length-i) i=V}) (λi=>⟨[(1,.bp 1 [] 0),(3,.p (.int .i64) (i.1:Int))],[(1,.box 41 true [.p T3 tp,.p T3 ix,.p CV a,.p Jy b,.p LO cs])]⟩) (λi=>a.length-i.1) ⟨0,Do _,t⟩ (AC [(1,.nm 1)] rfl rfl ?_ ?_) (λi=>?_)
 .first|exact eN|refine eM ?_
 .first|exact eN|refine eM ?_
 obtain⟨i,hi,d⟩:=i;simp only;repeat'(first|exact a6|apply eS rfl|apply AB|refine rX e ?_ ?_|refine rC ?_ ?_<;>intro c<;>try(cases c;done))
 .exact c
 .rw[CR d eV (An (by rw[c];simp)),At df];exact fI e [.tmp 2]
 .omega
 .refine⟨⟨i+1,eV,Cz d eV (At c)⟩,a2,AC [(1,.nm 1)] rfl rfl ?_ ?_⟩
  .first|exact eN|refine eM ?_
  first|exact eN|refine eM ?_
 rw[Dh d eV,An df];clear t d;refine AI (ι:={j:Nat//j<=b.length/\Ax (XI b) 0 (b.length-j) j=R}) (λj=>⟨[(1,.bp 1 [] 0),(4,.p (.int .i64) (j.1:Int))],[(1,.box 41 true [.p T3 tp,.p T3 ix,.p CV a,.p Jy b,.p LO cs])]⟩) (λj=>b.length-j.1) ⟨0,Do _,s⟩ (AC [(1,.nm 1)] rfl rfl ?_ ?_) (λj=>?_)
 .first|exact eN|refine eM ?_
 .first|exact eN|refine eM ?_
 obtain⟨j,D,d⟩:=j;simp only;repeat'(first|exact a6|apply eS rfl|apply AB|refine rX e ?_ ?_|refine rC ?_ ?_<;>intro c<;>try(cases c;done))
 .exact c
 .rw[CR d eV (An c),At c];exact fI e [.tmp 2]
 .omega
 .refine⟨⟨j+1,eV,Cz d eV (At (by simpa using c))⟩,a2,AC [(1,.nm 1)] rfl rfl ?_ ?_⟩
  .first|exact eN|refine eM ?_
  first|exact eN|refine eM ?_
 .exact g
 simp only[r]at *;rw[Dh d eV,An df];clear s d;refine AI (ι:={l:Nat//l<=ol.length/\Ax (Zx a.length ol) 0 (ol.length-l) l=v}) (λl=>⟨[(1,.bp 1 [] 0),(6,.p Bx ol),(7,.p (.int .i64) (l.1:Int))],[(1,.box 41 true [.p T3 tp,.p T3 ix,.p CV a,.p Jy b,.p LO cs])]⟩) (λl=>ol.length-l.1) ⟨0,Do _,h⟩ (AC [(1,.nm 1)] rfl rfl ?_ ?_) (λl=>?_)
 .first|exact eN|refine eM ?_
 .first|exact eN|refine eM ?_
 obtain⟨l,E,d⟩:=l;simp only;repeat'(first|exact a6|apply eS rfl|apply AB|refine rX e ?_ ?_|refine rC ?_ ?_<;>intro c<;>try(cases c;done))
 .exact⟨c,λ_=>c⟩
 .rw[CR d eV (At c),At df];exact fI e [.tmp 2]
 .omega
 .refine⟨⟨l+1,eV,Cz d eV (An O1)⟩,a2,AC [(1,.nm 1)] rfl rfl ?_ ?_⟩
  .first|exact eN|refine eM ?_
  first|exact eN|refine eM ?_
 .exact g
 have n:=Dh d eV;rw[n,An df];have y:∀x∈f,0<=x/\x<(a.length:Int):=λx A=>pR (h.trans n) x (z x A);simp only[o]at *;clear d h;refine AI (ι:={q:Nat//q<=f.length/\Ax (A0A a f) 0 (f.length-q) q=H}) (λq=>⟨[(1,.bp 1 [] 0),(8,.p Bx f),(9,.p (.int .i64) (q.1:Int))],[(1,.box 41 true [.p T3 tp,.p T3 ix,.p CV a,.p Jy b,.p LO cs])]⟩) (λq=>f.length-q.1) ⟨0,Do _,w⟩ (AC [(1,.nm 1)] rfl rfl ?_ ?_) (λq=>?_)
 .first|exact eN|refine eM ?_
 .first|exact eN|refine eM ?_
 obtain⟨q,G,d⟩:=q;simp only;repeat'(first|exact a6|apply eS rfl|apply AB|refine rX e ?_ ?_|refine rC ?_ ?_<;>intro c<;>try(cases c;done))
 .refine⟨c,y _ ?_⟩;exact AF f 0 eV
 .rw[CR d eV (An (by rw[c];simp))];exact fI e [.tmp 2]
 .omega
 .refine⟨⟨q+1,eV,Cz d eV (At c)⟩,a2,AC [(1,.nm 1)] rfl rfl ?_ ?_⟩
  .first|exact eN|refine eM ?_
  first|exact eN|refine eM ?_
 rw[Dh d eV];exact fI e [.tmp 2]
end
section
attribute [local go_sem] Jd fsS lF LK JH
def A0C (l:List Int) (i:Nat):Option Int:=if l.getD i 0=i then none else some 3
def G3 (m:CQ):Int:=if FM m≠0 then FM m else if (IQ (BG m)).length≠m.2.2.1.length then 3 else Ax (A0C (IQ (BG m))) 0 (IQ (BG m)).length 0
def RT:AZ:={ ins:=[dZ],pre:=λ(m,_)=>ME m,out:=λ(m,_)=>[.p C0 (G3 m)] }
theorem eU:Ac Tryz.prog 26 RT:=by
 refine fK [0,1,2,3,4,5,9,18,22,30] Tryz.func26 Tryz.ntmps26 (AE A0B (AE A6a AH)) ?_;rintro w0 O0 ⟨m,u⟩ c-e;have e:ME m:=e;have k:=Tl e;have j:=lD (BG m) [];have f:G3 m=if FM m≠0 then FM m else if (IQ (BG m)).length≠m.2.2.1.length then 3 else Ax (A0C (IQ (BG m))) 0 (IQ (BG m)).length 0:=rfl
 have d:(m.1,m.2.1,m.2.2.1,m.2.2.2.1,m.2.2.2.2)=m:=rfl;have h:(BG m).foldl Ab []=IQ (BG m):=rfl;simp only[h,AAl]at j;simp only[RT,AL];repeat'(first|exact a6|apply eS rfl|apply AB|refine rX c ?_ ?_|refine rC ?_ ?_<;>intro a<;>try(cases a;done))
 all_goals try simp only[d]at *
 .exact e
 .rw[f,At a];exact fI c [.tmp 2]
 .exact e
 .rename_i b;have b:FM m=0:=by simpa using b
  rw[f,An (by rw[b];simp),At eV];exact fI c [.tmp 2]
 rename_i b;have b:FM m=0:=by simpa using b
 have hn:((IQ (BG m)).length:Int)=(m.2.2.1.length:Int):=by simpa using a
 rw[f,An (by rw[b];simp),An O1];clear f;generalize IQ (BG m)=l at *;generalize g:Ax (A0C l) 0 l.length 0=S;refine AI (ι:={i:Nat//i<=l.length/\Ax (A0C l) 0 (l.length-i) i=S}) (λi=>⟨[(4,.p Bx l),(5,.p (.int .i64) (i.1:Int))],[]⟩) (λi=>l.length-i.1) ⟨0,Do _,g⟩ (eW []) (λi=>?_)
 obtain⟨i,hi,d⟩:=i;simp only;repeat'(first|exact a6|apply eS rfl|apply AB|refine rX c ?_ ?_|refine rC ?_ ?_<;>intro a<;>try(cases a;done))
 .exact a
 .rw[CR d eV (An a)];exact fI c [.tmp 2]
 .omega
 .exact⟨⟨i+1,eV,Cz d eV (At (by simpa using a))⟩,a2,eW []⟩
 rw[Dh d eV];exact fI c [.tmp 2]
def Tm (f:List Int) (e:GX):GX:=(e.1,Ec f e.2.1,e.2.2.map λa=>(a.1,Ec f a.2))
def jE (f:List Int) (q:NR):NR:=(Ec f q.1,Ec f q.2)
def Ct (m:CQ):CQ:=(Ec (IQ (BG m)) m.1,Ec (IQ (BG m)) m.2.1,(IQ (BG m)).map (λi=>m.2.2.1.getD i.toNat ByteArray.empty),m.2.2.2.1.map (Tm (IQ (BG m))),m.2.2.2.2.map (jE (IQ (BG m))))
def lG:AZ:={ ins:=[dZ],pre:=λ(m,_)=>ME m/\∀x∈BG m,0<=x/\x<(m.2.2.1.length:Int),out:=λ(m,_)=>[.p dZ (Ct m)] }
theorem lH (l:List Int):∀(out:List Int),∀x∈l.foldl Ab out,x∈out\/x∈l:=by
 induction l with
 | nil=>intro out x a;exact .inl a
 | cons y l b =>
  intro out x a;rcases b (Ab out y) x a with h|h
  .unfold Ab at h;split at h
   .rcases If.1 h with h|h
    .exact .inl h
    exact .inr (By.2 (.inl (oN.1 h)))
   exact .inl h
  exact .inr (IF _ h)
theorem A0D:Ac Tryz.prog 43 lG:=by
 refine fKP [0,1,2,3,4,5,6,7,8,9,10,25,45,71,105] [38,92,98,127] [] Tryz.func43 Tryz.ntmps43 (AE A6a (AE OY AH)) ?_;rintro w0 O0 ⟨⟨tp,ix,c,b,cs⟩,u⟩ g-⟨m,D⟩;have m:ME (tp,ix,c,b,cs):=m;have P:=Tl m;have E:=lD (BG (tp,ix,c,b,cs)) [];have F:∀x∈IQ (BG (tp,ix,c,b,cs)),0<=x/\x<(c.length:Int):=λx J=>D x ((lH _ [] x J).elim (λh=>by cases h) id);have v:(BG (tp,ix,c,b,cs)).foldl Ab []=IQ (BG (tp,ix,c,b,cs)):=rfl;simp only[v,AAl]at E;have C:Ct (tp,ix,c,b,cs)=(Ec (IQ (BG (tp,ix,c,b,cs))) tp,Ec (IQ (BG (tp,ix,c,b,cs))) ix,(IQ (BG (tp,ix,c,b,cs))).map (λi=>c.getD i.toNat ByteArray.empty),b.map (Tm (IQ (BG (tp,ix,c,b,cs)))),cs.map (jE (IQ (BG (tp,ix,c,b,cs))))):=rfl;obtain⟨h0,h1,r,t⟩:=id m;have h1:b.length<=200000:=h1;have r:∀e∈b,e.2.2.length<=100000:=r;have t:cs.length<=200000:=t;simp only[lG,AL];repeat'(first|exact a6|apply eS rfl|apply AB|refine rX g ?_ ?_|refine rC ?_ ?_<;>intro d<;>try(cases d;done))
 .exact m
 rw[C];clear C D v;generalize IQ (BG (tp,ix,c,b,cs))=L at *;generalize Ec L tp=A;generalize Ec L ix=B;refine AI (ι:={i:Nat//i<=L.length}) (λi=>⟨[(1,.bp 1 [] 0),(2,.bp 2 [] 0),(3,.p Bx L),(4,.bp 4 [] 0),(5,.p (.int .i64) (i.1:Int))],[(4,.box 41 true [.p T3 A,.p T3 B,.sr 39 T9 0 ((L.take i.1).map λi=>c.getD i.toNat ByteArray.empty).length,.raw (.slice none 0 0),.raw (.slice none 0 0)]),(39,.arr 9 T9 ((L.take i.1).map λi=>c.getD i.toNat ByteArray.empty)),(2,.box 41 true [.p T3 0,.p T3 0,.raw (.slice none 0 0),.raw (.slice none 0 0),.raw (.slice none 0 0)]),(1,.box 41 true [.p T3 tp,.p T3 ix,.p CV c,.p Jy b,.p LO cs])]⟩) (λi=>L.length-i.1) ⟨0,Do _⟩ (AC [(1,.nm 1),(2,.nm 2),(4,.nm 4),(39,.nil)] rfl rfl ?_ ?_) (λi=>?_)
 .first|exact eN|refine eM ?_
 .first|exact eN|refine eM ?_
 obtain⟨i,hi⟩:=i;have H:((L.take i).map λi=>c.getD i.toNat ByteArray.empty).length=i:=by simp only[Of,ON];omega
 simp only;repeat'(first|exact a6|apply eS rfl|apply AB|refine rX g ?_ ?_|refine rC ?_ ?_<;>intro d<;>try(cases d;done))
 .refine⟨d,F _ (AF L 0 eV),?_⟩;simp only[AP];omega
 .omega
 .have w:i<L.length:=by exact eV
  have f:=FH (λi:Int=>c.getD i.toNat ByteArray.empty) L 0 w;refine⟨⟨i+1,w⟩,a2,AC [(1,.nm 1),(2,.nm 2),(4,.nm 4),(39,.nm 39)] rfl rfl ?_ ?_⟩
  .simp only[f];first|exact eN|refine eM ?_
  simp only[f];first|exact eN|refine eM ?_
 have f:L.take i=L:=BY eV;simp only[f]at *;generalize K:(L.map λi=>c.getD i.toNat ByteArray.empty)=V at *;refine Cj [39] ?_;clear hi H d f;refine AI (ι:={j:Nat//j<=b.length}) (λj=>⟨[(1,.bp 1 [] 0),(2,.bp 2 [] 0),(3,.p Bx L),(4,.bp 4 [] 0),(6,.p (.int .i64) (j.1:Int))],[(4,.box 41 true [.p T3 A,.p T3 B,.p CV V,.sr 99 kU 0 ((b.take j.1).map (Tm L)).length,.raw (.slice none 0 0)]),(99,.arr 54 kU ((b.take j.1).map (Tm L))),(2,.box 41 true [.p T3 0,.p T3 0,.raw (.slice none 0 0),.raw (.slice none 0 0),.raw (.slice none 0 0)]),(1,.box 41 true [.p T3 tp,.p T3 ix,.p CV c,.p Jy b,.p LO cs])]⟩) (λj=>b.length-j.1) ⟨0,Do _⟩ (AC [(1,.nm 1),(2,.nm 2),(4,.nm 4),(99,.nil)] rfl rfl ?_ ?_) (λj=>?_)
 .first|exact eN|refine eM ?_
 .first|exact eN|refine eM ?_
 obtain⟨j,G⟩:=j;have I:((b.take j).map (Tm L)).length=j:=by simp only[Of,ON];omega
 simp only;repeat'(first|exact a6|apply eS rfl|apply AB|refine rX g ?_ ?_|refine rC ?_ ?_<;>intro d<;>try(cases d;done))
 .exact d
 .have o:j<b.length:=by exact eV
  have N:(b.getD j (ByteArray.empty,0,[])).2.2.length<=100000:=r _ (AF b (ByteArray.empty,0,[]) o);refine AI (ι:={k:Nat//k<=(b.getD j (ByteArray.empty,0,[])).2.2.length}) (λk=>⟨[(1,.bp 1 [] 0),(2,.bp 2 [] 0),(3,.p Bx L),(4,.bp 4 [] 0),(6,.p (.int .i64) (j:Int)),(7,.bp 7 [] 0),(8,.p (.int .i64) (k.1:Int))],[(7,.box 54 true [.p T9 (b.getD j (ByteArray.empty,0,[])).1,.p T3 (Ec L (b.getD j (ByteArray.empty,0,[])).2.1),.sr 93 T91 0 (((b.getD j (ByteArray.empty,0,[])).2.2.take k.1).map λa=>(a.1,Ec L a.2)).length]),(93,.arr 91 T91 (((b.getD j (ByteArray.empty,0,[])).2.2.take k.1).map λa=>(a.1,Ec L a.2))),(4,.box 41 true [.p T3 A,.p T3 B,.p CV V,.sr 99 kU 0 ((b.take j).map (Tm L)).length,.raw (.slice none 0 0)]),(99,.arr 54 kU ((b.take j).map (Tm L))),(2,.box 41 true [.p T3 0,.p T3 0,.raw (.slice none 0 0),.raw (.slice none 0 0),.raw (.slice none 0 0)]),(1,.box 41 true [.p T3 tp,.p T3 ix,.p CV c,.p Jy b,.p LO cs])]⟩) (λk=>(b.getD j (ByteArray.empty,0,[])).2.2.length-k.1) ⟨0,Do _⟩ (AC [(1,.nm 1),(2,.nm 2),(4,.nm 4),(99,.nm 99),(7,.nm 7),(93,.nil)] rfl rfl ?_ ?_) (λk=>?_)
  .first|exact eN|refine eM ?_
  .first|exact eN|refine eM ?_
  obtain⟨k,hk⟩:=k;simp only;repeat'(first|exact a6|apply eS rfl|apply AB|refine rX g ?_ ?_|refine rC ?_ ?_<;>intro d<;>try(cases d;done))
  .exact d
  .exact⟨f4.2 o,d⟩
  .simp only[AP,Of,ON];omega
  .omega
  .have y:k<(b.getD j (ByteArray.empty,0,[])).2.2.length:=by exact eV
   have n:=FH (λa:Px=>(a.1,Ec L a.2)) (b.getD j (ByteArray.empty,0,[])).2.2 (ByteArray.empty,0) y;refine⟨⟨k+1,y⟩,a2,AC [(1,.nm 1),(2,.nm 2),(4,.nm 4),(99,.nm 99),(7,.nm 7),(93,.nm 93)] rfl rfl ?_ ?_⟩
   .simp only[n];first|exact eN|refine eM ?_
   simp only[n];first|exact eN|refine eM ?_
  .simp only[AP,Of,ON];omega
  .omega
  have n:(b.getD j (ByteArray.empty,0,[])).2.2.take k=(b.getD j (ByteArray.empty,0,[])).2.2:=BY eV;have s:=FH (Tm L) b (ByteArray.empty,0,[]) o;have l:Tm L (b.getD j (ByteArray.empty,0,[]))=((b.getD j (ByteArray.empty,0,[])).1,Ec L (b.getD j (ByteArray.empty,0,[])).2.1,(b.getD j (ByteArray.empty,0,[])).2.2.map λa=>(a.1,Ec L a.2)):=rfl;simp only[n];refine⟨⟨j+1,o⟩,a2,AC [(1,.nm 1),(2,.nm 2),(4,.nm 4),(99,.nm 99)] rfl rfl ?_ ?_⟩
  .simp only[s,l];first|exact eN|refine eM ?_
  simp only[s,l];first|exact eN|refine eM ?_
 have f:b.take j=b:=BY eV;simp only[f]at *;generalize M:b.map (Tm L)=W at *;refine Cj [99] ?_;clear G I d f;refine AI (ι:={q:Nat//q<=cs.length}) (λq=>⟨[(1,.bp 1 [] 0),(2,.bp 2 [] 0),(3,.p Bx L),(4,.bp 4 [] 0),(10,.p (.int .i64) (q.1:Int))],[(4,.box 41 true [.p T3 A,.p T3 B,.p CV V,.p Jy W,.sr 128 y7 0 ((cs.take q.1).map (jE L)).length]),(128,.arr 93 y7 ((cs.take q.1).map (jE L))),(2,.box 41 true [.p T3 0,.p T3 0,.raw (.slice none 0 0),.raw (.slice none 0 0),.raw (.slice none 0 0)]),(1,.box 41 true [.p T3 tp,.p T3 ix,.p CV c,.p Jy b,.p LO cs])]⟩) (λq=>cs.length-q.1) ⟨0,Do _⟩ (AC [(1,.nm 1),(2,.nm 2),(4,.nm 4),(128,.nil)] rfl rfl ?_ ?_) (λq=>?_)
 .first|exact eN|refine eM ?_
 .first|exact eN|refine eM ?_
 obtain⟨q,Q⟩:=q;have O:((cs.take q).map (jE L)).length=q:=by simp only[Of,ON];omega
 simp only;repeat'(first|exact a6|apply eS rfl|apply AB|refine rX g ?_ ?_|refine rC ?_ ?_<;>intro d<;>try(cases d;done))
 .refine⟨d,d,?_⟩;simp only[AP];omega
 .omega
 .have z:q<cs.length:=by exact eV
  have f:=FH (jE L) cs (0,0) z;have l:jE L (cs.getD q (0,0))=(Ec L (cs.getD q (0,0)).1,Ec L (cs.getD q (0,0)).2):=rfl;refine⟨⟨q+1,z⟩,a2,AC [(1,.nm 1),(2,.nm 2),(4,.nm 4),(128,.nm 128)] rfl rfl ?_ ?_⟩
  .simp only[f,l];first|exact eN|refine eM ?_
  simp only[f,l];first|exact eN|refine eM ?_
 have f:cs.take q=cs:=BY eV;simp only[f]at *;refine Cj [128] ?_;exact fI g [.cell 2 41]
end
def BK (b:List Int) (i:Nat):Bool:=(b.getD (i / 64) 0).toNat.testBit (i % 64)
def U64 (x:Int):Prop:=0<=x/\x<18446744073709551616
theorem Fb {x:Int} (h:U64 x):(BitVec.ofInt 64 x).toNat=x.toNat:=by
 rw[BitVec.toNat_ofInt];have h1:=h.1;have a:=h.2;rw[Int.emod_eq_of_lt h1 (by simpa using a)]
theorem Pz {n:Nat} (h:n<18446744073709551616):IntKind.u64.wrap (n:Int)=n:=KD (by rw[KJ];omega)
theorem A46 {x:Int} (a:U64 x) (b:U64 y):Cu .or .u64 x y=((x.toNat ||| y.toNat:Nat):Int):=by
 have h1:(BitVec.ofInt IntKind.u64.bits x ||| BitVec.ofInt IntKind.u64.bits y).toNat=x.toNat ||| y.toNat:=by
  rw[BitVec.toNat_or];show (BitVec.ofInt 64 x).toNat ||| (BitVec.ofInt 64 y).toNat=_
  rw[Fb a,Fb b]
 unfold Cu;simp only;rw[h1];have e:(18446744073709551616:Nat)=2 ^ 64:=by decide
 refine Pz ?_;rw[e];refine Nat.or_lt_two_pow ?_ ?_
 .have:=a.2;have:=a.1;omega
 have:=b.2;have:=b.1;omega
theorem H3 {x:Int} (a:U64 x) (b:U64 y):Cu .and .u64 x y=((x.toNat &&& y.toNat:Nat):Int):=by
 have h1:(BitVec.ofInt IntKind.u64.bits x &&& BitVec.ofInt IntKind.u64.bits y).toNat=x.toNat &&& y.toNat:=by
  rw[BitVec.toNat_and];show (BitVec.ofInt 64 x).toNat &&& (BitVec.ofInt 64 y).toNat=_;rw[Fb a,Fb b]
 unfold Cu;simp only;rw[h1];refine Pz (ACI ACD ?_);have:=a.2;have:=a.1;omega
theorem RU {x:Int}:Cu .andNot .u64 x y=((BitVec.ofInt 64 x &&& ~~~BitVec.ofInt 64 y).toNat:Int):=by
 show IntKind.u64.wrap ((BitVec.ofInt 64 x &&& ~~~BitVec.ofInt 64 y).toNat:Int)=_;exact Pz (BitVec.isLt _)
theorem Sf {x:Int} (d:U64 x) (e:U64 y) (h:Cu .andNot .u64 x y=0) {r:Nat} (c:r<64) (b:x.toNat.testBit r=true):y.toNat.testBit r=true:=by
 rw[RU]at h;have h1:(BitVec.ofInt 64 x &&& ~~~BitVec.ofInt 64 y).toNat=0:=by omega
 have a:(BitVec.ofInt 64 x &&& ~~~BitVec.ofInt 64 y).toNat.testBit r=false:=by rw[h1];exact Nat.zero_testBit r
 rw[ABR,BitVec.getLsbD_and,BitVec.getLsbD_not,<-ABR,<-ABR,Fb d,Fb e,b]at a;simpa[c] using a
theorem Sg {x:Int}:Cu .andNot .u64 x x=0:=by
 rw[RU];simp
theorem OZ {b:List Int}:∀ {n:Nat},∀k,Cm b n<=k->k<n->b.getD k 0=0
 | 0,k,_,h=>by omega
 | n+1,k,h1,c=>by
  unfold Cm at h1;split at h1
  .rename_i a;by_cases hk:k=n
   .rw[hk];exact a
   exact OZ k h1 O1
  omega
theorem P0 (b:List Int) (k:Nat):(BS b).getD k 0=b.getD k 0:=by
 unfold BS;by_cases h:k<Cm b b.length
 .simp[AS,AAg,h]
 have h1:(List.take (Cm b b.length) b).getD k 0=0:=by
  rw[AS,AAg,An h];rfl
 rw[h1];by_cases a:k<b.length
 .exact(OZ k O1 a).symm
 rw[AS,oF O1];rfl
theorem Oa (b:List Int) (i:Nat):BK (BS b) i=BK b i:=by unfold BK;rw[P0]
def H4 (b:List Int):Prop:=∀x∈b,U64 x
theorem BQ {b:List Int} (h:H4 b) (k:Nat):U64 (b.getD k 0):=by
 rw[AS];cases hh:b[k]? with
 | none=>exact⟨sc,sc⟩
 | some x=>exact h x (AAM hh)
theorem Ob {b:List Int} (h:H4 b):H4 (BS b):=λx a=>h x (AAw a)
theorem He (b:List Int) (k:Nat):F5 b (k:Int)=b.getD k 0:=by
 unfold F5;split
 .simp
 rename_i h;rw[AS,oF O1];rfl
theorem M6 (op:BinOp) (a b:List Int) {n k:Nat} (h:k<n):(GK op a b n).getD k 0=Cu op .u64 (a.getD k 0) (b.getD k 0):=by
 unfold GK;rw[AS,AAR,ABF h];show Cu op .u64 (a.getD k 0) (F5 b (k:Int))=_;rw[He]
theorem Zy (h:Em a b=true) (hk:k<a.length):Cu .andNot .u64 (a.getD k 0) (b.getD k 0)=0:=by
 unfold Em RM BS at h;have h1:(List.take (Cm (GK .andNot a b a.length) (GK .andNot a b a.length).length) (GK .andNot a b a.length)).length=0:=by
  have:=AA9.1 h;omega
 rw[ON,Ea]at h1;have d:=VO (GK .andNot a b a.length) a.length;have c:=OZ (b:=GK .andNot a b a.length) (n:=a.length) k O1 hk;rw[M6 _ _ _ hk]at c;exact c
theorem MF (ha:H4 a) (c:H4 b) (h:Em a b=true) {i:Nat} (hi:BK a i=true):BK b i=true:=by
 by_cases hk:i / 64<a.length
 .exact Sf (BQ ha _) (BQ c _) (Zy h hk) (ADa _ df) hi
 exfalso;unfold BK at hi;rw[AS,oF O1]at hi;simp at hi
theorem RW {b:List Int}:∀ {n:Nat},(∀k,k<n->b.getD k 0=0)->Cm b n=0
 | 0,_=>rfl
 | n+1,h=>by
  unfold Cm;rw[At (h n O1)];exact RW λk hk=>h k O1
theorem eX (a:List Int):Em a a=true:=by
 unfold Em RM BS;have h1:Cm (GK .andNot a a a.length) (GK .andNot a a a.length).length=0:=by
  rw[Ea];exact RW λk hk=>by rw[M6 _ _ _ hk];exact Sg
 rw[h1];rfl
theorem eY (a:List Int):DM a a=true:=by unfold DM;rw[eX];rfl
theorem A47 {b:List Int} (j:H4 b) (l:b.length=64) {x:Int} (h0:0<=x) (h1:x<=4095) (i:Nat):BK (uG b x) i=(BK b i||decide (x=(i:Int))):=by
 have d:Int.tdiv x 64=x / 64:=ABp h0;have e:Int.tmod x 64=x % 64:=ABH h0;obtain⟨n,rfl⟩:∃n:Nat,x=(n:Int):=⟨x.toNat,O1⟩;have hs:ZD .u64 1 ((n:Int) % 64)=((2 ^ (n % 64):Nat):Int):=by
  unfold ZD;have f:min ((n:Int) % 64).toNat IntKind.u64.bits=n % 64:=by
   have:((n:Int) % 64).toNat=n % 64:=by omega
   rw[this];have:IntKind.u64.bits=64:=rfl;omega
  rw[f,Int.one_mul];have:(2:Int) ^ (n % 64)=((2 ^ (n % 64):Nat):Int):=by simp
  rw[this];refine Pz ?_;have a:(2:Nat) ^ (n % 64)<2 ^ 64:=Nat.pow_lt_pow_right df (ADa _ df);exact a
 have hu:U64 (ZD .u64 1 ((n:Int) % 64)):=by
  rw[hs];have a:(2:Nat) ^ (n % 64)<2 ^ 64:=Nat.pow_lt_pow_right df (ADa _ df);have g:(2:Nat) ^ 64=18446744073709551616:=by decide
  refine⟨AAP _,?_⟩;rw[g]at a;exact f4.2 a
 have hn:((n:Int) / 64).toNat=n / 64:=by omega
 unfold uG BK;rw[d,e,hn];by_cases c:i / 64=n / 64
 .have k:n / 64<b.length:=by omega
  rw[c];have:(b.set (n / 64) (Cu .or .u64 (b.getD (n / 64) 0) (ZD .u64 1 ((n:Int) % 64)))).getD (n / 64) 0=Cu .or .u64 (b.getD (n / 64) 0) (ZD .u64 1 ((n:Int) % 64)):=by
   simp[AS,k]
  rw[this,A46 (BQ j _) hu,hs];simp only[jC,Nat.testBit_or,Nat.testBit_two_pow]
  congr 1
  rw[decide_eq_decide];omega
 have:(b.set (n / 64) (Cu .or .u64 (b.getD (n / 64) 0) (ZD .u64 1 ((n:Int) % 64)))).getD (i / 64) 0=b.getD (i / 64) 0:=by
  simp[AS,AB4,Ne.symm c]
 rw[this];have:decide ((n:Int)=(i:Int))=false:=by
  rw[aS];intro h;exact c O1
 rw[this,ACl]
theorem A48 {b:List Int} (c:H4 b) (x:Int):H4 (uG b x):=by
 intro y a;unfold uG at a;rcases ABd a with h|h
 .exact c y h
 rw[h];have:=Mq .u64 ((BitVec.ofInt IntKind.u64.bits (b.getD (x.tdiv 64).toNat 0) ||| BitVec.ofInt IntKind.u64.bits (ZD .u64 1 (x.tmod 64))).toNat:Int);rw[KJ]at this;exact⟨this.1,by have:=this.2;show _<_;exact ACQ this df⟩
theorem A49 {l:List Int} (h:l.all okB=true) (i:Nat):BK (wV l) i=decide ((i:Int)∈l)/\H4 (wV l):=by
 have key:∀(l b:List Int),l.all okB=true->H4 b->b.length=64->BK (l.foldl uG b) i=(BK b i||decide ((i:Int)∈l))/\H4 (l.foldl uG b):=by
  intro l;induction l with
  | nil=>intro b _ a _;simp[a]
  | cons x l m =>
   intro b c a d;rw[ABA,AT]at c;have e:=c.1;unfold okB at e;rw[bY,AAb,aS,aS]at e;obtain⟨f,g⟩:=m (uG b x) c.2 (A48 a x) (by simp[uG,d]);rw[OS];refine⟨?_,g⟩;rw[f,A47 a d O1 O1,Bool.or_assoc]
   congr 1
   rw[<-Bool.decide_or,decide_eq_decide,By,eq_comm]
 have j:H4 (List.replicate 64 (0:Int)):=by
  intro y k;rw[(List.mem_replicate.1 k).2];exact⟨df,df⟩
 have h1:=key l (List.replicate 64 0) h j sc;refine⟨?_,h1.2⟩;unfold wV;rw[h1.1];have:BK (List.replicate 64 (0:Int)) i=false:=by
  unfold BK;have:(List.replicate 64 (0:Int)).getD (i / 64) 0=0:=by
   rw[AS,ABz];split<;>rfl
  rw[this];simp
 rw[this,ACZ]
theorem A0F {low all:List ByteArray} {n:Nat}:((i:Int)∈OW low all n)↔i<n/\Aa low (all.getD i ByteArray.empty)=true:=by
 unfold OW;rw[GO];constructor
 .rintro⟨j,a,e⟩;have:j=i:=by omega
  subst this;rw[ABe,oS]at a;exact a
 rintro⟨h1,b⟩;exact⟨i,by rw[ABe,oS];exact⟨h1,b⟩,rfl⟩
theorem A4a {low all:List ByteArray} {n:Nat} (hn:n<=4096):(OW low all n).all okB=true:=by
 rw[No];intro x a;unfold OW at a;obtain⟨j,b,rfl⟩:=GO.1 a;rw[ABe,oS]at b;unfold okB;rw[bY,AAb,aS,aS];exact⟨O1,O1⟩
theorem CE {d:List AJ} {all:List ByteArray} (c:all.length<=4096) (s:ByteArray) (i:Nat):(BK (Eb d all s) i=true↔i<all.length/\Aa (Cs d s) (all.getD i ByteArray.empty)=true)/\H4 (Eb d all s)/\(Eb d all s).length<=64:=by
 have h1:=A4a (low:=Cs d s) (all:=all) c;have b:=A49 h1 i;have a:Eb d all s=BS (wV (OW (Cs d s) all all.length)):=by
  unfold Eb ofF;rw[At h1]
 refine⟨?_,?_,?_⟩
 .rw[a,Oa,b.1,IN,A0F]
 .rw[a];exact Ob b.2
 rw[a];unfold BS;have:=Pu (OW (Cs d s) all all.length);rw[ON];omega
theorem Ip (d:List AJ) {t:ByteArray} (h:AK s t=true):Aq d s=Aq d t:=by
 have key:∀(l:List AJ) (k:Nat),C4 s k l=C4 t k l:=by
  intro l;induction l with
  | nil=>intro k;rfl
  | cons x l a =>
   intro k;simp only[C4];have:AK x.1 s=AK x.1 t:=by grind [AK,BP,B0]
   rw[this,a]
 exact key d 0
theorem Aw {α:Type} {l:List α} {d:α} (h:k<l.length):l.getD k d∈l:=by grind
theorem CM {α:Type} {l:List α} (d:α) {x:α} (h:x∈l):∃k,k<l.length/\l.getD k d=x:=by
 obtain⟨k,hk,e⟩:=AAd.1 h;exact⟨k,hk,by rw[AS,As hk];exact e⟩
theorem Iq {d:List AJ}:∀ {r:List AJ} {k:Nat},OU d k r=0->∀j,j<r.length->¬Aq d (r.getD j d0).1<((k+j:Nat):Int)/\BF (r.getD j d0).1 false=true
 | [],_,_,j,a=>by simp at a
 | x :: r,k,h,j,a=>by
  simp only[OU]at h;split at h
  .cases h
  rename_i h1;split at h
  .cases h
  rename_i b;cases j with
  | zero=>exact⟨b,by simpa using h1⟩
  | succ j =>
   have:=Iq h j (by simpa using a);have e:k+(j+1)=k+1+j:=by omega
   rw[e];exact this
theorem P1 (s:ByteArray):∀(l:List AJ) (k j:Nat),j<l.length->AK (l.getD j d0).1 s=true->C4 s k l<=((k+j:Nat):Int)
 | [],_,j,h,_=>by simp at h
 | x :: l,k,j,h,e=>by
  simp only[C4];split
  .omega
  rename_i h1;cases j with
  | zero=>exact absurd e h1
  | succ j =>
   have:=P1 s l (k+1) j (by simpa using h) e;omega
theorem MG {d:List AJ} (h:Cq d=0) {j:Nat} (b:j<d.length):Aq d (d.getD j d0).1=(j:Int):=by
 have h1:=(Iq h j b).1;have a:=P1 (d.getD j d0).1 d 0 j b (CD _);rw[AAY]at h1 a;have a:Aq d (d.getD j d0).1<=(j:Int):=a;omega
theorem P2 {d:List AJ} (h:Cq d=0) {x y:AJ} (a:x∈d) (b:y∈d) (e:AK x.1 y.1=true):x=y:=by
 obtain⟨i,hi,rfl⟩:=CM d0 a;obtain⟨j,c,rfl⟩:=CM d0 b;grind [MG,Ip]
theorem lI (d:List AJ) (out:List ByteArray) (h:(Hy d out).1=true):∃x∈d,x.1=(Hy d out).2/\Aa out x.1=false/\JC x out=true:=by
 have key:∀(l:List AJ) (s:Bool×ByteArray),(∀x∈l,x∈d)->(s.1=true->∃x∈d,x.1=s.2/\Aa out x.1=false/\JC x out=true)->(l.foldl (Il out) s).1=true ->
   ∃x∈d,x.1=(l.foldl (Il out) s).2/\Aa out x.1=false/\JC x out=true:=by
  intro l;induction l with
  | nil=>intro s _ hs h;exact hs h
  | cons y l e =>
   intro s a hs h;rw[OS]at h ⊢;refine e _ (λx c=>a x (by simp[c])) (λb=>?_) h;unfold Il at b ⊢;split
   .grind
   grind
 exact key d _ (λ_ h=>h) (λh=>by cases h) h
def PL (d:List AJ) (o:List ByteArray):Prop:=∀j,j<o.length->∃x∈d,x.1=o.getD j ByteArray.empty/\Aa (o.take j) x.1=false/\JC x (o.take j)=true
theorem PL.snoc {d:List AJ} (h:PL d o) {x:AJ} (i:x∈d) (h1:Aa o x.1=false) (f:JC x o=true):PL d (o++[x.1]):=by
 intro j g;by_cases a:j<o.length
 .obtain⟨y,k,b,c,e⟩:=h j a;grind
 grind
theorem VX {d:List AJ}:∀ {n:Nat} {o:List ByteArray},PL d o->PL d (Im d n o)
 | 0,_,h=>h
 | n+1,o,h=>by
  unfold Im;split
  .rename_i b;obtain⟨x,c,e,h1,a⟩:=lI d o b;rw[<-e];exact VX (h.snoc c h1 a)
  exact h
theorem YE (d:List AJ):PL d (Bn d):=VX λj a=>by simp at a
theorem PL.ok {d:List AJ} (h:PL d o):Zs d o:=by
 refine⟨λs hs=>?_,?_⟩
 .obtain⟨j,a,rfl⟩:=CM ByteArray.empty hs;obtain⟨x,b,e,-⟩:=h j a;rw[<-e];exact DU b
 rw[iN];intro i j hi a f;obtain⟨x,b,e,h1,-⟩:=h j a;have c:=Pr h1 o[i] (by rw[ABM];exact⟨i,O1,rfl⟩);grind
theorem lJ {n:Nat} {l:List Nat} (h:l.Nodup) (c:∀j∈l,j<n) (hn:n<=l.length) {k:Nat} (hk:k<n):k∈l:=by
 refine DO λb=>?_;have:=DG n (k :: l) (AAA.2 ⟨b,h⟩) (λj a=>by
  rcases By.1 a with rfl|a
  .exact hk
  exact c j a)
 simp at this;omega
theorem lK {d:List AJ} (f:d.length<=(Bn d).length) {x:AJ} (h:x∈d):∃s∈Bn d,AK s x.1=true:=by
 have a:=(YE d).ok;have h1:=KU d a;have h0:=DU h;have l:=DN d x.1;have b:=lJ (n:=d.length) h1 (λj c=>by
  obtain⟨s,hs,rfl⟩:=GO.1 c;have h1:=a.decl s hs;rcases DN d s with g|⟨_,g,_⟩<;>omega) (by simpa using f) (k:=(Aq d x.1).toNat) O1
 obtain⟨s,hs,e⟩:=GO.1 b;refine⟨s,hs,?_⟩;rcases DN d s with g|⟨_,_,i⟩
 .have:=a.decl s hs;omega
 grind [BP,B0]
def F6 (d:List AJ) (s:ByteArray):Nat:=(Bn d).findIdx λx=>AK x s
theorem H5 (d:List AJ) {t:ByteArray} (h:AK s t=true):F6 d s=F6 d t:=by grind [F6,AK,BP,B0]
theorem KX {d:List AJ} (hn:Cq d=0) (o:d.length<=(Bn d).length) {x:AJ} (g:x∈d) (hs:Aa x.2.1 s=true):F6 d s<F6 d x.1:=by
 obtain⟨t,ht,e⟩:=lK o g;have c:F6 d x.1<(Bn d).length:=List.findIdx_lt_length_of_exists ⟨t,ht,e⟩;have heq:AK ((Bn d)[F6 d x.1]) x.1=true:=List.findIdx_getElem (w:=c);obtain⟨y,q,a,-,j⟩:=YE d (F6 d x.1) c;rw[AS,As c]at a;have a:y.1=(Bn d)[F6 d x.1]:=a;rw[<-a]at heq;have r:=P2 hn q g heq;subst r;obtain⟨u,hu,h⟩:=aT.1 hs;have k:Aa ((Bn d).take (F6 d y.1)) u=true:=No.1 j u hu;obtain⟨v,f,ev⟩:=aT.1 k;rw[ABM]at f;obtain⟨i,hi,rfl⟩:=f;have n:i<F6 d y.1:=by omega
 refine ACI ?_ n;refine DO λm=>?_;have b:=List.not_of_lt_findIdx (p:=λx=>AK x s) (xs:=Bn d) (i:=i) (by unfold F6 at m;omega);have l:AK ((Bn d)[i]) s=true:=BP ev h;try simp only at b
 rw[l]at b;exact absurd b sc
def XJ (d:List AJ) (s x:ByteArray):Prop:=AK s x=true\/F6 d s<F6 d x
theorem uK {d:List AJ} (hn:Cq d=0) (f:d.length<=(Bn d).length) {c:ByteArray} (b:XJ d s c) (e:∀x∈o,XJ d s x) {x:AJ} (g:x∈d):∀y∈E8 c o x,XJ d s y:=by
 intro y a;unfold E8 at a;split at a
 .rename_i h;rw[AT]at h;rcases If.1 a with a|a
  .exact e y a
  have:y=x.1:=by simpa using a
  subst this;have h1:=KX hn f g h.1;right;rcases b with b|b
  .rw[H5 d b];exact h1
  omega
 exact e y a
theorem VY {d:List AJ} (hn:Cq d=0) (e:d.length<=(Bn d).length) {s c:ByteArray} (b:XJ d s c):∀ {l:List AJ} {o:List ByteArray},(∀x∈l,x∈d)->(∀x∈o,XJ d s x)->∀y∈l.foldl (E8 c) o,XJ d s y
 | [],_,_,a=>a
 | x :: l,o,f,a=>by
  rw[OS];exact VY hn e b (λy g=>f y (by simp[g])) (uK hn e b a (f x sc))
theorem Sh {d:List AJ} (hn:Cq d=0) (b:d.length<=(Bn d).length) {s:ByteArray}:∀ {n i:Nat} {o:List ByteArray},(∀x∈o,XJ d s x)->∀y∈Cr d n i o,XJ d s y
 | 0,_,_,a=>a
 | n+1,i,o,a=>by
  unfold Cr;split
  .rename_i hi;exact Sh hn b (VY hn b (a _ (Aw hi)) (λ_ h=>h) a)
  exact a
theorem A0G {c:ByteArray} {x:AJ} {y:ByteArray} (h:y∈o):y∈E8 c o x:=by grind [E8]
theorem M7 {c:ByteArray} {y:ByteArray}:∀ {l:List AJ} {o:List ByteArray},y∈o->y∈l.foldl (E8 c) o
 | [],_,h=>h
 | x :: l,o,h=>by rw[OS];exact M7 (A0G h)
theorem KY {d:List AJ} {y:ByteArray}:∀ {n i:Nat} {o:List ByteArray},y∈o->y∈Cr d n i o
 | 0,_,_,h=>h
 | n+1,i,o,h=>by
  unfold Cr;split
  .exact KY (M7 h)
  exact h
theorem Fz {l:List ByteArray} (h:x∈Dt l s):x∈l\/x=s:=by grind [Dt]
theorem Jg {l:List ByteArray} (h:x∈l):x∈Dt l s:=by
 unfold Dt;split
 .exact h
 have a:x∈l.take (W4 l s)\/x∈l.drop (W4 l s):=If.1 (by rw[ABJ];exact h);grind
theorem MH {l:List ByteArray}:Aa (Dt l s) s=true:=by
 unfold Dt;grind [Ik,W4,AK,Aa,CD]
theorem Fc {l:List ByteArray} (h:s∈l):Aa l s=true:=aT.2 ⟨s,h,CD s⟩
theorem Hf {l:List ByteArray} (hs:∀x∈l,x∈m) (h:Aa l s=true):Aa m s=true:=by
 obtain⟨x,a,e⟩:=aT.1 h;exact aT.2 ⟨x,hs x a,e⟩
theorem VZ:∀ {l o:List ByteArray} {x:ByteArray},x∈l.foldl Dt o->x∈o\/x∈l
 | [],_,_,h=>.inl h
 | y :: l,o,x,h=>by
  rw[OS]at h;rcases VZ h with h|h
  .grind [Fz]
  grind
theorem YF:∀ {l o:List ByteArray} {x:ByteArray},x∈o->x∈l.foldl Dt o
 | [],_,_,h=>h
 | y :: l,o,x,h=>by rw[OS];exact YF (Jg h)
theorem P3:∀ {l o:List ByteArray} {x:ByteArray},x∈l->Aa (l.foldl Dt o) x=true
 | [],_,_,h=>by cases h
 | y :: l,o,x,h=>by
  rw[OS];rcases By.1 h with rfl|h
  .grind [Hf,YF,MH]
  exact P3 h
theorem Oc {d:List AJ} (h:0<=Aq d s):Aa (Cs d s) s=true:=by
 unfold Cs;rw[An O1];exact P3 (KY sc)
theorem Va {d:List AJ} (hn:Cq d=0) (c:d.length<=(Bn d).length) (h:Aa (Cs d s) x=true):XJ d s x:=by
 obtain⟨y,a,e⟩:=aT.1 h;have b:XJ d s y:=by
  unfold Cs at a;split at a
  .cases a
  rcases VZ a with a|a
  .cases a
  refine Sh hn c (λz f=>?_) y a;have:z=s:=by simpa using f
  rw[this];exact .inl (CD s)
 rcases b with b|b
 .exact .inl (BP b e)
 rw[H5 d e]at b;exact .inr b
theorem DV {d:List AJ} (h:s∈AN d):∃x∈d,x.1=s:=by
 have key:∀(l:List AJ) (o:List ByteArray),s∈l.foldl (λo x=>Dt o x.1) o->s∈o\/∃x∈l,x.1=s:=by
  intro l;induction l with
  | nil=>intro o h;exact .inl h
  | cons x l a =>
   intro o h;rw[OS]at h;rcases a _ h with h|⟨y,b,e⟩
   .grind [Fz]
   grind
 rcases key d [] h with h|h
 .cases h
 exact h
theorem Od {d:List AJ} {x:AJ} (h:x∈d):Aa (AN d) x.1=true:=by
 have b:∀(l:List AJ) (o:List ByteArray),∀y∈o,y∈l.foldl (λo x=>Dt o x.1) o:=by
  intro l;induction l with
  | nil=>intro o y h;exact h
  | cons x l a=>intro o y h;rw[OS];exact a _ y (Jg h)
 have key:∀(l:List AJ) (o:List ByteArray),x∈l->Aa (l.foldl (λo x=>Dt o x.1) o) x.1=true:=by
  intro l;induction l with
  | nil=>intro o h;cases h
  | cons y l a =>
   intro o h;rw[OS];rcases By.1 h with rfl|h
   .grind [Hf,MH]
   exact a _ h
 exact key d [] h
theorem eZ {d:List AJ} (hn:Cq d=0) (f:d.length<=(Bn d).length) (q:d.length<=256) {i j:Nat} (hi:i<(AN d).length) (c:j<(AN d).length)
  (h:DM (Eb d (AN d) ((AN d).getD i ByteArray.empty)) (Eb d (AN d) ((AN d).getD j ByteArray.empty))=true):AK ((AN d).getD i ByteArray.empty) ((AN d).getD j ByteArray.empty)=true:=by
 have n:=Du d d.length;rw[oR]at n;have a:(AN d).length<=4096:=by omega
 generalize hs:(AN d).getD i ByteArray.empty=s at *;generalize ht:(AN d).getD j ByteArray.empty=t at *;have o:0<=Aq d s:=by
  obtain⟨x,b,e⟩:=DV (s:=s) (by rw[<-hs];exact Aw hi);rw[<-e];exact DU b
 have p:0<=Aq d t:=by
  obtain⟨x,b,e⟩:=DV (s:=t) (by rw[<-ht];exact Aw c);rw[<-e];exact DU b
 obtain⟨c1,g,-⟩:=CE (d:=d) a s i;obtain⟨c2,k,-⟩:=CE (d:=d) a t i;obtain⟨l,-,-⟩:=CE (d:=d) a s j;obtain⟨m,-,-⟩:=CE (d:=d) a t j;unfold DM at h;rw[AT]at h;have b1:=Va hn f (c2.1 (MF g k h.1 (c1.2 ⟨hi,by rw[hs];exact Oc o⟩))).2;have b2:=Va hn f (l.1 (MF k g h.2 (m.2 ⟨c,by rw[ht];exact Oc p⟩))).2;rw[hs]at b1;rw[ht]at b2;rcases b1 with b1|b1
 .exact B0 b1
 rcases b2 with b2|b2
 .exact b2
 omega
section
attribute [local go_sem] Zm A0g MC LP LK
def pS (d:List AJ) (all:List ByteArray) (codes:List (List Int)) (b:List Int):Nat->Nat->List ByteArray->ByteArray ⊕ List ByteArray
 | 0,_,l=>.inr l
 | n+1,i,l=>if DM (codes.getD i []) b=true then .inl (all.getD i ByteArray.empty) else pS d all codes b n (i+1) (if S9 b (i:Int)=true then l++[all.getD i ByteArray.empty] else l)
def YG (l:List ByteArray) (s:ByteArray) (i:Nat):ByteArray:=(if 0<(i:Int) then s++ByteArray.mk #[38] else s)++l.getD i ByteArray.empty
def e9 (l:List ByteArray):ByteArray:=(List.range l.length).foldl (YG l) ByteArray.empty
def Gk (d:List AJ) (all:List ByteArray) (codes:List (List Int)) (b:List Int):ByteArray :=
 match pS d all codes b all.length 0 [] with
 | .inl s=>s
 | .inr l=>e9 (A7 d l)
theorem Nk {d:List AJ} {x:ByteArray}:∀ {l o:List ByteArray},x∈l.foldl (E9 d) o->x∈o\/x∈l
 | [],_,h=>.inl h
 | y :: l,o,h=>by
  rw[OS]at h;rcases Nk h with h|h
  .unfold E9 at h;split at h
   .rcases Fz h with h|h
    .exact .inl h
    exact .inr (by simp[h])
   exact .inl h
  exact .inr (by simp[h])
theorem HQ {d:List AJ} {l:List ByteArray} {x:ByteArray} (h:x∈A7 d l):x∈l:=by
 unfold A7 Pt at h;obtain⟨i,hi,rfl⟩:=GO.1 h;rw[ABe,oS]at hi;rcases Nk (Aw (d:=ByteArray.empty) hi.1) with h|h
 .cases h
 exact h
theorem Zz (d:List AJ) (l:List ByteArray):(A7 d l).length<=l.length:=gO (eI _ _ _) (JD d l)
theorem lL {l:List ByteArray} (h:∀s∈l,s.size<=32) (k:Nat):(l.getD k ByteArray.empty).size<=32:=by
 rw[AS];cases hh:l[k]? with
 | none=>simp
 | some x=>exact h x (AAM hh)
def P4 (l:List ByteArray) (n:Nat):ByteArray:=(List.range n).foldl (YG l) ByteArray.empty
theorem Oe (l:List ByteArray) (n:Nat):P4 l (n+1)=YG l (P4 l n) n:=by
 unfold P4;rw[AAz,ABq];rfl
theorem Vb {l:List ByteArray} (h:∀s∈l,s.size<=32):∀n,(P4 l n).size<=33*n
 | 0=>by simp[P4]
 | n+1=>by
  have h1:=Vb h n;have a:=lL h n;rw[Oe];unfold YG;split
  .rw[ABL,ABL];have:(ByteArray.mk #[38]).size=1:=rfl;omega
  rw[ABL];omega
def Z0:AZ:={ ins:=[Ey,CV,S8,Ba],pre:=λ(d,all,codes,b,_)=>Pq d/\List.length d<=256/\List.length all<=256/\List.length codes=List.length all/\(∀s∈(all:List ByteArray),s.size<=32)/\(∀x∈(codes:List (List Int)),x.length<=64)/\List.length b<=64,out:=λ(d,all,codes,b,_)=>[.p T9 (Gk d all codes b)] }
theorem uL:Ac Tryz.prog 115 Z0:=by
 refine fK [0,1,2,3,8,9,10,11,12,16,24,31,45,49] Tryz.func115 Tryz.ntmps115 (AE t8 (AE A0h (AE VS AH))) ?_;rintro w0 O0 ⟨d,all,codes,b,u⟩ e-⟨hs,z,t,q,C,y,w⟩;have t:all.length<=256:=t;have q:codes.length=all.length:=q;simp only[Z0,AL];repeat'(first|exact a6|apply eS rfl|refine rX e ?_ ?_)
 refine AI (ι:={x:Nat×List ByteArray//x.1<=all.length/\x.2.length<=x.1/\(∀s∈x.2,s.size<=32)/\pS d all codes b (all.length-x.1) x.1 x.2=pS d all codes b all.length 0 []}) (λx=>⟨[(0,.p Ey d),(1,.p CV all),(2,.p S8 codes),(3,.p Ba b),(9,.sr 38 T9 0 x.1.2.length),(10,.p (.int .i64) (x.1.1:Int))],[(38,.arr 9 T9 x.1.2)]⟩) (λx=>all.length-x.1.1) ⟨(0,[]),sc,sc,sc,rfl⟩ (eW [(38,.nil)]) (λx=>?_)
 obtain⟨⟨i,l⟩,hi,B,o,f⟩:=x;simp only at hi B o f;have r:i<all.length->pS d all codes b (all.length-i) i l=if DM (codes.getD i []) b=true then .inl (all.getD i ByteArray.empty) else pS d all codes b (all.length-(i+1)) (i+1) (if S9 b (i:Int)=true then l++[all.getD i ByteArray.empty] else l):=by
  intro h;rw[show all.length-i=(all.length-(i+1))+1 by omega];rfl
 simp only;repeat'(first|exact a6|apply eS rfl|apply AB|refine rX e ?_ ?_|refine rC ?_ ?_<;>intro a<;>try(cases a;done))
 .exact⟨by rw[q];exact a,gO (MD y i) df,gO w df⟩
 .assumption
 .have c:i<all.length:=by exact eV
  have j:Gk d all codes b=all.getD i ByteArray.empty:=by
   unfold Gk;rw[<-f,r c,At a]
  exact fI e [.tmp 8] (by rw[j];exact eR)
 .have c:i<all.length:=by exact eV
  exact⟨f4.2 c,by simp only[AP];omega⟩
 .exact eV
 .have c:i<all.length:=by exact eV
  have hn:=r c;rw[An (by rw[‹DM _ _=false›];simp),At a]at hn;refine⟨⟨(i+1,l++[all.getD i ByteArray.empty]),a2,by simp only[IS,nO];omega,?_,hn.symm.trans f⟩,a2,AC [(38,.nm 38)] rfl rfl ?_ ?_⟩
  .intro s hs;rcases If.1 hs with hs|hs
   .exact o s hs
   have:s=all.getD i ByteArray.empty:=by simpa using hs
   rw[this];exact lL C i
  .exact eN
  exact eN
 .exact eV
 .have c:i<all.length:=by exact eV
  have hn:=r c;rw[An (by rw[‹DM _ _=false›];simp),An (by rw[a];simp)]at hn;exact⟨⟨(i+1,l),a2,a2,o,hn.symm.trans f⟩,a2,eW [(38,.nm 38)]⟩
 have j:Gk d all codes b=e9 (A7 d l):=by
  unfold Gk;rw[<-f];have:all.length-i=0:=by exact eV
  rw[this];rfl
 refine Cj [38] ?_;repeat'(first|exact a6|apply eS rfl|refine rX e ?_ ?_)
 .exact⟨hs,z,O1⟩
 have v:∀s∈A7 d l,s.size<=32:=λs h=>o s (HQ h);have E:=Zz d l;have A:e9 (A7 d l)=P4 (A7 d l) (A7 d l).length:=rfl;rw[A]at j;generalize A7 d l=m at *;refine AI (ι:={k:Nat//k<=m.length}) (λk=>⟨[(9,.p CV m),(11,.p T9 (P4 m k.1)),(12,.p (.int .i64) (k.1:Int))],[]⟩) (λk=>m.length-k.1) ⟨0,Do _⟩ (AC [] rfl rfl ?_ ?_) (λk=>?_)
 .exact eN
 .refine eM ?_;rfl
 obtain⟨k,hk⟩:=k;have hk:k<=m.length:=hk;have D:=Vb v k;have n:=Oe m k;have F:=lL v k;unfold YG at n;simp only;repeat'(first|exact a6|apply eS rfl|apply AB|refine rX e ?_ ?_|refine rC ?_ ?_<;>intro a<;>try(cases a;done))
 .have h1:(ByteArray.mk #[38]).size=1:=rfl;rw[h1];simp only[AP];exact eV
 .refine⟨a4,?_⟩;have h1:(ByteArray.mk #[38]).size=1:=rfl;rw[ABL,h1];simp only[AP];exact eV
 .exact eV
 .have g:k<m.length:=by exact eV
  rw[At a]at n;refine⟨⟨k+1,g⟩,a2,AC [] rfl rfl ?_ ?_⟩
  .exact eN
  simp only[n];exact eN
 .refine⟨a4,?_⟩;simp only[AP];exact eV
 .exact eV
 .have g:k<m.length:=by exact eV
  rw[An (AAy.2 a)]at n;refine⟨⟨k+1,g⟩,a2,AC [] rfl rfl ?_ ?_⟩
  .exact eN
  simp only[n];exact eN
 have g:k=m.length:=by exact eV
 rw[<-g]at j;exact fI e [.tmp 8] (by rw[j];exact eR)
end
section
attribute [local go_sem] Tj Pp A0u Zw Z0 Zv
def Fd (x:AR) (out:List AR):Nat->Nat
 | 0=>0
 | n+1=>if Fy x (out.getD n c0)=true then Fd x out n else n+1
def Z1 (out:List AR) (x:AR):List AR:=out.take (Fd x out out.length)++[x]++out.drop (Fd x out out.length)
def AY (d:List AJ):List (List Int):=(AN d).map λs=>Eb d (AN d) s
def GP (d:List AJ) (all:List ByteArray) (codes:List (List Int)) (out:List AR) (b:List Int):List AR:=Z1 out (Gk d all codes b,b)
def RY (d:List AJ):List AR->List Int->List AR:=GP d (AN d) (AY d)
theorem Og (d:List AJ) (all:List ByteArray) (codes:List (List Int)):∀(l:List (List Int)) (o:List AR),(l.foldl (GP d all codes) o).length=o.length+l.length
 | [],o=>by simp
 | b :: l,o=>by
  rw[OS,Og d all codes l];unfold GP Z1;simp only[IS,ON,ABn,NO,AAl];omega
theorem Vc {d:List AJ} {all:List ByteArray} {codes:List (List Int)}:∀ {l:List (List Int)} {o:List AR},(∀c∈l,c.length<=64)->(∀y∈o,y.2.length<=64)->∀y∈l.foldl (GP d all codes) o,y.2.length<=64
 | [],_,_,e=>e
 | b :: l,o,f,e=>by
  rw[OS];refine Vc (λc g=>f c (by simp[g])) (λy a=>?_);unfold GP Z1 at a;simp only[If,oN]at a;rcases a with (a|a)|a
  .exact e y (AAw a)
  .rw[a];exact f b sc
  exact e y (ABy a)
theorem fA (x:AR) (out:List AR):∀n,Fd x out n<=n
 | 0=>On _
 | n+1=>by
  unfold Fd;split
  .exact Nat.le_succ_of_le (fA x out n)
  exact On _
def AM (d:List AJ):List AR:=(A0 (AY d)).foldl (RY d) []
def CF (d:List AJ):List AR×Int :=
 if BA d≠0 then ([],BA d) else if 256<(A0 (AY d)).length then ([],7) else (AM d,0)
theorem lM {b:Bool} (h:BF s b=true):s.size<=32:=by
 unfold BF at h;rw[AT]at h;have h1:=h.1;unfold OQ at h1;simp only[bY,AAb,aS]at h1;have:=h1.1.1.2;omega
theorem fB {d:List AJ} (hn:Cq d=0):∀s∈AN d,s.size<=32:=by
 intro s hs;obtain⟨x,b,rfl⟩:=DV hs;obtain⟨j,a,rfl⟩:=CM d0 b;exact lM (Iq hn j a).2
def KZ (d:List AJ) (n:Nat):List (List Int):=((AN d).take n).map λs=>Eb d (AN d) s
theorem lN {d:List AJ} {n:Nat} (h:n<=(AN d).length):(KZ d n).length=n:=by simp[KZ,h]
theorem fC {d:List AJ} {n:Nat} (h:n<(AN d).length):KZ d (n+1)=KZ d n++[Eb d (AN d) ((AN d).getD n ByteArray.empty)]:=by
 unfold KZ;rw[Ay _ ByteArray.empty h,AAT];rfl
theorem lO (d:List AJ):KZ d (AN d).length=AY d:=by simp[KZ,AY]
theorem lP (d:List AJ):(AY d).length=(AN d).length:=by simp[AY]
theorem Oh {d:List AJ} (h:d.length<=256):∀c∈AY d,c.length<=64:=by
 intro c a;unfold AY at a;obtain⟨s,-,rfl⟩:=GO.1 a;have b:=Du d d.length;rw[oR]at b;exact(CE (d:=d) (all:=AN d) O1 s 0).2.2
theorem fD {i:Nat}:∀ {n k:Nat} {l:List (List Int)},(∀c∈l,c.length<=64)->∀c∈GN i n k l,c.length<=64
 | 0,_,_,h=>h
 | n+1,k,l,h=>by
  unfold GN;split
  .exact fD (eO h i k)
  exact h
theorem P5:∀ {n i:Nat} {l:List (List Int)},(∀c∈l,c.length<=64)->∀c∈H2 n i l,c.length<=64
 | 0,_,_,h=>h
 | n+1,i,l,h=>by
  unfold H2;split
  .exact P5 (fD h)
  exact h
theorem fE {out:List AR} {x y:AR}:y∈Z1 out x↔y=x\/y∈out:=by
 unfold Z1;rw[If,If,oN];have h:=If (a:=y) (s:=out.take (Fd x out out.length)) (t:=out.drop (Fd x out out.length));rw[ABJ]at h;rw[h];constructor
 .rintro ((h|h)|h)
  .exact .inr (.inl h)
  .exact .inl h
  exact .inr (.inr h)
 rintro (h|h|h)
 .exact .inl (.inr h)
 .exact .inl (.inl h)
 exact .inr h
def RZ:AZ:={ ins:=[Ey],pre:=λ_=>True,out:=λ(d,_)=>[.p JZ (CF d).1,.p C0 (CF d).2] }
theorem P6:Ac Tryz.prog 65 RZ:=by
 refine fK [0,2,3,4,5,6,7,8,9,10,11,12,13,17,24,41,45,73] Tryz.func65 Tryz.ntmps65 (AE uE (AE X6 (AE A43 (AE uJ (AE uL (AE uH AH)))))) ?_;rintro w0 O0 ⟨d,u⟩ g - -;simp only[RZ,AL];repeat'(first|exact a6|apply eS rfl|refine rX g ?_ ?_|refine rC ?_ ?_<;>intro a<;>try(cases a;done))
 .have h1:CF d=([],BA d):=by unfold CF;rw[At a]
  exact fI g [.tmp 2,.tmp 3] (by rw[h1];exact eR)
 .have i:BA d=0:=by simpa using a
  obtain⟨-,E,-⟩:=A2 i;exact gO E df
 have i:BA d=0:=by simpa using a
 obtain⟨M,s,-,hn,-⟩:=A2 i;have F:=Du d d.length;rw[oR]at F;have N:=fB hn;refine AI (ι:={n:Nat//n<=(AN d).length}) (λn=>⟨[(0,.p Ey d),(5,.p CV (AN d)),(6,.sr 36 Ba 0 (KZ d n.1).length),(7,.p (.int .i64) (n.1:Int))],[(36,.arr 111 Ba (KZ d n.1))]⟩) (λn=>(AN d).length-n.1) ⟨0,Do _⟩ (AC [(36,.nil)] rfl rfl ?_ ?_) (λn=>?_)
 .refine eM ?_;rfl
 .refine eM ?_;rfl
 obtain⟨n,I⟩:=n;have Q:=lN I;have hs:=λh=>fC (d:=d) (n:=n) h;simp only;repeat'(first|exact a6|apply eS rfl|apply AB|refine rX g ?_ ?_|refine rC ?_ ?_<;>intro a<;>try(cases a;done))
 .refine⟨a,⟨s,by dsimp only[Ty.den]at *;omega⟩,?_⟩;simp only[AP];dsimp only[Ty.den]at *;omega
 .exact eV
 .have w:n<(AN d).length:=by exact eV
  have e:=hs w;refine⟨⟨n+1,O1⟩,a2,AC [(36,.nm 36)] rfl rfl ?_ ?_⟩
  .simp only[e];exact eN
  simp only[e];exact eN
 have w:n=(AN d).length:=by exact eV
 subst w;rw[lO];have H:=lP d;have x:=Oh s;have t:∀c∈A0 (AY d),c.length<=64:=P5 x;refine Cj [36] ?_;repeat'(first|exact a6|apply eS rfl|refine rX g ?_ ?_|refine rC ?_ ?_<;>intro a<;>try(cases a;done))
 .exact⟨O1,x⟩
 .have h1:CF d=([],7):=by
   unfold CF;rw[An (by rw[i];simp),At O1]
  exact fI g [.tmp 2,.tmp 3] (by rw[h1];exact eR)
 have D:CF d=((A0 (AY d)).foldl (GP d (AN d) (AY d)) [],0):=by
  unfold CF;rw[An (by rw[i];simp),An O1];rfl
 generalize A0 (AY d)=f at *;generalize AY d=codes at *;generalize AN d=all at *;refine AI (ι:={k:Nat//k<=f.length}) (λk=>⟨[(0,.p Ey d),(5,.p CV all),(6,.p S8 codes),(8,.p S8 f),(9,.sr 9 Zi 0 ((f.take k.1).foldl (GP d all codes) []).length),(10,.p (.int .i64) (k.1:Int))],[(9,.arr 127 Zi ((f.take k.1).foldl (GP d all codes) []))]⟩) (λk=>f.length-k.1) ⟨0,Do _⟩ (AC [(9,.nil)] rfl rfl ?_ ?_) (λk=>?_)
 .refine eM ?_;rfl
 .refine eM ?_;rfl
 obtain⟨k,hk⟩:=k;have C:=Og d all codes (f.take k) [];have O:(f.take k).length=k:=by rw[ON];exact ABE hk
 have J:=Vc (d:=d) (all:=all) (codes:=codes) (l:=f.take k) (o:=[]) (λc g=>t c (AAw g)) sc;have L:=λh:k<f.length=>Eo (GP d all codes) f [] [] h;rw[O]at C;simp only[AAl,AAY]at C;generalize B:(f.take k).foldl (GP d all codes) []=out at *;simp only;repeat'(first|exact a6|apply eS rfl|refine rX g ?_ ?_|refine rC ?_ ?_<;>intro a<;>try(cases a;done))
 .exact⟨a,⟨M,s,O1,H,N,x,MD t k⟩,a⟩
 .have v:k<f.length:=by exact eV
  have e:=L v;have G:=MD t k;generalize f.getD k []=b at *;unfold GP at e;generalize Gk d all codes b=nm at *;refine AI (ι:={q:Nat//q<=out.length/\Fd (nm,b) out q=Fd (nm,b) out out.length}) (λq=>⟨[(0,.p Ey d),(5,.p CV all),(6,.p S8 codes),(8,.p S8 f),(9,.sr 9 Zi 0 out.length),(10,.p (.int .i64) (k:Int)),(11,.bp 11 [] 0),(12,.p (.int .i64) (q.1:Int))],[(9,.arr 127 Zi out),(11,.box 127 true [.p T9 nm,.p Ba b])]⟩) (λq=>q.1) ⟨out.length,On _,rfl⟩ (eW [(9,.nm 9),(11,.nm 11)]) (λq=>?_)
  obtain⟨q,j,A⟩:=q;have j:q<=out.length:=j;simp only;repeat'(first|exact a6|apply eS rfl|apply AB|refine rX g ?_ ?_|refine rC ?_ ?_<;>intro a<;>try(cases a;done))
  .refine⟨λh=>by omega,λh=>by exact eV,λh=>⟨gO G df,gO (J _ (AF out c0 (k:=((q:Int)-1).toNat) O1)) df⟩⟩
  .omega
  .obtain⟨P,z⟩:=a;obtain⟨q,rfl⟩:∃r,q=r+1:=⟨q-1,O1⟩;have m:((q+1:Nat):Int)-1=(q:Int):=by omega
   refine⟨⟨q,O1,?_⟩,ABf q,AC [(9,.nm 9),(11,.nm 11)] rfl rfl ?_ ?_⟩
   .rw[<-A];rw[m,jC]at z;show _=if Fy (nm,b) (out.getD q c0)=true then Fd (nm,b) out q else q+1
    rw[At z]
   .exact eN
   refine eM ?_;show (q:Int)+1-1=q;omega
  .refine⟨AA7.2 j,?_⟩;rw[ON];simp only[AP];omega
  .rw[ON];simp only[AP];omega
  .refine⟨AA7.2 j,?_⟩;rw[ON,ABn];simp only[AP];omega
  .omega
  have K:Fd (nm,b) out q=q:=by
   cases q with
   | zero=>rfl
   | succ q =>
    have m:((q+1:Nat):Int)-1=(q:Int):=by omega
    have:=a O1;rw[m,jC]at this;show (if Fy (nm,b) (out.getD q c0)=true then Fd (nm,b) out q else q+1)=q+1;rw[An (by rw[this];simp)]
  unfold Z1 at e;rw[<-A,K]at e;refine⟨⟨k+1,O1⟩,a2,AC [(9,.nm 80)] rfl rfl ?_ ?_⟩
  .refine eM ?_;exact e.symm
  refine eM ?_;have y:=ABj List.length e;rw[IS,IS]at y;exact y.symm
 have v:k=f.length:=by exact eV
 rw[v,oR]at B;rw[B]at D;refine Cj [9] ?_;exact fI g [.tmp 2,.tmp 3] (by rw[D];exact eR)
end
theorem YH {d:List AJ}:∀ {l:List (List Int)} {o:List AR} {y:AR},y∈l.foldl (RY d) o↔y∈o\/∃b∈l,y=(Gk d (AN d) (AY d) b,b)
 | [],o,y=>by simp
 | b :: l,o,y=>by
  rw[OS,YH];unfold RY GP;rw[fE];simp only[By];constructor
  .rintro ((h|h)|⟨c,a,e⟩)
   .exact .inr ⟨b,.inl rfl,h⟩
   .exact .inl h
   exact .inr ⟨c,.inr a,e⟩
  rintro (h|⟨c,rfl|a,e⟩)
  .exact .inl (.inr h)
  .exact .inl (.inl e)
  exact .inr ⟨c,a,e⟩
theorem DW {d:List AJ} {y:AR}:y∈AM d↔∃b∈A0 (AY d),y=(Gk d (AN d) (AY d) b,b):=by
 unfold AM;rw[YH];simp
theorem H6 (d:List AJ):(AM d).length=(A0 (AY d)).length:=by
 have h:=Og d (AN d) (AY d) (A0 (AY d)) [];rw[AAl,AAY]at h;exact h
theorem A0H {i k:Nat} {c:List Int} (h:c∈l):c∈GM l i k:=by
 unfold GM;split
 .exact If.2 (.inl h)
 exact h
theorem fF {i:Nat} {c:List Int}:∀ {n k:Nat} {l:List (List Int)},c∈l->c∈GN i n k l
 | 0,_,_,h=>h
 | n+1,k,l,h=>by
  unfold GN;split
  .exact fF (A0H h)
  exact h
theorem fG {c:List Int}:∀ {n i:Nat} {l:List (List Int)},c∈l->c∈H2 n i l
 | 0,_,_,h=>h
 | n+1,i,l,h=>by
  unfold H2;split
  .exact fG (fF h)
  exact h
theorem Ir (d:List AJ) {i:Nat} (h:i<(AN d).length):(AY d).getD i []=Eb d (AN d) ((AN d).getD i ByteArray.empty):=by
 unfold AY;simp[AS,h]
theorem pT {d:List AJ} (hn:Cq d=0) (f:d.length<=(Bn d).length) (c:d.length<=256) {j:Nat} (b:j<(AN d).length):∀(m i:Nat) (l:List ByteArray),i+m=(AN d).length->i<=j ->
  ∃s,pS d (AN d) (AY d) ((AY d).getD j []) m i l=.inl s/\AK s ((AN d).getD j ByteArray.empty)=true
 | 0,i,l,h,g=>by omega
 | m+1,i,l,h,g=>by
  unfold pS;split
  .rename_i a;refine⟨_,rfl,?_⟩;rw[Ir d O1,Ir d b]at a;exact eZ hn f c O1 b a
  rename_i a;have k:i≠j:=by
   intro e;subst e;exact a (eY _)
  exact pT hn f c b m (i+1) _ O1 O1
theorem pU (s:ByteArray):∀(l:List AR) (k:Nat),KV s k l<((k+l.length:Nat):Int)
 | [],k=>by simp only[KV];omega
 | x :: l,k=>by
  simp only[KV];split
  .simp only[NO];omega
  have:=pU s l (k+1);simp only[NO];omega
theorem pV (s:ByteArray):∀(l:List AR) (k:Nat) (x:AR),x∈l->AK x.1 s=true->0<=KV s k l
 | [],_,_,h,_=>by cases h
 | y :: l,k,x,h,e=>by
  simp only[KV];split
  .omega
  rename_i a;rcases By.1 h with rfl|h
  .exact absurd e a
  exact pV s l (k+1) x h e
theorem H7 (l:List AR) (s:ByteArray):BN l s<(l.length:Int):=by
 have:=pU s l 0;rw[AAY]at this;exact this
theorem Gl {d:List AJ} (h:BA d=0) (hs:Aa (AN d) s=true):0<=BN (AM d) s:=by
 obtain⟨-,b,-,hn,f⟩:=A2 h;obtain⟨t,ht,e⟩:=aT.1 hs;obtain⟨j,c,rfl⟩:=CM ByteArray.empty ht;obtain⟨u,hu,a⟩:=pT hn f b c (AN d).length 0 [] O1 O1;have g:(AY d).length=(AN d).length:=by simp[AY]
 refine pV s (AM d) 0 (u,(AY d).getD j []) ?_ (BP a e);rw[DW];refine⟨(AY d).getD j [],fG (Aw O1),?_⟩;unfold Gk;rw[hu]
theorem MJ {d:List AJ} (h:BA d=0) {x:AJ} (a:x∈d):0<=BN (AM d) x.1:=Gl h (Od a)
theorem Bc {d:List AJ} (h:(CF d).2=0):BA d=0/\(A0 (AY d)).length<=256/\(CF d).1=AM d:=by
 unfold CF at h ⊢;split at h
 .rename_i h1;exact absurd h h1
 rename_i h1;split at h
 .cases h
 rename_i a;exact⟨DO h1,O1,by rw[An h1,An a]⟩
theorem pW {d:List AJ} (h:BA d=0):0<(AM d).length:=by
 obtain⟨-,-,a,-,-⟩:=A2 h;cases d with
 | nil=>cases a
 | cons x d =>
  have:=MJ h (x:=x) sc;have b:=H7 (AM (x :: d)) x.1;omega
section
attribute [local go_sem] pM
def A7E (l:List AR) (i k:Int) (m:Nat):Bool:=(m:Int)==i||(m:Int)==k||!K6 l k (m:Int)||!K6 l (m:Int) i
def uM (l:List AR) (i k:Int) (n:Nat):Bool:=(List.range n).all (A7E l i k)
def uN (l:List AR) (i:Int) (k:Nat):Bool:=!((k:Int)==i||!K6 l (k:Int) i)&&uM l i (k:Int) l.length
def Nl (l:List AR) (i:Int) (n:Nat):List Int:=((List.range n).filter λ(k:Nat)=>uN l i k).map λ(k:Nat)=>(k:Int)
def YI (l:List AR) (i:Int):List Int:=Nl l i l.length
theorem lQ (l:List AR) (i:Int) (n:Nat):Nl l i (n+1)=Nl l i n++if uN l i n=true then [(n:Int)] else []:=by
 unfold Nl;rw[AAz,AC2,AAT]
 congr 1
 rw[AAO,ACj];split<;>rfl
theorem uO (l:List AR) (i:Int) (n:Nat):(Nl l i n).length<=n:=by
 unfold Nl;rw[Of];exact gO (ABu _ _) sc
theorem uP (l:List AR) (i k:Int) (n:Nat):uM l i k (n+1)=(uM l i k n&&A7E l i k n):=by
 unfold uM;rw[AAz,ACk];simp
def A0I:AZ:={ ins:=[JZ,T3],pre:=λ(l,i,_)=>((0:Int)<=i/\i<(List.length l:Int))/\List.length l<=256/\(∀x∈(l:List AR),x.2.length<=64),out:=λ(l,i,_)=>[.p Bx (YI l i)] }
theorem A4b:Ac Tryz.prog 66 A0I:=by
 refine fK [0,1,4,5,6,7,8,12,24,28,56] Tryz.func66 Tryz.ntmps66 (AE pO AH) ?_;rintro w0 O0 ⟨l,i,u⟩ c-⟨hi,g,o⟩;have g:l.length<=256:=g;have f:∀x∈(l:List AR),x.2.length<=100000:=λx h=>gO (o x h) df;simp only[A0I,AL];repeat'(first|exact a6|apply eS rfl|refine rX c ?_ ?_)
 refine AI (ι:={k:Nat//k<=l.length}) (λk=>⟨[(0,.p JZ l),(1,.p T3 i),(5,.sr 60 T3 0 (Nl l i k.1).length),(6,.p (.int .i64) (k.1:Int))],[(60,.arr 3 T3 (Nl l i k.1))]⟩) (λk=>l.length-k.1) ⟨0,Do _⟩ (AC [(60,.nil)] rfl rfl ?_ ?_) (λk=>?_)
 .refine eM ?_;rfl
 .refine eM ?_;rfl
 obtain⟨k,hk⟩:=k;have hk:k<=l.length:=hk;have q:=uO l i k;have hs:=lQ l i k;simp only;repeat'(first|exact a6|apply eS rfl|apply AB|refine rX c ?_ ?_|refine rC ?_ ?_<;>intro a<;>try(cases a;done))
 .intro h;exact⟨a4,hi,f⟩
 .exact eV
 .have e:k<l.length:=by exact eV
  have b:uN l i k=false:=by
   unfold uN;rw[AB0];left;rw[ABx,tO,AA9,bY];exact a
  rw[b,An sc,AAu]at hs;refine⟨⟨k+1,O1⟩,a2,AC [(60,.nm 60)] rfl rfl ?_ ?_⟩
  .simp only[hs];exact eN
  simp only[hs];exact eN
 .have e:k<l.length:=by exact eV
  have b:uN l i k=uM l i (k:Int) l.length:=by
   unfold uN;rw[show ((k:Int)==i||!K6 l (k:Int) i)=false by
    rw[AAb,AB6,ABx];exact a]
   rfl
  refine AI (ι:={m:Nat//m<=l.length}) (λm=>⟨[(0,.p JZ l),(1,.p T3 i),(5,.sr 60 T3 0 (Nl l i k).length),(6,.p (.int .i64) (k:Int)),(7,.p .bool (uM l i (k:Int) m.1)),(8,.p (.int .i64) (m.1:Int))],[(60,.arr 3 T3 (Nl l i k))]⟩) (λm=>l.length-m.1) ⟨0,Do _⟩ (AC [(60,.nm 60)] rfl rfl ?_ ?_) (λm=>?_)
  .exact eN
  .refine eM ?_;rfl
  obtain⟨m,j⟩:=m;have j:m<=l.length:=j;have n:=uP l i (k:Int) m;simp only;repeat'(first|exact a6|apply eS rfl|apply AB|refine rX c ?_ ?_|refine rC ?_ ?_<;>intro a<;>try(cases a;done))
  .exact⟨λh=>⟨a4,a,f⟩,λh=>⟨a,hi,f⟩⟩
  .exact eV
  .have d:m<l.length:=by exact eV
   refine⟨⟨m+1,O1⟩,a2,AC [(60,.nm 60)] rfl rfl ?_ ?_⟩
   .exact eN
   simp only[n];unfold A7E;exact eN
  .simp only[AP];dsimp only[Ty.den]at *;omega
  .exact eV
  .have d:m=l.length:=by exact eV
   subst d;rw[b,At a]at hs;refine⟨⟨k+1,O1⟩,a2,AC [(60,.nm 60)] rfl rfl ?_ ?_⟩
   .simp only[hs];exact eN
   simp only[hs];exact eN
  .exact eV
  have d:m=l.length:=by exact eV
  subst d;rw[b,An (by rw[a];simp),AAu]at hs;refine⟨⟨k+1,O1⟩,a2,AC [(60,.nm 60)] rfl rfl ?_ ?_⟩
  .simp only[hs];exact eN
  simp only[hs];exact eN
 have e:k=l.length:=by exact eV
 subst e;refine Cj [60] ?_;exact fI c [.tmp 4] (by unfold YI;exact eR)
end
section
attribute [local go_sem] Pp Pn JB
abbrev FV:=ByteArray×ByteArray
abbrev f0V:FV:=(ByteArray.empty,ByteArray.empty)
def pX (all:List ByteArray) (l:List FV):Nat->List FV->Int
 | _,[]=>0
 | k,x :: r=>if BF x.1 true=false then 1 else if ((l.take k).any λy=>AK y.1 x.1)=true then 4 else if Aa all x.2=false then 5 else pX all l (k+1) r
def Vd (all:List ByteArray):List AJ->Int
 | []=>0
 | x :: l=>if pX all x.2.2 0 x.2.2≠0 then pX all x.2.2 0 x.2.2 else Vd all l
def Ka (d:List AJ):Int:=Vd (AN d) d
theorem A0J (all:List ByteArray) (l:List FV) (h:k<l.length):pX all l k (l.drop k)=if BF (l.getD k f0V).1 true=false then 1 else if ((l.take k).any λy=>AK y.1 (l.getD k f0V).1)=true then 4 else if Aa all (l.getD k f0V).2=false then 5 else pX all l (k+1) (l.drop (k+1)):=by
 rw[OR h];have e:l.getD k f0V=l[k]:=by simp[AS,h]
 rw[e];rfl
theorem uQ (all:List ByteArray) (l:List AJ) (h:k<l.length):Vd all (l.drop k)=if pX all (l.getD k d0).2.2 0 (l.getD k d0).2.2≠0 then pX all (l.getD k d0).2.2 0 (l.getD k d0).2.2 else Vd all (l.drop (k+1)):=by
 rw[OR h];have e:l.getD k d0=l[k]:=by simp[AS,h]
 rw[e];rfl
def lR:AZ:={ ins:=[Ey],pre:=λ(d,_)=>List.length d<=256,out:=λ(d,_)=>[.p C0 (Ka d)] }
theorem A0K:Ac Tryz.prog 147 lR:=by
 refine fK [0,2,3,4,5,6,7,13,24,33,36,49,57] Tryz.func147 Tryz.ntmps147 (AE X6 (AE VN (AE Gj AH))) ?_;rintro w0 O0 ⟨d,u⟩ c ⟨⟨x,v⟩,-⟩ j;have j:d.length<=256:=j;simp only[lR,AL];repeat'(first|exact a6|apply eS rfl|refine rX c ?_ ?_)
 .exact gO j df
 have w:Ka d=Vd (AN d) d:=rfl;rw[w];generalize AN d=all at *;refine AI (ι:={i:Nat//i<=d.length/\Vd all (d.drop i)=Vd all d}) (λi=>⟨[(0,.p Ey d),(3,.p CV all),(4,.p (.int .i64) (i.1:Int))],[]⟩) (λi=>d.length-i.1) ⟨0,Do _,rfl⟩ (eW []) (λi=>?_)
 obtain⟨i,hi,hf⟩:=i;simp only;repeat'(first|exact a6|apply eS rfl|refine rX c ?_ ?_|refine rC ?_ ?_<;>intro a<;>try(cases a;done))
 .exact a
 .have o:i<d.length:=by exact eV
  rw[uQ all d o]at hf;have A:(d.getD i d0).2.2.length<=AP:=(v _ (AF d d0 o)).2.2.1;have z:(List.getD d i (ByteArray.empty,[],[])).2.2=(d.getD i d0).2.2:=rfl;rw[z];generalize (d.getD i d0).2.2=l at *;simp only[AP]at A;refine AI (ι:={k:Nat//k<=l.length/\pX all l k (l.drop k)=pX all l 0 l}) (λk=>⟨[(0,.p Ey d),(3,.p CV all),(4,.p (.int .i64) (i:Int)),(5,.p T63 l),(6,.p (.int .i64) (k.1:Int))],[]⟩) (λk=>l.length-k.1) ⟨0,Do _,rfl⟩ (eW []) (λk=>?_)
  obtain⟨k,hk,b⟩:=k;have r:=λh:k<l.length=>A0J all l h;simp only;repeat'(first|exact a6|apply eS rfl|apply AB|refine rX c ?_ ?_|refine rC ?_ ?_<;>intro a<;>try(cases a;done))
  .exact a
  .have e:k<l.length:=by exact eV
   rw[r e,At a]at b;rw[<-b,At df]at hf;exact fI c [.tmp 2] (by rw[<-hf];exact eR)
  .have e:k<l.length:=by exact eV
   have q:(k:Int)<(l.length:Int):=f4.2 e;rw[r e,An (by rw[a];simp)]at b;refine AI (ι:={m:Nat//m<=k/\((l.take m).any λy=>AK y.1 (l.getD k f0V).1)=false}) (λm=>⟨[(0,.p Ey d),(3,.p CV all),(4,.p (.int .i64) (i:Int)),(5,.p T63 l),(6,.p (.int .i64) (k:Int)),(7,.p (.int .i64) (m.1:Int))],[]⟩) (λm=>k-m.1) ⟨0,Do _,rfl⟩ (eW []) (λm=>?_)
   obtain⟨m,B,g⟩:=m;have s:=λh:m<l.length=>M4 l f0V (λy=>AK y.1 (l.getD k f0V).1) h;simp only;repeat'(first|exact a6|apply eS rfl|apply AB|refine rX c ?_ ?_|refine rC ?_ ?_<;>intro a<;>try(cases a;done))
   .have h1:(m:Int)<(k:Int):=a;exact⟨eV,q⟩
   .have f:m<k:=f4.1 a4;have n:=s O1;have t:((l.take k).any λy=>AK y.1 (l.getD k f0V).1)=true:=by
     rw[aT];exact⟨l.getD m f0V,by
      rw[ABM];refine⟨m,O1,?_⟩;simp[AS,show m<l.length by omega],a⟩
    rw[At t]at b;rw[<-b,At df]at hf;exact fI c [.tmp 2] (by rw[<-hf];exact eR)
   .omega
   .have f:m<k:=f4.1 a4;have n:=s O1;refine⟨⟨m+1,O1,?_⟩,a2,AC [] rfl rfl ?_ ?_⟩
    .rw[n,g];exact a
    .exact eN
    exact eN
   .exact q
   .have f:m=k:=by omega
    subst f;rw[An (by rw[g];simp),At a]at b;rw[<-b,At df]at hf;exact fI c [.tmp 2] (by rw[<-hf];exact eR)
   .have:=x;simp only[AP]at this;omega
   have f:m=k:=by omega
   subst f;rw[An (by rw[g];simp),An (by rw[a];simp)]at b;exact⟨⟨m+1,O1,b⟩,a2,eW []⟩
  .omega
  have e:l.drop k=[]:=Is (AA7.1 a);rw[e]at b;rw[<-b,An (by simp[pX])]at hf;exact⟨⟨i+1,O1,hf⟩,a2,eW []⟩
 have e:d.drop i=[]:=Is eV;rw[e]at hf;exact fI c [.tmp 2] (by rw[<-hf];first|exact eR|refine KP ?_;rfl)
end
section
attribute [local go_sem] Zu Zl MC LP
def HB (s:ByteArray) (o:List ByteArray) (x:AJ):List ByteArray:=if (DD x s).2=true then Dt o x.1 else o
def FN (d:List AJ) (s:ByteArray):List ByteArray:=d.foldl (HB s) []
theorem lS (s:ByteArray) (d:List AJ) (k:Nat):(FN (d.take k) s).length<=k:=by
 have key:∀(l:List AJ) (o:List ByteArray),(l.foldl (HB s) o).length<=o.length+l.length:=by
  intro l;induction l with
  | nil=>intro o;simp
  | cons x l b =>
   intro o;have h1:=b (HB s o x);have a:(HB s o x).length<=o.length+1:=by
    unfold HB;split
    .exact MA o x.1
    omega
   simp only[OS,NO];omega
 have h1:=key (d.take k) [];have a:=AAQ k d;unfold FN;simp only[AAl]at h1;omega
def DX (d:List AJ) (s:ByteArray):ByteArray×Bool:=if (A7 d (FN d s)).length=1 then ((A7 d (FN d s)).getD 0 ByteArray.empty,true) else (ByteArray.empty,false)
def Z2:AZ:={ ins:=[Ey,T9],pre:=λ(d,_,_)=>Pq d/\List.length d<=256,out:=λ(d,s,_)=>[.p T9 (DX d s).1,.p .bool (DX d s).2] }
theorem fH:Ac Tryz.prog 118 Z2:=by
 refine fK [0,1,4,5,6,7,9,10,14,26,39] Tryz.func118 Tryz.ntmps118 (AE eK (AE RL (AE VS AH))) ?_;rintro w0 O0 ⟨d,s,u⟩ c-⟨l,f⟩;have f:d.length<=256:=f;simp only[Z2,AL];repeat'(first|exact a6|apply eS rfl|refine rX c ?_ ?_)
 refine AI (ι:={i:Nat//i<=d.length}) (λi=>⟨[(0,.p Ey d),(1,.p T9 s),(6,.p CV (FN (d.take i.1) s)),(7,.p (.int .i64) (i.1:Int))],[]⟩) (λi=>d.length-i.1) ⟨0,Do _⟩ (AC [] rfl rfl ?_ ?_) (λi=>?_)
 .exact eN
 .refine eM ?_;rfl
 obtain⟨i,hi⟩:=i;have hi:i<=d.length:=hi;have hn:=lS s d i;have hs:=λh:i<d.length=>Eo (HB s) d d0 [] h;have j:∀e,FN e s=e.foldl (HB s) []:=λ_=>rfl;rw[<-j,<-j]at hs;unfold HB at hs;simp only;repeat'(first|exact a6|apply eS rfl|apply AB|refine rX c ?_ ?_|refine rC ?_ ?_<;>intro a<;>try(cases a;done))
 .exact a
 .exact⟨a4,O1⟩
 .exact eV
 .have b:i<d.length:=by exact eV
  have e:=hs b;rw[At a]at e;refine⟨⟨i+1,O1⟩,a2,AC [] rfl rfl ?_ ?_⟩
  .exact eN
  simp only[e];exact eN
 .exact eV
 .have b:i<d.length:=by exact eV
  have e:=hs b;rw[An (by rw[a];simp)]at e;refine⟨⟨i+1,O1⟩,a2,AC [] rfl rfl ?_ ?_⟩
  .exact eN
  simp only[e];exact eN
 .exact⟨l,f,O1⟩
 .have b:d.take i=d:=BY eV;rw[b]at a ⊢;have h1:DX d s=(ByteArray.empty,false):=by
   unfold DX;rw[An O1]
  exact fI c [.tmp 4,.tmp 5] (by rw[h1];first|exact eR|refine KP ?_;first|rfl|exact⟨rfl,rfl⟩)
 .have g:((A7 d (FN (d.take i) s)).length:Int)=1:=by simpa using a
  have k:(0:Int)<((A7 d (FN (d.take i) s)).length:Int):=by rw[g];decide
  exact k
 have b:d.take i=d:=BY eV;rw[b]at a ⊢;have g:((A7 d (FN d s)).length:Int)=1:=by simpa using a
 have h1:DX d s=((A7 d (FN d s)).getD 0 ByteArray.empty,true):=by
  unfold DX;rw[At O1]
 exact fI c [.tmp 4,.tmp 5] (by rw[h1];exact eR)
end
section
attribute [local go_sem] Zu Tk pM A0i
def Jh (l:List AR) (t:Int) (s:ByteArray) (o:List Int×Bool) (x:AJ):List Int×Bool :=
 if (!(DD x s).2||!K6 l (BN l x.1) t)=true then o else (ER o.1 (l.getD (BN l (DD x s).1).toNat c0).2,true)
def FO (d:List AJ) (l:List AR) (t:Int) (s:ByteArray):List Int×Bool:=d.foldl (Jh l t s) ((l.getD 0 c0).2,false)
def lT (d:List AJ) (l:List AR):Prop:=(∀x∈d,0<=BN l x.1)/\∀x∈d,∀y∈x.2.2,0<=BN l y.2
theorem fJ (s:ByteArray):∀(l:List (ByteArray×ByteArray)),(eJ s l).2=true->∃y∈l,y.2=(eJ s l).1
 | [],h=>by cases h
 | x :: l,h=>by
  simp only[eJ]at h ⊢;split at h
  .rename_i h1;rw[At h1];exact⟨x,sc,rfl⟩
  rename_i h1;rw[An h1];obtain⟨y,a,e⟩:=fJ s l h;exact⟨y,by simp[a],e⟩
theorem lT.value {d:List AJ} {l:List AR} (h:lT d l) {x:AJ} (b:x∈d) (a:(DD x s).2=true):0<=BN l (DD x s).1:=by
 obtain⟨y,c,e⟩:=fJ s x.2.2 a;have:=h.2 x b y c;rw[e]at this;exact this
theorem A0L {l:List AR} (t:Int) (s:ByteArray) (x:AJ) {o:List Int×Bool} (h:o.1.length<=64):(Jh l t s o x).1.length<=64:=by
 unfold Jh;split
 .exact h
 exact gO (eL _ _) h
theorem Ve {l:List AR} (t:Int) (s:ByteArray):∀(d:List AJ) {o:List Int×Bool},o.1.length<=64->(d.foldl (Jh l t s) o).1.length<=64
 | [],_,h=>h
 | x :: d,_,h=>by rw[OS];exact Ve t s d (A0L t s x h)
theorem fL (s:ByteArray):∀(l:List AR) (k:Nat),KV s k l<((k+l.length:Nat):Int)
 | [],k=>by simp only[KV];omega
 | x :: l,k=>by
  simp only[KV];split
  .simp only[NO];omega
  have:=fL s l (k+1);simp only[NO];omega
theorem Si (l:List AR) (s:ByteArray):BN l s<(l.length:Int):=by
 have:=fL s l 0;rw[AAY]at this;exact this
def A4d:AZ:={ ins:=[Ey,JZ,T3,T9],pre:=λ(d,l,t,_,_)=>lT d l/\((0:Int)<=t/\t<(List.length l:Int))/\List.length l<=256/\(∀x∈(l:List AR),x.2.length<=64),out:=λ(d,l,t,s,_)=>[.p Ba (FO d l t s).1,.p .bool (FO d l t s).2] }
theorem A0M:Ac Tryz.prog 109 A4d:=by
 refine fK [0,1,2,3,8,9,10,11,12,13,14,22,48] Tryz.func109 Tryz.ntmps109 (AE eK (AE YA (AE pO (AE A0j AH)))) ?_;rintro w0 O0 ⟨d,l,t,s,u⟩ f ⟨⟨z,F⟩,-⟩ ⟨q,ht,m,v⟩;have m:l.length<=256:=m;have E:∀x∈(l:List AR),x.2.length<=100000:=λx h=>gO (v x h) df;have n:0<List.length l:=f4.1 (ACQ ht.1 ht.2);simp only[AP]at z;simp only[A4d,AL];repeat'(first|exact a6|apply eS rfl|refine rX f ?_ ?_)
 .exact f4.2 n
 have k:FO d l t s=d.foldl (Jh l t s) ((l.getD 0 c0).2,false):=rfl;have w:(l.getD 0 c0).2.length<=64:=v _ (AF l c0 n);have y:(List.getD l 0 (ByteArray.empty,[])).2=(l.getD 0 c0).2:=rfl;rw[y];generalize (l.getD 0 c0).2=c at *;refine AI (ι:={i:Nat//i<=d.length}) (λi=>⟨[(0,.p Ey d),(1,.p JZ l),(2,.p T3 t),(3,.p T9 s),(10,.p .bool ((d.take i.1).foldl (Jh l t s) (c,false)).2),(11,.p Ba ((d.take i.1).foldl (Jh l t s) (c,false)).1),(12,.p (.int .i64) (i.1:Int))],[]⟩) (λi=>d.length-i.1) ⟨0,Do _⟩ (AC [] rfl rfl ?_ ?_) (λi=>?_)
 .exact eN
 .refine eM ?_;exact⟨rfl,rfl⟩
 obtain⟨i,hi⟩:=i;have hi:i<=d.length:=hi;have A:=Ve (l:=l) t s (d.take i) (o:=(c,false)) w;have hs:=λh:i<d.length=>Eo (Jh l t s) d d0 (c,false) h;have D:=λh:i<d.length=>q.1 _ (AF d d0 h);have C:=λ(h:i<d.length) (g:(DD (d.getD i d0) s).2=true)=>q.value (AF d d0 h) g;have j:∀o x,Jh l t s o x=(if (!(DD x s).2||!K6 l (BN l x.1) t)=true then o else (ER o.1 (l.getD (BN l (DD x s).1).toNat c0).2,true)):=λ_ _=>rfl;generalize r:(d.take i).foldl (Jh l t s) (c,false)=o at *;simp only;repeat'(first|exact a6|apply eS rfl|apply AB|refine rX f ?_ ?_|refine rC ?_ ?_<;>intro a<;>try(cases a;done))
 .exact a
 .have b:i<d.length:=f4.1 a;exact⟨λ_=>a,λ_=>⟨⟨D b,Si _ _⟩,ht,E⟩⟩
 .exact eV
 .have b:i<d.length:=f4.1 a4;have e:=hs b;rw[j,At (by rw[tO,bY,bY];exact a)]at e;refine⟨⟨i+1,O1⟩,a2,AC [] rfl rfl ?_ ?_⟩
  .exact eN
  refine eM ?_;rw[e];exact⟨rfl,rfl⟩
 .have b:i<d.length:=f4.1 a4;exact⟨⟨C b a.1,Si _ _⟩,gO A df⟩
 .exact eV
 .have b:i<d.length:=f4.1 a4;have e:=hs b;have B:¬(!(DD (d.getD i d0) s).2||!K6 l (BN l (d.getD i d0).1) t)=true:=by
   rw[tO,bY,bY];rintro (h|h)
   .rw[show (DD (d.getD i d0) s).2=true from a.1]at h;cases h
   rw[show K6 l (BN l (d.getD i d0).1) t=true from a.2]at h;cases h
  rw[j,An B]at e;refine⟨⟨i+1,O1⟩,a2,AC [] rfl rfl ?_ ?_⟩
  .exact eN
  refine eM ?_;rw[e];exact⟨rfl,rfl⟩
 have b:d.take i=d:=BY (AA7.1 a);rw[b]at r;rw[r]at k;exact fI f [.tmp 8,.tmp 9] (by rw[k];exact eR)
end
theorem Sj:∀ {l:List AJ},L8 l=0->∀x∈l,x.2.1.length<=256/\x.2.2.length<=256
 | [],_,x,a=>by cases a
 | y :: l,h,x,a=>by
  simp only[L8]at h;split at h
  .cases h
  rename_i h1;rcases By.1 a with rfl|a
  .exact⟨O1,O1⟩
  exact Sj h x a
theorem Kb {d:List AJ} (h:BA d=0):∀x∈d,x.2.1.length<=256/\x.2.2.length<=256:=by
 have h1:Ez d=0:=by
  unfold BA at h;split at h
  .rename_i h1;exact absurd h h1
  rename_i h1;exact DO h1
 unfold Ez at h1;split at h1
 .cases h1
 exact Sj h1
theorem Oi {d:List AJ} (h:BA d=0):∀x∈AM d,x.2.length<=64:=by
 intro x e;obtain⟨-,a,-⟩:=A2 h;obtain⟨b,c,rfl⟩:=DW.1 e;exact P5 (Oh a) b c
theorem fN {all:List ByteArray} {l:List FV}:∀ {r:List FV} {k:Nat},pX all l k r=0->∀y∈r,Aa all y.2=true
 | [],_,_,y,a=>by cases a
 | x :: r,k,h,y,a=>by
  simp only[pX]at h;split at h
  .cases h
  split at h
  .cases h
  split at h
  .cases h
  rename_i b;rcases By.1 a with rfl|a
  .simpa using b
  exact fN h y a
theorem YJ {all:List ByteArray}:∀ {l:List AJ},Vd all l=0->∀x∈l,∀y∈x.2.2,Aa all y.2=true
 | [],_,x,a=>by cases a
 | z :: l,h,x,a=>by
  simp only[Vd]at h;split at h
  .rename_i h1;exact absurd h h1
  rename_i h1;rcases By.1 a with rfl|a
  .exact fN (DO h1)
  exact YJ h x a
theorem P7 {d:List AJ} (h:BA d=0) (b:Ka d=0):lT d (AM d) :=
 ⟨λx a=>MJ h a,λx a y c=>Gl h (YJ b x a y c)⟩
section
attribute [local go_sem] RZ VU lR Z2 A4d
def Kd (d:List AJ) (l:List AR) (t:Nat) (s:ByteArray):Bool:=(FO d l (t:Int) s).2&&((FO d l (t:Int) s).1.length:Int)==0
def Z3 (d:List AJ) (l:List AR) (f:List ByteArray) (t:Nat):Bool:=f.any (Kd d l t)
def H8 (d:List AJ) (l:List AR) (f:List ByteArray) (n:Nat):Bool:=(List.range n).any (Z3 d l f)
theorem fO (d:List AJ) (l:List AR) (f:List ByteArray) (n:Nat):H8 d l f (n+1)=(H8 d l f n||Z3 d l f n):=by
 unfold H8;rw[AAz,AC4];simp
def Am (d:List AJ):Int :=
 if (CF d).2≠0 then (CF d).2 else if 64<(BM d).length then 7 else if Ka d≠0 then Ka d else
 if ((BM d).all λs=>(DX d s).2)=false then 10 else if H8 d (CF d).1 (BM d) (CF d).1.length=true then 11 else 0
def Tn:AZ:={ ins:=[Ey],pre:=λ_=>True,out:=λ(d,_)=>[.p C0 (Am d)] }
theorem YK:Ac Tryz.prog 107 Tn:=by
 refine fK [0,2,3,4,5,6,7,9,10,11,12,13,20,26,30,35,48,52,58,77] Tryz.func107 Tryz.ntmps107 (AE P6 (AE VV (AE A0K (AE fH (AE A0M AH))))) ?_;rintro w0 O0 ⟨d,u⟩ b - -;simp only[Tn,AL];repeat'(first|exact a6|apply eS rfl|refine rX b ?_ ?_|refine rC ?_ ?_<;>intro a<;>try(cases a;done))
 .have h1:Am d=(CF d).2:=by unfold Am;rw[At a]
  exact fI b [.tmp 2] (by rw[h1];exact eR)
 .have c:(CF d).2=0:=by simpa using a
  obtain⟨e,-,-⟩:=Bc c;obtain⟨-,r,-⟩:=A2 e;exact⟨r,λx L=>(Kb e x L).2⟩
 .have c:(CF d).2=0:=by simpa using ‹((CF d).2 != 0)=false›
  have h1:Am d=7:=by
   unfold Am;rw[An (by rw[c];simp),At O1]
  exact fI b [.tmp 2] (by rw[h1];exact eR)
 .have c:(CF d).2=0:=by simpa using ‹((CF d).2 != 0)=false›
  obtain⟨e,-,-⟩:=Bc c;exact(A2 e).2.1
 .have c:(CF d).2=0:=by simpa using ‹((CF d).2 != 0)=false›
  have h1:Am d=Ka d:=by
   unfold Am;rw[An (by rw[c];simp),An O1,At a]
  exact fI b [.tmp 2] (by rw[h1];exact eR)
 have c:(CF d).2=0:=by simpa using ‹((CF d).2 != 0)=false›
 have v:Ka d=0:=by simpa using a
 obtain⟨e,C,B⟩:=Bc c;obtain⟨H,r,-⟩:=A2 e;have E:=P7 e v;have K:=Oi e;have M:=pW e;have D:(AM d).length<=256:=by rw[H6];exact C
 have g:Am d=if ((BM d).all λs=>(DX d s).2)=false then 10 else if H8 d (CF d).1 (BM d) (CF d).1.length=true then 11 else 0:=by
  unfold Am;rw[An (by rw[c];simp),An O1,An (by rw[v];simp)]
 rw[B]at g ⊢;generalize AM d=l at *;generalize BM d=f at *;refine AI (ι:={i:Nat//i<=f.length/\((f.take i).all λs=>(DX d s).2)=true}) (λi=>⟨[(0,.p Ey d),(3,.p JZ l),(5,.p CV f),(7,.p (.int .i64) (i.1:Int))],[]⟩) (λi=>f.length-i.1) ⟨0,Do _,rfl⟩ (eW []) (λi=>?_)
 obtain⟨i,hi,n⟩:=i;have G:=λh:i<f.length=>GL f ByteArray.empty (λs=>(DX d s).2) h;simp only;repeat'(first|exact a6|apply eS rfl|apply AB|refine rX b ?_ ?_|refine rC ?_ ?_<;>intro a<;>try(cases a;done))
 .exact⟨a,H,r⟩
 .have j:i<f.length:=f4.1 a4;have z:(f.all λs=>(DX d s).2)=false:=by
   rw[ABh];intro h;have:=No.1 h _ (AF f ByteArray.empty j);rw[show (DX d (f.getD i ByteArray.empty)).2=false from a]at this;cases this
  rw[At z]at g;exact fI b [.tmp 2] (by rw[g];exact eR)
 .omega
 .have j:i<f.length:=f4.1 a4;refine⟨⟨i+1,j,?_⟩,a2,AC [] rfl rfl ?_ ?_⟩
  .rw[G j,n];exact a
  .exact eN
  exact eN
 have j:f.take i=f:=BY (AA7.1 a);rw[j]at n;rw[An (by rw[n];simp)]at g;refine AI (ι:={t:Nat//t<=l.length/\H8 d l f t=false}) (λt=>⟨[(0,.p Ey d),(3,.p JZ l),(5,.p CV f),(10,.p (.int .i64) (t.1:Int))],[]⟩) (λt=>l.length-t.1) ⟨0,Do _,rfl⟩ (eW []) (λt=>?_)
 obtain⟨t,ht,y⟩:=t;have J:=fO d l f t;simp only;repeat'(first|exact a6|apply eS rfl|refine rX b ?_ ?_|refine rC ?_ ?_<;>intro a<;>try(cases a;done))
 .have w:t<l.length:=f4.1 a;refine AI (ι:={k:Nat//k<=f.length/\(f.take k).any (Kd d l t)=false}) (λk=>⟨[(0,.p Ey d),(3,.p JZ l),(5,.p CV f),(10,.p (.int .i64) (t:Int)),(11,.p (.int .i64) (k.1:Int))],[]⟩) (λk=>f.length-k.1) ⟨0,Do _,rfl⟩ (eW []) (λk=>?_)
  obtain⟨k,hk,o⟩:=k;have F:=λh:k<f.length=>M4 f ByteArray.empty (Kd d l t) h;simp only;repeat'(first|exact a6|apply eS rfl|apply AB|refine rX b ?_ ?_|refine rC ?_ ?_<;>intro a<;>try(cases a;done))
  .exact⟨a,E,a4,D,K⟩
  .have m:k<f.length:=f4.1 a4;have q:Kd d l t (f.getD k ByteArray.empty)=true:=by
    unfold Kd;rw[AT,AA9];exact a
   have A:H8 d l f l.length=true:=by
    unfold H8;rw[aT];exact⟨t,oS.2 w,Ik f ByteArray.empty _ m q⟩
   rw[At A]at g;exact fI b [.tmp 2] (by rw[g];exact eR)
  .omega
  .have m:k<f.length:=f4.1 a4;have q:Kd d l t (f.getD k ByteArray.empty)=false:=by
    rw[ABh];unfold Kd;intro h;rw[AT,AA9]at h;exact a h.1 h.2
   refine⟨⟨k+1,m,?_⟩,a2,AC [] rfl rfl ?_ ?_⟩
   .rw[F m,o,q];rfl
   .exact eN
   exact eN
  .omega
  have m:f.take k=f:=BY (AA7.1 a);rw[m]at o;refine⟨⟨t+1,w,?_⟩,a2,AC [] rfl rfl ?_ ?_⟩
  .rw[J,y];exact o
  .exact eN
  exact eN
 have I:t=l.length:=by exact eV
 subst I;rw[An (by rw[y];simp)]at g;exact fI b [.tmp 2] (by rw[g];exact eR)
end
section
attribute [local go_sem] Tn RZ VU Z2 Tk
abbrev P8:=ByteArray×Int
theorem CJ {d:List AJ} (h:Am d=0):(CF d).2=0/\(BM d).length<=64/\Ka d=0:=by
 unfold Am at h;split at h
 .rename_i h1;exact absurd h h1
 rename_i h1;split at h
 .cases h
 rename_i b;split at h
 .rename_i a;exact absurd h a
 rename_i a;exact⟨DO h1,O1,DO a⟩
def MK (d:List AJ) (s:ByteArray):P8:=(s,BN (AM d) (DX d s).1)
def DI (d:List AJ):List P8×Int:=if Am d≠0 then ([],Am d) else ((BM d).map (MK d),0)
theorem XK {α:Type} (f:α->X) (l:List α) (d:α) (h:k<l.length):(l.take (k+1)).map f=(l.take k).map f++[f (l.getD k d)]:=by
 rw[Ay l d h,AAT];rfl
theorem Z4 {α:Type} (f:α->X) (l:List α) (h:k<=l.length):((l.take k).map f).length=k:=by simp[h]
def Ra:AZ:={ ins:=[Ey],pre:=λ_=>True,out:=λ(d,_)=>[.p SZ (DI d).1,.p C0 (DI d).2] }
theorem fP:Ac Tryz.prog 67 Ra:=by
 refine fK [0,2,3,4,5,7,8,9,10,15,27] Tryz.func67 Tryz.ntmps67 (AE YK (AE P6 (AE VV (AE fH (AE YA AH))))) ?_;rintro w0 O0 ⟨d,u⟩ g - -;simp only[Ra,AL];repeat'(first|exact a6|apply eS rfl|refine rX g ?_ ?_|refine rC ?_ ?_<;>intro a<;>try(cases a;done))
 .have h1:DI d=([],Am d):=by unfold DI;rw[At a]
  exact fI g [.tmp 2,.tmp 3] (by rw[h1];exact eR)
 .have c:Am d=0:=by simpa using a
  obtain⟨k,-,-⟩:=CJ c;obtain⟨b,-,-⟩:=Bc k;exact⟨(A2 b).2.1,λx r=>(Kb b x r).2⟩
 have c:Am d=0:=by simpa using a
 obtain⟨k,s,-⟩:=CJ c;obtain⟨b,-,m⟩:=Bc k;obtain⟨q,l,-⟩:=A2 b;have o:DI d=((BM d).map (MK d),0):=by unfold DI;rw[An (by rw[c];simp)]
 rw[m];generalize BM d=f at *;refine AI (ι:={i:Nat//i<=f.length}) (λi=>⟨[(0,.p Ey d),(5,.p JZ (AM d)),(7,.p CV f),(8,.sr 49 y9 0 ((f.take i.1).map (MK d)).length),(9,.p (.int .i64) (i.1:Int))],[(49,.arr 172 y9 ((f.take i.1).map (MK d)))]⟩) (λi=>f.length-i.1) ⟨0,Do _⟩ (eW [(49,.nil)]) (λi=>?_)
 obtain⟨i,hi⟩:=i;have n:=Z4 (MK d) f hi;have hs:=λh:i<f.length=>XK (MK d) f ByteArray.empty h;simp only;repeat'(first|exact a6|apply eS rfl|apply AB|refine rX g ?_ ?_|refine rC ?_ ?_<;>intro a<;>try(cases a;done))
 .exact⟨a,q,l⟩
 .refine⟨a,?_⟩;rw[n];simp only[AP];omega
 .omega
 .have j:i<f.length:=f4.1 a;have e:=hs j;refine⟨⟨i+1,j⟩,a2,AC [(49,.nm 49)] rfl rfl ?_ ?_⟩
  .simp only[e];refine eM ?_;rfl
  simp only[e];exact eN
 have j:f.take i=f:=BY (AA7.1 a);rw[j];refine Cj [49] ?_;exact fI g [.tmp 2,.tmp 3] (by rw[o];exact eR)
end
section
attribute [local go_sem] Tn RZ VU A4d lB
def TB (d:List AJ) (l:List AR) (f:List ByteArray) (t:Nat) (n:Nat):List (Int×Int) :=
 ((List.range n).filter λ(i:Nat)=>(FO d l (t:Int) (f.getD i ByteArray.empty)).2).map λ(i:Nat)=>((i:Int),G2 l (FO d l (t:Int) (f.getD i ByteArray.empty)).1)
def Ji (d:List AJ) (l:List AR) (f:List ByteArray) (n:Nat):List (List (Int×Int)):=(List.range n).map λt=>TB d l f t f.length
def A8 (d:List AJ):List (List (Int×Int))×Int:=if Am d≠0 then ([],Am d) else (Ji d (AM d) (BM d) (AM d).length,0)
theorem YL (d:List AJ) (l:List AR) (f:List ByteArray) (t n:Nat):TB d l f t (n+1)=TB d l f t n++if (FO d l (t:Int) (f.getD n ByteArray.empty)).2=true then [((n:Int),G2 l (FO d l (t:Int) (f.getD n ByteArray.empty)).1)] else []:=by
 unfold TB;rw[AAz,AC2,AAT]
 congr 1
 rw[AAO,ACj];split<;>rfl
theorem A0N (d:List AJ) (l:List AR) (f:List ByteArray) (t n:Nat):(TB d l f t n).length<=n:=by
 unfold TB;rw[Of];exact gO (ABu _ _) sc
theorem lU (d:List AJ) (l:List AR) (f:List ByteArray) (n:Nat):Ji d l f (n+1)=Ji d l f n++[TB d l f n f.length]:=by simp[Ji,AAz]
theorem YM (d:List AJ) (l:List AR) (f:List ByteArray) (n:Nat):(Ji d l f n).length=n:=by simp[Ji]
theorem A0O {d:List AJ} {l:List AR} (h:∀x∈l,x.2.length<=64) (t:Int) (s:ByteArray):(FO d l t s).1.length<=64:=by
 unfold FO;refine Ve t s d ?_;rw[AS];cases hh:l[0]? with
 | none=>simp
 | some x=>exact h x (AAM hh)
def Vf:AZ:={ ins:=[Ey],pre:=λ_=>True,out:=λ(d,_)=>[.p A3X (A8 d).1,.p C0 (A8 d).2] }
theorem lV:Ac Tryz.prog 64 Vf:=by
 refine fK [0,2,3,4,5,7,8,9,10,11,12,13,17,29,35,49] Tryz.func64 Tryz.ntmps64 (AE YK (AE P6 (AE VV (AE A0M (AE A0s AH))))) ?_;rintro w0 O0 ⟨d,u⟩ e - -;simp only[Vf,AL];repeat'(first|exact a6|apply eS rfl|refine rX e ?_ ?_|refine rC ?_ ?_<;>intro a<;>try(cases a;done))
 .have h1:A8 d=([],Am d):=by unfold A8;rw[At a]
  exact fI e [.tmp 2,.tmp 3] (by rw[h1];exact eR)
 .have h:Am d=0:=by simpa using a
  obtain⟨m,-,-⟩:=CJ h;obtain⟨b,-,-⟩:=Bc m;exact⟨(A2 b).2.1,λx z=>(Kb b x z).2⟩
 have h:Am d=0:=by simpa using a
 obtain⟨m,B,o⟩:=CJ h;obtain⟨b,j,r⟩:=Bc m;obtain⟨D,A,-⟩:=A2 b;have y:A8 d=(Ji d (AM d) (BM d) (AM d).length,0):=by unfold A8;rw[An (by rw[h];simp)]
 have w:=P7 b o;have n:=Oi b;have v:(AM d).length<=256:=by rw[H6];exact j
 rw[r];generalize AM d=l at *;generalize BM d=f at *;have q:=λt s=>A0O (d:=d) n t s;refine AI (ι:={t:Nat//t<=l.length}) (λt=>⟨[(0,.p Ey d),(5,.p JZ l),(7,.p CV f),(8,.sr 61 XH 0 (Ji d l f t.1).length),(9,.p (.int .i64) (t.1:Int))],[(61,.arr 112 XH (Ji d l f t.1))]⟩) (λt=>l.length-t.1) ⟨0,Do _⟩ (AC [(61,.nil)] rfl rfl ?_ ?_) (λt=>?_)
 .refine eM ?_;rfl
 .refine eM ?_;rfl
 obtain⟨t,ht⟩:=t;have j:=YM d l f t;have hs:=lU d l f t;simp only;repeat'(first|exact a6|apply eS rfl|refine rX e ?_ ?_|refine rC ?_ ?_<;>intro a<;>try(cases a;done))
 .refine AI (ι:={i:Nat//i<=f.length}) (λi=>⟨[(0,.p Ey d),(5,.p JZ l),(7,.p CV f),(8,.sr 61 XH 0 (Ji d l f t).length),(9,.p (.int .i64) (t:Int)),(10,.sr 57 y8 0 (TB d l f t i.1).length),(11,.p (.int .i64) (i.1:Int))],[(61,.arr 112 XH (Ji d l f t)),(57,.arr 149 y8 (TB d l f t i.1))]⟩) (λi=>f.length-i.1) ⟨0,Do _⟩ (AC [(61,.nm 61),(57,.nil)] rfl rfl ?_ ?_) (λi=>?_)
  .refine eM ?_;rfl
  .refine eM ?_;rfl
  obtain⟨i,hi⟩:=i;have C:=A0N d l f t i;have c:=YL d l f t i;simp only;repeat'(first|exact a6|apply eS rfl|apply AB|refine rX e ?_ ?_|refine rC ?_ ?_<;>intro a<;>try(cases a;done))
  .exact⟨a,w,a4,v,n⟩
  .refine⟨gO (q _ _) df,?_⟩;simp only[AP];omega
  .omega
  .have g:i<f.length:=f4.1 a4;rw[At a]at c;refine⟨⟨i+1,g⟩,a2,AC [(61,.nm 61),(57,.nm 57)] rfl rfl ?_ ?_⟩
   .simp only[c];exact eN
   simp only[c];exact eN
  .omega
  .have g:i<f.length:=f4.1 a4;rw[An (by rw[a];simp),AAu]at c;refine⟨⟨i+1,g⟩,a2,AC [(61,.nm 61),(57,.nm 57)] rfl rfl ?_ ?_⟩
   .simp only[c];exact eN
   simp only[c];exact eN
  .rw[j];simp only[AP];omega
  .omega
  have k:t<l.length:=f4.1 a4;have g:i=f.length:=by omega
  subst g;refine⟨⟨t+1,k⟩,a2,AC [(61,.nm 61)] rfl rfl ?_ ?_⟩
  .simp only[hs];exact eN
  simp only[hs];exact eN
 have k:t=l.length:=by omega
 subst k;refine Cj [61] ?_;exact fI e [.tmp 2,.tmp 3] (by rw[y];exact eR)
end
section
attribute [local go_sem] LP
def K7 (l:List ByteArray) (n:Nat):List FV:=(List.range n).map λk=>(l.getD (2*k) ByteArray.empty,l.getD (2*k+1) ByteArray.empty)
theorem Vg (l:List ByteArray) (n:Nat):K7 l (n+1)=K7 l n++[(l.getD (2*n) ByteArray.empty,l.getD (2*n+1) ByteArray.empty)]:=by simp[K7,AAz]
theorem YN (l:List ByteArray) (n:Nat):(K7 l n).length=n:=by simp[K7]
def Z5 (s:ByteArray):List ByteArray:=if AK s ByteArray.empty=true then [] else [s]
def F7 (n s:ByteArray) (l:List ByteArray):AJ:=(n,Z5 s,K7 l (l.length / 2))
def pY:AZ:={ ins:=[T9,T9,CV],pre:=λ(_,_,l,_)=>List.length l<=1000,out:=λ(n,s,l,_)=>[.p zA (F7 n s l)] }
theorem pZ:Ac Tryz.prog 68 pY:=by
 refine fK [0,1,2,6,7,8,12,20] Tryz.func68 Tryz.ntmps68 AH ?_;rintro w0 O0 ⟨n,s,l,u⟩ b-i;have i:l.length<=1000:=i;simp only[pY,AL];repeat'(first|exact a6|apply eS rfl|apply AB|refine rX b ?_ ?_|refine rC ?_ ?_<;>intro a<;>try(cases a;done))
 .have f:=a;refine Cj [14] ?_;refine AI (ι:={k:Nat//2*k<=l.length}) (λk=>⟨[(2,.p CV l),(6,.bp 6 [] 0),(7,.bp 7 [] 0),(8,.p (.int .i64) ((2*k.1:Nat):Int))],[(6,.box 65 true [.p T9 ByteArray.empty,.raw (.slice none 0 0),.raw (.slice none 0 0)]),(7,.box 65 true [.p T9 n,.p CV [s],.sr 36 kT 0 (K7 l k.1).length]),(36,.arr 196 kT (K7 l k.1))]⟩) (λk=>l.length-2*k.1) ⟨0,Do _⟩ (AC [(6,.nm 6),(7,.nm 7),(36,.nil)] rfl rfl ?_ ?_) (λk=>?_)
  .first|exact eN|refine eM ?_
   exact⟨rfl,rfl⟩
  .first|exact eN|refine eM ?_
  obtain⟨k,hk⟩:=k;have g:=YN l k;have d:=Vg l k;simp only;repeat'(first|exact a6|apply eS rfl|apply AB|refine rX b ?_ ?_|refine rC ?_ ?_<;>intro a<;>try(cases a;done))
  .exact eV
  .refine⟨eV,⟨eV,eV⟩,⟨eV,eV⟩,?_⟩;rw[g];simp only[AP];exact eV
  .exact eV
  .have c:2*k+1<l.length:=by exact eV
   have e:((2*k:Nat):Int)+1=((2*k+1:Nat):Int):=by omega
   refine⟨⟨k+1,O1⟩,a2,AC [(6,.nm 6),(7,.nm 7),(36,.nm 36)] rfl rfl ?_ ?_⟩
   .simp only[d];first|exact eN|refine eM ?_
    rw[e];rfl
   simp only[d];first|exact eN|refine eM ?_
   show ((2*k:Nat):Int)+2=((2*(k+1):Nat):Int);omega
  have c:k=l.length / 2:=by exact eV
  refine Cj [36] ?_;have h:F7 n s l=(n,[s],K7 l k):=by
   unfold F7 Z5;rw[<-c,An (by rw[show AK s ByteArray.empty=false from f];simp)]
  exact fI b [.cell 6 65] (by rw[h];exact eR)
 have f:=a;refine AI (ι:={k:Nat//2*k<=l.length}) (λk=>⟨[(2,.p CV l),(6,.bp 6 [] 0),(7,.bp 7 [] 0),(8,.p (.int .i64) ((2*k.1:Nat):Int))],[(6,.box 65 true [.p T9 ByteArray.empty,.raw (.slice none 0 0),.raw (.slice none 0 0)]),(7,.box 65 true [.p T9 n,.p CV ([]:List ByteArray),.sr 36 kT 0 (K7 l k.1).length]),(36,.arr 196 kT (K7 l k.1))]⟩) (λk=>l.length-2*k.1) ⟨0,Do _⟩ (AC [(6,.nm 6),(7,.nm 7),(36,.nil)] rfl rfl ?_ ?_) (λk=>?_)
 .first|exact eN|refine eM ?_
  exact⟨rfl,rfl⟩
 .first|exact eN|refine eM ?_
 obtain⟨k,hk⟩:=k;have g:=YN l k;have d:=Vg l k;simp only;repeat'(first|exact a6|apply eS rfl|apply AB|refine rX b ?_ ?_|refine rC ?_ ?_<;>intro a<;>try(cases a;done))
 .exact eV
 .refine⟨eV,⟨eV,eV⟩,⟨eV,eV⟩,?_⟩;rw[g];simp only[AP];exact eV
 .exact eV
 .have c:2*k+1<l.length:=by exact eV
  have e:((2*k:Nat):Int)+1=((2*k+1:Nat):Int):=by omega
  refine⟨⟨k+1,O1⟩,a2,AC [(6,.nm 6),(7,.nm 7),(36,.nm 36)] rfl rfl ?_ ?_⟩
  .simp only[d];first|exact eN|refine eM ?_
   rw[e];rfl
  simp only[d];first|exact eN|refine eM ?_
  show ((2*k:Nat):Int)+2=((2*(k+1):Nat):Int);omega
 have c:k=l.length / 2:=by exact eV
 refine Cj [36] ?_;have h:F7 n s l=(n,([]:List ByteArray),K7 l k):=by
  unfold F7 Z5;rw[<-c,At (show AK s ByteArray.empty=true from f)]
 exact fI b [.cell 6 65] (by rw[h];exact eR)
end
section
attribute [local go_sem] pY LP LK cs2 Nj KW JH OX cs7 cs8
def Bt:List AJ:=[
 F7 { data:=#[116,111,112] } { data:=#[] } [],
 F7 { data:=#[108,105,115,116] } { data:=#[116,111,112] } [],
 F7 { data:=#[99,111,110,115] } { data:=#[108,105,115,116] } [{ data:=#[70,73,82,83,84] },{ data:=#[116,111,112] },{ data:=#[82,69,83,84] },{ data:=#[108,105,115,116] }],
 F7 { data:=#[110,117,108,108] } { data:=#[108,105,115,116] } [],
 F7 { data:=#[100,108,105,115,116] } { data:=#[116,111,112] } [{ data:=#[76,73,83,84] },{ data:=#[108,105,115,116] },{ data:=#[76,65,83,84] },{ data:=#[108,105,115,116] }],
 F7 { data:=#[105,110,100,101,120] } { data:=#[116,111,112] } [],
 F7 { data:=#[104,97,110,100,108,101] } { data:=#[105,110,100,101,120] } [],
 F7 { data:=#[101,118,101,110,116] } { data:=#[105,110,100,101,120] } [],
 F7 { data:=#[101,110,116,105,116,121] } { data:=#[105,110,100,101,120] } [],
 F7 { data:=#[114,101,108] } { data:=#[116,111,112] } [{ data:=#[76,65,66,69,76] },{ data:=#[104,97,110,100,108,101] }],
 F7 { data:=#[113,101,113] } { data:=#[116,111,112] } [{ data:=#[72,73,71,72] },{ data:=#[104,97,110,100,108,101] },{ data:=#[76,79,87] },{ data:=#[104,97,110,100,108,101] }],
 F7 { data:=#[115,101,109] } { data:=#[116,111,112] } [{ data:=#[84,79,80] },{ data:=#[104,97,110,100,108,101] },{ data:=#[73,78,68,69,88] },{ data:=#[105,110,100,101,120] },{ data:=#[82,69,76,83] },{ data:=#[100,108,105,115,116] },{ data:=#[67,79,78,83] },{ data:=#[100,108,105,115,116] }],
 F7 { data:=#[115,105,103,110] } { data:=#[116,111,112] } [{ data:=#[83,69,77] },{ data:=#[115,101,109] },{ data:=#[65,82,71,83] },{ data:=#[108,105,115,116] }]]
def H9:AZ:={ ins:=[],pre:=λ_=>True,out:=λ_=>[.p Ey Bt] }
theorem lW:Ac Tryz.prog 29 H9:=by
 refine fKP [0] [3,6,12,14,16,18,20] [] Tryz.func29 Tryz.ntmps29 (AE pZ AH) ?_;rintro w0 O0 u a - -;simp only[H9,AL];repeat'(first|exact a6|apply eS rfl|refine rX a ?_ ?_)
 exact fI a [.tmp 0] (by unfold Bt;exact eR)
end
section
attribute [local go_sem] Vf RZ A0I Ra
abbrev FB:=ByteArray×List Int×List Int×List (Int×Int)
abbrev AG:=List FB×List P8
def EM (l:List AR) (v:List (List (Int×Int))) (n:Nat):List FB:=(List.range n).map λi=>((l.getD i c0).1,(l.getD i c0).2,YI l (i:Int),v.getD i [])
theorem lX (l:List AR) (v:List (List (Int×Int))) (n:Nat):EM l v (n+1)=EM l v n++[((l.getD n c0).1,(l.getD n c0).2,YI l (n:Int),v.getD n [])]:=by simp[EM,AAz]
theorem Jj (l:List AR) (v:List (List (Int×Int))) (n:Nat):(EM l v n).length=n:=by simp[EM]
def Bo (d:List AJ):AG:=(EM (AM d) (A8 d).1 (AM d).length,(DI d).1)
def Ad (d:List AJ):AG×Int:=if (A8 d).2≠0 then (([],[]),(A8 d).2) else (Bo d,0)
def F0:AZ:={ ins:=[Ey],pre:=λ_=>True,out:=λ(d,_)=>[.p FL (Ad d).1,.p C0 (Ad d).2] }
theorem Vh:Ac Tryz.prog 28 F0:=by
 refine fK [0,2,3,4,5,6,8,9,10,18,29] Tryz.func28 Tryz.ntmps28 (AE lV (AE P6 (AE A4b (AE fP AH)))) ?_;rintro w0 O0 ⟨d,u⟩ b - -;simp only[F0,AL];repeat'(first|exact a6|apply eS rfl|refine rX b ?_ ?_|refine rC ?_ ?_<;>intro a<;>try(cases a;done))
 .have h1:Ad d=(([],[]),(A8 d).2):=by unfold Ad;rw[At a]
  exact fI b [.cell 2 26,.tmp 3] (by rw[h1];exact eR)
 have c:(A8 d).2=0:=by simpa using a
 have f:Am d=0:=by
  unfold A8 at c;split at c
  .rename_i h;exact absurd c h
  rename_i h;exact DO h
 obtain⟨t,x,w⟩:=CJ f;obtain⟨j,m,k⟩:=Bc t;have g:Ad d=(Bo d,0):=by unfold Ad;rw[An (by rw[c];simp)]
 have r:(A8 d).1.length=(AM d).length:=by
  unfold A8;rw[An (by rw[f];simp)];exact YM _ _ _ _
 have s:=Oi j;have o:(AM d).length<=256:=by rw[H6];exact m
 unfold Bo at g;rw[k];generalize AM d=l at *;generalize (A8 d).1=v at *;refine AI (ι:={n:Nat//n<=l.length}) (λn=>⟨[(0,.p Ey d),(2,.bp 2 [] 0),(4,.p A3X v),(6,.p JZ l),(8,.bp 8 [] 0),(9,.p (.int .i64) (n.1:Int))],[(2,.box 26 true [.raw (.slice none 0 0),.raw (.slice none 0 0)]),(8,.box 26 true [.sr 53 kV 0 (EM l v n.1).length,.raw (.slice none 0 0)]),(53,.arr 114 kV (EM l v n.1))]⟩) (λn=>l.length-n.1) ⟨0,Do _⟩ (AC [(2,.nm 2),(8,.nm 8),(53,.nil)] rfl rfl ?_ ?_) (λn=>?_)
 .refine eM ?_;exact⟨rfl,rfl⟩
 .exact eN
 obtain⟨n,hn⟩:=n;have q:=Jj l v n;have i:=lX l v n;simp only;repeat'(first|exact a6|apply eS rfl|apply AB|refine rX b ?_ ?_|refine rC ?_ ?_<;>intro a<;>try(cases a;done))
 .refine⟨a,a,⟨a,o,s⟩,by rw[r];exact a,?_⟩;rw[q];simp only[AP];omega
 .omega
 .have e:n<l.length:=f4.1 a;refine⟨⟨n+1,e⟩,a2,AC [(2,.nm 2),(8,.nm 8),(53,.nm 53)] rfl rfl ?_ ?_⟩
  .simp only[i];exact eN
  simp only[i];exact eN
 have e:n=l.length:=by omega
 subst e;refine Cj [53] ?_;exact fI b [.cell 2 26,.tmp 3] (by rw[g];exact eR)
end
section
def lY:AZ:={ ins:=[Ba,T3],pre:=λ(_,i,_)=>(0:Int)<=i,out:=λ(b,i,_)=>[.p RJ (F5 b i)],lend:=true }
attribute [local go_sem] lY
theorem A0P:Ac Tryz.prog 125 lY:=by
 refine fK [0,1,4,8] Tryz.func125 Tryz.ntmps125 AH ?_;rintro w0 O0 ⟨b,i,u⟩ c-hi;simp only[lY,AL];repeat'(first|exact a6|apply eS rfl|refine rX c ?_ ?_|refine rC ?_ ?_<;>intro a<;>try(cases a;done))
 .exact⟨hi,a⟩
 .have h1:F5 b i=b.getD i.toNat 0:=by unfold F5;rw[At a]
  exact fI c [.tmp 4] (by rw[h1];exact eR)
 have h1:F5 b i=0:=by unfold F5;rw[An (AAy.2 a)]
 exact fI c [.tmp 4] (by rw[h1];exact eR)
def ML (a b:List Int):Bool:=(List.range a.length).all λi=>Cu .andNot .u64 (a.getD i 0) (F5 b (i:Int))==0
def fQ (a b:List Int) (n:Nat):Bool:=(List.range n).all λi=>Cu .andNot .u64 (a.getD i 0) (F5 b (i:Int))==0
theorem lZ (a b:List Int) (n:Nat):fQ a b (n+1)=(fQ a b n&&Cu .andNot .u64 (a.getD n 0) (F5 b (n:Int))==0):=by
 unfold fQ;rw[AAz,ACk];simp
def P9:AZ:={ ins:=[Ba,Ba],pre:=λ_=>True,out:=λ(a,b,_)=>[.p .bool (ML a b)],lend:=true }
attribute [local go_sem] P9
theorem Vi:Ac Tryz.prog 75 P9:=by
 refine fK [0,1,4,5,6,7,8,9,10,19] Tryz.func75 Tryz.ntmps75 (AE A0P AH) ?_;rintro w0 O0 ⟨a,b,u⟩ e ⟨⟨g,-⟩,-⟩ -;simp only[AP]at g;simp only[P9,AL];repeat'(first|exact a6|apply eS rfl|refine rX e ?_ ?_)
 have h:ML a b=fQ a b a.length:=rfl;refine AI (ι:={n:Nat//n<=a.length/\fQ a b n=true}) (λn=>⟨[(1,.p Ba b),(7,.p Ba a),(8,.p (.int .i64) (a.length:Int)),(9,.p (.int .i64) (n.1:Int))],[]⟩) (λn=>a.length-n.1) ⟨0,Do _,rfl⟩ (eW []) (λn=>?_)
 obtain⟨n,hn,f⟩:=n;have hs:=lZ a b n;simp only;repeat'(first|exact a6|apply eS rfl|apply AB|refine rX e ?_ ?_|refine rC ?_ ?_<;>intro d<;>try(cases d;done))
 .exact d
 .have c:n<a.length:=by exact eV
  have h1:ML a b=false:=by
   unfold ML;rw[ABr];exact⟨n,oS.2 c,by simpa using d⟩
  exact fI e [.tmp 4] (by rw[h1];exact eR)
 .exact eV
 .have c:n<a.length:=by exact eV
  refine⟨⟨n+1,c,?_⟩,a2,AC [] rfl rfl ?_ ?_⟩
  .rw[hs,f];simpa using d
  .exact eN
  exact eN
 have c:n=a.length:=by exact eV
 subst c;exact fI e [.tmp 4] (by rw[h,f];exact eR)
abbrev Rb:FB:=(ByteArray.empty,[],[],[])
def Ah (h:AG) (a b:Int):Bool:=ML (h.1.getD b.toNat Rb).2.1 (h.1.getD a.toNat Rb).2.1
def Nm:AZ:={ ins:=[FL,T3,T3],pre:=λ(h,a,b,_)=>((0:Int)<=a/\a<(List.length (h:AG).1:Int))/\((0:Int)<=b/\b<(List.length (h:AG).1:Int)),out:=λ(h,a,b,_)=>[.p .bool (Ah h a b)],lend:=true }
theorem QA:Ac Tryz.prog 32 Nm:=by
 refine fK [0,1,2,3,6] Tryz.func32 Tryz.ntmps32 (AE Vi AH) ?_;rintro w0 O0 ⟨⟨ht,hf⟩,a,b,u⟩ c-⟨ha,d⟩;simp only[Nm,AL];repeat'(first|exact a6|apply eS rfl|refine rX c ?_ ?_)
 .exact⟨d,ha⟩
 exact fI c [.tmp 6] (by unfold Ah;exact eR)
end
section
attribute [local go_sem] P9
def Vj:AZ:={ ins:=[Ba],pre:=λ(b,_)=>List.length b<=100000,out:=λ(b,_)=>[.p Ba (BS b)] }
attribute [local go_sem] Vj
theorem l0:Ac Tryz.prog 210 Vj:=by
 refine fK [0,2,3,15] Tryz.func210 Tryz.ntmps210 AH ?_;rintro w0 O0 ⟨b,u⟩ d-f;have f:b.length<=100000:=f;simp only[Vj,AL];repeat'(first|exact a6|apply eS rfl|refine rX d ?_ ?_)
 refine AI (ι:={n:Nat//n<=b.length/\Cm b n=Cm b b.length}) (λn=>⟨[(0,.p Ba b),(3,.p (.int .i64) (n.1:Int))],[]⟩) (λn=>n.1) ⟨b.length,On _,rfl⟩ (eW []) (λn=>?_)
 obtain⟨n,hn,g⟩:=n;simp only;repeat'(first|apply eS rfl|apply AB|refine rX d ?_ ?_|refine rC ?_ ?_<;>intro c<;>try(cases c;done))
 .constructor
  .exact eV
  intro h;refine⟨?_,?_⟩<;>exact eV
 .exact eV
 .obtain⟨h1,a⟩:=c;obtain⟨m,rfl⟩:∃m,n=m+1:=⟨n-1,O1⟩;have e:(((m+1:Nat):Int)-1)=(m:Int):=by omega
  rw[e]at a;have a:b.getD m 0=0:=a;have j:Cm b m=Cm b b.length:=by
   rw[<-g];show _=if b.getD m 0=0 then Cm b m else m+1
   rw[At a]
  refine⟨⟨m,O1,j⟩,sc,AC [] rfl rfl ?_ ?_⟩
  .exact eN
  simp only[e];exact eN
 .exact AA7.2 hn
 have i:Cm b n=n:=by
  cases n with
  | zero=>rfl
  | succ m =>
   have e:(((m+1:Nat):Int)-1)=(m:Int):=by omega
   rw[e]at c;have a:=c O1;have a:¬b.getD m 0=0:=a;show (if b.getD m 0=0 then Cm b m else m+1)=m+1;rw[An a]
 have h1:BS b=b.take n:=by unfold BS;rw[<-g,i]
 rw[<-h1];exact fI d [.tmp 2]
def Gm (g:Nat->Int) (n i:Nat):List Int:=(List.range n).map λj=>if j<i then g j else 0
theorem YO (g:Nat->Int) (n i:Nat):(Gm g n i).length=n:=by simp[Gm]
theorem l4 (g:Nat->Int) (n:Nat):Gm g n 0=List.replicate n 0:=by
 apply AAL
 .simp[Gm]
 intro j h1 a;simp[Gm]
theorem uR (g:Nat->Int) (n i:Nat):(Gm g n i).set i (g i)=Gm g n (i+1):=by
 apply AAL
 .simp[Gm]
 intro j h1 b;simp only[Gm,List.getElem_set,ACc,ACi];split
 .rename_i e;rw[At O1,e]
 rename_i e;by_cases a:j<i
 .rw[At a,At O1]
 rw[An a,An O1]
def Z6 (a b:List Int) (i:Nat):Int:=Cu .and .u64 (a.getD i 0) (b.getD i 0)
def F1 (a b:List Int):List Int:=BS (Gm (Z6 a b) (min a.length b.length) (min a.length b.length))
def A0Q:AZ:={ ins:=[Ba,Ba],pre:=λ(a,_,_)=>List.length a<=100000,out:=λ(a,b,_)=>[.p Ba (F1 a b)] }
attribute [local go_sem] A0Q
theorem A4e:Ac Tryz.prog 193 A0Q:=by
 refine fK [0,1,4,5,6,14,15,16] Tryz.func193 Tryz.ntmps193 (AE l0 AH) ?_;rintro w0 O0 ⟨a,b,u⟩ d-ha;have ha:a.length<=100000:=ha;simp only[A0Q,AL];repeat'(first|exact a6|apply eS rfl|refine rX d ?_ ?_)
 .split<;>simp only[AP]<;>dsimp only[Ty.den]at *<;>omega
 have g:Int.toNat (if ((List.length b:Nat):Int)<((List.length a:Nat):Int) then ((List.length b:Nat):Int) else ((List.length a:Nat):Int))=min (List.length a) (List.length b):=by split<;>omega
 rw[g];have h:F1 a b=BS (Gm (Z6 a b) (min a.length b.length) (min a.length b.length)):=rfl;have j:min a.length b.length<=a.length:=Nat.min_le_left _ _;have k:min a.length b.length<=b.length:=Nat.min_le_right _ _;generalize min a.length b.length=n at *;refine AI (ι:={i:Nat//i<=n}) (λi=>⟨[(0,.p Ba a),(1,.p Ba b),(5,.sr 12 RJ 0 n),(14,.p (.int .i64) (n:Int)),(15,.p (.int .i64) (i.1:Int))],[(12,.arr 205 RJ (Gm (Z6 a b) n i.1))]⟩) (λi=>n-i.1) ⟨0,Do _⟩ (AC [(12,.nm 12)] rfl rfl ?_ ?_) (λi=>?_)
 .refine eM ?_;rw[l4]
 .exact eN
 obtain⟨i,hi⟩:=i;have f:=YO (Z6 a b) n i;simp only;repeat'(first|exact a6|apply eS rfl|apply AB|refine rX d ?_ ?_|refine rC ?_ ?_<;>intro c<;>try(cases c;done))
 .have e:i<n:=f4.1 c;exact⟨eV,eV,c⟩
 .exact eV
 .have e:i<n:=f4.1 c;refine⟨⟨i+1,e⟩,a2,AC [(12,.nm 12)] rfl rfl ?_ ?_⟩
  .simp only[<-uR];refine eM ?_;rfl
  exact eN
 have e:i=n:=by omega
 subst e;have ht:(Gm (Z6 a b) i i).take i=Gm (Z6 a b) i i:=BY (by rw[f];exact On _);refine Cj [12] ?_;repeat'(first|apply eS rfl|refine rX d ?_ ?_)
 .rw[ht,f];dsimp only[Ty.den]at *;omega
 rw[ht];exact fI d [.tmp 4] (by rw[h];exact eR)
def Dv (a b:List Int):Bool:=ML a b&&ML b a
def Z7:AZ:={ ins:=[Ba,Ba],pre:=λ_=>True,out:=λ(a,b,_)=>[.p .bool (Dv a b)],lend:=true }
attribute [local go_sem] Z7
theorem uS:Ac Tryz.prog 195 Z7:=by
 refine fK [0,1,4] Tryz.func195 Tryz.ntmps195 (AE Vi AH) ?_;rintro w0 O0 ⟨a,b,u⟩ c - -;simp only[Z7,AL];repeat'(first|exact a6|apply eS rfl|refine rX c ?_ ?_)
 exact fI c [.tmp 4] (by unfold Dv;exact eR)
def Eu (c:List Int):Nat->List FB->Int
 | _,[]=>-1
 | k,t :: l=>if Dv t.2.1 c=true then (k:Int) else Eu c (k+1) l
theorem l9 (c:List Int) (l:List FB) (h:k<l.length):Eu c k (l.drop k)=if Dv (l.getD k Rb).2.1 c=true then (k:Int) else Eu c (k+1) (l.drop (k+1)):=by
 rw[OR h];have e:l.getD k Rb=l[k]:=by simp[AS,h]
 rw[e];rfl
theorem A0R (c:List Int) (t:FB):BE Tryz.prog 194 [.p kV t,.bp 1 [] 0] [(1,.box 111 false [.p Ba c])] [1] (λres b=>res=.p .bool (Dv t.2.1 c)/\b=[(1,.box 111 false [.p Ba c])]):=by
 refine Jx [0,1,2,3] [] [] Tryz.func194 Tryz.ntmps194 (AE uS AH) ?_;intro w0 K O0 ρ0 a d e;simp only[Ap];repeat'(first|exact a6|apply eS rfl|refine rX a ?_ ?_)
 refine Ev.ent (σ':=⟨[(3,.p .bool (Dv t.2.1 c))],[(1,.box 111 false [.p Ba c])]⟩) ?_ (AC [(1,.nm 1)] rfl rfl ?_ ?_)
 .exact fM a [.tmp 3] (.p .bool (Dv t.2.1 c)) eT ⟨rfl,rfl⟩
 .exact eN
 exact eN
theorem uT (l:List FB) (c:List Int) (i:l.length<=100000):BE Tryz.prog 76 [.p Qu l,.clo 194 [1]] [(1,.box 111 false [.p Ba c])] [1] (λres g=>res=.p T3 (Eu c 0 l)/\g=[(1,.box 111 false [.p Ba c])]):=by
 refine Jx [0,1,4,5,7,8,9,16] [] [] Tryz.func76 Tryz.ntmps76 AH ?_;intro w0 K O0 ρ0 b j m;simp only[Ap];repeat'(first|exact a6|apply eS rfl|refine rX b ?_ ?_)
 refine AI (ι:={k:Nat//k<=l.length/\Eu c k (l.drop k)=Eu c 0 l}) (λk=>⟨[(0,.p Qu l),(1,.clo 194 [1]),(7,.p (.int .i64) (l.length:Int)),(8,.p (.int .i64) (k.1:Int))],[(1,.box 111 false [.p Ba c])]⟩) (λk=>l.length-k.1) ⟨0,Do _,rfl⟩ (eW [(1,.nm 1)]) (λk=>?_)
 obtain⟨k,hk,hf⟩:=k;have f:=λh:k<l.length=>l9 c l h;simp only;repeat'(first|exact a6|apply eS rfl|refine rX b ?_ ?_|refine rC ?_ ?_<;>intro a<;>try(cases a;done))
 .have d:k<l.length:=f4.1 a;have e:=f d;refine cP 5 b ?_ ?_
  .exact a
  refine rM b (A0R c (l.getD k Rb)) [(1,.nm 1)] [] ?_ ?_ ?_
  .exact eN
  .exact eN
  rintro _ _ ⟨rfl,rfl⟩;refine⟨[(1,.nm 1)],.p .bool (Dv (l.getD k Rb).2.1 c),[(1,.box 111 false [.p Ba c])],rfl,rfl,?_,?_,rfl,rfl,FG ?_⟩
  .exact eN
  .exact eN
  repeat'(first|exact a6|apply eS rfl|apply AB|refine rX b ?_ ?_|refine rC ?_ ?_<;>intro a<;>try(cases a;done))
  .have a:Dv (l.getD k Rb).2.1 c=true:=a;rw[At a,hf]at e;refine Ev.ent (σ':=⟨[(4,.p (.int .i64) (k:Int))],[(1,.box 111 false [.p Ba c])]⟩) ?_ (AC [(1,.nm 1)] rfl rfl ?_ ?_)
   .exact fM b [.tmp 4] (.p T3 (k:Int)) eT ⟨by rw[e],rfl⟩
   .exact eN
   exact eN
  .omega
  have a:Dv (l.getD k Rb).2.1 c=false:=a;rw[An (by rw[a];simp)]at e;exact⟨⟨k+1,d,e.symm.trans hf⟩,a2,eW [(1,.nm 1)]⟩
 have d:l.drop k=[]:=Is (AA7.1 a);rw[d]at hf;have hf:(-1:Int)=Eu c 0 l:=hf;refine Ev.ent (σ':=⟨[(4,.p (.int .i64) (-1))],[(1,.box 111 false [.p Ba c])]⟩) ?_ (AC [(1,.nm 1)] rfl rfl ?_ ?_)
 .exact fM b [.tmp 4] (.p T3 (-1)) eT ⟨by rw[hf],rfl⟩
 .exact eN
 exact eN
def Be (h:AG) (t:Int):List Int:=(h.1.getD t.toNat Rb).2.1
def Cy (h:AG) (a b:Int):Int×Bool :=
 if (F1 (Be h a) (Be h b)).length=0 then (0,false) else if Eu (F1 (Be h a) (Be h b)) 0 h.1<0 then (0,false) else (Eu (F1 (Be h a) (Be h b)) 0 h.1,true)
def p5:AZ:={ ins:=[FL,T3,T3],pre:=λ(h,a,b,_)=>((0:Int)<=a/\a<(List.length (h:AG).1:Int))/\((0:Int)<=b/\b<(List.length (h:AG).1:Int))/\List.length (h:AG).1<=100000/\(∀x∈(h:AG).1,x.2.1.length<=100000),out:=λ(h,a,b,_)=>[.p T3 (Cy h a b).1,.p .bool (Cy h a b).2],lend:=true }
theorem A4f:Ac Tryz.prog 179 p5:=by
 refine fK [0,1,2,3,6,7,8,9,25,31] Tryz.func179 Tryz.ntmps179 (AE A4e AH) ?_;rintro w0 O0 ⟨⟨ht,hf⟩,a,b,u⟩ d-⟨ha,g,j,l⟩;simp only[p5,AL];refine Ev.ent (σ':=⟨[(0,.p FL (ht,hf)),(1,.p T3 a),(2,.p T3 b)],[]⟩) ?_ (AC [] rfl rfl ?_ ?_)
 .repeat'(first|exact a6|apply eS rfl|refine rX d ?_ ?_|refine rC ?_ ?_<;>intro e<;>try(cases e;done))
  .refine⟨ha,g,?_⟩;have h1:Int.toNat a<List.length ht:=(ACP ha.1).2 ha.2;exact l _ (AF (ht:List FB) Rb h1)
  .have k:Cy (ht,hf) a b=(0,false):=by
    unfold Cy;rw[At (by unfold Be;exact Int.ofNat.inj e)]
   exact fI d [.tmp 6,.tmp 7] (by rw[k];exact eR)
  have i:∀c,c=F1 (List.getD ht (Int.toNat a) (ByteArray.empty,[],[],[])).2.1 (List.getD ht (Int.toNat b) (ByteArray.empty,[],[],[])).2.1->c=F1 (Be (ht,hf) a) (Be (ht,hf) b):=λc h=>h;have f:Cy (ht,hf) a b=if Eu (F1 (Be (ht,hf) a) (Be (ht,hf) b)) 0 ht<0 then (0,false) else (Eu (F1 (Be (ht,hf) a) (Be (ht,hf) b)) 0 ht,true):=by
   unfold Cy;rw[An (λh=>e (by unfold Be at h;exact ABj Int.ofNat h))]
  generalize n:F1 (List.getD ht (Int.toNat a) (ByteArray.empty,[],[],[])).2.1 (List.getD ht (Int.toNat b) (ByteArray.empty,[],[],[])).2.1=c at *;rw[<-i c rfl]at f;refine cP 3 d ?_ ?_
  .trivial
  refine rM d (uT ht c j) [(1,.nm 8)] [] ?_ ?_ ?_
  .exact eN
  .exact eN
  rintro _ _ ⟨rfl,rfl⟩;refine⟨[(8,.nm 1)],.p T3 (Eu c 0 ht),[(8,.box 111 false [.p Ba c])],rfl,rfl,?_,?_,rfl,rfl,?_⟩
  .exact eN
  .exact eN
  generalize Eu c 0 ht=m at *;refine rL d ?_ ?_
  .trivial
  repeat'(first|exact a6|apply eS rfl|refine rX d ?_ ?_|refine rC ?_ ?_<;>intro e<;>try(cases e;done))
  .rw[At e]at f;exact fI d [.tmp 6,.tmp 7] (by rw[f];exact eR)
  rw[An (AAy.2 e)]at f;exact fI d [.tmp 6,.tmp 7] (by rw[f];exact eR)
 .exact eN
 exact eN
end
theorem Vk (l:List (List Int)) (i k:Nat):l <+: GM l i k:=by
 unfold GM;split
 .exact ACM _ _
 exact ABk _
theorem Vl (i:Nat):∀(n k:Nat) (l:List (List Int)),l <+: GN i n k l
 | 0,_,l=>ABk l
 | n+1,k,l=>by
  unfold GN;split
  .exact(Vk l i k).trans (Vl i n (k+1) _)
  exact ABk l
theorem QB:∀(n i:Nat) (l:List (List Int)),l <+: H2 n i l
 | 0,_,l=>ABk l
 | n+1,i,l=>by
  unfold H2;split
  .exact(Vl i i 0 l).trans (QB n (i+1) _)
  exact ABk l
theorem QC {m:List (List Int)} (h:l <+: m) (hk:k<l.length):m.getD k []=l.getD k []:=by
 obtain⟨t,rfl⟩:=h;simp only[AS];rw[AAm hk]
def K8 (l:List (List Int)) (q p:Nat):Prop:=ER (l.getD q []) (l.getD p [])=[]\/ER (l.getD q []) (l.getD p [])∈l
theorem K8.pre {m:List (List Int)} (h:l <+: m) {q p:Nat} (c:q<l.length) (b:p<l.length) (a:K8 l q p):K8 m q p:=by
 unfold K8 at a ⊢;rw[QC h c,QC h b];rcases a with a|a
 .exact .inl a
 exact .inr (h.subset a)
theorem A4g {b:List Int} (h:lA l b=true):b∈l:=by
 obtain⟨x,a,e⟩:=aT.1 h;have:x=b:=by simpa[HA] using e
 rw[<-this];exact a
theorem mA {i k:Nat} (hi:i<l.length) (hk:k<l.length):K8 (GM l i k) i k:=by
 have b:=Vk l i k;unfold K8;rw[QC b hi,QC b hk];unfold GM;split
 .right;simp
 rename_i a;rw[AT,IN,bY]at a;by_cases h0:0<((ER (l.getD i []) (l.getD k [])).length:Int)
 .right;cases hh:lA l (ER (l.getD i []) (l.getD k [])) with
  | true=>exact A4g hh
  | false=>exact absurd ⟨h0,hh⟩ a
 left;exact AA4 O1
theorem Vm {i:Nat}:∀ {n k:Nat} {l:List (List Int)},n+k=i->i<l.length->(GN i n k l).length<=256->(∀p,p<k->K8 l i p)->∀p,p<i->K8 (GN i n k l) i p
 | 0,k,l,hn,hi,a,h=>λp c=>h p O1
 | n+1,k,l,hn,hi,a,h=>by
  unfold GN at a ⊢;split at a
  .rename_i b;rw[At b];have c:=Vk l i k;refine Vm O1 (AAS hi c.length_le) a λp d=>?_;by_cases e:p=k
   .subst e;exact mA hi O1
   exact(h p O1).pre c hi O1
  rename_i b;exact absurd (by omega:l.length<=256) b
theorem Vn:∀ {n i:Nat} {l:List (List Int)},257<=n+i->(H2 n i l).length<=256->i<=l.length->(∀q p,p<q->q<i->K8 l q p)->∀q p,p<q->q<(H2 n i l).length->K8 (H2 n i l) q p
 | 0,i,l,hn,a,g,h=>λq p c f=>by
  have k:l.length<=256:=a;omega
 | n+1,i,l,hn,a,g,h=>by
  unfold H2 at a ⊢;split at a
  .rename_i b;rw[At b];have d:=Vl i i 0 l;have m:=d.length_le;have j:=(QB n (i+1) (GN i i 0 l)).length_le;refine Vn O1 a O1 λq p c f=>?_;by_cases e:q=i
   .subst e;exact Vm O1 b.1 O1 (λp d=>by omega) p c
   exact(h q p c O1).pre d O1 O1
  rename_i b;rw[An b];intro q p c f;exact h q p c (by
   refine DO λhh=>b ⟨O1,a⟩)
theorem Z8 {c:List (List Int)} (a:(A0 c).length<=256):∀q p,p<q->q<(A0 c).length->K8 (A0 c) q p :=
 Vn O1 a (Do _) (λq p _ h=>by omega)
theorem A0S (a b:List Int) (k:Nat):(ER a b).getD k 0=if k<a.length then Cu .and .u64 (a.getD k 0) (b.getD k 0) else 0:=by
 unfold ER;rw[P0];split
 .rename_i h;exact M6 .and a b h
 rename_i h;rw[AS,oF (by rw[Ea];omega)];rfl
theorem Gn {b:List Int} (h:¬k<b.length):b.getD k 0=0:=by
 rw[AS,oF O1];rfl
theorem QD (ha:H4 a) (c:H4 b) (i:Nat):BK (ER a b) i=(BK a i&&BK b i):=by
 unfold BK;rw[A0S];split
 .rw[H3 (BQ ha _) (BQ c _),jC,Nat.testBit_and]
 rename_i h;rw[Gn h];simp
theorem QE (ha:H4 a) (d:H4 b):H4 (ER a b):=by
 refine Ob λx c=>?_;unfold GK at c;obtain⟨i,-,rfl⟩:=GO.1 c;rw[He,H3 (BQ ha _) (BQ d _)];have h1:=BQ ha i;have e:(a.getD i 0).toNat &&& (b.getD i 0).toNat<=(a.getD i 0).toNat:=ACD;have f:=h1.1;have g:=h1.2;exact⟨AAP _,O1⟩
theorem Rc (b:List Int):∀n,Cm b n=0\/b.getD (Cm b n-1) 0≠0
 | 0=>.inl rfl
 | n+1=>by
  unfold Cm;split
  .exact Rc b n
  rename_i h;right;simpa using h
theorem A4h {n:Nat} (h0:n≠0) (h1:n<18446744073709551616):∃r,r<64/\n.testBit r=true:=by
 refine DO λb=>h0 ?_;refine Nat.eq_of_testBit_eq λr=>?_;rw[Nat.zero_testBit];by_cases c:r<64
 .cases a:n.testBit r with
  | false=>rfl
  | true=>exact absurd ⟨r,c,a⟩ b
 have e:(18446744073709551616:Nat)=2 ^ 64:=by decide
 rw[e]at h1;exact Nat.testBit_lt_two_pow (AAS h1 (Nat.pow_le_pow_right df O1))
theorem fR {b:List Int} (a:H4 b) (h:b.getD k 0≠0):∃i,BK b i=true:=by
 have hu:=BQ a k;have h1:=hu.1;have c:=hu.2;obtain⟨r,d,ht⟩:=A4h (n:=(b.getD k 0).toNat) O1 O1;refine⟨64*k+r,?_⟩;unfold BK;rw[show (64*k+r) / 64=k by omega,show (64*k+r) % 64=r by omega];exact ht
theorem mB {b:List Int} (a:H4 b) (h:BS b≠[]):∃i,BK b i=true:=by
 rcases Rc b b.length with h1|h1
 .exact absurd (by unfold BS;rw[h1];rfl) h
 exact fR a h1
theorem YP (ha:H4 a) (c:H4 b) (h:∀i,BK a i=true->BK b i=true) (k:Nat):Cu .andNot .u64 (a.getD k 0) (b.getD k 0)=0:=by
 rw[RU];have:(BitVec.ofInt 64 (a.getD k 0) &&& ~~~BitVec.ofInt 64 (b.getD k 0))=0#64:=by
  apply BitVec.eq_of_getLsbD_eq;intro r e;rw[BitVec.getLsbD_and,BitVec.getLsbD_not,<-ABR,<-ABR,Fb (BQ ha k),Fb (BQ c k)];have hk:=h (64*k+r);unfold BK at hk;rw[show (64*k+r) / 64=k by omega,show (64*k+r) % 64=r by omega]at hk;cases d:(a.getD k 0).toNat.testBit r with
  | false=>simp
  | true=>rw[hk d];simp
 rw[this];rfl
theorem FP (ha:H4 a) (c:H4 b):Em a b=true↔∀i,BK a i=true->BK b i=true:=by
 constructor
 .exact λh i hi=>MF ha c h hi
 intro h;unfold Em RM BS;have h1:Cm (GK .andNot a b a.length) (GK .andNot a b a.length).length=0:=by
  rw[Ea];exact RW λk hk=>by rw[M6 _ _ _ hk];exact YP ha c h k
 rw[h1];rfl
structure It (l:List (List Int)):Prop where
 wds:∀c∈l,H4 c
 some:∀c∈l,∃i,BK c i=true
 wid:∀c∈l,c.length<=64
 meet:∀a∈l,∀b∈l,(∃i,BK a i=true/\BK b i=true)->∃t∈l,∀i,BK t i=(BK a i&&BK b i)
structure Bs (l:List (List Int)):Prop where
 wds:∀c∈l,H4 c
 some:∀c∈l,∃i,BK c i=true
theorem Rd (h:¬k<l.length):l.getD k []=[]:=by
 rw[AS,oF O1];rfl
theorem Bs.get (h:Bs l) (k:Nat):H4 (l.getD k []):=by
 by_cases hk:k<l.length
 .exact h.wds _ (Aw hk)
 rw[Rd hk];intro x a;cases a
theorem A4i (h:Bs l) (i k:Nat):Bs (GM l i k):=by
 unfold GM;split
 .rename_i b;rw[AT,IN]at b;refine⟨λc a=>?_,λc a=>?_⟩
  .rcases If.1 a with a|a
   .exact h.wds c a
   have:c=ER (l.getD i []) (l.getD k []):=by simpa using a
   rw[this];exact QE (h.get i) (h.get k)
  rcases If.1 a with a|a
  .exact h.some c a
  have:c=ER (l.getD i []) (l.getD k []):=by simpa using a
  rw[this];have g:ER (l.getD i []) (l.getD k [])≠[]:=by
   intro e;rw[e]at b;exact absurd b.1 sc
  have m:H4 (GK .and (l.getD i []) (l.getD k []) (l.getD i []).length):=by
   intro x d;unfold GK at d;obtain⟨j,-,rfl⟩:=GO.1 d;rw[He,H3 (BQ (h.get i) _) (BQ (h.get k) _)];have h1:=BQ (h.get i) j;have n:((l.getD i []).getD j 0).toNat &&& ((l.getD k []).getD j 0).toNat<=((l.getD i []).getD j 0).toNat:=ACD;have o:=h1.1;have p:=h1.2;exact⟨AAP _,O1⟩
  obtain⟨j,f⟩:=mB m g;exact⟨j,by unfold ER;rw[Oa];exact f⟩
 exact h
theorem p6 {i:Nat}:∀ {n k:Nat} {l:List (List Int)},Bs l->Bs (GN i n k l)
 | 0,_,_,h=>h
 | n+1,k,l,h=>by
  unfold GN;split
  .exact p6 (A4i h i k)
  exact h
theorem p7:∀ {n i:Nat} {l:List (List Int)},Bs l->Bs (H2 n i l)
 | 0,_,_,h=>h
 | n+1,i,l,h=>by
  unfold H2;split
  .exact p7 (p6 h)
  exact h
theorem uU {d:List AJ} (f:BA d=0):Bs (AY d):=by
 obtain⟨-,l,-⟩:=A2 f;have h:=Du d d.length;rw[oR]at h;have b:(AN d).length<=4096:=by omega
 refine⟨λc a=>?_,λc a=>?_⟩
 .unfold AY at a;obtain⟨s,-,rfl⟩:=GO.1 a;exact(CE (d:=d) b s 0).2.1
 unfold AY at a;obtain⟨s,hs,rfl⟩:=GO.1 a;obtain⟨j,g,e⟩:=CM ByteArray.empty hs;have i:0<=Aq d s:=by
  obtain⟨x,k,e⟩:=DV hs;rw[<-e];exact DU k
 exact⟨j,(CE (d:=d) b s j).1.2 ⟨g,by rw[e];exact Oc i⟩⟩
theorem Vo {d:List AJ} (m:BA d=0) (u:(A0 (AY d)).length<=256):It (A0 (AY d)):=by
 obtain⟨-,r,-⟩:=A2 m;have g:Bs (A0 (AY d)):=p7 (uU m);have o:=Z8 u;refine⟨g.wds,g.some,P5 (Oh r),λa ha b s hi=>?_⟩;obtain⟨q,f,rfl⟩:=CM [] ha;obtain⟨p,j,rfl⟩:=CM [] s;have key:∀q p,q<(A0 (AY d)).length->p<(A0 (AY d)).length->K8 (A0 (AY d)) q p->(∃i,BK ((A0 (AY d)).getD q []) i=true/\BK ((A0 (AY d)).getD p []) i=true) ->
   ∃t∈A0 (AY d),∀i,BK t i=(BK ((A0 (AY d)).getD q []) i&&BK ((A0 (AY d)).getD p []) i):=by
  intro q p f j c hi;have n:=QD (g.get q) (g.get p);rcases c with c|c
  .obtain⟨i,k,l⟩:=hi;have:=n i;rw[c,k,l]at this;unfold BK at this;simp at this
  exact⟨_,c,n⟩
 rcases ACo p q with h|h|h
 .exact key q p f j (o q p h f) hi
 .subst h;exact⟨_,Aw f,λi=>by rw[Bool.and_self]⟩
 obtain⟨t,ht,e⟩:=key p q j f (o p q h j) (by obtain⟨i,k,l⟩:=hi;exact⟨i,l,k⟩);exact⟨t,ht,λi=>by rw[e i,AD0]⟩
def FC (h:AG):Prop:=It (h.1.map λt=>t.2.1)/\h.1.length<=256
theorem Gp (d:List AJ):FC (Ad d).1:=by
 unfold Ad;split
 .exact⟨⟨λc h=>(by cases h),λc h=>(by cases h),λc h=>(by cases h),λc h=>(by cases h)⟩,sc⟩
 rename_i g;have g:(A8 d).2=0:=DO g;have m:Am d=0:=by
  unfold A8 at g;split at g
  .rename_i h;exact absurd g h
  rename_i h;exact DO h
 obtain⟨o,-,-⟩:=CJ m;obtain⟨l,k,-⟩:=Bc o;have hf:=Vo l k;have f:∀c,c∈((Bo d).1.map λt=>t.2.1)↔c∈A0 (AY d):=by
  intro c;have e:((Bo d).1.map λt=>t.2.1)=(AM d).map λx=>x.2:=by
   show ((EM _ _ _).map λt=>t.2.1)=_;unfold EM;rw[ABm];apply AAL
   .simp
   intro i h1 p;simp[AS,show i<(AM d).length by simpa using h1]
  rw[e];constructor
  .intro h;obtain⟨x,n,rfl⟩:=GO.1 h;obtain⟨b,j,rfl⟩:=DW.1 n;exact j
  intro h;exact GO.2 ⟨_,DW.2 ⟨c,h,rfl⟩,rfl⟩
 refine⟨⟨λc h=>hf.wds c ((f c).1 h),λc h=>hf.some c ((f c).1 h),λc h=>hf.wid c ((f c).1 h),λa ha b j hi=>?_⟩,?_⟩
 .obtain⟨t,ht,e⟩:=hf.meet a ((f a).1 ha) b ((f b).1 j) hi;exact⟨t,(f t).2 ht,e⟩
 show (EM _ _ _).length<=256;rw[Jj,H6];exact k
theorem Ca {h:AG} {t:Int} (a:0<=t) (b:t<(h.1.length:Int)):Be h t∈h.1.map λt=>t.2.1 :=
 GO.2 ⟨_,AF h.1 Rb (k:=t.toNat) O1,rfl⟩
theorem Vp (ha:H4 a) (c:H4 b):ML a b=true↔∀i,BK a i=true->BK b i=true:=by
 constructor
 .intro h i hi;by_cases hk:i / 64<a.length
  .have h1:=No.1 h (i / 64) (oS.2 hk);rw[AA9,He]at h1;exact Sf (BQ ha _) (BQ c _) h1 (ADa _ df) hi
  exfalso;unfold BK at hi;rw[Gn hk]at hi;simp at hi
 intro h;unfold ML;rw[No];intro k _;rw[AA9,He];exact YP ha c h k
theorem A0T (ha:H4 a) (c:H4 b) (i:Nat):BK (F1 a b) i=(BK a i&&BK b i):=by
 unfold F1;rw[Oa];unfold BK;have:(Gm (Z6 a b) (min a.length b.length) (min a.length b.length)).getD (i / 64) 0=Cu .and .u64 (a.getD (i / 64) 0) (b.getD (i / 64) 0):=by
  by_cases h:i / 64<min a.length b.length
  .unfold Gm;rw[AS,AAR,ABF h];show (if i / 64<min a.length b.length then Z6 a b (i / 64) else 0)=_;rw[At h];rfl
  rw[Gn (by rw[YO];exact h),H3 (BQ ha _) (BQ c _)];by_cases h1:i / 64<a.length
  .rw[Gn (b:=b) O1];simp
  rw[Gn (b:=a) h1];simp
 rw[this,H3 (BQ ha _) (BQ c _),jC,Nat.testBit_and]
theorem A0U (ha:H4 a) (d:H4 b):H4 (F1 a b):=by
 refine Ob λx c=>?_;unfold Gm at c;obtain⟨j,-,rfl⟩:=GO.1 c;split
 .unfold Z6;rw[H3 (BQ ha _) (BQ d _)];have h1:=BQ ha j;have e:(a.getD j 0).toNat &&& (b.getD j 0).toNat<=(a.getD j 0).toNat:=ACD;have f:=h1.1;have g:=h1.2;exact⟨AAP _,O1⟩
 exact⟨df,df⟩
theorem Vq (c:List Int):∀(l:List FB) (k:Nat),(Eu c k l=-1/\∀t∈l,Dv t.2.1 c=false)\/((k:Int)<=Eu c k l/\Eu c k l<(k:Int)+l.length/\Dv (l.getD ((Eu c k l).toNat-k) Rb).2.1 c=true)
 | [],k=>.inl ⟨rfl,λt ht=>by cases ht⟩
 | x :: l,k=>by
  simp only[Eu];split
  .rename_i h;right;refine⟨O1,by simp only[NO];omega,?_⟩;rw[show ((k:Int).toNat-k)=0 by omega];exact h
  rename_i h;have h:Dv x.2.1 c=false:=by simpa using h
  rcases Vq c l (k+1) with ⟨h1,a⟩|⟨h1,a,b⟩
  .left;refine⟨h1,λt ht=>?_⟩;rcases By.1 ht with rfl|ht
   .exact h
   exact a t ht
  right;refine⟨O1,by simp only[NO];omega,?_⟩;rw[show ((Eu c (k+1) l).toNat-k)=((Eu c (k+1) l).toNat-(k+1))+1 by omega];exact b
def Tb2 (h:AG) (t:Int) (i:Nat):Bool:=BK (Be h t) i
theorem B4 {h:AG} (hk:FC h) {a b:Int} (c:0<=a) (d:a<(h.1.length:Int)) (e:0<=b) (b1:b<(h.1.length:Int)):Ah h a b=true↔∀i,Tb2 h b i=true->Tb2 h a i=true :=
 Vp (hk.1.wds _ (Ca e b1)) (hk.1.wds _ (Ca c d))
theorem A0W {h:AG} (hk:FC h) {a b:Int} (f:0<=a) (g:a<(h.1.length:Int)) (j:0<=b) (b1:b<(h.1.length:Int)) :
  ((Cy h a b).2=true->0<=(Cy h a b).1/\(Cy h a b).1<(h.1.length:Int)/\∀i,Tb2 h (Cy h a b).1 i=(Tb2 h a i&&Tb2 h b i))/\((∃i,Tb2 h a i=true/\Tb2 h b i=true)->(Cy h a b).2=true):=by
 have r:=hk.1.wds _ (Ca f g);have s:=hk.1.wds _ (Ca j b1);have c:=A0T r s;have n:=A0U r s;have heq:∀t∈h.1,Dv t.2.1 (F1 (Be h a) (Be h b))=true↔∀i,BK t.2.1 i=BK (F1 (Be h a) (Be h b)) i:=by
  intro t ht;have wt:=hk.1.wds t.2.1 (GO.2 ⟨t,ht,rfl⟩);unfold Dv;rw[AT,Vp wt n,Vp n wt];constructor
  .rintro⟨u,v⟩ i;rw[ABW];exact⟨u i,v i⟩
  intro e;exact⟨λi hi=>by rw[<-e i];exact hi,λi hi=>by rw[e i];exact hi⟩
 unfold Cy;by_cases d:(F1 (Be h a) (Be h b)).length=0
 .rw[At d];refine⟨λe=>(by cases e),?_⟩;rintro⟨i,p,q⟩;exfalso;have:=c i;rw[AA4 d]at this;unfold Tb2 at p q;rw[p,q]at this;unfold BK at this;simp at this
 rw[An d];rcases Vq (F1 (Be h a) (Be h b)) h.1 0 with ⟨h1,l⟩|⟨h1,l,m⟩
 .rw[At O1];refine⟨λe=>(by cases e),λhi=>?_⟩;exfalso;obtain⟨t,ht,e⟩:=hk.1.meet _ (Ca f g) _ (Ca j b1) hi;obtain⟨x,o,rfl⟩:=GO.1 ht;have:=(heq x o).2 (λi=>by rw[c i];exact e i);rw[l x o]at this;cases this
 have h1:0<=Eu (F1 (Be h a) (Be h b)) 0 h.1:=by omega
 rw[An O1];refine⟨λ_=>⟨h1,a2,λi=>?_⟩,λ_=>rfl⟩;rw[Nat.sub_zero]at m;have w:=AF h.1 Rb (k:=(Eu (F1 (Be h a) (Be h b)) 0 h.1).toNat) O1;have:=(heq _ w).1 m i;rw[c i]at this;exact this
theorem MM {h:AG} (hk:FC h) {a b:Int} (l:0<=a) (m:a<(h.1.length:Int)) (n:0<=b) (b1:b<(h.1.length:Int)) :
  ((Cy h a b).2=true->0<=(Cy h a b).1/\(Cy h a b).1<(h.1.length:Int)/\Ah h a (Cy h a b).1=true/\Ah h b (Cy h a b).1=true) /\
  ∀x,0<=x->x<(h.1.length:Int)->Ah h a x=true->Ah h b x=true->(Cy h a b).2=true/\Ah h (Cy h a b).1 x=true:=by
 obtain⟨r,u⟩:=A0W hk l m n b1;refine⟨λe=>?_,λx g k s t=>?_⟩
 .obtain⟨c,d,f⟩:=r e;refine⟨c,d,(B4 hk l m c d).2 λi hi=>?_,(B4 hk n b1 c d).2 λi hi=>?_⟩
  .rw[f i,AT]at hi;exact hi.1
  rw[f i,AT]at hi;exact hi.2
 have o:=(B4 hk l m g k).1 s;have p:=(B4 hk n b1 g k).1 t;obtain⟨i,hi⟩:=hk.1.some _ (Ca g k);have e:=u ⟨i,o i hi,p i hi⟩;obtain⟨c,d,f⟩:=r e;refine⟨e,(B4 hk c d g k).2 λj q=>?_⟩;rw[f j,AT];exact⟨o j q,p j q⟩
def Nrm (c:List Int):Prop:=c.length=0\/c.getD (c.length-1) 0≠0
theorem Oj (b:List Int):Nrm (BS b):=by
 unfold Nrm BS;have a:=VO b b.length;rw[ON,ABE a];rcases Rc b b.length with h|h
 .exact .inl h
 by_cases h0:Cm b b.length=0
 .exact .inl h0
 right;rw[AS,List.getElem?_take_of_lt O1,<-AS];exact h
theorem A4j (ha:H4 a) (f:H4 b) (h:∀i,BK a i=BK b i) (k:Nat):a.getD k 0=b.getD k 0:=by
 have c:=BQ ha k;have d:=BQ f k;have j:=c.1;have l:=c.2;have m:=d.1;have o:=d.2;have e:(a.getD k 0).toNat=(b.getD k 0).toNat:=by
  refine Nat.eq_of_testBit_eq λr=>?_;by_cases g:r<64
  .have:=h (64*k+r);unfold BK at this;rw[show (64*k+r) / 64=k by omega,show (64*k+r) % 64=r by omega]at this;exact this
  have big:∀n:Nat,n<18446744073709551616->n.testBit r=false:=λn hn=>by
   have e:(18446744073709551616:Nat)=2 ^ 64:=by decide
   rw[e]at hn;exact Nat.testBit_lt_two_pow (AAS hn (Nat.pow_le_pow_right df O1))
  rw[big _ O1,big _ O1]
 omega
theorem p8 (d:∀k,a.getD k 0=b.getD k 0) (c:Nrm b):b.length<=a.length:=by
 rcases c with h|h
 .omega
 refine DO λe=>h ?_;rw[<-d];exact Gn O1
theorem mC (ha:H4 a) (e:H4 b) (g:Nrm a) (j:Nrm b) (h:∀i,BK a i=BK b i):a=b:=by
 have c:=A4j ha e h;have f:a.length=b.length:=ACg (p8 (λk=>(c k).symm) g) (p8 c j);refine AAL f λi h1 d=>?_;have:=c i;simpa[AS,h1,d] using this
theorem fS {α:Type} (l:List α) (x:α) (n:Nat):List.Perm (l.take n++[x]++l.drop n) (x :: l):=by
 have h:l.take n++[x]++l.drop n=l.take n++x :: l.drop n:=by simp
 rw[h];refine AD4.trans ?_;rw[ABJ]
def p9 (l:List ByteArray):Prop:=l.Pairwise λa b=>AK a b=false
theorem Iu {a b:ByteArray} (h:AK a b=false):AK b a=false:=by
 cases hh:AK b a with
 | false=>rfl
 | true=>rw[B0 hh]at h;cases h
theorem Vr {l:List ByteArray} (h:p9 l) (hs:∀x∈l,AK x s=false):p9 (Dt l s):=by
 unfold Dt;split
 .exact h
 refine(List.Perm.pairwise_iff (λb=>Iu b) (fS l s _)).2 ?_;exact AAv.2 ⟨λx a=>Iu (hs x a),h⟩
theorem Vs {d:List AJ} (hn:Cq d=0):p9 (AN d):=by
 have key:∀k,k<=d.length->p9 (AN (d.take k))/\∀s∈AN (d.take k),∃i,i<k/\(d.getD i d0).1=s:=by
  intro k;induction k with
  | zero =>
   intro _;exact⟨.nil,λs hs=>by cases hs⟩
  | succ k c =>
   intro hk;obtain⟨h1,a⟩:=c O1;have e:AN (d.take (k+1))=Dt (AN (d.take k)) (d.getD k d0).1:=by
    have:d.take (k+1)=d.take k++[d.getD k d0]:=Ay d d0 O1;rw[this];unfold AN;rw[ABq];rfl
   rw[e];refine⟨Vr h1 λx b=>?_,λs hs=>?_⟩
   .obtain⟨i,hi,rfl⟩:=a x b;cases hh:AK (d.getD i d0).1 (d.getD k d0).1 with
    | false=>rfl
    | true =>
     have g:=Ip d hh;rw[MG hn (j:=i) O1,MG hn (j:=k) O1]at g;omega
   rcases Fz hs with hs|hs
   .obtain⟨i,hi,e⟩:=a s hs;exact⟨i,O1,e⟩
   exact⟨k,O1,hs.symm⟩
 have:=(key d.length (On _)).1
 rwa [oR]at this
structure Nd (l:List (List Int)):Prop where
 nd:l.Nodup
 nrm:∀c∈l,Nrm c
theorem A4k {c:List Int} (h:Nd l) (b:c∉l) (hn:Nrm c):Nd (l++[c]):=by
 refine⟨?_,λx a=>?_⟩
 .rw[ABb];refine⟨h.nd,sc,λx a y d e=>b ?_⟩;have:y=c:=by simpa using d
  rw[<-this,<-e];exact a
 rcases If.1 a with a|a
 .exact h.nrm x a
 have:x=c:=by simpa using a
 rw[this];exact hn
theorem A4l (h:Nd l) (i k:Nat):Nd (GM l i k):=by
 unfold GM;split
 .rename_i a;rw[AT,bY]at a;refine A4k h (λb=>?_) (Oj _);have:lA l (ER (l.getD i []) (l.getD k []))=true:=aT.2 ⟨_,b,by unfold HA;exact AB7 rfl⟩;rw[this]at a;cases a.2
 exact h
theorem qA {i:Nat}:∀ {n k:Nat} {l:List (List Int)},Nd l->Nd (GN i n k l)
 | 0,_,_,h=>h
 | n+1,k,l,h=>by
  unfold GN;split
  .exact qA (A4l h i k)
  exact h
theorem Tp:∀ {n i:Nat} {l:List (List Int)},Nd l->Nd (H2 n i l)
 | 0,_,_,h=>h
 | n+1,i,l,h=>by
  unfold H2;split
  .exact Tp (qA h)
  exact h
theorem Re {d:List AJ} (m:BA d=0):Nd (AY d):=by
 obtain⟨-,l,-,hn,p⟩:=A2 m;have q:=Du d d.length;rw[oR]at q;have hap:=Vs hn;refine⟨?_,λc n=>?_⟩
 .unfold AY List.Nodup;rw[AAN,iN];intro i j hi a o e;have h1:=(iN.1 hap) i j hi a o;have g:∀k,(hk:k<(AN d).length)->(AN d).getD k ByteArray.empty=(AN d)[k]:=λk hk=>by simp[AS,hk]
  have f:=(CE (d:=d) (all:=AN d) O1 (AN d)[j] 0).2.1;have b:=eZ hn p l hi a (by
   rw[g i hi,g j a,e];unfold DM;have:=(FP f f).2 λ_ h=>h;rw[this];rfl)
  rw[g i hi,g j a,h1]at b;cases b
 obtain⟨s,hs,rfl⟩:=GO.1 n;unfold Eb ofF;split
 .exact Oj _
 exact .inl rfl
theorem MN {d:List AJ}:∀ {l:List (List Int)} {o:List AR},(o.map (·.2)++l).Nodup->((l.foldl (RY d) o).map (·.2)).Nodup
 | [],o,h=>by simpa using h
 | b :: l,o,h=>by
  rw[OS];refine MN ?_;unfold RY GP Z1;have c:=(fS o (Gk d (AN d) (AY d) b,b) (Fd (Gk d (AN d) (AY d) b,b) o o.length)).map (λx:AR=>x.2);have e:List.Perm ((o.take (Fd (Gk d (AN d) (AY d) b,b) o o.length)++[(Gk d (AN d) (AY d) b,b)]++o.drop (Fd (Gk d (AN d) (AY d) b,b) o o.length)).map (λx:AR=>x.2)++l) (o.map (·.2)++b :: l) :=
   (c.append_right l).trans (AD4 (a:=b)).symm
  exact e.nodup_iff.2 h
def JF (h:AG):Prop:=∀a b,0<=a->a<(h.1.length:Int)->0<=b->b<(h.1.length:Int)->Ah h a b=true->Ah h b a=true->a=b
theorem A7F {h:AG} (hk:FC h) (hn:Nd (h.1.map λt=>t.2.1)):JF h:=by
 intro a b c d f b1 h1 l;have n:=hk.1.wds _ (Ca c d);have o:=hk.1.wds _ (Ca f b1);have e:Be h a=Be h b:=mC n o (hn.nrm _ (Ca c d)) (hn.nrm _ (Ca f b1)) λi=>by
  rw[ABW];exact⟨(B4 hk f b1 c d).1 l i,(B4 hk c d f b1).1 h1 i⟩
 have j:=iN.1 hn.nd;have g:∀k:Int,0<=k->(hk:k<(h.1.length:Int))->Be h k=(h.1.map λt=>t.2.1)[k.toNat]'(by rw[Of];omega):=λk p q=>by
  unfold Be;simp[AS,show k.toNat<h.1.length by omega]
 rw[g a c d,g b f b1]at e;rcases Int.lt_trichotomy a b with m|heq|m
 .exact absurd e (j a.toNat b.toNat (by rw[Of];omega) (by rw[Of];omega) O1)
 .exact heq
 exact absurd e.symm (j b.toNat a.toNat (by rw[Of];omega) (by rw[Of];omega) O1)
theorem Sk (d:List AJ):JF (Ad d).1:=by
 refine A7F (Gp d) ?_;unfold Ad;split
 .exact⟨.nil,λc h=>(by cases h)⟩
 rename_i a;have a:(A8 d).2=0:=DO a;have g:Am d=0:=by
  unfold A8 at a;split at a
  .rename_i h;exact absurd a h
  rename_i h;exact DO h
 obtain⟨m,-,-⟩:=CJ g;obtain⟨f,o,-⟩:=Bc m;have hf:Nd (A0 (AY d)):=Tp (Re f);have e:((Bo d).1.map λt=>t.2.1)=(AM d).map λx=>x.2:=by
  show ((EM _ _ _).map λt=>t.2.1)=_;unfold EM;rw[ABm];apply AAL
  .simp
  intro i h1 n;simp[AS,show i<(AM d).length by simpa using h1]
 show Nd ((Bo d).1.map λt=>t.2.1);rw[e];refine⟨MN (by simpa using hf.nd),λc k=>?_⟩;obtain⟨x,l,rfl⟩:=GO.1 k;obtain⟨b,j,rfl⟩:=DW.1 l;exact hf.nrm b j
section
attribute [local go_sem] p5
def D6 (f:Int):List (Int×Int)->Int×Bool
 | []=>(0,false)
 | x :: l=>if x.1=f then (x.2,true) else D6 f l
theorem Vt (f:Int) (l:List (Int×Int)) (h:k<l.length):D6 f (l.drop k)=if (l.getD k (0,0)).1=f then ((l.getD k (0,0)).2,true) else D6 f (l.drop (k+1)):=by
 rw[OR h];have e:l.getD k (0,0)=l[k]:=by simp[AS,h]
 rw[e];rfl
def Z9 (h:AG) (t:Int):List (Int×Int):=(h.1.getD t.toNat Rb).2.2.2
def CN (h:AG) (t f:Int):Int×Bool:=D6 f (Z9 h t)
def Nn:AZ:={ ins:=[FL,T3,T3],pre:=λ(h,t,_,_)=>(0:Int)<=t/\t<(List.length (h:AG).1:Int),out:=λ(h,t,f,_)=>[.p T3 (CN h t f).1,.p .bool (CN h t f).2],lend:=true }
attribute [local go_sem] Nn
theorem A4m:Ac Tryz.prog 142 Nn:=by
 refine fK [0,1,2,3,6,7,9,15,16,17,18,26] Tryz.func142 Tryz.ntmps142 AH ?_;rintro w0 O0 ⟨⟨ht,hf⟩,t,f,u⟩ a o ⟨i,j⟩;simp only[Nn,AL];refine Ev.ent (σ':=⟨[(0,.p FL (ht,hf)),(1,.p T3 t),(2,.p T3 f)],[]⟩) ?_ (AC [] rfl rfl ?_ ?_)
 .repeat'(first|exact a6|apply eS rfl|refine rX a ?_ ?_)
  .exact⟨i,j⟩
  have n:∀l,l=(List.getD ht (Int.toNat t) (ByteArray.empty,[],[],[])).2.2.2->CN (ht,hf) t f=D6 f l:=λl e=>by rw[e];rfl
  have q:List.length (List.getD ht (Int.toNat t) (ByteArray.empty,[],[],[])).2.2.2<=140737488355328:=(o.1.1.2 _ (AF (ht:List FB) Rb ((ACP i).2 j))).2.2.2.1;generalize (List.getD ht (Int.toNat t) (ByteArray.empty,[],[],[])).2.2.2=l at *;rw[n l rfl];refine AI (ι:={k:Nat//k<=List.length l/\D6 f l=D6 f (l.drop k)}) (λk=>⟨[(2,.p T3 f),(15,.p XH l),(16,.p (.int .i64) (List.length l:Int)),(17,.p (.int .i64) (k.1:Int))],[]⟩) (λk=>List.length l-k.1) ⟨0,Do _,rfl⟩ (eW []) (λk=>?_)
  obtain⟨k,hk,b⟩:=k;have g:=λh:k<List.length l=>Vt f l h;simp only;repeat'(first|exact a6|apply eS rfl|refine rX a ?_ ?_|refine rC ?_ ?_<;>intro c<;>try(cases c;done))
  .exact c
  .refine cP 5 a ?_ ?_
   .trivial
   refine AAp a ?_;refine rL a ?_ ?_
   .trivial
   repeat'(first|exact a6|apply eS rfl|apply AB|refine rX a ?_ ?_|refine rC ?_ ?_<;>intro c<;>try(cases c;done))
   .have d:k<List.length l:=by exact eV
    rw[g d,At c]at b;exact fI a [.tmp 6,.tmp 7] (by rw[b];exact eR)
   .omega
   have d:k<List.length l:=by exact eV
   rw[g d,An c]at b;exact⟨⟨k+1,d,b⟩,a2,eW []⟩
  have m:List.drop k (l:List (Int×Int))=[]:=Is eV;rw[m]at b;have b:D6 f l=(0,false):=b;exact fI a [.tmp 6,.tmp 7] (by rw[b];exact eR)
 .exact eN
 exact eN
abbrev EF:=List Int×List Int
def DE (h:AG) (s:EF) (n t:Int):Option EF :=
 if (Cy h (s.1.getD n.toNat 0) t).2=true then some (if (Cy h (s.1.getD n.toNat 0) t).1=s.1.getD n.toNat 0 then s else (s.1.set n.toNat (Cy h (s.1.getD n.toNat 0) t).1,s.2++[n])) else none
def Dw (h:AG) (s:EF):List (Nat×Obj):=[(1,.box 163 true [.p FL h,.sr 2 T3 0 s.1.length,.p Bx s.2]),(2,.arr 3 T3 s.1)]
theorem fT (h:AG) (hk:FC h) (s:EF) {t:Int} (n0:0<=n) (n1:n<(s.1.length:Int)) (f:0<=s.1.getD n.toNat 0) (ty1:s.1.getD n.toNat 0<(h.1.length:Int)) (k:0<=t) (l:t<(h.1.length:Int)) (i:s.2.length<=1000000000) :
  BE Tryz.prog 141 [.bp 1 [] 0,.p T3 n,.p T3 t] (Dw h s) [1]
  (λres d=>(DE h s n t=none/\res=.p .bool false/\d=Dw h s)\/∃e,DE h s n t=some e/\res=.p .bool true/\d=Dw h e):=by
 obtain⟨ty,w⟩:=s;simp only at n1 f ty1 i;have hh:h.1.length<=100000:=gO hk.2 O1;have g:∀x∈h.1,x.2.1.length<=100000:=λx j=>gO (hk.1.wid x.2.1 (GO.2 ⟨x,j,rfl⟩)) O1;refine Jx [0,1,2,6,7,8,26,35] [] [] Tryz.func141 Tryz.ntmps141 (AE A4f AH) ?_;intro w0 K O0 ρ0 c o q;simp only[Dw,Ap];repeat'(first|exact a6|apply eS rfl|refine rX c ?_ ?_|refine rC ?_ ?_<;>intro b<;>try(cases b;done))
 .exact⟨⟨n0,n1⟩,⟨f,ty1⟩,⟨k,l⟩,hh,g⟩
 .have a:DE h (ty,w) n t=none:=by unfold DE;rw[An (by simp only;rw[b];simp)]
  refine Ev.ent (σ':=⟨[(6,.p .bool false)],Dw h (ty,w)⟩) ?_ (AC [(1,.nm 1),(2,.nm 2)] rfl rfl ?_ ?_)
  .exact fM c [.tmp 6] (.p .bool false) eT (.inl ⟨a,rfl,rfl⟩)
  .unfold Dw;exact eN
  exact eN
 .exact⟨n0,n1⟩
 .exact⟨n0,n1⟩
 .simp only[AP];omega
 .have a:DE h (ty,w) n t=some (ty.set n.toNat (Cy h (ty.getD n.toNat 0) t).1,w++[n]):=by unfold DE;rw[At a4,An b]
  generalize (Cy h (ty.getD n.toNat 0) t).1=m at *;have r:(w++[n]).take (w.length+1)=w++[n]:=BY sc;refine Cj [61] ?_;refine Ev.ent (σ':=⟨[(6,.p .bool true)],Dw h (ty.set n.toNat m,w++[n])⟩) ?_ (AC [(1,.nm 1),(2,.nm 2)] rfl rfl ?_ ?_)
  .exact fM c [.tmp 6] (.p .bool true) eT (.inr ⟨_,a,rfl,rfl⟩)
  .unfold Dw;simp only[AAt];exact eN
  exact eN
 have a:DE h (ty,w) n t=some (ty,w):=by unfold DE;rw[At a4,At (by simpa using b)]
 refine Ev.ent (σ':=⟨[(6,.p .bool true)],Dw h (ty,w)⟩) ?_ (AC [(1,.nm 1),(2,.nm 2)] rfl rfl ?_ ?_)
 .exact fM c [.tmp 6] (.p .bool true) eT (.inr ⟨_,a,rfl,rfl⟩)
 .unfold Dw;exact eN
 exact eN
end
section
variable {α:Type}
structure SO (o:α->α->Int):Prop where
 anti:∀a b,o b a=- o a b
 trans:∀ {a b c},o a b<0->o b c<0->o a c<0
variable {o:α->α->Int} {d:α}
def fU (d:α) (l:List α) (i j:Nat):List α:=(l.set i (l.getD j d)).set j (l.getD i d)
theorem fV {l:List α} {i j:Nat} (hi:i<l.length) (c:j<l.length) (k:Nat):(fU d l i j).getD k d=if k=j then l.getD i d else if k=i then l.getD j d else l.getD k d:=by
 unfold fU;simp only[AS,AB4,AAt];by_cases a:j=k
 .rw[At a,At O1,At a.symm];rfl
 rw[An a,An (show ¬k=j by omega)];by_cases b:i=k
 .rw[At b,At O1,At b.symm];rfl
 rw[An b,An (show ¬k=i by omega)]
theorem uV {l:List α} {i j:Nat} (hi:i<l.length) (a:j<l.length):(fU d l i j).Perm l:=by
 have b:l.getD i d=l[i]:=by rw[AS,As hi];rfl
 have c:l.getD j d=l[j]:=by rw[AS,As a];rfl
 unfold fU;rw[b,c];exact List.set_set_perm hi a
structure YQ (d:α) (a b:Nat) (l r:List α):Prop where
 perm:r.Perm l
 out:∀k,k<a\/b<=k->r.getD k d=l.getD k d
 inn:∀i,a<=i->i<b->∃j,a<=j/\j<b/\r.getD i d=l.getD j d
theorem YQ.len {a b:Nat} {l r:List α} (h:YQ d a b l r):r.length=l.length:=h.perm.length_eq
theorem YQ.refl (a b:Nat) (l:List α):YQ d a b l l:=⟨List.Perm.refl _,λ_ _=>rfl,λi h1 c=>⟨i,h1,c,rfl⟩⟩
theorem YQ.trans {a b:Nat} {l r s:List α} (h:YQ d a b l r) (c:YQ d a b r s):YQ d a b l s:=⟨c.perm.trans h.perm,λk hk=>(c.out k hk).trans (h.out k hk),λi h1 g=>by
 obtain⟨j,m,n,e⟩:=c.inn i h1 g;obtain⟨k,o,p,f⟩:=h.inn j m n;exact⟨k,o,p,e.trans f⟩⟩
theorem YQ.mono {a b:Nat} {l r:List α} (h:YQ d a b l r) (ha:c<=a) (m:b<=f):YQ d c f l r:=⟨h.perm,λk hk=>h.out k O1,λi h1 g=>by
 by_cases hi:a<=i/\i<b
 .obtain⟨j,n,o,e⟩:=h.inn i hi.1 hi.2;exact⟨j,O1,O1,e⟩
 exact⟨i,h1,g,h.out i O1⟩⟩
theorem YQ.swap {a b:Nat} (l:List α) {i j:Nat} (g:a<=i) (h:i<b) (m:a<=j) (n:j<b) (q:b<=l.length):YQ d a b l (fU d l i j):=by
 have f:=fV (d:=d) (l:=l) (i:=i) (j:=j) O1 O1;refine⟨uV O1 O1,λk hk=>?_,λk o p=>?_⟩
 .rw[f k,An O1,An O1]
 rw[f k];by_cases c:k=j
 .rw[At c];exact⟨i,g,h,rfl⟩
 rw[An c];by_cases e:k=i
 .rw[At e];exact⟨j,m,n,rfl⟩
 rw[An e];exact⟨k,o,p,rfl⟩
def Dst (o:α->α->Int) (d:α) (l:List α):Prop:=∀i j,i<l.length->j<l.length->i≠j->o (l.getD i d) (l.getD j d)≠0
theorem qB (so:SO o) (l:List α):Dst o d l↔l.Pairwise λa b=>o a b≠0:=by
 have e:∀i (h:i<l.length),l.getD i d=l[i]:=λi h=>by rw[AS,As h];rfl
 rw[iN];constructor
 .intro h i j hi c f;have:=h i j hi c O1
  rwa [e i hi,e j c]at this
 intro h i j hi c f;rw[e i hi,e j c];rcases Nat.lt_or_gt_of_ne f with h1|h1
 .exact h i j hi c h1
 have g:=h j i c hi h1;rw[so.anti];omega
theorem Dst.perm (so:SO o) {l r:List α} (h:Dst o d l) (c:r.Perm l):Dst o d r:=by
 rw[qB so]at h ⊢;refine(c.symm.pairwise_iff ?_).1 h;intro a b e;rw[so.anti];omega
theorem Dst.lt (so:SO o) {l:List α} (h:Dst o d l) {i j:Nat} (hi:i<l.length) (b:j<l.length) (a:i≠j) (hn:¬o (l.getD i d) (l.getD j d)<0):o (l.getD j d) (l.getD i d)<0:=by
 have h1:=h i j hi b a;rw[so.anti];omega
def qC (o:α->α->Int) (d:α) (a b:Nat) (l:List α):Prop:=∀i j,a<=i->i<j->j<b->o (l.getD i d) (l.getD j d)<0
theorem A4n (a:Nat) (l:List α):qC o d a (a+1) l:=λi j h1 b c=>by omega
theorem YR {a b:Nat} {l r:List α} (h:qC o d a b l) (e:∀k,a<=k->k<b->r.getD k d=l.getD k d):qC o d a b r:=λi j h1 f c=>by
 rw[e i h1 O1,e j O1 c];exact h i j h1 f c
def A0X (o:α->α->Int) (d:α) (a i j:Nat) (m:List α):Prop:=(∀x y,a<=x->x<y->y<=i->x≠j->y≠j->o (m.getD x d) (m.getD y d)<0)/\∀y,j<y->y<=i->o (m.getD j d) (m.getD y d)<0
theorem mD {a:Nat} {m:List α} (h:qC o d a i m):A0X o d a i i m:=⟨λx y h0 h1 b c e=>h x y h0 h1 O1,λy h1 b=>by omega⟩
theorem A0Y (so:SO o) {a j:Nat} {m:List α} (h:A0X o d a i j m) (k:a<=j) (l:j<=i) (b:j=a\/o (m.getD (j-1) d) (m.getD j d)<0):qC o d a (i+1) m:=by
 intro x y h0 h1 g;by_cases c:x=j
 .subst c;exact h.2 y h1 O1
 by_cases e:y=j
 .subst e;rcases b with b|b
  .omega
  by_cases f:x=y-1
  .subst f;exact b
  exact so.trans (h.1 x (y-1) h0 O1 O1 c O1) b
 exact h.1 x y h0 h1 O1 c e
theorem uW {a j:Nat} {m:List α} (h:A0X o d a i j m) (h0:a<j) (q:j<=i) (hi:i<m.length) (p:o (m.getD j d) (m.getD (j-1) d)<0):A0X o d a i (j-1) (fU d m j (j-1)):=by
 have f:=fV (d:=d) (l:=m) (i:=j) (j:=j-1) O1 O1;refine⟨λx y g h1 e k n=>?_,λy h1 e=>?_⟩
 .rw[f x,f y,An k,An n];by_cases c:x=j
  .subst c;rw[At rfl,An O1];exact h.1 (x-1) y O1 O1 e O1 O1
  rw[An c];by_cases b:y=j
  .rw[At b];exact h.1 x (j-1) g O1 O1 c O1
  rw[An b];exact h.1 x y g h1 e c b
 rw[f (j-1),f y,At rfl,An O1];by_cases b:y=j
 .rw[At b];exact p
 rw[An b];exact h.2 y O1 e
structure PtE (o:α->α->Int) (d:α) (a b p:Nat) (m:List α):Prop where
 l:a<=p
 r:p<b
 lo:∀x,a<=x->x<p->o (m.getD x d) (m.getD p d)<0
 hi:∀x,p<x->x<b->o (m.getD p d) (m.getD x d)<0
structure Cut (o:α->α->Int) (d:α) (a0 b0 a b:Nat) (m:List α):Prop where
 s1:qC o d a0 a m
 s2:qC o d b b0 m
 c1:∀x y,a0<=x->x<a->a<=y->y<b0->o (m.getD x d) (m.getD y d)<0
 c2:∀x y,a0<=x->x<b->b<=y->y<b0->o (m.getD x d) (m.getD y d)<0
 ab:a0<=a/\a<=b/\b<=b0
theorem Cut.pin {n p a b:Nat} {m r:List α} (h:Cut o d n p a b m) (g:YQ d a b m r):Cut o d n p a b r:=by
 obtain⟨A,C,B⟩:=h.ab;have key:∀(P:α->Prop) (lo hi:Nat),lo<=a->b<=hi->(∀y,lo<=y->y<hi->P (m.getD y d))->∀y,lo<=y->y<hi->P (r.getD y d):=λP lo hi h1 q s y c f=>by
  obtain⟨j,t,u,e⟩:=(g.mono h1 q).inn y c f;rw[e];exact s j t u
 refine⟨YR h.s1 λk v w=>g.out k O1,YR h.s2 λk v w=>g.out k O1,λx y i l c f=>?_,λx y i l c f=>?_,h.ab⟩
 .rw[g.out x O1];exact key (λz=>o (m.getD x d) z<0) a p (On _) B (λy c f=>h.c1 x y i l c f) y c f
 rw[g.out y O1];exact key (λz=>o z (m.getD y d)<0) n b A (On _) (λx i l=>h.c2 x y i l c f) x i l
theorem Cut.done {g k a b:Nat} {m:List α} (h:Cut o d g k a b m) (hs:qC o d a b m):qC o d g k m:=by
 obtain⟨n,p,q⟩:=h.ab;intro i j h1 c e;by_cases hi:i<a
 .by_cases f:j<a
  .exact h.s1 i j h1 c f
  exact h.c1 i j h1 hi O1 e
 by_cases f:j<b
 .exact hs i j O1 c f
 by_cases l:i<b
 .exact h.c2 i j h1 l O1 e
 exact h.s2 i j O1 c e
theorem Cut.left (so:SO o) {f g a b p:Nat} {m:List α} (h:Cut o d f g a b m) (c:PtE o d a b p m) (hs:qC o d a p m):Cut o d f g (p+1) b m:=by
 obtain⟨A,B,C⟩:=h.ab;have w:=c.l;have z:=c.r;refine⟨λi j h1 k v=>?_,h.s2,λx y q D E s=>?_,h.c2,O1⟩
 .by_cases hi:i<a
  .by_cases e:j<a
   .exact h.s1 i j h1 k e
   exact h.c1 i j h1 hi O1 O1
  by_cases e:j=p
  .rw[e];exact c.lo i O1 O1
  exact hs i j O1 k O1
 by_cases t:x<a
 .exact h.c1 x y q t O1 s
 by_cases n:y<b
 .by_cases u:x=p
  .rw[u];exact c.hi y O1 n
  exact so.trans (c.lo x O1 O1) (c.hi y O1 n)
 exact h.c2 x y q O1 O1 s
theorem Cut.right (so:SO o) {n a b p:Nat} {m:List α} (h:Cut o d k n a b m) (c:PtE o d a b p m) (hs:qC o d (p+1) b m):Cut o d k n a p m:=by
 obtain⟨C,D,E⟩:=h.ab;have A:=c.l;have B:=c.r;refine⟨h.s1,λi j h1 q s=>?_,λx y e f u g=>h.c1 x y e f u g,λx y e f u g=>?_,O1⟩
 .by_cases t:j<b
  .by_cases hi:i=p
   .rw[hi];exact c.hi j O1 t
   exact hs i j O1 q t
  by_cases v:i<b
  .exact h.c2 i j O1 v O1 s
  exact h.s2 i j O1 q s
 by_cases z:y<b
 .by_cases w:x<a
  .exact h.c1 x y e w O1 g
  by_cases hyp:y=p
  .rw[hyp];exact c.lo x O1 f
  exact so.trans (c.lo x O1 f) (c.hi y O1 z)
 exact h.c2 x y e O1 O1 g
def Bf (o:α->α->Int) (d:α) (a b:Nat) (m:List α):Prop:=a=0\/∀y,a<=y->y<b->o (m.getD (a-1) d) (m.getD y d)<0
theorem Bf.pin {a b:Nat} {m r:List α} (h:Bf o d a b m) (c:YQ d a b m r):Bf o d a b r:=by
 rcases h with h|h
 .exact .inl h
 by_cases h0:a=0
 .exact .inl h0
 right;intro y i k;rw[c.out (a-1) O1];obtain⟨j,f,g,e⟩:=c.inn y i k;rw[e];exact h j f g
theorem Bf.sub {a b:Nat} {m:List α} (h:Bf o d a b m) (f:c<=b):Bf o d a c m:=h.imp id λh y e g=>h y e O1
end
section
def mE:AZ:={ ins:=[T3],pre:=λ_=>True,out:=λ_=>[.p .bool false] }
attribute [local go_sem] mE
def QF (a b:Int):Int:=if a<b then -1 else if b<a then 1 else 0
def Gq:AZ:={ ins:=[T3,T3],pre:=λ_=>True,out:=λ(a,b,_)=>[.p T3 (QF a b)] }
attribute [local go_sem] Gq
def IA:AZ:={ ins:=[DH,DH],pre:=λ_=>True,out:=λ(a,b,_)=>[.p T3 (QF (Prod.fst a) (Prod.fst b))] }
attribute [local go_sem] IA
theorem A10:Ac Tryz.prog 192 mE:=by
 refine fK [0,2] Tryz.func192 Tryz.ntmps192 AH ?_;rintro w0 O0 ⟨x,u⟩ a - -;simp only[mE,AL];repeat'(first|exact a6|apply eS rfl|refine rX a ?_ ?_)
 exact fI a [.tmp 2]
theorem XL:Ac Tryz.prog 178 Gq:=by
 refine fK [0,1,4,5,6,11,12,13,16,19] Tryz.func178 Tryz.ntmps178 (AE A10 AH) ?_;rintro w0 O0 ⟨a,b,u⟩ c - -;simp only[Gq,AL];repeat'(first|exact a6|apply eS rfl|refine rX c ?_ ?_|refine rC ?_ ?_<;>intro d<;>try(cases d;done))
 .have e:QF a b=-1:=At d;exact fI c [.tmp 4] (by rw[e];exact eR)
 .have e:QF a b=1:=by unfold QF;rw[An O1,At d]
  exact fI c [.tmp 4] (by rw[e];exact eR)
 have e:QF a b=0:=by unfold QF;rw[An O1,An O1]
 exact fI c [.tmp 4] (by rw[e];exact eR)
theorem Ke:Ac Tryz.prog 140 IA:=by
 refine fK [0,1,2,3,4] Tryz.func140 Tryz.ntmps140 (AE XL AH) ?_;rintro w0 O0 ⟨a,b,u⟩ c - -;simp only[IA,AL];repeat'(first|exact a6|apply eS rfl|refine rX c ?_ ?_)
 exact fI c [.tmp 4]
def MO (l:List (Int×Int)):Prop:=∀i,i+1<l.length->(l.getD i (0,0)).1<(l.getD (i+1) (0,0)).1
end
section
attribute [local go_sem] IA
def Rf (a b:Int×Int):Int:=QF a.1 b.1
theorem qD:SO Rf:=⟨λa b=>by unfold Rf QF;(repeat' split)<;>omega,λ{a b c} h1 d=>by
 unfold Rf QF at *
 (repeat' split at h1)<;>(repeat' split at d)<;>(repeat' split)<;>omega⟩
theorem A4o (l:List (Int×Int)) (N:l.length<=100000) (z:Dst Rf (0,0) l) (a b:Nat) (I:a<=100000) (J:b<=l.length):BE Tryz.prog 200 [.sr 1000000 DH 0 l.length,.p T3 (a:Int),.p T3 (b:Int),.fn 140] [(1000000,.arr 59 DH l)] [1000000] (λres G=>res=.raw (.tuple #[])/\∃r,G=[(1000000,.arr 59 DH r)]/\YQ (0,0) a b l r/\qC Rf (0,0) a b r):=by
 refine Jx [0,1,2,3,8,9,14,34] [] [] Tryz.func200 Tryz.ntmps200 (AE Ke AH) ?_;intro w0 K O0 ρ0 d P Q;simp only[Ap];repeat'(first|exact a6|apply eS rfl|apply AB|refine rX d ?_ ?_|refine rC ?_ ?_<;>intro e<;>try(cases e;done))
 .omega
 refine AI (ι:={s:Nat×List (Int×Int)//a+1<=s.1/\(s.1=a+1\/s.1<=b)/\YQ (0,0) a b l s.2/\qC Rf (0,0) a s.1 s.2}) (λs=>⟨[(0,.sr 1000000 DH 0 l.length),(1,.p T3 (a:Int)),(2,.p T3 (b:Int)),(3,.fn 140),(8,.p (.int .i64) (s.1.1:Int))],[(1000000,.arr 59 DH s.1.2)]⟩) (λs=>b-s.1.1) ⟨(a+1,l),On _,.inl rfl,YQ.refl a b l,A4n a l⟩ (AC [(1000000,.nm 1000000)] rfl rfl ?_ ?_) (λs=>?_)
 .first|exact eN|refine eM ?_
 .first|exact eN|refine eM ?_
 obtain⟨⟨i,m⟩,C,D,n,hs⟩:=s;simp only at C D n hs ⊢;have O:=n.len;repeat'(first|exact a6|apply eS rfl|apply AB|refine rX d ?_ ?_|refine rC ?_ ?_<;>intro e<;>try(cases e;done))
 .have E:i<b:=by exact eV
  refine AI (ι:={t:Nat×List (Int×Int)//a<=t.1/\t.1<=i/\YQ (0,0) a b l t.2/\A0X Rf (0,0) a i t.1 t.2}) (λt=>⟨[(0,.sr 1000000 DH 0 l.length),(1,.p T3 (a:Int)),(2,.p T3 (b:Int)),(3,.fn 140),(8,.p (.int .i64) (i:Int)),(9,.p (.int .i64) (t.1.1:Int))],[(1000000,.arr 59 DH t.1.2)]⟩) (λt=>t.1.1) ⟨(i,m),O1,On i,n,mD hs⟩ (AC [(1000000,.nm 1000000)] rfl rfl ?_ ?_) (λt=>?_)
  .first|exact eN|refine eM ?_
  .first|exact eN|refine eM ?_
  obtain⟨⟨j,c⟩,ha,u,g,q⟩:=t;simp only at ha u g q ⊢;have L:=g.len;have A:=z.perm qD g.perm;repeat'(first|exact a6|apply eS rfl|apply AB|refine rX d ?_ ?_)
  .dsimp only[Ty.den]at *;exact⟨λ_=>by omega,λ_=>⟨O1,O1⟩,λ_=>⟨O1,O1⟩⟩
  have o:a<j->((j:Int)-1).toNat=j-1:=λ_=>by omega
  refine Ui a1 ?_ ?_
  .intro f;simp only[AT,IN]at f;have k:a<j:=by omega
   have v:Rf (c.getD j (0,0)) (c.getD ((j:Int)-1).toNat (0,0))<0:=f.2;rw[o k]at v;have F:fU (0,0) c j (j-1)=(c.set j (c.getD (j-1) (0,0))).set (j-1) (c.getD j (0,0)):=rfl;repeat'(first|exact a6|apply eS rfl|apply AB|refine rP d ?_ ?_|fail)
   (refine L2 drawsAny d 16 [([0,1,5,6,7,8,9,10,11,12,13,14],15)] [2,3,4] a5 (mxA ?_ ?_);(next=>exact kO);refine mxL d [] ?_ ?_;(next=>exact kO);refine mxE d ?_ ?_ ?_;(next=>exact kO);(next=>exact kO))
   rw[o k];repeat'(first|exact a6|apply eS rfl|apply AB|refine rX d ?_ ?_|refine rC ?_ ?_<;>intro e<;>try(cases e;done))
   .dsimp only[Ty.den]at *;omega
   refine⟨⟨(j-1,fU (0,0) c j (j-1)),a2,a2,g.trans (YQ.swap c O1 O1 O1 O1 O1),uW q k u O1 v⟩,a2,AC [(1000000,.nm 1000000)] rfl rfl ?_ ?_⟩
   .simp only;rw[F];first|exact eN|refine eM ?_
   simp only;rw[show ((j-1:Nat):Int)=(j:Int)-1 by omega];first|exact eN|refine eM ?_
  intro f;have B:j=a\/Rf (c.getD (j-1) (0,0)) (c.getD j (0,0))<0:=by
   by_cases k:j=a
   .exact .inl k
   right;simp only[AB0,aS]at f;rw[o O1]at f;rcases f with h|h
   .omega
   exact A.lt qD O1 O1 O1 h
  repeat'(first|exact a6|apply eS rfl|apply AB|refine rX d ?_ ?_|refine rC ?_ ?_<;>intro e<;>try(cases e;done))
  .exact eV
  refine⟨⟨(i+1,c),a2,.inr E,g,A0Y qD q ha u B⟩,a2,AC [(1000000,.nm 1000000)] rfl rfl ?_ ?_⟩
  .first|exact eN|refine eM ?_
  first|exact eN|refine eM ?_
 have M:b<=i:=by exact eV
 exact fM d [] (.raw (.tuple #[])) rfl ⟨rfl,m,rfl,n,λx y h1 w H=>hs x y h1 w O1⟩
end
def MP (x:Int×Int) (s:List (Int×Int)):Nat->Nat
 | 0=>0
 | n+1=>if x.1<(s.getD n (0,0)).1 then MP x s n else n+1
def Rg (s:List (Int×Int)) (x:Int×Int):List (Int×Int):=s.take (MP x s s.length)++[x]++s.drop (MP x s s.length)
def Ae (l:List (Int×Int)):List (Int×Int):=l.foldl Rg []
theorem aA (x:Int×Int) (s:List (Int×Int)):∀n,MP x s n<=n
 | 0=>On _
 | n+1=>by
  unfold MP;have:=aA x s n;split<;>omega
theorem A11 (s:List (Int×Int)) (x:Int×Int):(Rg s x).length=s.length+1:=by
 have:=aA x s s.length;simp[Rg];omega
theorem Kg (l:List (Int×Int)) (x:Int×Int):Ae (l++[x])=Rg (Ae l) x:=by simp[Ae]
theorem MQ:∀(l s:List (Int×Int)),(l.foldl Rg s).length=s.length+l.length
 | [],s=>by simp
 | x :: l,s=>by simp[MQ l,A11];omega
theorem Cb (l:List (Int×Int)):(Ae l).length=l.length:=by simp[Ae,MQ]
theorem A7G {P:Program} {f:FuncId} {sp:AZ} {p:IT sp.ins->Prop} (h:Ac P f sp) (e:∀d,p d->sp.pre d):Ac P f { sp with pre:=p }:=⟨h.1,λw O g ds a b c d=>h.2 w O g ds a b c (e ds d)⟩
def QG:AZ:={ ins:=[NQ],pre:=λ(l,_)=>l.length<=8796093022207,out:=λ(l,_)=>[.own 59 DH (Ae l)] }
theorem YS:Ac Tryz.prog 101 QG:=by
 refine fK [0,2,3,4,5,6,10,30] Tryz.func101 Tryz.ntmps101 AH ?_;rintro w0 O0 ⟨l,u⟩ c t m;simp only[QG]at m;simp only[QG,AL];repeat'(first|exact a6|apply eS rfl|refine rX c ?_ ?_)
 refine AI (ι:={p:Nat//p<=l.length}) (λk=>⟨[(0,.p NQ l),(3,.sr 10 DH 0 (Ae (l.take k.1)).length),(4,.p (.int .i64) (k.1:Int))],[(10,.arr 59 DH (Ae (l.take k.1)))]⟩) (λk=>l.length-k.1) ⟨0,O1⟩ (AC [(10,.nil)] rfl rfl ?_ ?_) (λk=>?_)
 .refine eM ?_;rfl
 .refine eM ?_;rfl
 obtain⟨k,h⟩:=k;have s:(Ae (l.take k)).length=k:=by rw[Cb,ON];exact ABE h
 repeat'(first|exact a6|apply eS rfl|refine rX c ?_ ?_|refine rC ?_ ?_<;>intro b<;>try(cases b;done))
 .refine AI (ι:={q:Nat//q<=(Ae (l.take k)).length/\MP (l.getD k (0,0)) (Ae (l.take k)) q=MP (l.getD k (0,0)) (Ae (l.take k)) (Ae (l.take k)).length}) (λq=>⟨[(0,.p NQ l),(3,.sr 10 DH 0 (Ae (l.take k)).length),(4,.p (.int .i64) (k:Int)),(5,.p (.int .i64) (q.1:Int))],[(10,.arr 59 DH (Ae (l.take k)))]⟩) (λq=>q.1) ⟨(Ae (l.take k)).length,sc⟩ (eW [(10,.nm 10)]) (λq=>?_)
  obtain⟨q,n,g⟩:=q;have i:k<l.length:=by omega
  have o:=l.length_take_le k;have d:(List.take q (Ae (List.take k l))).length=q:=by rw[ON];exact ABE n
  repeat'(first|exact a6|apply eS rfl|apply AB|refine rX c ?_ ?_|refine rC ?_ ?_<;>intro b<;>try(cases b;done))
  .exact eV
  .exact eV
  .obtain⟨h1,a⟩:=b;obtain⟨q,rfl⟩:∃r,q=r+1:=⟨q-1,O1⟩;have e:((q+1:Nat):Int)-1=(q:Int):=by omega
   refine⟨⟨q,O1,?_⟩,ABf q,AC [(10,.nm 10)] rfl rfl ?_ ?_⟩
   .rw[<-g];simp only[MP];rw[e,jC]at a;rw[At a]
   .exact eN
   refine eM ?_;show (q:Int)+1-1=q;omega
  .refine⟨eV,?_⟩;rw[d];unfold AP;omega
  .refine⟨eV,?_⟩;rw[d];simp only[AP];omega
  .refine⟨eV,?_⟩;rw[d];simp only[AP,ABn];omega
  .exact eV
  have j:MP (l.getD k (0,0)) (Ae (l.take k)) q=q:=by
   cases q with
   | zero=>rfl
   | succ q =>
    have e:((q+1:Nat):Int)-1=(q:Int):=by omega
    have:=b O1;rw[e,jC]at this;simp only[MP];rw[An O1]
  have h1:=Ay l (0,0) i;have a:Ae (l.take (k+1))=_:=(ABj Ae h1).trans (Kg _ _);unfold Rg at a;rw[<-g,j]at a;refine⟨⟨k+1,eV⟩,by simp only;exact eV,AC [(10,.nm 37)] rfl rfl ?_ ?_⟩
  .refine eM ?_;exact a.symm
  refine eM ?_;have f:=ABj List.length a;rw[IS,IS]at f;exact f.symm
 have hk:l.take k=l:=BY eV;refine OD c (.inl rfl) (rv:=.tmp 2) rfl ?_;simp only[Kz,I5,G9,go_sem,Nat.reduceEqDiff,reduceCtorEq,Nat.reduceAdd,Nat.reduceSub,Nat.reduceMul,Nat.reduceLeDiff,Nat.reduceLT,Int.reduceLE,Int.reduceToNat,Int.reduceNeg,↓reduceIte];rw[hk];first|rfl|exact⟨rfl,rfl⟩|exact⟨rfl,rfl,rfl⟩
section
attribute [local go_sem] QG
abbrev AD:=Int×List (Int×Int)
def Dx (f:List AD):Nat->List Int×List Int->Int->List Int×List Int
 | 0,s,_=>s
 | k+1,s,n=>(Ae (f.getD n.toNat (0,[])).2).foldl (λs a=>if s.1.getD a.2.toNat 0<0 then Dx f k s a.2 else s) (s.1.set n.toNat (s.2.length:Int),s.2++[n])
def LM (l:List Int):Nat:=l.countP (λx=>decide (x<0))
def AX (f:List AD):Prop:=f.length<=100000/\∀x∈f,x.2.length<=100000/\∀a∈x.2,0<=a.2/\a.2<(f.length:Int)
def QH (f:List AD):Prop:=f.length<=100000/\∀x∈f,x.2.length<=8796093022207/\∀a∈x.2,0<=a.2/\a.2<(f.length:Int)
theorem AX.big {f:List AD} (h:AX f):QH f:=⟨h.1,λx a=>⟨gO (h.2 x a).1 df,(h.2 x a).2⟩⟩
def Rh (f:List AD) (s:List Int×List Int):Prop:=s.1.length=f.length/\s.2.length+LM s.1<=f.length
theorem A12 {l:List Int} {n:Nat} {v:Int} (hn:n<l.length) (a:l.getD n 0<0) (d:0<=v):LM (l.set n v)+1=LM l:=by
 induction l generalizing n with
 | nil=>simp at hn
 | cons x r c =>
  cases n with
  | zero =>
   have b:x<0:=by simpa using a
   have:¬v<0:=by omega
   simp[LM,ABI,b,this]
  | succ n =>
   have h1:=c (n:=n) (by simpa using hn) (by simpa using a);simp only[LM,ACL,ABI]at h1 ⊢;omega
theorem mF {f:List AD} {s:List Int×List Int} (h:Rh f s) (d:0<=n) (hn:n<f.length) (b:s.1.getD n.toNat 0<0) :
  Rh f (s.1.set n.toNat (s.2.length:Int),s.2++[n])/\LM (s.1.set n.toNat (s.2.length:Int))+1=LM s.1:=by
 obtain⟨h1,c⟩:=h;have a:=A12 (l:=s.1) (n:=n.toNat) (v:=(s.2.length:Int)) O1 b O1;refine⟨⟨by simpa using h1,?_⟩,a⟩;simp only[IS,nO];omega
theorem uX (s:List (Int×Int)) (x:Int×Int):(Rg s x).Perm (x :: s):=by
 unfold Rg;refine(List.perm_append_comm.append_right _).trans ?_;simp
theorem K9:∀(l s:List (Int×Int)),(l.foldl Rg s).Perm (l++s)
 | [],s=>List.Perm.refl _
 | x :: l,s=>by
  refine(K9 l (Rg s x)).trans ?_;refine(List.Perm.append_left l (uX s x)).trans ?_;exact AD4
theorem Eq (l:List (Int×Int)):(Ae l).Perm l:=by
 have:=K9 l [];simpa[Ae] using this
theorem A13 {f:List AD} (hf:AX f) (n:Int):List.length (f.getD n.toNat (0,[])).2<=100000:=by
 by_cases h:n.toNat<f.length
 .have a:f.getD n.toNat (0,[])∈f:=by
   rw[AS,As h];exact AA5 h
  exact(hf.2 _ a).1
 rw[AS,oF O1];simp
theorem M8 {f:List AD} (hf:QH f) (n:Int):List.length (f.getD n.toNat (0,[])).2<=8796093022207:=by
 by_cases h:n.toNat<f.length
 .have a:f.getD n.toNat (0,[])∈f:=by
   rw[AS,As h];exact AA5 h
  exact(hf.2 _ a).1
 rw[AS,oF O1];simp
theorem QI {f:List AD} (hf:QH f) {a:Int×Int} (ha:a∈Ae (f.getD n.toNat (0,[])).2):0<=a.2/\a.2<f.length:=by
 have ha:=(Eq _).mem_iff.1 ha;by_cases h:n.toNat<f.length
 .have b:f.getD n.toNat (0,[])∈f:=by
   rw[AS,As h];exact AA5 h
  exact(hf.2 _ b).2 a ha
 rw[AS,oF O1]at ha;simp at ha
def EO (f:List AD) (k:Nat) (s:List Int×List Int) (a:Int×Int):List Int×List Int:=if s.1.getD a.2.toNat 0<0 then Dx f k s a.2 else s
theorem Fe (f:List AD) (k:Nat) (s:List Int×List Int) (n:Int):Dx f (k+1) s n=(Ae (f.getD n.toNat (0,[])).2).foldl (EO f k) (s.1.set n.toNat (s.2.length:Int),s.2++[n]):=rfl
theorem Tq {f:List AD} {k:Nat} (h:∀(s:List Int×List Int) (n:Int),Rh f s->0<=n->n<f.length->s.1.getD n.toNat 0<0->Rh f (Dx f k s n)/\LM (Dx f k s n).1<=LM s.1) :
  ∀(l:List (Int×Int)) (t:List Int×List Int),(∀a∈l,0<=a.2/\a.2<(f.length:Int))->Rh f t->Rh f (l.foldl (EO f k) t)/\LM (l.foldl (EO f k) t).1<=LM t.1
 | [],t,_,ht=>⟨ht,On _⟩
 | a :: l,t,c,ht=>by
  simp only[OS];by_cases g:t.1.getD a.2.toNat 0<0
  .obtain⟨i,j⟩:=h t a.2 ht (c a sc).1 (c a sc).2 g;have e:EO f k t a=Dx f k t a.2:=At g;rw[e];obtain⟨m,o⟩:=Tq h l _ (λb d=>c b (by simp[d])) i;exact⟨m,gO o j⟩
  have e:EO f k t a=t:=An g;rw[e];exact Tq h l t (λb d=>c b (by simp[d])) ht
theorem Ri {f:List AD} (hf:QH f):∀(k:Nat) (s:List Int×List Int) (n:Int),Rh f s->0<=n->n<f.length->s.1.getD n.toNat 0<0->Rh f (Dx f k s n)/\LM (Dx f k s n).1<=LM s.1
 | 0,s,n,h,_,_,_=>⟨h,On _⟩
 | k+1,s,n,h,h0,h1,d=>by
  obtain⟨e,g⟩:=mF h h0 h1 d;obtain⟨b,c⟩:=Tq (Ri hf k) _ _ (λa ha=>QI hf ha) e;rw[Fe];exact⟨b,by simp only at c g;omega⟩
theorem Rj {α:Type} (g:X->α->X) (l:List α) (d:α) (t:X) {i:Nat} (hi:i<l.length):(l.take (i+1)).foldl g t=g ((l.take i).foldl g t) (l.getD i d):=by
 rw[Ay l d hi,ABq];rfl
def LA (f:List AD) (s:List Int×List Int):List (Nat×Obj):=[(1,.box 175 true [.p E7 f,.sr 2 T3 0 s.1.length,.sr 3 T3 0 s.2.length]),(2,.arr 3 T3 s.1),(3,.arr 3 T3 s.2)]
theorem uY (f:List AD) (hf:QH f):∀(k:Nat) (s:List Int×List Int) (n:Int),Rh f s->0<=n->n<f.length->s.1.getD n.toNat 0<0->LM s.1<=k ->
  BE Tryz.prog 100 [.bp 1 [] 0,.p T3 n] (LA f s) [1] (λres M=>res=.raw (.tuple #[])/\M=LA f (Dx f k s n)):=by
 intro k;induction k with
 | zero =>
  intro s n h0 h1 u B N;obtain⟨_,O⟩:=mF h0 h1 u B;omega
 | succ k J =>
  intro s n A w m x hk;obtain⟨num,g⟩:=s;obtain⟨t,v⟩:=mF A w m x;obtain⟨G,H⟩:=A;simp only at G H x t v hk;refine Jx [0,1,4,5,40,54] [] [] Tryz.func100 Tryz.ntmps100 (AE YS AH) ?_;intro w0 K O0 ρ0 c Q R;simp only[LA,Ap];repeat'(first|exact a6|apply eS rfl|refine rX c ?_ ?_)
  .exact eV
  .have:=hf.1;simp only[AP];omega
  .have I:=M8 hf n;exact⟨⟨w,m⟩,gO I O1⟩
  have l:=λa (ha:a∈Ae (f.getD n.toNat (0,[])).2)=>QI hf ha;have D:(Ae (f.getD n.toNat (0,[])).2).length<=8796093022207:=by rw[Cb];exact M8 hf n
  generalize C:Ae (f.getD n.toNat (0,[])).2=L at l D;generalize o:(num.set n.toNat (g.length:Int),g++[n])=s1 at t;have F:∀i,Rh f ((L.take i).foldl (EO f k) s1)/\LM ((L.take i).foldl (EO f k) s1).1<=LM s1.1:=λi=>Tq (Ri hf k) _ _ (λa ha=>l a (AAw ha)) t;have m:num.set n.toNat (g.length:Int)=s1.1:=by rw[<-o]
  have P:g++[n]=s1.2:=by rw[<-o]
  rw[m]at v;refine AI (ι:={i:Nat//i<=L.length}) (λi=>⟨[(0,.bp 1 [] 0),(1,.p T3 n),(4,.p NQ L),(5,.p (.int .i64) (i.1:Int))],LA f ((L.take i.1).foldl (EO f k) s1)⟩) (λi=>L.length-i.1) ⟨0,O1⟩ (A9g [36] (AC [(1,.nm 1),(2,.nm 2),(3,.nm 3)] rfl rfl ?_ ?_)) (λi=>?_)
  .simp only[LA];refine eM ?_;simp only[ACU];rw[<-o];simp
  .exact eN
  obtain⟨i,hi⟩:=i;obtain⟨r,E⟩:=F i;have q:=λ(h:i<L.length)=>Rj (EO f k) L (0,0) s1 h;generalize z:(L.take i).foldl (EO f k) s1=b at r E q;simp only[LA];repeat'(first|exact a6|apply eS rfl|apply AB|refine rX c ?_ ?_|refine rC ?_ ?_<;>intro j<;>try(cases j;done))
  .have d:i<L.length:=by exact eV
   have:=l _ (AF L (0,0) d);obtain⟨h1,u⟩:=r;refine⟨eV,this.1,?_⟩;rw[h1];exact this.2
  .have d:i<L.length:=by exact eV
   have y:=l _ (AF L (0,0) d);refine cP 6 c ?_ ?_
   .exact eV
   refine rM c (J b (L.getD i (0,0)).2 r y.1 y.2 (by simpa using j) O1) [(1,.nm 1),(2,.nm 2),(3,.nm 3)] [2,3] ?_ ?_ ?_
   .exact eN
   .simp only[LA];exact eN
   rintro _ _ ⟨rfl,rfl⟩;refine⟨[(1,.nm 1),(2,.nm 2),(3,.nm 3)],.raw (.tuple #[]),LA f (Dx f k b (L.getD i (0,0)).2),rfl,rfl,?_,?_,rfl,rfl,FG ?_⟩
   .simp only[LA];exact eN
   .exact eN
   repeat'(first|apply eS rfl|apply AB|refine rX c ?_ ?_)
   .exact eV
   have e:EO f k b (L.getD i (0,0))=Dx f k b (L.getD i (0,0)).2:=At (by simpa using j);refine⟨⟨i+1,O1⟩,a2,AC [(1,.nm 1),(2,.nm 2),(3,.nm 3)] rfl rfl ?_ ?_⟩
   .simp only[LA,q d,e];exact eN
   exact eN
  .exact eV
  .have d:i<L.length:=by exact eV
   have e:EO f k b (L.getD i (0,0))=b:=An (by simpa using j);refine⟨⟨i+1,O1⟩,a2,AC [(1,.nm 1),(2,.nm 2),(3,.nm 3)] rfl rfl ?_ ?_⟩
   .simp only[q d,e];exact eN
   exact eN
  have hk:L.take i=L:=BY eV;rw[hk]at z;have h1:Dx f (k+1) (num,g) n=b:=by rw[Fe,C,<-z,<-o]
  rw[h1];exact fM c [] (.raw (.tuple #[])) rfl ⟨rfl,rfl⟩
end
section
attribute [local go_sem] QG
def YT (f:List AD) (s:List Int×List Int):Prop:=∀n∈s.2,0<=n/\n<(f.length:Int)
theorem Vu {f:List AD} (hf:QH f):∀(k:Nat) (s:List Int×List Int) (n:Int),YT f s->0<=n->n<f.length->YT f (Dx f k s n)
 | 0,s,n,h,_,_=>h
 | k+1,s,n,h,h0,h1=>by
  rw[Fe];have key:∀(l:List (Int×Int)) (t:List Int×List Int),(∀a∈l,0<=a.2/\a.2<(f.length:Int))->YT f t->YT f (l.foldl (EO f k) t):=by
   intro l;induction l with
   | nil=>intro t _ ht;exact ht
   | cons a l g =>
    intro t d ht;simp only[OS];refine g _ (λb e=>d b (by simp[e])) ?_;unfold EO;split
    .exact Vu hf k t a.2 ht (d a sc).1 (d a sc).2
    exact ht
  refine key _ _ (λa ha=>QI hf ha) ?_;intro m c;simp only[If,oN]at c;rcases c with c|rfl
  .exact h m c
  exact⟨h0,h1⟩
def Ff (f:List AD) (root:Int):List Int×List Int:=Dx f f.length (List.replicate f.length (-1),[]) root
def XM (num:List Int) (a:Int×Int):Int×Int:=(a.1,num.getD a.2.toNat 0)
def Np (f:List AD) (num:List Int) (n:Int):AD:=((f.getD n.toNat (0,[])).1,(Ae (f.getD n.toNat (0,[])).2).map (XM num))
def Jk (f:List AD) (root:Int):List AD:=(Ff f root).2.map (Np f (Ff f root).1)
theorem fW (m:Nat):LM (List.replicate m (-1))=m:=by
 induction m with
 | zero=>rfl
 | succ m a=>simp only[LM,List.replicate_succ,ABI]at a ⊢;simp[a]
theorem tr0 (f:List AD):Rh f (List.replicate f.length (-1),[]):=⟨sc,by simp[fW]⟩
theorem qE {f:List AD} (h0:0<=n) (h1:n<f.length):(List.replicate f.length (-1:Int)).getD n.toNat 0<0:=by
 have:n.toNat<f.length:=by omega
 simp[AS,ABz,this]
theorem fX {f:List AD} (hf:QH f) (h0:0<=n) (h1:n<f.length):Rh f (Ff f n)/\YT f (Ff f n) :=
 ⟨(Ri hf _ _ n (tr0 f) h0 h1 (qE h0 h1)).1,Vu hf _ _ n (λm a=>by simp at a) h0 h1⟩
theorem A4p {f:List AD} (hf:AX f) (h0:0<=n) (h1:n<f.length):Rh f (Ff f n)/\YT f (Ff f n):=fX hf.big h0 h1
theorem Vv {α b:Type} (g:α->b) (h:b->α) (L:List α) (d:α) (hk:k<L.length) (u:α->α):((L.take k).map u++L.drop k).set k (u (L.getD k d))=(L.take (k+1)).map u++L.drop (k+1)/\((L.take k).map u++L.drop k).getD k d=L.getD k d:=by
 have h1:((L.take k).map u).length=k:=by simp;omega
 have a:L.drop k=L.getD k d :: L.drop (k+1):=by
  rw[OR hk,AS,As hk];rfl
 constructor
 .rw[Ay L d hk,ACt _ _ O1,h1,ABt,a];simp
 rw[AS,AAa O1,h1,ABt,a];rfl
def mG:AZ:={ ins:=[E7,T3],pre:=λ(f,n,_)=>QH f/\0<=n/\n<(List.length f:Int),out:=λ(f,n,_)=>[.p E7 (Jk f n)] }
theorem A14:Ac Tryz.prog 60 mG:=by
 refine fK [0,1,2,4,5,6,7,8,9,10,11,19,40,60] Tryz.func60 Tryz.ntmps60 (AE YS AH) ?_;rintro w0 O0 ⟨f,root,u⟩ d-⟨hf,l,m⟩;simp only[mG,AL];have G:=hf.1;repeat'(first|exact a6|apply eS rfl|refine rX d ?_ ?_)
 refine AI (ι:={i:Nat//i<=f.length}) (λi=>⟨[(1,.p T3 root),(2,.bp 2 [] 0),(4,.bp 4 [] 0),(5,.bp 14 [] 0),(6,.p (.int .i64) (i.1:Int))],[(2,.box 34 true [.p Ij f]),(4,.box 34 true [.raw (.slice none 0 0)]),(14,.box 175 true [.p E7 f,.sr 10 T3 0 i.1,.raw (.slice none 0 0)]),(10,.arr 3 T3 (List.replicate i.1 (-1)))]⟩) (λi=>f.length-i.1) ⟨0,O1⟩ (AC [(2,.nm 2),(4,.nm 4),(14,.nm 14),(10,.nil)] rfl rfl ?_ ?_) (λi=>?_)
 .refine eM ?_;rfl
 .exact eN
 obtain⟨i,hi⟩:=i;repeat'(first|exact a6|apply eS rfl|apply AB|refine rX d ?_ ?_|refine rC ?_ ?_<;>intro h<;>try(cases h;done))
 .simp only[AP];omega
 .exact eV
 .have hi:i<List.length f:=by exact eV
  refine⟨⟨i+1,O1⟩,a2,AC [(2,.nm 2),(4,.nm 4),(14,.nm 14),(10,.nm 10)] rfl rfl ?_ ?_⟩
  .refine eM ?_;rw[List.replicate_succ'];simp
  exact eN
 have A:i=List.length f:=by exact eV
 subst A;have w:=fX hf l m;refine cP 2 d ?_ ?_
 .trivial
 refine rM d (uY f hf (List.length f) (List.replicate (List.length f) (-1),[]) root (tr0 f) l m (qE l m) (by rw[fW];exact On _)) [(1,.nm 14),(2,.nm 10),(3,.nil)] [10] ?_ ?_ ?_
 .exact eN
 .simp only[LA];refine eM ?_;simp
 rintro _ _ ⟨rfl,rfl⟩;refine⟨[(14,.nm 1),(101,.nm 2),(102,.nm 3)],.raw (.tuple #[]),[(14,.box 175 true [.p E7 f,.sr 101 T3 0 (Ff f root).1.length,.sr 102 T3 0 (Ff f root).2.length]),(101,.arr 3 T3 (Ff f root).1),(102,.arr 3 T3 (Ff f root).2)],rfl,rfl,?_,?_,rfl,rfl,FG ?_⟩
 .simp only[LA,Ff];exact eN
 .exact eN
 have z:Jk f root=(Ff f root).2.map (Np f (Ff f root).1):=rfl;rw[z];generalize Ff f root=s at w;obtain⟨num,c⟩:=s;obtain⟨⟨r,t⟩,j⟩:=w;simp only at r t;have j:∀n∈c,0<=n/\n<(List.length f:Int):=j;repeat'(first|exact a6|apply eS rfl|refine rX d ?_ ?_)
 refine AI (ι:={i:Nat//i<=c.length}) (λi=>⟨[(2,.bp 2 [] 0),(4,.bp 4 [] 0),(5,.bp 14 [] 0),(7,.bp 7 [] 0),(8,.p (.int .i64) (i.1:Int))],[(2,.box 34 true [.p Ij f]),(4,.box 34 true [.raw (.slice none 0 0)]),(14,.box 175 true [.p E7 f,.sr 101 T3 0 num.length,.sr 102 T3 0 c.length]),(101,.arr 3 T3 num),(102,.arr 3 T3 c),(7,.box 34 true [.sr 200 W3 0 i.1]),(200,.arr 57 W3 ((c.take i.1).map (Np f num)))]⟩) (λi=>c.length-i.1) ⟨0,O1⟩ (eW [(2,.nm 2),(4,.nm 4),(14,.nm 14),(101,.nm 101),(102,.nm 102),(7,.nm 7),(200,.nil)]) (λi=>?_)
 obtain⟨i,hi⟩:=i;repeat'(first|exact a6|apply eS rfl|refine rX d ?_ ?_|refine rC ?_ ?_<;>intro h<;>try(cases h;done))
 .have hi:i<c.length:=by exact eV
  exact⟨eV,j _ (AF c 0 hi)⟩
 .exact gO (M8 hf _) O1
 .have hi:i<c.length:=by exact eV
  have q:=λa (ha:a∈Ae (f.getD (Int.toNat (c.getD i 0)) (0,[])).2)=>QI hf ha;have v:Np f num (c.getD i 0)=((f.getD (Int.toNat (c.getD i 0)) (0,[])).1,(Ae (f.getD (Int.toNat (c.getD i 0)) (0,[])).2).map (XM num)):=rfl;have B:=M8 hf (c.getD i 0);generalize List.getD f (Int.toNat (c.getD i 0)) (0,[])=x at *;obtain⟨E,o⟩:=x;simp only at q v B;have F:=Cb o;generalize Ae o=L at *;refine AI (ι:={k:Nat//k<=L.length}) (λk=>⟨[(2,.bp 2 [] 0),(4,.bp 4 [] 0),(5,.bp 14 [] 0),(7,.bp 7 [] 0),(8,.p (.int .i64) (i:Int)),(9,.bp 9 [] 0),(10,.sr 56 DH 0 L.length),(11,.p (.int .i64) (k.1:Int))],[(56,.arr 59 DH ((L.take k.1).map (XM num)++L.drop k.1)),(9,.box 57 true [.p T3 E,.p NQ o]),(2,.box 34 true [.p Ij f]),(4,.box 34 true [.raw (.slice none 0 0)]),(14,.box 175 true [.p E7 f,.sr 101 T3 0 num.length,.sr 102 T3 0 c.length]),(101,.arr 3 T3 num),(102,.arr 3 T3 c),(7,.box 34 true [.sr 200 W3 0 i]),(200,.arr 57 W3 ((c.take i).map (Np f num)))]⟩) (λk=>L.length-k.1) ⟨0,O1⟩ (eW [(2,.nm 2),(4,.nm 4),(14,.nm 14),(101,.nm 101),(102,.nm 102),(7,.nm 7),(200,.nm 200),(9,.nm 9),(56,.nm 56)]) (λk=>?_)
  obtain⟨k,hk⟩:=k;repeat'(first|exact a6|apply eS rfl|apply AB|refine rX d ?_ ?_|refine rC ?_ ?_<;>intro h<;>try(cases h;done))
  .have g:k<L.length:=by exact eV
   have e:=(Vv (XM num) (λb=>b) L (0,0) g (XM num)).2;rw[e];have:=q _ (AF L (0,0) g);rw[r];exact⟨eV,this,eV⟩
  .exact eV
  .have g:k<L.length:=by exact eV
   have e:=Vv (XM num) (λb=>b) L (0,0) g (XM num);refine⟨⟨k+1,O1⟩,a2,AC [(2,.nm 2),(4,.nm 4),(14,.nm 14),(101,.nm 101),(102,.nm 102),(7,.nm 7),(200,.nm 200),(9,.nm 9),(56,.nm 56)] rfl rfl ?_ ?_⟩
   .refine eM ?_;rw[e.2];exact e.1
   exact eN
  .simp only[AP];have:=t;omega
  .exact eV
  have g:L.take k=L:=BY eV;have y:L.drop k=[]:=Is eV;refine⟨⟨i+1,O1⟩,a2,AC [(2,.nm 2),(4,.nm 4),(14,.nm 14),(101,.nm 101),(102,.nm 102),(7,.nm 7),(200,.nm 200)] rfl rfl ?_ ?_⟩
  .refine eM ?_;rw[g,y,AAu,Ay c 0 hi,AAT,sQ,ABK,v];have C:List.take i ((c.take i).map (Np f num))=(c.take i).map (Np f num):=BY (by rw[Of,ON];omega);have D:List.take L.length (L.map (XM num))=L.map (XM num):=BY (by rw[Of];omega);rw[C,D]
  exact eN
 have hk:c.take i=c:=BY eV;rw[hk];refine fI d [.cell 4 34] (by first|exact eR|refine KP ?_;exact BY (by rw[Of];exact eV))
end
def Ei (f:List AD):Nat->List Int->Int->List Int
 | 0,o,_=>o
 | k+1,o,n=>(f.getD n.toNat (0,[])).2.foldl (λo a=>if a.2∈o then o else Ei f k o a.2) (o++[n])
def A9 (f:List AD) (k:Nat) (o:List Int) (a:Int×Int):List Int:=if a.2∈o then o else Ei f k o a.2
theorem Cn (f:List AD) (k:Nat) (o:List Int) (n:Int):Ei f (k+1) o n=(f.getD n.toNat (0,[])).2.foldl (A9 f k) (o++[n]):=rfl
structure M9 (f:List AD) (o:List Int):Prop where
 nd:o.Nodup
 rng:∀x∈o,0<=x/\x<(f.length:Int)
theorem M9.len {f:List AD} {o:List Int} (h:M9 f o):o.length<=f.length:=by
 have h1:(o.map Int.toNat).Nodup:=by
  rw[List.Nodup,AAN];refine h.nd.imp_of_mem λ{a b} ha c g e=>g ?_;have:=h.rng a ha;have:=h.rng b c;omega
 have:=DG f.length (o.map Int.toNat) h1 (λj d=>by
  obtain⟨x,i,rfl⟩:=GO.1 d;have:=h.rng x i;omega)
 simpa using this
theorem M9.snoc {f:List AD} {o:List Int} (h:M9 f o) (h0:0<=n) (h1:n<f.length) (hn:n∉o):M9 f (o++[n]):=by
 refine⟨?_,λx c=>?_⟩
 .rw[ABb];refine⟨h.nd,sc,λa ha b d=>?_⟩;grind
 rcases If.1 c with c|c
 .exact h.rng x c
 grind
theorem IB {f:List AD} {k:Nat} (j:∀(o:List Int) (n:Int),M9 f o->0<=n->n<f.length->n∉o->M9 f (Ei f k o n)/\o <+: Ei f k o n) :
  ∀(l:List (Int×Int)) (o:List Int),(∀a∈l,0<=a.2/\a.2<(f.length:Int))->M9 f o->M9 f (l.foldl (A9 f k) o)/\o <+: l.foldl (A9 f k) o
 | [],o,_,h=>⟨h,ABk _⟩
 | a :: l,o,i,h=>by
  simp only[OS];have c:M9 f (A9 f k o a)/\o <+: A9 f k o a:=by grind [A9]
  obtain⟨d,e⟩:=IB j l _ (λb g=>i b (by simp[g])) c.1;exact⟨d,c.2.trans e⟩
theorem Cc {f:List AD} (hf:AX f) {a:Int×Int} (ha:a∈(f.getD n.toNat (0,[])).2):0<=a.2/\a.2<f.length:=by
 by_cases h:n.toNat<f.length
 .have b:f.getD n.toNat (0,[])∈f:=by
   rw[AS,As h];exact AA5 h
  exact(hf.2 _ b).2 a ha
 grind
theorem GQ {f:List AD} (hf:AX f):∀(k:Nat) (o:List Int) (n:Int),M9 f o->0<=n->n<f.length->n∉o->M9 f (Ei f k o n)/\o <+: Ei f k o n
 | 0,o,n,h,_,_,_=>⟨h,ABk _⟩
 | k+1,o,n,h,h0,h1,d=>by
  obtain⟨b,c⟩:=IB (GQ hf k) _ _ (λa ha=>Cc hf ha) (h.snoc h0 h1 d);rw[Cn];exact⟨b,(ACM o [n]).trans c⟩
theorem Ol {f:List AD} (hf:AX f):∀(k:Nat) (o:List Int) (n:Int),M9 f o->0<=n->n<f.length->n∉o->f.length-o.length<=k ->
  n∈Ei f k o n/\∀x∈Ei f k o n,x∈o\/∀a∈(f.getD x.toNat (0,[])).2,a.2∈Ei f k o n
 | 0,o,n,h,h0,h1,i,hk=>by
  have:=(h.snoc h0 h1 i).len;grind
 | k+1,o,n,h,h0,h1,i,hk=>by
  have key:∀(l:List (Int×Int)) (t:List Int),(∀a∈l,0<=a.2/\a.2<(f.length:Int))->M9 f t->f.length-t.length<=k ->
    (∀a∈l,a.2∈l.foldl (A9 f k) t)/\∀x∈l.foldl (A9 f k) t,x∈t\/∀a∈(f.getD x.toNat (0,[])).2,a.2∈l.foldl (A9 f k) t:=by
   intro l;induction l with
   | nil=>exact λt _ _ _=>⟨λa ha=>(by cases ha),λx m=>.inl m⟩
   | cons a l u =>
    intro t j ht r;simp only[OS];have s:M9 f (A9 f k t a)/\t <+: A9 f k t a/\a.2∈A9 f k t a/\∀x∈A9 f k t a,x∈t\/∀b∈(f.getD x.toNat (0,[])).2,b.2∈A9 f k t a:=by
     unfold A9;split
     .grind
     rename_i hn;have q:=j a sc;obtain⟨c,d⟩:=GQ hf k t a.2 ht q.1 q.2 hn;obtain⟨e,p⟩:=Ol hf k t a.2 ht q.1 q.2 hn r;exact⟨c,d,e,p⟩
    obtain⟨c,d,e,p⟩:=s;have v:=d.length_le;obtain⟨w,y⟩:=u (A9 f k t a) (λb g=>j b (by simp[g])) c O1;obtain⟨_,z⟩:=IB (GQ hf k) l (A9 f k t a) (λb g=>j b (by simp[g])) c;refine⟨λb g=>?_,λx m=>?_⟩
    .grind
    grind
  have hs:=h.snoc h0 h1 i;obtain⟨c,d⟩:=key (f.getD n.toNat (0,[])).2 (o++[n]) (λa ha=>Cc hf ha) hs (by simp only[IS,nO];omega);obtain⟨_,e⟩:=IB (GQ hf k) (f.getD n.toNat (0,[])).2 (o++[n]) (λa ha=>Cc hf ha) hs;rw[Cn];refine⟨e.subset sc,λx m=>?_⟩;grind
def FQ (o:List Int) (x:Int):Int:=if x∈o then (o.idxOf x:Int) else 0
def NS (o:List Int) (a:Int×Int):Int×Int:=(a.1,FQ o a.2)
def Jl (f:List AD) (o:List Int) (n:Int):AD:=((f.getD n.toNat (0,[])).1,(f.getD n.toNat (0,[])).2.map (NS o))
def AU (f:List AD) (root:Int):List AD:=(Ei f f.length [] root).map (Jl f (Ei f f.length [] root))
def QJ (f:List AD):Prop:=∀x∈f,MO x.2/\x.2.length<=200
theorem mH {f:List AD} (hf:QJ f) (n:Int):MO (f.getD n.toNat (0,[])).2/\(f.getD n.toNat (0,[])).2.length<=200:=by
 by_cases h:n.toNat<f.length
 .have a:f.getD n.toNat (0,[])∈f:=by
   rw[AS,As h];exact AA5 h
  exact hf _ a
 rw[AS,oF O1];exact⟨λi hi=>by simp at hi,sc⟩
theorem Gr {l:List (Int×Int)} (h:MO l):Ae l=l:=by
 have key:∀i,i<=l.length->Ae (l.take i)=l.take i:=by
  intro i;induction i with
  | zero=>intro _;rfl
  | succ i d =>
   intro hi;rw[Ay l (0,0) O1,Kg,d O1];have b:(l.take i).length=i:=by rw[ON];omega
   have c:MP (l.getD i (0,0)) (l.take i) (l.take i).length=(l.take i).length:=by
    rw[b];cases i with
    | zero=>rfl
    | succ i =>
     have h1:=h i O1;have a:(l.take (i+1)).getD i (0,0)=l.getD i (0,0):=by grind
     simp only[MP];rw[a,An O1]
   unfold Rg;rw[c,oR,AD5,AAu]
 have:=key l.length (On _)
 rwa [oR]at this
structure LC (f:List AD) (num o:List Int):Prop where
 len:num.length=f.length
 get:∀j,j<f.length->num.getD j 0=if (j:Int)∈o then (o.idxOf (j:Int):Int) else -1
theorem LC.neg {f:List AD} {num o:List Int} (h:LC f num o) (h0:0<=n) (h1:n<f.length):num.getD n.toNat 0<0↔n∉o:=by
 have:=h.get n.toNat O1;grind
theorem uZ {o:List Int} (h:n∉o):(o++[n]).idxOf n=o.length:=by rw[List.idxOf_append,An h];simp
theorem LC.snoc {f:List AD} {num o:List Int} (h:LC f num o) (h0:0<=n) (h1:n<f.length) (hn:n∉o):LC f (num.set n.toNat (o.length:Int)) (o++[n]):=by
 refine⟨by simpa using h.len,λj a=>?_⟩;have c:j<num.length:=by rw[h.len];exact a
 by_cases e:j=n.toNat
 .grind
 have en:¬(j:Int)=n:=by omega
 simp only[AS];rw[List.getElem?_set_ne (λb=>e b.symm)];have:=h.get j a;grind
theorem Vx {f:List AD} (hf:AX f) (hs:QJ f):∀(k:Nat) (s:List Int×List Int) (n:Int),LC f s.1 s.2->M9 f s.2->0<=n->n<f.length->n∉s.2->(Dx f k s n).2=Ei f k s.2 n/\LC f (Dx f k s n).1 (Dx f k s n).2
 | 0,s,n,h,_,_,_,_=>⟨rfl,h⟩
 | k+1,s,n,h,r,h0,h1,g=>by
  have key:∀(l:List (Int×Int)) (t:List Int×List Int),(∀a∈l,0<=a.2/\a.2<(f.length:Int))->LC f t.1 t.2->M9 f t.2->(l.foldl (EO f k) t).2=l.foldl (A9 f k) t.2/\LC f (l.foldl (EO f k) t).1 (l.foldl (EO f k) t).2:=by
   intro l;induction l with
   | nil=>exact λt _ ht _=>⟨rfl,ht⟩
   | cons a l x =>
    intro t i ht j;simp only[OS];have q:=i a sc;have u:=ht.neg q.1 q.2;have v:(EO f k t a).2=A9 f k t.2 a/\LC f (EO f k t a).1 (EO f k t a).2/\M9 f (EO f k t a).2:=by
     unfold EO A9;by_cases d:a.2∈t.2
     .grind
     rw[An d,At (by rw[u];exact d)];obtain⟨c,e⟩:=Vx hf hs k t a.2 ht j q.1 q.2 d;exact⟨c,e,by rw[c];exact(GQ hf k t.2 a.2 j q.1 q.2 d).1⟩
    obtain⟨c,e,o⟩:=v;obtain⟨m,w⟩:=x (EO f k t a) (λb p=>i b (by simp[p])) e o;rw[c]at m;exact⟨m,w⟩
  rw[Fe,Cn,Gr (mH hs n).1];exact key _ (s.1.set n.toNat (s.2.length:Int),s.2++[n]) (λa ha=>Cc hf ha) (h.snoc h0 h1 g) (r.snoc h0 h1 g)
theorem Vy {f:List AD} (hf:AX f) (hs:QJ f) {root:Int} (h0:0<=root) (h1:root<f.length):Jk f root=AU f root:=by
 have i:LC f (List.replicate f.length (-1)) []:=⟨sc,λj h=>by simp[AS,ABz,h]⟩;have d:M9 f []:=⟨sc,λx g=>by cases g⟩;obtain⟨c,b⟩:=Vx hf hs f.length (List.replicate f.length (-1),[]) root i d h0 h1 sc;have c:(Ff f root).2=Ei f f.length [] root:=c;have b:LC f (Ff f root).1 (Ff f root).2:=b;have k:=(Ol hf f.length [] root d h0 h1 sc sc).2;have l:=(GQ hf f.length [] root d h0 h1 sc).1;unfold Jk AU;rw[c]at b ⊢;generalize Ei f f.length [] root=o at *;refine AAe λx g=>?_;unfold Np Jl;rw[Gr (mH hs x).1];refine ABj _ (AAe λa ha=>?_);unfold XM NS FQ;have e:a.2∈o:=by grind
 have m:=Cc hf ha;have:=b.get a.2.toNat O1;rw[show ((a.2.toNat:Nat):Int)=a.2 by omega]at this;rw[this,At e,At e]
def wW (o:List Int):List (Int×Int):=(List.range o.length).map λi=>(o.getD i 0,(i:Int))
theorem fY (o:List Int) (n:Int):wW (o++[n])=wW o++[(n,(o.length:Int))]:=by
 unfold wW;rw[IS,nO,AAz,AAT]
 congr 1
 .refine AAe λi hi=>?_;grind
 simp[AS]
theorem u3 (k:Int) (a b:List (Int×Int)):BV T3 T3 k (a++b)=(BV T3 T3 k a).or (BV T3 T3 k b):=by
 induction a with
 | nil=>rfl
 | cons x a c =>
  simp only[To,BV];split
  .rfl
  exact c
theorem GY {α:Type} {p:List α->Prop} (h0:p []) (h1:∀l a,p l->p (l++[a])) (l:List α):p l:=by
 have:∀n (l:List α),l.length=n->p l:=by
  intro n;induction n with
  | zero=>intro l b;rw[List.length_eq_zero_iff.1 b];exact h0
  | succ n d =>
   intro l b;have c:l≠[]:=by intro e;subst e;simp at b
   rw[<-List.dropLast_concat_getLast c];exact h1 _ _ (d _ (by simp[b]))
 exact this _ l rfl
theorem Rk (o:List Int) (x:Int):BV T3 T3 x (wW o)=if x∈o then some (o.idxOf x:Int) else none:=by
 induction o using GY with
 | h0=>rfl
 | h1 o n a =>
  rw[fY,u3,a];by_cases b:x∈o
  .grind
  grind [uZ,BV,HZ]
theorem u4 (k v:Int) (l:List (Int×Int)) (h:BV T3 T3 k l=none):FJ T3 T3 k v l=l++[(k,v)]:=by
 induction l with
 | nil=>rfl
 | cons x l a =>
  simp only[BV]at h;simp only[FJ,To];split at h
  .cases h
  grind
theorem A15 {o:List Int} (hn:n∉o):FJ T3 T3 n (o.length:Int) (wW o)=wW (o++[n]):=by grind [u4,Rk,fY]
theorem A4q (o:List Int) (x:Int):(BV T3 T3 x (wW o)).getD 0=FQ o x:=by grind [Rk,FQ]
theorem Vz (o:List Int) (x:Int):(BV T3 T3 x (wW o)).isSome=decide (x∈o):=by
 rw[Rk];split<;>simp[*]
def YU (l:List (Int×Int)):Prop:=l.Pairwise λa b=>a.1≠b.1
def u5 (l:List (Int×Int)):Prop:=l.Pairwise λa b=>a.1<b.1
theorem YV (x:Int×Int) (s:List (Int×Int)):∀n,(∀j,MP x s n<=j->j<n->x.1<(s.getD j (0,0)).1)/\(MP x s n=0\/¬x.1<(s.getD (MP x s n-1) (0,0)).1)
 | 0=>⟨λj h1 a=>by omega,.inl rfl⟩
 | n+1=>by
  obtain⟨h1,a⟩:=YV x s n;unfold MP;split
  .rename_i h;refine⟨λj b c=>?_,a⟩;by_cases e:j=n
   .rw[e];exact h
   exact h1 j b O1
  rename_i h;exact⟨λj b c=>by omega,.inr (by simpa using h)⟩
theorem A4r {s:List (Int×Int)} (hs:u5 s) {x:Int×Int} (m:∀a∈s,a.1≠x.1):u5 (Rg s x):=by
 obtain⟨h1,c⟩:=YV x s s.length;have n:=aA x s s.length;unfold Rg;generalize MP x s s.length=p at *;have d:=hs;unfold u5 at d;rw[<-ABJ p s,ABP]at d;have j:∀i (h:i<s.length),s.getD i (0,0)=s[i]:=λi h=>by rw[AS,As h];rfl
 have l:∀a∈s.take p,a.1<x.1:=by
  intro a ha;rcases c with c|c
  .subst c;simp at ha
  obtain⟨i,hi,rfl⟩:=AAd.1 ha;rw[ON]at hi;rw[List.getElem_take];by_cases q:p=0
  .omega
  have g:p-1<s.length:=by omega
  rw[j (p-1) g]at c;have o:=m s[p-1] (AA5 g);by_cases e:i=p-1
  .subst e;omega
  have:=(iN.1 hs) i (p-1) O1 g O1;omega
 have k:∀a∈s.drop p,x.1<a.1:=by
  intro a ha;obtain⟨i,hi,rfl⟩:=AAd.1 ha;rw[ABn]at hi;rw[List.getElem_drop,<-j (p+i) O1];exact h1 (p+i) O1 O1
 unfold u5;rw[AA8,ABP];refine⟨d.1,?_,λa ha b f=>?_⟩
 .rw[AC3,AAv];exact⟨k,d.2.1⟩
 rcases By.1 (by simpa using f:b∈x :: s.drop p) with rfl|f
 .exact l a ha
 exact d.2.2 a ha b f
theorem IC {l:List (Int×Int)} (h:YU l):u5 (Ae l):=by
 induction l using GY with
 | h0=>exact List.Pairwise.nil
 | h1 l a d =>
  unfold YU at h;rw[ABP]at h;rw[Kg];exact A4r (d h.1) λb c=>h.2.2 b ((Eq l).mem_iff.1 c) a sc
theorem u6 {l:List (Int×Int)} (d:r.Perm l) (h1:u5 r) (c:u5 l):r=l :=
 List.Perm.eq_of_pairwise (le:=λa b:Int×Int=>a.1<b.1) (λa b _ _ e f=>by omega) h1 c d
theorem aB {l:List (Int×Int)} (h:u5 l):MO l:=by
 intro i hi;have a:∀i (h:i<l.length),l.getD i (0,0)=l[i]:=λi h=>by rw[AS,As h];rfl
 rw[a i O1,a (i+1) hi];exact(iN.1 h) i (i+1) O1 hi O1
theorem A16 {l:List (Int×Int)} (h:MO l):u5 l:=by
 refine iN.2 λi j hi f k=>?_;have c:∀i (h:i<l.length),l.getD i (0,0)=l[i]:=λi h=>by rw[AS,As h];rfl
 have key:∀d i,i+d+1<l.length->(l.getD i (0,0)).1<(l.getD (i+d+1) (0,0)).1:=by
  intro d;induction d with
  | zero=>exact λi hi=>h i hi
  | succ d g =>
   intro i hi;have a:=g i O1;have b:=h (i+d+1) O1;have e:i+(d+1)+1=i+d+1+1:=by omega
   rw[e];omega
 have:=key (j-i-1) i O1;rw[show i+(j-i-1)+1=j by omega,c i hi,c j f]at this;exact this
theorem A7H {l:List (Int×Int)} (h:u5 l):YU l:=h.imp λg=>by omega
theorem A7I {l:List (Int×Int)} (h:YU l):Dst Rf (0,0) l:=by
 rw[qB qD];refine h.imp λ{a b} g e=>g ?_;unfold Rf QF at e;split at e
 .omega
 split at e<;>omega
theorem mI {l:List (Int×Int)} (h:YU l) (c:r.Perm l) (hs:qC Rf (0,0) 0 l.length r):r=Ae l:=by
 refine u6 (c.trans (Eq l).symm) (iN.2 λi j hi b d=>?_) (IC h);have a:∀i (h:i<r.length),r.getD i (0,0)=r[i]:=λi h=>by rw[AS,As h];rfl
 have:=hs i j (Do _) d (by rw[<-c.length_eq];exact b);rw[a i hi,a j b]at this;unfold Rf QF at this;split at this
 .assumption
 split at this<;>omega
theorem MR {l:List (Int×Int)} (h:YU l):Ae (Ae l)=Ae l:=Gr (aB (IC h))
def SS (l:List (Int×Int)):Prop:=l.length<=200/\(l.length<=12\/MO l)
def wX (f:List AD):Prop:=∀x∈f,YU x.2/\SS x.2
def DP (f:List AD):List AD:=f.map λx=>(x.1,Ae x.2)
theorem Ed (f:List AD):(DP f).length=f.length:=Of _
theorem QK (f:List AD) (n:Nat):(DP f).getD n (0,[])=((f.getD n (0,[])).1,Ae (f.getD n (0,[])).2):=by
 unfold DP;simp only[AS,AAR];cases f[n]?<;>rfl
theorem NA {f:List AD} (h:AX f):AX (DP f):=by
 refine⟨by rw[Ed];exact h.1,λx d=>?_⟩;obtain⟨y,e,rfl⟩:=GO.1 d;obtain⟨b,c⟩:=h.2 y e;refine⟨by simp only[Cb];exact b,λa ha=>?_⟩;rw[Ed];exact c a ((Eq _).mem_iff.1 ha)
theorem A17 {f:List AD} (h:wX f):QJ (DP f):=by
 intro x c;obtain⟨y,d,rfl⟩:=GO.1 c;obtain⟨a,b⟩:=h y d;exact⟨aB (IC a),by simp only[Cb];exact b.1⟩
theorem u7 {f:List AD} (h:QJ f):DP f=f:=by
 unfold DP
 conv=>rhs;rw[<-List.map_id f]
 refine AAe λx a=>?_;rw[Gr (h x a).1];rfl
theorem A7J {f:List AD} (h:QJ f):wX f:=λx a=>⟨A7H (A16 (h x a).1),(h x a).2,.inr (h x a).1⟩
theorem qF {f:List AD} (hf:wX f) (n:Int):YU (f.getD n.toNat (0,[])).2/\SS (f.getD n.toNat (0,[])).2:=by
 by_cases h:n.toNat<f.length
 .have a:f.getD n.toNat (0,[])∈f:=by
   rw[AS,As h];exact AA5 h
  exact hf _ a
 rw[AS,oF O1];exact⟨List.Pairwise.nil,sc,.inl sc⟩
theorem Sl {f:List AD} (h:wX f):∀(k:Nat) (s:List Int×List Int) (n:Int),Dx (DP f) k s n=Dx f k s n
 | 0,_,_=>rfl
 | k+1,s,n=>by
  rw[Fe,Fe,QK];simp only;rw[MR (qF h n).1];refine ABj (λg=>List.foldl g _ _) ?_;funext s a;unfold EO;rw[Sl h k s a.2]
theorem u9 {f:List AD} (h:wX f) (r:Int):Jk (DP f) r=Jk f r:=by
 have ht:Ff (DP f) r=Ff f r:=by
  unfold Ff;rw[Ed,Sl h]
 unfold Jk;rw[ht];refine AAe λn _=>?_;unfold Np;rw[QK];simp only;rw[MR (qF h n).1]
theorem MS {f:List AD} (hf:AX f) (hn:wX f) {root:Int} (h0:0<=root) (h1:root<f.length):Jk f root=AU (DP f) root:=by
 rw[<-u9 hn];exact Vy (NA hf) (A17 hn) h0 (by rw[Ed];exact h1)
end Go.Proofs.YtglkoagnnnpimaaGreatDoor.Fw
