/- Contracts of the program's and the reference's functions, and the plain laws of what they compute: C1 C2 C9 C10 C11 C12 C13 C3 C4 C5 C6 C7 C8 C14 C15 C16 C17 C18 C19 C20 C21 C22 C23 N1 N2 C24 C25 N3 C26 C27 C28 C29 N4 C30 C31 C32 C33 C34 C35 R07a R07b R07c R07d R07e Sorted R07f R07g R07h R15c P8 C37 H1 D1 D4 N5 N6 N7 T4 PS G1 PA G3 T1 PX G4. -/
import Derived.Test.YtapkhdkbkodbjaaGreatEZJ
import Derived.Test.YtapkhdkbkodbjaaGreatEZI
set_option linter.unusedVariables false
set_option linter.unusedSimpArgs false
namespace Go.Proofs.YtapkhdkbkodbjaaGreat.Fw
open Go
attribute [local irreducible] Ev
attribute [local go_sem] uW AL List.toList_toArray CC evG evK Za Fq Mi JT IB HX UJ Mh Ca EC QM De DN frz yB Ho Du BM G0 Bw AV.frz AV.frzs AV.drp AV.drps AV.names AV.namess aq Hp MW MX Wb Kw B6 CD Lx FO Kz FP LA K0 LB ZY UB IQ Nt G7 FF ZZ VM qUn Ly KH PH GK Em LC MZ FW Wd DG FX GL VN KI QK GM QJ UD VO Oq LD Ma Dv DW GQ Eo Jq EA GN EB FY HW De DM ST VL SW H6 Ky Kx MY QL UG Ot PM PJ Md We PK Me iZ UI UH AV.trn AV.trns Ey DF Obj.trn L6 pY Ds ER Dr FZ Cy GP Am lk JN Hy Jo bin yA dS yD Wc zf1 zfs pfs AV.cells CW Lv SV Mc UF Cj QH Ty.cell1 Kv Ft El HT MQ Ex MP Oo SU HS H5 PG WZ ZX Og MO iW o4 Wa QI Dd Lw RV.flat Ty.flat Ty.size St.add upd del Br Value.oneCell' MV Ty.dflt Kt Vj KO Vp List.take_succ_cons List.take_zero List.length_cons u3 u4 Vo My Qr KQ OG A6r IC Qg Qh Qi Qj Wx Wy Qk LN eI Option.map_some Option.map_none Option.bind_some Option.getD_some Option.getD_none Option.isNone_none Option.isNone_some Bool.and_true Bool.true_and Bool.and_false Bool.false_and Bool.not_true Bool.not_false if_true if_false List.length_cons List.length_nil and_true true_and and_self List.all_cons List.all_nil List.append_nil List.nil_append List.cons_append List.getElem?_cons_zero List.getElem?_cons_succ List.getElem?_nil List.map_cons List.map_nil List.set_cons_zero List.set_cons_succ List.isEmpty_nil List.isEmpty_cons decide_true decide_false beq_self_eq_true bne_self_eq_false Nat.zero_add Nat.add_zero Nat.sub_zero Int.toNat_natCast Int.toNat_zero Int.toNat_one List.take_length List.length_append List.length_singleton true_or or_true or_self false_or or_false Ty.agg.injEq Ty.slice.injEq Ty.prod.injEq Ty.int.injEq Option.some.injEq beq_iff_eq MT evMG evMQ opM Jy Ox CK L5 Hr Ua L4 Jx LO OD Mw Sf Qn Sg W9 Qm Vl Vm OC Ad Au Op.operands Call.operands List.filterMap_cons List.filterMap_nil List.append_eq Bool.cond_false_right Bool.cond_true_left cond_true cond_false implies_true decide_eq_true_eq beq_true beq_false Bool.or_true Bool.or_false Bool.true_or Bool.false_or Option.isSome_some Array.empty_append List.append_toArray G2 QN GR JO iY UE HV IL IK KJ Jp Mb PI dT yC JH inB Mf HO H7 Mg A6 u9 List.drop_zero EE JW jX Cg M0 CA AV.fgt AV.fgts Obj.fgt Ar Ao Ad Dy J0 Bc IY List.any_cons List.any_nil vB pR jZ pS Oi VR qs List.flatMap_cons List.flatMap_nil List.cons_append tn j9 L7 List.take_succ_cons List.drop_succ_cons kC Ib Bd A2d Sp CM Cc Ai GV Mr B9 GU Ep Jv LM Hq Jw
attribute [local go_sem] KT zG ty3 ty4 ty5 ty9 A9b A9c A9d A9e A9f A9g A9h A9i A9j A9k A9l A9m A9n A9o A9p A9q A9r A2l A2m A2n A2o A2p A2q A2r A2s A2t A2u A2v A2w A2x A2y A2z A2A A2B A2C A2D A2E A2F A2G A2H A2I A2J A2K A2L A2M A2N A2O A2P A2Q A2R A2S A2T A2U A2V A2W A2X A2Y A2Z A30 A31 A32 A33
set_option maxRecDepth 100000
set_option maxHeartbeats 4000000
section
def J7 (a b c:Int):Bool:=decide (a<=c)&&decide (c<=b)
def qE:AZ:={ ins:=[.int .u8],pre:=λ_=>True,out:=λ(c,_)=>[.p .bool (J7 48 57 c)] }
attribute [local go_sem] qE
def qF:AZ:={ ins:=[.int .u8],pre:=λ_=>True,out:=λ(c,_)=>[.p .bool (J7 65 90 c)] }
attribute [local go_sem] qF
def qG:AZ:={ ins:=[.int .u8],pre:=λ_=>True,out:=λ(c,_)=>[.p .bool (J7 97 122 c)] }
attribute [local go_sem] qG
theorem kM:Aa Tryz.prog 242 qE:=by
 refine fK [0,2] Tryz.func242 Tryz.ntmps242 AH ?_;rintro w0 O0 ⟨c,u⟩ a - -;simp only[qE,AL];repeat'(first|exact trivial|apply eS rfl|refine rX a ?_ ?_)
 exact fI a [.tmp 2] (by unfold J7;exact eR)
theorem A39:Aa Tryz.prog 249 qF:=by
 refine fK [0,2] Tryz.func249 Tryz.ntmps249 AH ?_;rintro w0 O0 ⟨c,u⟩ a - -;simp only[qF,AL];repeat'(first|exact trivial|apply eS rfl|refine rX a ?_ ?_)
 exact fI a [.tmp 2] (by unfold J7;exact eR)
theorem A3a:Aa Tryz.prog 250 qG:=by
 refine fK [0,2] Tryz.func250 Tryz.ntmps250 AH ?_;rintro w0 O0 ⟨c,u⟩ a - -;simp only[qG,AL];repeat'(first|exact trivial|apply eS rfl|refine rX a ?_ ?_)
 exact fI a [.tmp 2] (by unfold J7;exact eR)
def XZ (c:Int) (a:Bool):Bool:=J7 48 57 c||c==45||a&&J7 65 90 c||!a&&J7 97 122 c
def A3b:AZ:={ ins:=[.int .u8,.bool],pre:=λ_=>True,out:=λ(c,b,_)=>[.p .bool (XZ c b)] }
attribute [local go_sem] A3b
theorem A6D:Aa Tryz.prog 243 A3b:=by
 refine fK [0,1,4] Tryz.func243 Tryz.ntmps243 (AF kM (AF A39 (AF A3a AH))) ?_;rintro w0 O0 ⟨c,b,u⟩ a - -;simp only[A3b,AL];repeat'(first|exact trivial|apply eS rfl|refine rX a ?_ ?_)
 exact fI a [.tmp 4] (by unfold XZ;exact eR)
abbrev chr (s:ByteArray) (i:Nat):Int:=((s.data.getD i 0).toNat:Int)
def Sr (s:ByteArray):Bool:=decide ((s.size:Int)<1)||decide (32<(s.size:Int))||J7 48 57 (chr s 0)||chr s 0==45
def E3 (s:ByteArray) (a:Bool):Bool:=!Sr s&&(List.range s.size).all λi=>XZ (chr s i) a
def qH:AZ:={ ins:=[T9,.bool],pre:=λ_=>True,out:=λ(s,b,_)=>[.p .bool (E3 s b)] }
attribute [local go_sem] qH
theorem kN:Aa Tryz.prog 231 qH:=by
 refine fK [0,1,4,5,23,27,35] Tryz.func231 Tryz.ntmps231 (AF kM (AF A6D AH)) ?_;rintro w0 O0 ⟨s,b,u⟩ d - -;simp only[qH,AL];repeat'(first|exact trivial|apply eS rfl|refine rX d ?_ ?_|refine rC ?_ ?_<;>intro a<;>try(cases a;done))
 .constructor
  .intro h;simp only[SD,AAe,SF]at h;have:1<=(s.size:Int):=by omega
   exact this
  intro h;simp only[SD,AAe,SF]at h;have:1<=(s.size:Int):=by omega
  exact this
 .have h1:Sr s=true:=by
   unfold Sr chr;simp only[Ts,NO,Tx];exact a
  have c:E3 s b=false:=by unfold E3;rw[h1];rfl
  exact fI d [.tmp 4] (by rw[c];exact eR)
 have h1:Sr s=false:=by
  unfold Sr chr;simp only[AAe,SF,ACc];exact⟨⟨⟨by omega,by omega⟩,a.1.2⟩,a.2⟩
 have g:s.size<=32:=by omega
 refine AI (ι:={k:Nat//k<=s.size/\((List.range k).all λi=>XZ (chr s i) b)=true}) (λk=>⟨[(0,.p T9 s),(1,.p .bool b),(5,.p (.int .i64) (k.1:Int))],[]⟩) (λk=>s.size-k.1) ⟨0,by simp⟩ (eW []) (λk=>?_)
 obtain⟨k,hk,f⟩:=k;repeat'(first|exact trivial|apply eS rfl|apply AB|refine rX d ?_ ?_|refine rC ?_ ?_<;>intro a<;>try(cases a;done))
 .exact a
 .have e:k<s.size:=by omega
  have c:E3 s b=false:=by
   unfold E3;rw[ACS];refine .inr (ACH.2 λh=>?_);have:=No.1 h k (SH.2 e);rw[show XZ (chr s k) b=false from a]at this;cases this
  exact fI d [.tmp 4] (by rw[c];exact eR)
 .omega
 .have e:k<s.size:=by omega
  refine⟨⟨k+1,by omega,?_⟩,by simp only;omega,AC [] rfl rfl ?_ ?_⟩
  .rw[To,ACX,f];rw[ADz,ACy,List.all_nil,Bool.and_true];exact a
  .exact eN
  exact eN
 have e:k=s.size:=by omega
 subst e;have c:E3 s b=true:=by unfold E3;rw[h1,f];rfl
 exact fI d [.tmp 4] (by rw[c];exact eR)
def A3c:AZ:={ ins:=[T9],pre:=λ_=>True,out:=λ(s,_)=>[.p .bool (E3 s false)] }
def Xa:AZ:={ ins:=[T9],pre:=λ_=>True,out:=λ(s,_)=>[.p .bool (E3 s true)] }
theorem A6E:Aa Tryz.prog 218 A3c:=by
 refine fK [0,2] Tryz.func218 Tryz.ntmps218 (AF kN AH) ?_;rintro w0 O0 ⟨s,u⟩ a - -;simp only[A3c,AL];repeat'(first|exact trivial|apply eS rfl|refine rX a ?_ ?_)
 exact fI a [.tmp 2]
theorem qI:Aa Tryz.prog 217 Xa:=by
 refine fK [0,2] Tryz.func217 Tryz.ntmps217 (AF kN AH) ?_;rintro w0 O0 ⟨s,u⟩ a - -;simp only[Xa,AL];repeat'(first|exact trivial|apply eS rfl|refine rX a ?_ ?_)
 exact fI a [.tmp 2]
end
section
theorem OK {α:Type} (l:List α) (d:α) (p:α->Bool) {k:Nat} (h:k<l.length):(l.take (k+1)).any p=((l.take k).any p||p (l.getD k d)):=by
 rw[AY l d h,AD5];simp
theorem JZ {α:Type} (l:List α) (d:α) (p:α->Bool) {k:Nat} (h:k<l.length) (a:p (l.getD k d)=true):l.any p=true :=
 R9.2 ⟨_,AD l d h,a⟩
def Ac (l:List ByteArray) (s:ByteArray):Bool:=l.any λx=>Ab x s
def J8:AZ:={ ins:=[GW,T9],pre:=λ_=>True,out:=λ(l,n,_)=>[.p .bool (Ac l n)],lend:=true }
attribute [local go_sem] J8
theorem Hb:Aa Tryz.prog 201 J8:=by
 refine fK [0,1,4,5,9,17] Tryz.func201 Tryz.ntmps201 AH ?_;rintro w0 O0 ⟨l,n,u⟩ a ⟨⟨e,-⟩,-⟩ -;simp only[AN]at e;simp only[J8,AL];repeat'(first|exact trivial|apply eS rfl|refine rX a ?_ ?_)
 refine AI (ι:={k:Nat//k<=l.length/\(l.take k).any (λx=>Ab x n)=false}) (λk=>⟨[(0,.p GW l),(1,.p T9 n),(5,.p (.int .i64) (k.1:Int))],[]⟩) (λk=>l.length-k.1) ⟨0,by simp⟩ (eW []) (λk=>?_)
 obtain⟨k,hk,c⟩:=k;repeat'(first|exact trivial|apply eS rfl|apply AB|refine rX a ?_ ?_|refine rC ?_ ?_<;>intro b<;>try(cases b;done))
 .exact eV
 .have d:k<l.length:=by exact eV
  have h1:Ac l n=true:=JZ l ByteArray.empty _ d b;exact fI a [.tmp 4] (by rw[h1];exact eR)
 .exact eV
 .have d:k<l.length:=by exact eV
  refine⟨⟨k+1,by exact eV,?_⟩,by simp only;exact eV,AC [] rfl rfl ?_ ?_⟩
  .rw[OK l ByteArray.empty _ d,c];exact b
  .exact eN
  exact eN
 have hk:l.take k=l:=An (by exact eV);rw[hk]at c;have h1:Ac l n=false:=c;exact fI a [.tmp 4] (by rw[h1];exact eR)
def atF (l:List ByteArray) (s:ByteArray):Nat:=(l.takeWhile λx=>Hx x s).length
theorem A3e {α:Type} (p:α->Bool) (d:α):∀(l:List α) (k:Nat),k<=(l.takeWhile p).length->((k<l.length/\p (l.getD k d)=true)↔k+1<=(l.takeWhile p).length)
 | [],k,h=>by simp
 | x :: l,k,h=>by
  by_cases a:p x=true
  .rw[List.takeWhile_cons,BY a]at h ⊢;cases k with
   | zero=>simp[a]
   | succ k =>
    have:=A3e p d l k (by simpa using h);simpa using this
  rw[List.takeWhile_cons,At a]at h ⊢;have hk:k=0:=by simpa using h
  subst hk;simp[a]
theorem A8o {α:Type} (p:α->Bool) (l:List α):(l.takeWhile p).length<=l.length:=(List.takeWhile_sublist p).length_le
def Eh (l:List ByteArray) (s:ByteArray):List ByteArray :=
 if (decide (atF l s<l.length)&&Ab (l.getD (atF l s) ByteArray.empty) s)=true then l else l.take (atF l s)++[s]++l.drop (atF l s)
def fB:AZ:={ ins:=[GW,T9],pre:=λ(l,_,_)=>List.length l<=100000,out:=λ(l,n,_)=>[.p GW (Eh l n)] }
attribute [local go_sem] fB
theorem Ss:Aa Tryz.prog 194 fB:=by
 refine fK [0,1,4,5,6,18,32] Tryz.func194 Tryz.ntmps194 AH ?_;rintro w0 O0 ⟨l,n,u⟩ c-m;have m:l.length<=100000:=m;simp only[fB,AL];repeat'(first|exact trivial|apply eS rfl|refine rX c ?_ ?_)
 refine AI (ι:={k:Nat//k<=atF l n}) (λk=>⟨[(0,.p GW l),(1,.p T9 n),(5,.raw (.slice none 0 0)),(6,.p (.int .i64) (k.1:Int))],[]⟩) (λk=>l.length-k.1) ⟨0,by simp⟩ (eW []) (λk=>?_)
 obtain⟨k,hk⟩:=k;have d:=A8o (λx=>Hx x n) l;have i:=A3e (λx=>Hx x n) ByteArray.empty l k hk;simp only;repeat'(first|exact trivial|apply eS rfl|apply AB|refine rX c ?_ ?_|refine rC ?_ ?_<;>intro a<;>try(cases a;done))
 .exact λh=>h
 .have h1:k<l.length/\Hx (l.getD k ByteArray.empty) n=true:=⟨by exact eV,a.2⟩;exact eV
 .have h1:k<l.length/\Hx (l.getD k ByteArray.empty) n=true:=⟨by exact eV,a.2⟩;exact⟨⟨k+1,i.1 h1⟩,by simp only;omega,eW []⟩
 .exact λh=>h
 .rename_i f;have g:k=atF l n:=by
   refine ACA hk (Nat.le_of_not_lt λh=>?_);have:=i.2 h;rw[f (GO.2 this.1)]at this;cases this.2
  have e:Eh l n=l:=by
   unfold Eh;rw[<-g,BY];rw[As,NO];exact⟨GO.1 a.1,a.2⟩
  exact fI c [.tmp 4] (by rw[e];exact eR)
 .have j:=UA k l;have b:k<=l.length:=R5 hk d;simp only[AN];exact⟨R4.2 b,by dsimp only[Ty.den]at *;omega⟩
 .have j:=UA k l;have b:k<=l.length:=R5 hk d;simp only[AN];dsimp only[Ty.den]at *;omega
 .have j:=UA k l;have b:k<=l.length:=R5 hk d;have q:(l.drop k).length<=l.length:=by rw[dO];omega
  simp only[AN];exact⟨R4.2 b,by dsimp only[Ty.den]at *;omega⟩
 rename_i f;have g:k=atF l n:=by
  refine ACA hk (Nat.le_of_not_lt λh=>?_);have:=i.2 h;rw[f (GO.2 this.1)]at this;cases this.2
 have e:Eh l n=l.take k++[n]++l.drop k:=by
  unfold Eh;rw[<-g,At];rw[As,NO];intro h;rw[a (GO.2 h.1)]at h;cases h.2
 have b:k<=l.length:=R5 hk d;have o:(l.take k).length+1+(l.drop k).length=(l.take k++[n]++l.drop k).length:=by simp only[F3,R7]
 rw[o,<-e];refine E2 [38] ?_;exact fI c [.tmp 4]
end
section
def Gt (b:List Int) (i:Int):Int:=if i<b.length then b.getD i.toNat 0 else 0
def kO:AZ:={ ins:=[BX,T3],pre:=λ(_,i,_)=>(0:Int)<=i,out:=λ(b,i,_)=>[.p Sq (Gt b i)],lend:=true }
attribute [local go_sem] kO
theorem vM:Aa Tryz.prog 154 kO:=by
 refine fK [0,1,4,8] Tryz.func154 Tryz.ntmps154 AH ?_;rintro w0 O0 ⟨b,i,u⟩ c-hi;simp only[kO,AL];repeat'(first|exact trivial|apply eS rfl|refine rX c ?_ ?_|refine rC ?_ ?_<;>intro a<;>try(cases a;done))
 .exact⟨hi,a⟩
 .have h1:Gt b i=b.getD i.toNat 0:=by unfold Gt;rw[BY a]
  exact fI c [.tmp 4] (by rw[h1];exact eR)
 have h1:Gt b i=0:=by unfold Gt;rw[At (AC2.2 a)]
 exact fI c [.tmp 4] (by rw[h1];exact eR)
def Ck (b:List Int):Nat->Nat
 | 0=>0
 | n+1=>if b.getD n 0=0 then Ck b n else n+1
def BQ (b:List Int):List Int:=b.take (Ck b b.length)
theorem Xb (b:List Int):∀n,Ck b n<=n
 | 0=>OR _
 | n+1=>by
  unfold Ck;split
  .exact Nat.le_succ_of_le (Xb b n)
  exact OR _
def LV:AZ:={ ins:=[BX],pre:=λ(b,_)=>List.length b<=100000,out:=λ(b,_)=>[.p BX (BQ b)] }
attribute [local go_sem] LV
theorem OL:Aa Tryz.prog 155 LV:=by
 refine fK [0,2,3,15] Tryz.func155 Tryz.ntmps155 AH ?_;rintro w0 O0 ⟨b,u⟩ d-f;have f:b.length<=100000:=f;simp only[LV,AL];repeat'(first|exact trivial|apply eS rfl|refine rX d ?_ ?_)
 refine AI (ι:={n:Nat//n<=b.length/\Ck b n=Ck b b.length}) (λn=>⟨[(0,.p BX b),(3,.p (.int .i64) (n.1:Int))],[]⟩) (λn=>n.1) ⟨b.length,OR _,rfl⟩ (eW []) (λn=>?_)
 obtain⟨n,hn,g⟩:=n;simp only;repeat'(first|apply eS rfl|apply AB|refine rX d ?_ ?_|refine rC ?_ ?_<;>intro c<;>try(cases c;done))
 .constructor
  .exact eV
  intro h;refine⟨?_,?_⟩<;>exact eV
 .exact eV
 .obtain⟨h1,a⟩:=c;obtain⟨m,rfl⟩:∃m,n=m+1:=⟨n-1,by omega⟩;have e:(((m+1:Nat):Int)-1)=(m:Int):=by omega
  rw[e]at a;have a:b.getD m 0=0:=a;have j:Ck b m=Ck b b.length:=by
   rw[<-g];show _=if b.getD m 0=0 then Ck b m else m+1
   rw[BY a]
  refine⟨⟨m,by omega,j⟩,by simp,AC [] rfl rfl ?_ ?_⟩
  .exact eN
  simp only[e];exact eN
 .have k:=UA n b;simp only[AN];exact⟨R4.2 hn,by dsimp only[Ty.den]at *;omega⟩
 have i:Ck b n=n:=by
  cases n with
  | zero=>rfl
  | succ m =>
   have e:(((m+1:Nat):Int)-1)=(m:Int):=by omega
   rw[e]at c;have a:=c O1;have a:¬b.getD m 0=0:=a;show (if b.getD m 0=0 then Ck b m else m+1)=m+1;rw[At a]
 have h1:BQ b=b.take n:=by unfold BQ;rw[<-g,i]
 rw[<-h1];refine E2 [18] ?_;exact fI d [.tmp 2]
end
section
attribute [local go_sem] kO LV
def A3f (w:Int) (r:Int):Bool:=Cs .and .u64 (iX .u64 w r) 1==1
def VU (b:List Int) (i:Int):Bool:=if (decide (i<0)||decide ((b.length:Int)<=i.tdiv 64))=true then false else A3f (b.getD (i.tdiv 64).toNat 0) (i.tmod 64)
def A3g:AZ:={ ins:=[BX,T3],pre:=λ_=>True,out:=λ(b,i,_)=>[.p .bool (VU b i)],lend:=true }
theorem A9s {w:Int} (h0:0<=w) (r:Int):0<=iX .u64 w r/\iX .u64 w r<=w:=by
 unfold iX;have a:(0:Int)<2 ^ (min r.toNat IntKind.u64.bits):=Int.pow_pos dg;rw[Int.fdiv_eq_ediv_of_nonneg _ (Int.le_of_lt a)];exact⟨Int.ediv_nonneg h0 (Int.le_of_lt a),Int.ediv_le_self _ h0⟩
theorem A3h:Aa Tryz.prog 205 A3g:=by
 refine fK [0,1,4,13] Tryz.func205 Tryz.ntmps205 AH ?_;rintro w0 O0 ⟨b,i,u⟩ d ⟨⟨m,k⟩,e,-⟩ -;have e:Kr .i64 i:=e;rw[Qk]at e;have j:0<=i->Int.tdiv i 64=i / 64/\Int.tmod i 64=i % 64:=λh=>⟨ACv h,ACK h⟩;simp only[A3g,AL];repeat'(first|exact trivial|apply eS rfl|refine rX d ?_ ?_|refine rC ?_ ?_<;>intro c<;>try(cases c;done))
 .intro h;have h0:0<=i:=by simpa using h
  obtain⟨a,g⟩:=j h0;rw[a];refine⟨by decide,?_,?_⟩<;>exact eV
 .have h1:VU b i=false:=by
   unfold VU;rw[BY];rw[Ts,NO,NO];exact c
  exact fI d [.tmp 4] (by rw[h1];exact eR)
 .obtain⟨h0,l⟩:=c;obtain⟨a,g⟩:=j h0;rw[a]at l;have f:Kr .u64 (b.getD (i / 64).toNat 0):=k _ (AD b 0 (by exact eV));rw[LN]at f;have hs:=A9s f.1 (i % 64);rw[a,g];refine⟨⟨by decide,by exact eV,by exact eV⟩,⟨by exact eV,by exact eV⟩,⟨by decide,by exact eV,by exact eV⟩,⟨by exact eV,by exact eV⟩,by exact eV,hs.1,ACu hs.2 f.2⟩
 have h1:VU b i=A3f (b.getD (i.tdiv 64).toNat 0) (i.tmod 64):=by
  unfold VU;rw[At];rw[Ts,NO,NO];rintro (h|h)<;>omega
 exact fI d [.tmp 4] (by rw[h1];unfold A3f;exact eR)
end
section
attribute [local go_sem] kO LV
def HC (op:BinOp) (a b:List Int) (n:Nat):List Int:=(List.range n).map λi=>Cs op .u64 (a.getD i 0) (Gt b (i:Int))
theorem E4 (op:BinOp) (a b:List Int) (n:Nat):(HC op a b n).length=n:=by simp[HC]
theorem aK (op:BinOp) (a b:List Int) (n:Nat):HC op a b (n+1)=HC op a b n++[Cs op .u64 (a.getD n 0) (Gt b (n:Int))]:=by simp[HC,To]
def EW (a b:List Int):List Int:=BQ (HC .and a b a.length)
def A3i:AZ:={ ins:=[BX,BX],pre:=λ(a,_,_)=>List.length a<=100000,out:=λ(a,b,_)=>[.p BX (EW a b)] }
theorem qJ:Aa Tryz.prog 116 A3i:=by
 refine fK [0,1,4,5,6,10] Tryz.func116 Tryz.ntmps116 (AF vM (AF OL AH)) ?_;rintro w0 O0 ⟨a,b,u⟩ c-ha;have ha:a.length<=100000:=ha;simp only[A3i,AL];repeat'(first|exact trivial|apply eS rfl|refine rX c ?_ ?_)
 refine AI (ι:={n:Nat//n<=a.length}) (λn=>⟨[(0,.p BX a),(1,.p BX b),(5,.sr 23 Sq 0 n.1),(6,.p (.int .i64) (n.1:Int))],[(23,.arr 186 Sq (HC .and a b n.1))]⟩) (λn=>a.length-n.1) ⟨0,If _⟩ (AC [(23,.nil)] rfl rfl ?_ ?_) (λn=>?_)
 .refine eM ?_;rfl
 .exact eN
 obtain⟨n,hn⟩:=n;have g:=E4 .and a b n;have hs:=aK .and a b n;simp only;repeat'(first|exact trivial|apply eS rfl|apply AB|refine rX c ?_ ?_|refine rC ?_ ?_<;>intro d<;>try(cases d;done))
 .refine⟨d,?_⟩;simp only[AN];dsimp only[Ty.den]at *;omega
 .exact eV
 .have e:n<a.length:=by exact eV
  refine⟨⟨n+1,by omega⟩,by simp only;omega,AC [(23,.nm 23)] rfl rfl ?_ ?_⟩
  .simp only[hs];refine eM ?_;rw[An (by rw[g];exact OR _)]
  exact eN
 have e:n=a.length:=by exact eV
 subst e;refine E2 [23] ?_;have f:(HC .and a b a.length).take a.length=HC .and a b a.length:=An (by rw[E4];exact OR _);repeat'(first|apply eS rfl|refine rX c ?_ ?_)
 .rw[f,E4];exact ha
 rw[f];exact fI c [.tmp 4] (by unfold EW;exact eR)
def Su (a b:List Int):List Int:=BQ (HC .andNot a b a.length)
def qK:AZ:={ ins:=[BX,BX],pre:=λ(a,_,_)=>List.length a<=100000,out:=λ(a,b,_)=>[.p BX (Su a b)] }
attribute [local go_sem] qK
theorem A3j:Aa Tryz.prog 188 qK:=by
 refine fK [0,1,4,5,6,10] Tryz.func188 Tryz.ntmps188 (AF vM (AF OL AH)) ?_;rintro w0 O0 ⟨a,b,u⟩ c-ha;have ha:a.length<=100000:=ha;simp only[qK,AL];repeat'(first|exact trivial|apply eS rfl|refine rX c ?_ ?_)
 refine AI (ι:={n:Nat//n<=a.length}) (λn=>⟨[(0,.p BX a),(1,.p BX b),(5,.sr 23 Sq 0 n.1),(6,.p (.int .i64) (n.1:Int))],[(23,.arr 186 Sq (HC .andNot a b n.1))]⟩) (λn=>a.length-n.1) ⟨0,If _⟩ (AC [(23,.nil)] rfl rfl ?_ ?_) (λn=>?_)
 .refine eM ?_;rfl
 .exact eN
 obtain⟨n,hn⟩:=n;have g:=E4 .andNot a b n;have hs:=aK .andNot a b n;simp only;repeat'(first|exact trivial|apply eS rfl|apply AB|refine rX c ?_ ?_|refine rC ?_ ?_<;>intro d<;>try(cases d;done))
 .refine⟨d,?_⟩;simp only[AN];dsimp only[Ty.den]at *;omega
 .exact eV
 .have e:n<a.length:=by exact eV
  refine⟨⟨n+1,by omega⟩,by simp only;omega,AC [(23,.nm 23)] rfl rfl ?_ ?_⟩
  .simp only[hs];refine eM ?_;rw[An (by rw[g];exact OR _)]
  exact eN
 have e:n=a.length:=by exact eV
 subst e;refine E2 [23] ?_;have f:(HC .andNot a b a.length).take a.length=HC .andNot a b a.length:=An (by rw[E4];exact OR _);repeat'(first|apply eS rfl|refine rX c ?_ ?_)
 .rw[f,E4];exact ha
 rw[f];exact fI c [.tmp 4] (by unfold Su;exact eR)
def FH (a b:List Int):Bool:=((Su a b).length:Int)==0
def Qy:AZ:={ ins:=[BX,BX],pre:=λ(a,_,_)=>List.length a<=100000,out:=λ(a,b,_)=>[.p .bool (FH a b)],lend:=true }
attribute [local go_sem] Qy
theorem Sv:Aa Tryz.prog 147 Qy:=by
 refine fK [0,1,4] Tryz.func147 Tryz.ntmps147 (AF A3j AH) ?_;rintro w0 O0 ⟨a,b,u⟩ c-ha;have ha:a.length<=100000:=ha;simp only[Qy,AL];repeat'(first|exact trivial|apply eS rfl|refine rX c ?_ ?_)
 .exact ha
 exact fI c [.tmp 4] (by unfold FH;exact eR)
def DY (a b:List Int):Bool:=FH a b&&FH b a
def fC:AZ:={ ins:=[BX,BX],pre:=λ(a,b,_)=>List.length a<=100000/\List.length b<=100000,out:=λ(a,b,_)=>[.p .bool (DY a b)],lend:=true }
theorem zL:Aa Tryz.prog 204 fC:=by
 refine fK [0,1,4] Tryz.func204 Tryz.ntmps204 (AF Sv AH) ?_;rintro w0 O0 ⟨a,b,u⟩ c-⟨ha,d⟩;simp only[fC,AL];repeat'(first|exact trivial|apply eS rfl|refine rX c ?_ ?_)
 .exact⟨ha,λ_=>d⟩
 exact fI c [.tmp 4] (by unfold DY;exact eR)
end
section
attribute [local go_sem] A3g
def Gu (a b:List Int):Bool:=decide (a=b)
def Xc:AZ:={ ins:=[BX,BX],pre:=λ_=>True,out:=λ(a,b,_)=>[.p .bool (Gu a b)],lend:=true }
theorem fD:Aa Tryz.prog 153 Xc:=by
 refine fK [0,1,4,5,10,14,25] Tryz.func153 Tryz.ntmps153 AH ?_;rintro w0 O0 ⟨a,b,u⟩ d ⟨⟨ha,-⟩,-⟩ -;simp only[AN]at ha;simp only[Xc,AL];repeat'(first|exact trivial|apply eS rfl|refine rX d ?_ ?_|refine rC ?_ ?_<;>intro c<;>try(cases c;done))
 .have h1:Gu a b=false:=by
   unfold Gu;rw[SF];rintro rfl;exact c rfl
  exact fI d [.tmp 4] (by rw[h1];exact eR)
 have f:a.length=b.length:=by
  have:(a.length:Int)=(b.length:Int):=by simpa using c
  exact Int.ofNat_inj.1 this
 refine AI (ι:={k:Nat//k<=a.length/\a.take k=b.take k}) (λk=>⟨[(0,.p BX a),(1,.p BX b),(5,.p (.int .i64) (k.1:Int))],[]⟩) (λk=>a.length-k.1) ⟨0,If _,rfl⟩ (eW []) (λk=>?_)
 obtain⟨k,hk,hf⟩:=k;simp only;repeat'(first|exact trivial|apply eS rfl|apply AB|refine rX d ?_ ?_|refine rC ?_ ?_<;>intro c<;>try(cases c;done))
 .exact⟨c,by rw[<-f];exact c⟩
 .have e:k<a.length:=by exact eV
  have h1:Gu a b=false:=by
   unfold Gu;rw[SF];rintro rfl;exact c rfl
  exact fI d [.tmp 4] (by rw[h1];exact eR)
 .exact eV
 .have e:k<a.length:=by exact eV
  have g:a.getD k 0=b.getD k 0:=by simpa using c
  refine⟨⟨k+1,by omega,?_⟩,by simp only;omega,AC [] rfl rfl ?_ ?_⟩
  .rw[AY a 0 e,AY b 0 O1,hf];rw[show a.getD k 0=b.getD k 0 from g]
  .exact eN
  exact eN
 have e:k=a.length:=by exact eV
 subst e;rw[R6,f,R6]at hf;have h1:Gu a b=true:=by unfold Gu;rw[hf];simp
 exact fI d [.tmp 4] (by rw[h1];exact eR)
end
section
attribute [local go_sem] A3g
def O4 (b:List Int) (n:Nat):List Int:=((List.range n).filter λ(i:Nat)=>VU b (i:Int)).map λ(i:Nat)=>(i:Int)
def Ic (b:List Int):List Int:=O4 b (64*b.length)
theorem qL (b:List Int) (n:Nat):O4 b (n+1)=O4 b n++if VU b (n:Int)=true then [(n:Int)] else []:=by
 unfold O4;rw[To,ACr,SQ]
 congr 1
 rw[Tu,AD4];split<;>rfl
theorem zM (b:List Int) (n:Nat):(O4 b n).length<=n:=by
 unfold O4;rw[Of];exact R5 (bY _ _) sc
def A3k:AZ:={ ins:=[BX],pre:=λ(b,_)=>List.length b<=100000,out:=λ(b,_)=>[.p Ee (Ic b)] }
attribute [local go_sem] A3k
theorem A6F:Aa Tryz.prog 223 A3k:=by
 refine fK [0,2,3,4,9,14] Tryz.func223 Tryz.ntmps223 (AF A3h AH) ?_;rintro w0 O0 ⟨b,u⟩ c-e;have e:b.length<=100000:=e;simp only[A3k,AL];repeat'(first|exact trivial|apply eS rfl|refine rX c ?_ ?_)
 refine AI (ι:={n:Nat//n<=64*b.length}) (λn=>⟨[(0,.p BX b),(3,.sr 18 T3 0 (O4 b n.1).length),(4,.p (.int .i64) (n.1:Int))],[(18,.arr 3 T3 (O4 b n.1))]⟩) (λn=>64*b.length-n.1) ⟨0,If _⟩ (AC [(18,.nil)] rfl rfl ?_ ?_) (λn=>?_)
 .refine eM ?_;rfl
 .refine eM ?_;rfl
 obtain⟨n,hn⟩:=n;have f:=zM b n;have hs:=qL b n;simp only;repeat'(first|exact trivial|apply eS rfl|apply AB|refine rX c ?_ ?_|refine rC ?_ ?_<;>intro a<;>try(cases a;done))
 .exact eV
 .rw[a,BY rfl]at hs;simp only[AN];dsimp only[Ty.den]at *;omega
 .exact eV
 .have d:n<64*b.length:=by exact eV
  rw[a,BY rfl]at hs;refine⟨⟨n+1,by omega⟩,by simp only;omega,AC [(18,.nm 18)] rfl rfl ?_ ?_⟩
  .simp only[hs];exact eN
  simp only[hs];exact eN
 .exact eV
 .have d:n<64*b.length:=by exact eV
  rw[a,At sc,SJ]at hs;refine⟨⟨n+1,by omega⟩,by simp only;omega,AC [(18,.nm 18)] rfl rfl ?_ ?_⟩
  .simp only[hs];exact eN
  simp only[hs];exact eN
 have d:n=64*b.length:=by exact eV
 subst d;refine E2 [18] ?_;exact fI c [.tmp 2] (by unfold Ic;exact eR)
def qM:AZ:={ ins:=[BX],pre:=λ(b,_)=>List.length b<=100000,out:=λ(b,_)=>[.p T3 ((Ic b).length:Int)],lend:=true }
theorem A3l:Aa Tryz.prog 207 qM:=by
 refine fK [0,2] Tryz.func207 Tryz.ntmps207 (AF A6F AH) ?_;rintro w0 O0 ⟨b,u⟩ a-c;simp only[qM,AL];repeat'(first|exact trivial|apply eS rfl|refine rX a ?_ ?_)
 .exact c
 exact fI a [.tmp 2]
end
section
attribute [local go_sem] J8 A3c
abbrev AJ:=ByteArray×List ByteArray×List (ByteArray×ByteArray)
abbrev d0:AJ:=(ByteArray.empty,[],[])
def Cz (s:ByteArray):Nat->List AJ->Int
 | _,[]=>-1
 | k,x :: l=>if Ab x.1 s=true then (k:Int) else Cz s (k+1) l
def Ax (l:List AJ) (s:ByteArray):Int:=Cz s 0 l
theorem Uh (s:ByteArray) (l:List AJ) {k:Nat} (h:k<l.length):Cz s k (l.drop k)=if Ab (l.getD k d0).1 s=true then (k:Int) else Cz s (k+1) (l.drop (k+1)):=by
 rw[IS h];have e:l.getD k d0=l[k]:=by simp[AS,h]
 rw[e];rfl
def Pg:AZ:={ ins:=[Fc,T9],pre:=λ_=>True,out:=λ(l,s,_)=>[.p T3 (Ax l s)] }
attribute [local go_sem] Pg
theorem M6:Aa Tryz.prog 219 Pg:=by
 refine fK [0,1,4,5,9,18] Tryz.func219 Tryz.ntmps219 AH ?_;rintro w0 O0 ⟨l,s,u⟩ c ⟨⟨d,-⟩,-⟩ -;simp only[AN]at d;simp only[Pg,AL];repeat'(first|exact trivial|apply eS rfl|refine rX c ?_ ?_)
 refine AI (ι:={k:Nat//k<=l.length/\Cz s k (l.drop k)=Ax l s}) (λk=>⟨[(0,.p Fc l),(1,.p T9 s),(5,.p (.int .i64) (k.1:Int))],[]⟩) (λk=>l.length-k.1) ⟨0,If _,rfl⟩ (eW []) (λk=>?_)
 obtain⟨k,hk,hf⟩:=k;simp only;repeat'(first|exact trivial|apply eS rfl|apply AB|refine rX c ?_ ?_|refine rC ?_ ?_<;>intro b<;>try(cases b;done))
 .exact b
 .have a:k<l.length:=by exact eV
  rw[Uh s l a,BY b]at hf;exact fI c [.tmp 4] (by rw[<-hf];exact eR)
 .exact eV
 .have a:k<l.length:=by exact eV
  rw[Uh s l a,At (by rw[b];simp)]at hf;exact⟨⟨k+1,by omega,hf⟩,by simp only;omega,eW []⟩
 have a:l.drop k=[]:=By (by exact eV);rw[a]at hf;exact fI c [.tmp 4] (by rw[<-hf];first|exact eR|refine Uf ?_;rfl)
def M7:List AJ->Int
 | []=>0
 | x :: l=>if 256<x.2.1.length\/256<x.2.2.length then 7 else M7 l
def FQ (l:List AJ):Int:=if 256<l.length then 7 else M7 l
theorem Ui (l:List AJ) {k:Nat} (h:k<l.length):M7 (l.drop k)=if 256<(l.getD k d0).2.1.length\/256<(l.getD k d0).2.2.length then 7 else M7 (l.drop (k+1)):=by
 rw[IS h];have e:l.getD k d0=l[k]:=by simp[AS,h]
 rw[e];rfl
def fE:AZ:={ ins:=[Fc],pre:=λ_=>True,out:=λ(l,_)=>[.p MU (FQ l)] }
attribute [local go_sem] fE
theorem A3m:Aa Tryz.prog 196 fE:=by
 refine fK [0,2,3,6,10,28] Tryz.func196 Tryz.ntmps196 AH ?_;rintro w0 O0 ⟨l,u⟩ b ⟨⟨d,-⟩,-⟩ -;simp only[AN]at d;simp only[fE,AL];repeat'(first|exact trivial|apply eS rfl|refine rX b ?_ ?_|refine rC ?_ ?_<;>intro a<;>try(cases a;done))
 .have h1:FQ l=7:=by unfold FQ;rw[BY (by exact eV)]
  exact fI b [.tmp 2] (by rw[h1];exact eR)
 have h1:FQ l=M7 l:=by unfold FQ;rw[At (by exact eV)]
 refine AI (ι:={k:Nat//k<=l.length/\M7 (l.drop k)=FQ l}) (λk=>⟨[(0,.p Fc l),(3,.p (.int .i64) (k.1:Int))],[]⟩) (λk=>l.length-k.1) ⟨0,If _,h1.symm⟩ (eW []) (λk=>?_)
 obtain⟨k,hk,hf⟩:=k;simp only;repeat'(first|exact trivial|apply eS rfl|apply AB|refine rX b ?_ ?_|refine rC ?_ ?_<;>intro a<;>try(cases a;done))
 .exact⟨a,λ_=>a⟩
 .have c:k<l.length:=by exact eV
  rw[Ui l c,BY (by
   rcases a with h|h
   .exact .inl (GO.1 h)
   exact .inr (GO.1 h))]at hf
  exact fI b [.tmp 2] (by rw[<-hf];exact eR)
 .exact eV
 .have c:k<l.length:=by exact eV
  rw[Ui l c,At (by
   rintro (h|h)
   .have:=R4.1 a.1;exact absurd h (Nat.not_lt.2 this)
   have:=R4.1 a.2;exact absurd h (Nat.not_lt.2 this))]at hf
  exact⟨⟨k+1,by omega,hf⟩,by simp only;omega,eW []⟩
 have c:l.drop k=[]:=By (by exact eV);rw[c]at hf;exact fI b [.tmp 2] (by rw[<-hf];first|exact eR|refine Uf ?_;rfl)
theorem HD {α:Type} (l:List α) (d:α) (p:α->Bool) {k:Nat} (h:k<l.length):(l.take (k+1)).all p=((l.take k).all p&&p (l.getD k d)):=by
 rw[AY l d h,ACX];simp
def J9 (x:AJ) (done:List ByteArray):Bool:=x.2.1.all λs=>Ac done s
def fF:AZ:={ ins:=[zF,GW],pre:=λ_=>True,out:=λ(x,l,_)=>[.p .bool (J9 x l)],lend:=true }
attribute [local go_sem] fF
theorem A3n:Aa Tryz.prog 220 fF:=by
 refine fK [0,1,2,4,5,10,20] Tryz.func220 Tryz.ntmps220 (AF Hb AH) ?_;rintro w0 O0 ⟨⟨nm,sup,d⟩,l,u⟩ c ⟨⟨-,⟨e,-⟩,-⟩,-⟩ -;simp only[AN]at e;simp only[fF,AL];repeat'(first|exact trivial|apply eS rfl|refine rX c ?_ ?_)
 refine AI (ι:={k:Nat//k<=sup.length/\(sup.take k).all (λs=>Ac l s)=true}) (λk=>⟨[(1,.p GW l),(2,.bp 2 [] 0),(5,.p (.int .i64) (k.1:Int))],[(2,.box 158 true [.p T9 nm,.p GW sup,.p qD d])]⟩) (λk=>sup.length-k.1) ⟨0,by simp⟩ (eW [(2,.nm 2)]) (λk=>?_)
 obtain⟨k,hk,hf⟩:=k;simp only;repeat'(first|exact trivial|apply eS rfl|apply AB|refine rX c ?_ ?_|refine rC ?_ ?_<;>intro b<;>try(cases b;done))
 .exact b
 .have a:k<sup.length:=by exact eV
  have h1:J9 (nm,sup,d) l=false:=by
   unfold J9;refine ACH.2 λh=>?_;have:=No.1 h _ (AD sup ByteArray.empty a);rw[b]at this;cases this
  exact fI c [.tmp 4] (by rw[h1];exact eR)
 .have:=e;exact eV
 .have a:k<sup.length:=by exact eV
  refine⟨⟨k+1,by omega,?_⟩,by simp only;omega,AC [(2,.nm 2)] rfl rfl ?_ ?_⟩
  .rw[HD sup ByteArray.empty _ a,hf];exact b
  .exact eN
  exact eN
 have a:sup.take k=sup:=An (by exact eV);rw[a]at hf;have h1:J9 (nm,sup,d) l=true:=hf;exact fI c [.tmp 4] (by rw[h1];exact eR)
def Ph (d:List AJ):Nat->List AJ->Int
 | _,[]=>0
 | k,x :: l=>if E3 x.1 false=false then 1 else if Ax d x.1<(k:Int) then 4 else Ph d (k+1) l
def Cn (d:List AJ):Int:=Ph d 0 d
theorem M8 (d l:List AJ) {k:Nat} (h:k<l.length):Ph d k (l.drop k)=if E3 (l.getD k d0).1 false=false then 1 else if Ax d (l.getD k d0).1<(k:Int) then 4 else Ph d (k+1) (l.drop (k+1)):=by
 rw[IS h];have e:l.getD k d0=l[k]:=by simp[AS,h]
 rw[e];rfl
def fG:AZ:={ ins:=[Fc],pre:=λ_=>True,out:=λ(l,_)=>[.p MU (Cn l)] }
attribute [local go_sem] fG
theorem A3o:Aa Tryz.prog 197 fG:=by
 refine fK [0,2,3,7,16,25] Tryz.func197 Tryz.ntmps197 (AF A6E (AF M6 AH)) ?_;rintro w0 O0 ⟨l,u⟩ c ⟨⟨e,-⟩,-⟩ -;simp only[AN]at e;simp only[fG,AL];repeat'(first|exact trivial|apply eS rfl|refine rX c ?_ ?_)
 refine AI (ι:={k:Nat//k<=l.length/\Ph l k (l.drop k)=Cn l}) (λk=>⟨[(0,.p Fc l),(3,.p (.int .i64) (k.1:Int))],[]⟩) (λk=>l.length-k.1) ⟨0,If _,rfl⟩ (eW []) (λk=>?_)
 obtain⟨k,hk,hf⟩:=k;simp only;repeat'(first|exact trivial|apply eS rfl|apply AB|refine rX c ?_ ?_|refine rC ?_ ?_<;>intro b<;>try(cases b;done))
 .exact b
 .have a:k<l.length:=by exact eV
  rw[M8 l l a,BY b]at hf;exact fI c [.tmp 2] (by rw[<-hf];exact eR)
 .assumption
 .rename_i d;have a:k<l.length:=by exact eV
  rw[M8 l l a,At (by rw[d];simp),BY b]at hf;exact fI c [.tmp 2] (by rw[<-hf];exact eR)
 .exact eV
 .rename_i d;have a:k<l.length:=by exact eV
  rw[M8 l l a,At (by rw[d];simp),At (AC2.2 b)]at hf;exact⟨⟨k+1,by omega,hf⟩,by simp only;omega,eW []⟩
 have a:l.drop k=[]:=By (by exact eV);rw[a]at hf;exact fI c [.tmp 2] (by rw[<-hf];first|exact eR|refine Uf ?_;rfl)
def VV (d:List AJ) (l:List ByteArray):Nat->List ByteArray->Int
 | _,[]=>0
 | k,x :: r=>if Ax d x<0 then 5 else if Ac (l.take k) x=true then 4 else VV d l (k+1) r
def LX (d:List AJ):List AJ->Int
 | []=>0
 | x :: l=>if VV d x.2.1 0 x.2.1≠0 then VV d x.2.1 0 x.2.1 else LX d l
def LY (d:List AJ):Int:=LX d d
theorem Sw (d:List AJ) (l:List ByteArray) {k:Nat} (h:k<l.length):VV d l k (l.drop k)=if Ax d (l.getD k ByteArray.empty)<0 then 5 else if Ac (l.take k) (l.getD k ByteArray.empty)=true then 4 else VV d l (k+1) (l.drop (k+1)):=by
 rw[IS h];have e:l.getD k ByteArray.empty=l[k]:=by simp[AS,h]
 rw[e];rfl
theorem fH (d l:List AJ) {k:Nat} (h:k<l.length):LX d (l.drop k)=if VV d (l.getD k d0).2.1 0 (l.getD k d0).2.1≠0 then VV d (l.getD k d0).2.1 0 (l.getD k d0).2.1 else LX d (l.drop (k+1)):=by
 rw[IS h];have e:l.getD k d0=l[k]:=by simp[AS,h]
 rw[e];rfl
def Vv:AZ:={ ins:=[Fc],pre:=λ_=>True,out:=λ(l,_)=>[.p MU (LY l)] }
attribute [local go_sem] Vv
theorem zN:Aa Tryz.prog 198 Vv:=by
 refine fK [0,2,3,4,5,9,20,29,37] Tryz.func198 Tryz.ntmps198 (AF Hb (AF M6 AH)) ?_;rintro w0 O0 ⟨l,u⟩ d ⟨⟨h,g⟩,-⟩ -;simp only[AN]at h;simp only[Vv,AL];repeat'(first|exact trivial|apply eS rfl|refine rX d ?_ ?_)
 refine AI (ι:={i:Nat//i<=l.length/\LX l (l.drop i)=LY l}) (λi=>⟨[(0,.p Fc l),(3,.p (.int .i64) (i.1:Int))],[]⟩) (λi=>l.length-i.1) ⟨0,If _,rfl⟩ (eW []) (λi=>?_)
 obtain⟨i,hi,hf⟩:=i;simp only;repeat'(first|exact trivial|apply eS rfl|refine rX d ?_ ?_|refine rC ?_ ?_<;>intro b<;>try(cases b;done))
 .exact b
 .have f:i<l.length:=by exact eV
  have j:=g _ (AD l d0 f);have m:(l.getD i d0).2.1.length<=AN:=j.2.1.1;simp only[AN]at m;rw[fH l l f]at hf;generalize (l.getD i d0).2.1=sup at *;refine AI (ι:={k:Nat//k<=sup.length/\VV l sup k (sup.drop k)=VV l sup 0 sup}) (λk=>⟨[(0,.p Fc l),(3,.p (.int .i64) (i:Int)),(4,.p GW sup),(5,.p (.int .i64) (k.1:Int))],[]⟩) (λk=>sup.length-k.1) ⟨0,If _,rfl⟩ (eW []) (λk=>?_)
  obtain⟨k,hk,c⟩:=k;simp only;repeat'(first|exact trivial|apply eS rfl|apply AB|refine rX d ?_ ?_|refine rC ?_ ?_<;>intro b<;>try(cases b;done))
  .exact b
  .have a:k<sup.length:=by exact eV
   rw[Sw l sup a,BY b]at c;rw[<-c,BY dg]at hf;exact fI d [.tmp 2] (by rw[<-hf];exact eR)
  .exact eV
  .rename_i e;have a:k<sup.length:=by exact eV
   rw[Sw l sup a,At (AC2.2 e),BY b]at c;rw[<-c,BY dg]at hf;exact fI d [.tmp 2] (by rw[<-hf];exact eR)
  .exact eV
  .rename_i e;have a:k<sup.length:=by exact eV
   rw[Sw l sup a,At (AC2.2 e),At (by rw[b];simp)]at c;exact⟨⟨k+1,by omega,c⟩,by simp only;omega,eW []⟩
  .exact eV
  have a:sup.drop k=[]:=By (by exact eV);rw[a]at c;rw[<-c,At (by simp[VV])]at hf;exact⟨⟨i+1,by omega,hf⟩,by simp only;omega,eW []⟩
 have a:l.drop i=[]:=By (by exact eV);rw[a]at hf;exact fI d [.tmp 2] (by rw[<-hf];first|exact eR|refine Uf ?_;rfl)
end
section
attribute [local go_sem] Pg fF J8 fB
theorem FI {α β:Type} (g:β->α->β) (l:List α) (d:α) (t:β) {i:Nat} (hi:i<l.length):(l.take (i+1)).foldl g t=g ((l.take i).foldl g t) (l.getD i d):=by
 rw[AY l d hi,ACG];rfl
theorem M9 (l:List ByteArray) (s:ByteArray):(Eh l s).length<=l.length+1:=by
 unfold Eh;split
 .omega
 have:=A8o (λx=>Hx x s) l;have a:atF l s<=l.length:=this;simp only[F3,OF,dO,R7];omega
def AO (l:List AJ):List ByteArray:=l.foldl (λo x=>Eh o x.1) []
theorem EF (l:List AJ) (k:Nat):(AO (l.take k)).length<=k:=by
 have key:∀(l:List AJ) (o:List ByteArray),(l.foldl (λo x=>Eh o x.1) o).length<=o.length+l.length:=by
  intro l;induction l with
  | nil=>intro o;simp
  | cons x l b =>
   intro o;have h1:=b (Eh o x.1);have a:=M9 o x.1;simp only[On,Is];omega
 have h1:=key (l.take k) [];have a:=UA k l;unfold AO;simp only[AC5]at h1;omega
def Qz:AZ:={ ins:=[Fc],pre:=λ(l,_)=>List.length l<=100000,out:=λ(l,_)=>[.p GW (AO l)] }
attribute [local go_sem] Qz
theorem aL:Aa Tryz.prog 161 Qz:=by
 refine fK [0,2,3,4,8] Tryz.func161 Tryz.ntmps161 (AF Ss AH) ?_;rintro w0 O0 ⟨l,u⟩ a-d;have d:l.length<=100000:=d;simp only[Qz,AL];repeat'(first|exact trivial|apply eS rfl|refine rX a ?_ ?_)
 refine AI (ι:={k:Nat//k<=l.length}) (λk=>⟨[(0,.p Fc l),(3,.p GW (AO (l.take k.1))),(4,.p (.int .i64) (k.1:Int))],[]⟩) (λk=>l.length-k.1) ⟨0,If _⟩ (AC [] rfl rfl ?_ ?_) (λk=>?_)
 .exact eN
 .refine eM ?_;rfl
 obtain⟨k,hk⟩:=k;have hn:=EF l k;have hs:=λh:k<l.length=>FI (λ(o:List ByteArray) (x:AJ)=>Eh o x.1) l d0 [] h;simp only;repeat'(first|exact trivial|apply eS rfl|apply AB|refine rX a ?_ ?_|refine rC ?_ ?_<;>intro c<;>try(cases c;done))
 .exact⟨c,by omega⟩
 .exact eV
 .have b:k<l.length:=by exact eV
  have e:=hs b;refine⟨⟨k+1,by omega⟩,by simp only;omega,AC [] rfl rfl ?_ ?_⟩
  .exact eN
  simp only;have e:AO (l.take (k+1))=Eh (AO (l.take k)) (l.getD k d0).1:=e;rw[e];exact eN
 have b:l.take k=l:=An (by exact eV);rw[b];exact fI a [.tmp 2]
def Ja (out:List ByteArray) (s:Bool×ByteArray) (x:AJ):Bool×ByteArray :=
 if (Ac out x.1||!J9 x out)=true then s else (true,if (!s.1||Hx x.1 s.2)=true then x.1 else s.2)
def Id (d:List AJ) (out:List ByteArray):Bool×ByteArray:=d.foldl (Ja out) (false,ByteArray.empty)
def Jb (d:List AJ):Nat->List ByteArray->List ByteArray
 | 0,out=>out
 | n+1,out=>if (Id d out).1=true then Jb d n (out++[(Id d out).2]) else out
def Bn (d:List AJ):List ByteArray:=Jb d d.length []
def Ie (d:List AJ) (out:List ByteArray):Nat:=d.countP λx=>!Ac out x.1
theorem C0 (s:ByteArray):Ab s s=true:=by unfold Ab;simp
theorem Pi (out:List ByteArray) (s x:ByteArray):Ac (out++[s]) x=(Ac out x||Ab s x):=by
 unfold Ac;simp[AD5]
theorem zO (d:List AJ) (out:List ByteArray) (h:(Id d out).1=true):∃x∈d,x.1=(Id d out).2/\Ac out x.1=false:=by
 have key:∀(l:List AJ) (s:Bool×ByteArray),(∀x∈l,x∈d)->(s.1=true->∃x∈d,x.1=s.2/\Ac out x.1=false)->(l.foldl (Ja out) s).1=true ->
   ∃x∈d,x.1=(l.foldl (Ja out) s).2/\Ac out x.1=false:=by
  intro l;induction l with
  | nil=>intro s _ hs h;exact hs h
  | cons y l i =>
   intro s e hs h;rw[On]at h ⊢;refine i _ (λx f=>e x (by simp[f])) (λb=>?_) h;unfold Ja at b ⊢;split
   .rename_i a;rw[BY a]at b;exact hs b
   rename_i a;simp only;have g:Ac out y.1=false:=by
    cases hh:Ac out y.1 with
    | false=>rfl
    | true=>rw[hh]at a;simp at a
   split
   .exact⟨y,e y sc,rfl,g⟩
   rename_i c;have:s.1=true:=by
    cases hh:s.1 with
    | true=>rfl
    | false=>rw[hh]at c;simp at c
   exact hs this
 exact key d _ (λ_ h=>h) (λh=>by cases h) h
theorem kP {d:List AJ} {out:List ByteArray} (h:(Id d out).1=true):Ie d (out++[(Id d out).2])<Ie d out:=by
 obtain⟨x,e,h1,c⟩:=zO d out h;generalize (Id d out).2=s at *;unfold Ie;have key:∀l:List AJ,(l.countP λy=>!Ac (out++[s]) y.1)<=l.countP λy=>!Ac out y.1:=by
  intro l;refine List.countP_mono_left λy _ a=>?_;rw[Pi]at a;cases hh:Ac out y.1 with
  | false=>rfl
  | true=>rw[hh]at a;simp at a
 obtain⟨f,g,rfl⟩:=List.append_of_mem e;rw[ADJ,ADJ,ACM,ACM];have i:=key f;have j:=key g;have b:Ac (out++[s]) x.1=true:=by rw[Pi,h1,C0,Bool.or_true]
 rw[b,c];simp only[ADU,ADN,AAt];simp only[AAz,ACm];omega
def fJ:AZ:={ ins:=[Fc],pre:=λ(l,_)=>List.length l<=100000,out:=λ(l,_)=>[.p GW (Bn l)] }
theorem zP:Aa Tryz.prog 199 fJ:=by
 refine fK [0,2,3,4,5,6,7,11,29,40,46] Tryz.func199 Tryz.ntmps199 (AF Hb (AF A3n AH)) ?_;rintro w0 O0 ⟨d,u⟩ j-r;have r:d.length<=100000:=r;simp only[fJ,AL];repeat'(first|exact trivial|apply eS rfl|refine rX j ?_ ?_)
 refine AI (ι:={x:Nat×List ByteArray×Bool//x.1+x.2.1.length<=d.length/\(x.2.2=true->Ie d x.2.1<=x.1/\Jb d x.1 x.2.1=Bn d)/\(x.2.2=false->x.2.1=Bn d)}) (λx=>⟨[(0,.p Fc d),(3,.sr 50 T9 0 x.1.2.1.length),(4,.p .bool x.1.2.2)],[(50,.arr 9 T9 x.1.2.1)]⟩) (λx=>(if x.1.2.2=true then x.1.1+1 else 0)) ⟨(d.length,[],true),by simp,λ_=>⟨List.countP_le_length,rfl⟩,λh=>by cases h⟩ (eW [(50,.nil)]) (λx=>?_)
 obtain⟨⟨n,out,D⟩,s,t,v⟩:=x;simp only at s t v;simp only;repeat'(first|exact trivial|apply eS rfl|refine rX j ?_ ?_|refine rC ?_ ?_<;>intro a<;>try(cases a;done))
 .subst a;obtain⟨hu,w⟩:=t rfl;have C:({ data:=#[] }:ByteArray).size<=AN:=by decide
  rw[BY C];refine AI (ι:={y:Nat×Bool×ByteArray//y.1<=d.length/\(d.take y.1).foldl (Ja out) (false,ByteArray.empty)=y.2}) (λy=>⟨[(0,.p Fc d),(3,.sr 50 T9 0 out.length),(4,.p .bool y.1.2.1),(5,.p T9 y.1.2.2),(6,.p (.int .i64) (y.1.1:Int))],[(50,.arr 9 T9 out)]⟩) (λy=>d.length-y.1.1) ⟨(0,false,ByteArray.empty),by simp,rfl⟩ (AC [(50,.nm 50)] rfl rfl ?_ ?_) (λy=>?_)
  .exact eN
  .refine eM ?_;rfl
  obtain⟨⟨k,z,b⟩,hk,c⟩:=y;simp only at hk c;have q:∀h:k<d.length,(d.take (k+1)).foldl (Ja out) (false,ByteArray.empty)=Ja out (z,b) (d.getD k d0):=λh=>by
   rw[FI (Ja out) d d0 _ h,c]
  simp only;repeat'(first|exact trivial|apply eS rfl|apply AB|refine rX j ?_ ?_|refine rC ?_ ?_<;>intro a<;>try(cases a;done))
  .exact⟨a,λ_=>a⟩
  .exact eV
  .have g:k<d.length:=by exact eV
   refine⟨⟨(k+1,z,b),by simp only;omega,?_⟩,by simp only;omega,AC [(50,.nm 50)] rfl rfl ?_ ?_⟩
   .simp only;rw[q g];unfold Ja;rw[BY];rw[Ts,SD];exact a
   .exact eN
   exact eN
  .exact λ_=>by assumption
  .assumption
  .exact eV
  .rename_i f;have g:k<d.length:=by exact eV
   refine⟨⟨(k+1,true,(d.getD k d0).1),by simp only;omega,?_⟩,by simp only;omega,AC [(50,.nm 50)] rfl rfl ?_ ?_⟩
   .simp only;rw[q g];unfold Ja;rw[At (by rw[f.1,f.2];simp),BY (by rw[Ts,SD];exact a)]
   .exact eN
   exact eN
  .exact eV
  .rename_i f;have g:k<d.length:=by exact eV
   refine⟨⟨(k+1,true,b),by simp only;omega,?_⟩,by simp only;omega,AC [(50,.nm 50)] rfl rfl ?_ ?_⟩
   .simp only;rw[q g];unfold Ja;rw[At (by rw[f.1,f.2];simp),At (by rw[Ts,SD];rintro (h|h)<;>simp_all)]
   .exact eN
   exact eN
  .simp only[AN];dsimp only[Ty.den]at *;omega
  .subst a;have l:d.take k=d:=An (by exact eV);rw[l]at c;have i:Id d out=(true,b):=c;have m:=kP (d:=d) (out:=out) (by rw[i]);rw[i]at m;obtain⟨e,rfl⟩:∃e,n=e+1:=⟨n-1,by omega⟩;have o:Jb d e (out++[b])=Bn d:=by
    rw[<-w];show _=if (Id d out).1=true then Jb d e (out++[(Id d out).2]) else out
    rw[i,BY rfl]
   have m:Ie d (out++[b])<Ie d out:=m;have B:Ie d (out++[b])<=e:=by omega
   exact⟨⟨(e,out++[b],true),by simp only[F3,R7];omega,λ_=>⟨B,o⟩,λh=>by cases h⟩,by simp,eW [(50,.nm 50)]⟩
  subst a;have l:d.take k=d:=An (by exact eV);rw[l]at c;have i:Id d out=(false,b):=c;have o:out=Bn d:=by
   rw[<-w];cases n with
   | zero=>rfl
   | succ n =>
    show _=if (Id d out).1=true then Jb d n (out++[(Id d out).2]) else out
    rw[i,At sc]
  exact⟨⟨(n,out,false),s,(λh=>by cases h),λ_=>o⟩,by simp,eW [(50,.nm 50)]⟩
 subst a;have A:=v rfl;rw[A];refine E2 [50] ?_;exact fI j [.tmp 2]
end
section
attribute [local go_sem] fE fG Vv fJ
def Ig (d:List AJ):Nat:=d.countP λx=>x.2.1.length==0
theorem kQ (d:List AJ) {k:Nat} (h:k<d.length):Ig (d.take (k+1))=Ig (d.take k)+if ((d.getD k d0).2.1.length==0)=true then 1 else 0:=by
 unfold Ig;rw[AY d d0 h,ADJ,ACM,List.countP_nil];omega
theorem zQ (d:List AJ):Ig d<=d.length:=List.countP_le_length
def BC (d:List AJ):Int :=
 if FQ d≠0 then FQ d else if Cn d≠0 then Cn d else if LY d≠0 then LY d else if Ig d≠1 then 1 else if (Bn d).length<d.length then 6 else 0
theorem Uj {d:List AJ} (h:FQ d=0):d.length<=256:=by
 unfold FQ at h;split at h
 .cases h
 omega
def Vx:AZ:={ ins:=[Fc],pre:=λ_=>True,out:=λ(l,_)=>[.p MU (BC l)] }
attribute [local go_sem] Vx
theorem zR:Aa Tryz.prog 160 Vx:=by
 refine fK [0,2,3,4,5,6,7,11,16,21,26,35,39,45] Tryz.func160 Tryz.ntmps160 (AF A3m (AF A3o (AF zN (AF zP AH)))) ?_;rintro w0 O0 ⟨d,u⟩ c - -;simp only[Vx,AL];repeat'(first|exact trivial|apply eS rfl|refine rX c ?_ ?_|refine rC ?_ ?_<;>intro a<;>try(cases a;done))
 .have h1:BC d=FQ d:=by unfold BC;rw[BY a]
  exact fI c [.tmp 2] (by rw[h1];exact eR)
 .rename_i hs;have hs:FQ d=0:=by simpa using hs
  have h1:BC d=Cn d:=by unfold BC;rw[At (by rw[hs];simp),BY a]
  exact fI c [.tmp 2] (by rw[h1];exact eR)
 .rename_i hs hn;have hs:FQ d=0:=by simpa using hs
  have hn:Cn d=0:=by simpa using hn
  have h1:BC d=LY d:=by unfold BC;rw[At (by rw[hs];simp),At (by rw[hn];simp),BY a]
  exact fI c [.tmp 2] (by rw[h1];exact eR)
 rename_i hs hn;have hs:FQ d=0:=by simpa using hs
 have hn:Cn d=0:=by simpa using hn
 have hu:LY d=0:=by simpa using a
 have i:=Uj hs;have h1:BC d=if Ig d≠1 then 1 else if (Bn d).length<d.length then 6 else 0:=by
  unfold BC;rw[At (by rw[hs];simp),At (by rw[hn];simp),At (by rw[hu];simp)]
 refine AI (ι:={k:Nat//k<=d.length}) (λk=>⟨[(0,.p Fc d),(6,.p (.int .i64) (Ig (d.take k.1):Int)),(7,.p (.int .i64) (k.1:Int))],[]⟩) (λk=>d.length-k.1) ⟨0,If _⟩ (AC [] rfl rfl ?_ ?_) (λk=>?_)
 .exact eN
 .refine eM ?_;rfl
 obtain⟨k,hk⟩:=k;have j:=zQ (d.take k);have l:=UA k d;have g:=λh:k<d.length=>kQ d h;simp only;repeat'(first|exact trivial|apply eS rfl|apply AB|refine rX c ?_ ?_|refine rC ?_ ?_<;>intro a<;>try(cases a;done))
 .exact a
 .exact eV
 .exact eV
 .have b:k<d.length:=by exact eV
  have e:=g b;rw[BY (by rw[Tx];exact Int.ofNat_eq_zero.1 a)]at e;refine⟨⟨k+1,by omega⟩,by simp only;omega,AC [] rfl rfl ?_ ?_⟩
  .exact eN
  simp only[e];exact eN
 .exact eV
 .have b:k<d.length:=by exact eV
  have e:=g b;rw[At (by rw[Tx];exact λh=>a (Int.ofNat_eq_zero.2 h))]at e;refine⟨⟨k+1,by omega⟩,by simp only;omega,AC [] rfl rfl ?_ ?_⟩
  .exact eN
  simp only[e];exact eN
 .have b:d.take k=d:=An (by exact eV);rw[b]at a;rw[BY (λh=>a (by rw[h];rfl))]at h1;exact fI c [.tmp 2] (by rw[h1];exact eR)
 .show d.length<=100000;omega
 .rename_i f;have b:d.take k=d:=An (by exact eV);rw[b]at f;have f:(Ig d:Int)=1:=by simpa using f
  rw[At O1,BY (GO.1 a)]at h1;exact fI c [.tmp 2] (by rw[h1];exact eR)
 rename_i f;have b:d.take k=d:=An (by exact eV);rw[b]at f;have f:(Ig d:Int)=1:=by simpa using f
 rw[At O1,At (λh=>absurd (R4.1 a) (Nat.not_le.2 h))]at h1;exact fI c [.tmp 2] (by rw[h1];exact eR)
end
section
attribute [local go_sem] Pg J8 fB
def KU (o:List ByteArray) (s:ByteArray):List ByteArray:=if Ac o s=true then o else o++[s]
def NA (d:List AJ) (s:ByteArray):List ByteArray:=(d.getD (Ax d s).toNat d0).2.1
def Ih (d:List AJ):Nat->Nat->List ByteArray->List ByteArray
 | 0,_,o=>o
 | n+1,i,o=>if i<o.length then Ih d n (i+1) ((NA d (o.getD i ByteArray.empty)).foldl KU o) else o
def KV (l:List ByteArray):List ByteArray:=l.foldl Eh []
theorem aM (l:List ByteArray):(KV l).length<=l.length:=by
 have key:∀(l o:List ByteArray),(l.foldl Eh o).length<=o.length+l.length:=by
  intro l;induction l with
  | nil=>intro o;simp
  | cons x l a =>
   intro o;have h1:=a (Eh o x);have b:=M9 o x;simp only[On,Is];omega
 have:=key l [];simpa[KV] using this
def LZ (d:List AJ) (s:ByteArray):List ByteArray:=if Ax d s<0 then [] else KV (Ih d d.length 0 [s])
def Q0 (d:List AJ):Prop:=∀x∈d,∀s∈x.2.1,0<=Ax d s
theorem aN (s:ByteArray):∀(l:List AJ) (k:Nat),Cz s k l=-1\/((k:Int)<=Cz s k l/\Cz s k l<(k:Int)+l.length/\Ab (l.getD ((Cz s k l).toNat-k) d0).1 s=true)
 | [],_=>.inl rfl
 | x :: l,k=>by
  simp only[Cz];split
  .rename_i h;right;refine⟨by omega,by simp only[Is];omega,?_⟩;have:((k:Int).toNat-k)=0:=by omega
   rw[this];exact h
  rcases aN s l (k+1) with h|⟨h1,b,a⟩
  .exact .inl h
  right;refine⟨by omega,by simp only[Is];omega,?_⟩;have:((Cz s (k+1) l).toNat-k)=((Cz s (k+1) l).toNat-(k+1))+1:=by omega
  rw[this];exact a
theorem DZ (d:List AJ) (s:ByteArray):Ax d s<0\/(0<=Ax d s/\Ax d s<(d.length:Int)/\Ab (d.getD (Ax d s).toNat d0).1 s=true):=by
 rcases aN s d 0 with h|⟨h1,a,b⟩
 .left;show Cz s 0 d<0;omega
 have a:Ax d s<((0:Nat):Int)+d.length:=a;exact .inr ⟨h1,by omega,b⟩
theorem X1 {a b:ByteArray}:Ab a b=true↔a.toList=b.toList:=by unfold Ab;simp
theorem EH {a b:ByteArray} (h:Ab a b=true):Ab b a=true:=X1.2 (X1.1 h).symm
theorem Be {a b c:ByteArray} (h:Ab a b=true) (g:Ab b c=true):Ab a c=true:=X1.2 ((X1.1 h).trans (X1.1 g))
structure fL (d:List AJ) (o:List ByteArray):Prop where
 decl:∀s∈o,0<=Ax d s
 nd:o.Pairwise λa b=>Ab a b=false
theorem La (d:List AJ):∀ {o:List ByteArray},fL d o->(o.map λs=>(Ax d s).toNat).Nodup
 | [],_=>by simp
 | s :: o,h=>by
  rw[SK,gO];have c:=aS.1 h.nd;refine⟨λi=>?_,La d ⟨λx a=>h.decl x (by simp[a]),c.2⟩⟩;obtain⟨x,a,e⟩:=DO.1 i;have h1:=h.decl s sc;have j:=h.decl x (by simp[a]);rcases DZ d s with g|⟨_,_,f⟩
  .omega
  rcases DZ d x with g|⟨_,_,b⟩
  .omega
  rw[e]at b;have:=c.1 x a;rw[Be (EH f) b]at this;cases this
theorem fL.len {d:List AJ} {o:List ByteArray} (h:fL d o):o.length<=d.length:=by
 have:=Ed d.length (o.map λs=>(Ax d s).toNat) (La d h) (λj a=>by
  obtain⟨s,hs,rfl⟩:=DO.1 a;have h1:=h.decl s hs;rcases DZ d s with g|⟨_,g,_⟩<;>omega)
 simpa using this
theorem Q1 {o:List ByteArray} {s:ByteArray} (h:Ac o s=false):∀x∈o,Ab x s=false:=λx a=>by
 cases hh:Ab x s with
 | false=>rfl
 | true=>exact absurd h (by rw[show Ac o s=true from R9.2 ⟨x,a,hh⟩];simp)
theorem vN {d:List AJ} {o:List ByteArray} (h:fL d o) {s:ByteArray} (hs:0<=Ax d s):fL d (KU o s):=by
 unfold KU;split
 .exact h
 rename_i e;have e:Ac o s=false:=by simpa using e
 refine⟨λx c=>?_,?_⟩
 .rcases ON.1 c with c|c
  .exact h.decl x c
  have:x=s:=by simpa using c
  rw[this];exact hs
 rw[ACs];refine⟨h.nd,by simp,λa ha b f=>?_⟩;have:b=s:=by simpa using f
 rw[this];exact Q1 e a ha
theorem kR {d:List AJ}:∀ {l o:List ByteArray},(∀s∈l,0<=Ax d s)->fL d o->fL d (l.foldl KU o)/\o.length<=(l.foldl KU o).length
 | [],o,_,h=>⟨h,OR _⟩
 | s :: l,o,a,h=>by
  obtain⟨b,c⟩:=kR (l:=l) (λx e=>a x (by simp[e])) (vN h (a s sc));refine⟨b,R5 ?_ c⟩;unfold KU;split<;>simp
theorem kS {d:List AJ} (b:Q0 d) (s:ByteArray):∀x∈NA d s,0<=Ax d x:=by
 intro x a;unfold NA at a;by_cases h:(Ax d s).toNat<d.length
 .exact b _ (AD d d0 h) x a
 rw[AS,SA O1]at a;cases a
def qN:AZ:={ ins:=[Fc,T9],pre:=λ(d,_,_)=>Q0 d/\List.length d<=256,out:=λ(d,s,_)=>[.p GW (LZ d s)] }
theorem A3p:Aa Tryz.prog 222 qN:=by
 refine fK [0,1,4,5,6,7,8,9,10,14,20,36,45,56] Tryz.func222 Tryz.ntmps222 (AF M6 (AF Hb (AF Ss AH))) ?_;rintro w0 O0 ⟨d,s,u⟩ b ⟨⟨Q,G⟩,-⟩ ⟨O,z⟩;have z:d.length<=256:=z;simp only[qN,AL];repeat'(first|exact trivial|apply eS rfl|refine rX b ?_ ?_|refine rC ?_ ?_<;>intro a<;>try(cases a;done))
 .have h1:LZ d s=[]:=by unfold LZ;rw[BY a]
  exact fI b [.tmp 4] (by rw[h1];exact eR)
 have h1:LZ d s=KV (Ih d d.length 0 [s]):=by unfold LZ;rw[At (AC2.2 a)]
 have F:fL d [s]:=⟨λx y=>by
  have:x=s:=by simpa using y
  rw[this];exact a,by simp⟩
 refine AI (ι:={x:Nat×List ByteArray//x.1<=x.2.length/\fL d x.2/\Ih d (d.length-x.1) x.1 x.2=Ih d d.length 0 [s]}) (λx=>⟨[(0,.p Fc d),(1,.p T9 s),(5,.sr 16 T9 0 x.1.2.length),(6,.p (.int .i64) (x.1.1:Int))],[(16,.arr 9 T9 x.1.2)]⟩) (λx=>d.length-x.1.1) ⟨(0,[s]),by simp,F,rfl⟩ (eW [(16,.nm 16)]) (λx=>?_)
 obtain⟨⟨i,o⟩,hi,c,t⟩:=x;simp only at hi c t;have U:=c.len;simp only;repeat'(first|exact trivial|apply eS rfl|refine rX b ?_ ?_|refine rC ?_ ?_<;>intro a<;>try(cases a;done))
 .have q:i<o.length:=by exact eV
  have A:=c.decl _ (AD o ByteArray.empty q);refine⟨a,A,?_⟩;rcases DZ d (o.getD i ByteArray.empty) with g|⟨_,g,_⟩
  .omega
  exact g
 .have q:i<o.length:=by exact eV
  have A:=c.decl _ (AD o ByteArray.empty q);have K:=kS O (o.getD i ByteArray.empty);have C:Ih d (d.length-(i+1)) (i+1) ((NA d (o.getD i ByteArray.empty)).foldl KU o)=Ih d d.length 0 [s]:=by
   rw[<-t];obtain⟨m,B⟩:∃m,d.length-i=m+1:=⟨d.length-i-1,by omega⟩;have H:d.length-(i+1)=m:=by omega
   rw[B,H];show _=if i<o.length then Ih d m (i+1) ((NA d (o.getD i ByteArray.empty)).foldl KU o) else o
   rw[BY q]
  have M:(NA d (o.getD i ByteArray.empty)).length<=AN:=by
   rcases DZ d (o.getD i ByteArray.empty) with g|⟨_,g,_⟩
   .omega
   exact(G _ (AD d d0 (k:=(Ax d (o.getD i ByteArray.empty)).toNat) O1)).2.1.1
  have N:(List.getD d (Ax d (o.getD i ByteArray.empty)).toNat (ByteArray.empty,[],[])).2.1=NA d (o.getD i ByteArray.empty):=rfl;rw[N];generalize NA d (o.getD i ByteArray.empty)=sup at *;simp only[AN]at M;refine AI (ι:={k:Nat//k<=sup.length}) (λk=>⟨[(0,.p Fc d),(1,.p T9 s),(5,.sr 16 T9 0 ((sup.take k.1).foldl KU o).length),(6,.p (.int .i64) (i:Int)),(7,.p GW sup),(8,.p (.int .i64) (k.1:Int))],[(16,.arr 9 T9 ((sup.take k.1).foldl KU o))]⟩) (λk=>sup.length-k.1) ⟨0,If _⟩ (AC [(16,.nm 16)] rfl rfl ?_ ?_) (λk=>?_)
  .refine eM ?_;rfl
  .refine eM ?_;rfl
  obtain⟨k,hk⟩:=k;have w:=kR (l:=sup.take k) (o:=o) (λx y=>K x (iS y)) c;have S:=w.1.len;have E:=λh:k<sup.length=>FI KU sup ByteArray.empty o h;simp only;generalize D:(sup.take k).foldl KU o=n at *;repeat'(first|exact trivial|apply eS rfl|apply AB|refine rX b ?_ ?_|refine rC ?_ ?_<;>intro a<;>try(cases a;done))
  .exact a
  .refine⟨by exact eV,?_⟩;simp only[AN];dsimp only[Ty.den]at *;omega
  .exact eV
  .have f:k<sup.length:=by exact eV
   have e:=E f;have r:KU n (sup.getD k ByteArray.empty)=n++[sup.getD k ByteArray.empty]:=by unfold KU;rw[At (by rw[a];simp)]
   rw[r]at e;refine⟨⟨k+1,by omega⟩,by simp only;omega,AC [(16,.nm 16)] rfl rfl ?_ ?_⟩
   .simp only[e];exact eN
   simp only[e];exact eN
  .exact eV
  .have f:k<sup.length:=by exact eV
   have e:=E f;have r:KU n (sup.getD k ByteArray.empty)=n:=by unfold KU;rw[BY a]
   rw[r]at e;refine⟨⟨k+1,by omega⟩,by simp only;omega,AC [(16,.nm 16)] rfl rfl ?_ ?_⟩
   .simp only[e];exact eN
   simp only[e];exact eN
  .exact eV
  have f:sup.take k=sup:=An (by exact eV);rw[f]at D;rw[D]at C;have J:=w.1;have T:=w.2;exact⟨⟨(i+1,n),by simp only;omega,J,C⟩,by simp only;omega,eW [(16,.nm 16)]⟩
 have I:o=Ih d d.length 0 [s]:=by
  rw[<-t];cases B:d.length-i with
  | zero=>rfl
  | succ m =>
   show _=if i<o.length then _ else o
   rw[At (by exact eV)]
 rw[<-I]at h1;refine AI (ι:={j:Nat//j<=o.length}) (λj=>⟨[(0,.p Fc d),(5,.sr 16 T9 0 o.length),(9,.p GW ((o.take j.1).foldl Eh [])),(10,.p (.int .i64) (j.1:Int))],[(16,.arr 9 T9 o)]⟩) (λj=>o.length-j.1) ⟨0,If _⟩ (AC [(16,.nm 16)] rfl rfl ?_ ?_) (λj=>?_)
 .exact eN
 .refine eM ?_;rfl
 obtain⟨j,R⟩:=j;have L:=λh:j<o.length=>FI Eh o ByteArray.empty [] h;simp only;repeat'(first|exact trivial|apply eS rfl|apply AB|refine rX b ?_ ?_|refine rC ?_ ?_<;>intro a<;>try(cases a;done))
 .refine⟨a,?_⟩;have:=aM (o.take j);have P:=UA j o;unfold KV at this;dsimp only[Ty.den]at *;omega
 .exact eV
 .have v:j<o.length:=by exact eV
  have e:=L v;refine⟨⟨j+1,by omega⟩,by simp only;omega,AC [(16,.nm 16)] rfl rfl ?_ ?_⟩
  .exact eN
  simp only[e];exact eN
 have v:o.take j=o:=An (by exact eV);rw[v];exact fI b [.tmp 4] (by rw[h1];unfold KV;exact eR)
end
section
attribute [local go_sem] Pg J8 fB
def Fd (s:ByteArray) (o:List ByteArray) (x:AJ):List ByteArray:=if (Ac x.2.1 s&&!Ac o x.1)=true then o++[x.1] else o
def Co (d:List AJ):Nat->Nat->List ByteArray->List ByteArray
 | 0,_,o=>o
 | n+1,i,o=>if i<o.length then Co d n (i+1) (d.foldl (Fd (o.getD i ByteArray.empty)) o) else o
def Cp (d:List AJ) (s:ByteArray):List ByteArray:=if Ax d s<0 then [] else KV (Co d d.length 0 [s])
theorem Xd (s:ByteArray):∀(l:List AJ) (k:Nat) (x:AJ),x∈l->Ab x.1 s=true->0<=Cz s k l
 | y :: l,k,x,a,h=>by
  simp only[Cz];split
  .omega
  rename_i b;rcases Do.1 a with rfl|a
  .exact absurd h b
  exact Xd s l (k+1) x a h
theorem Dh {d:List AJ} {x:AJ} (a:x∈d):0<=Ax d x.1:=Xd x.1 d 0 x a (C0 _)
theorem A6G {d:List AJ} {o:List ByteArray} (h:fL d o) (s:ByteArray) {x:AJ} (b:x∈d):fL d (Fd s o x):=by
 unfold Fd;split
 .rename_i a;rw[As,SD]at a;have:=vN h (Dh b);unfold KU at this
  rwa [At (by rw[a.2];simp)]at this
 exact h
theorem Xe {d:List AJ} (s:ByteArray):∀ {l:List AJ} {o:List ByteArray},(∀x∈l,x∈d)->fL d o->fL d (l.foldl (Fd s) o)/\o.length<=(l.foldl (Fd s) o).length
 | [],o,_,h=>⟨h,OR _⟩
 | x :: l,o,a,h=>by
  obtain⟨b,c⟩:=Xe s (l:=l) (λy e=>a y (by simp[e])) (A6G h s (a x sc));refine⟨b,R5 ?_ c⟩;unfold Fd;split<;>simp
theorem Sx (s:ByteArray) {i:Nat}:∀ {l:List AJ} {o:List ByteArray},i<o.length->(l.foldl (Fd s) o).getD i ByteArray.empty=o.getD i ByteArray.empty
 | [],_,_=>rfl
 | x :: l,o,h=>by
  have a:i<(Fd s o x).length/\(Fd s o x).getD i ByteArray.empty=o.getD i ByteArray.empty:=by
   unfold Fd;split
   .refine⟨by rw[F3];omega,?_⟩;simp only[AS];rw[TO h]
   exact⟨h,rfl⟩
  rw[On,Sx s a.1,a.2]
def fN:AZ:={ ins:=[Fc,T9],pre:=λ(d,_,_)=>List.length d<=256,out:=λ(d,s,_)=>[.p GW (Cp d s)] }
attribute [local go_sem] fN
theorem A3q:Aa Tryz.prog 200 fN:=by
 refine fK [0,1,4,5,6,7,8,9,13,19,25,47,59] Tryz.func200 Tryz.ntmps200 (AF M6 (AF Hb (AF Ss AH))) ?_;rintro w0 O0 ⟨d,s,u⟩ b-y;have y:d.length<=256:=y;simp only[fN,AL];repeat'(first|exact trivial|apply eS rfl|refine rX b ?_ ?_|refine rC ?_ ?_<;>intro a<;>try(cases a;done))
 .have h1:Cp d s=[]:=by unfold Cp;rw[BY a]
  exact fI b [.tmp 4] (by rw[h1];exact eR)
 have h1:Cp d s=KV (Co d d.length 0 [s]):=by unfold Cp;rw[At (AC2.2 a)]
 have F:fL d [s]:=⟨λx v=>by
  have:x=s:=by simpa using v
  rw[this];exact a,by simp⟩
 refine AI (ι:={x:Nat×List ByteArray//x.1<=x.2.length/\fL d x.2/\Co d (d.length-x.1) x.1 x.2=Co d d.length 0 [s]}) (λx=>⟨[(0,.p Fc d),(5,.sr 15 T9 0 x.1.2.length),(6,.p (.int .i64) (x.1.1:Int))],[(15,.arr 9 T9 x.1.2)]⟩) (λx=>d.length-x.1.1) ⟨(0,[s]),by simp,F,rfl⟩ (eW [(15,.nm 15)]) (λx=>?_)
 obtain⟨⟨i,o⟩,hi,q,r⟩:=x;simp only at hi q r;have P:=q.len;simp only;repeat'(first|exact trivial|apply eS rfl|refine rX b ?_ ?_|refine rC ?_ ?_<;>intro a<;>try(cases a;done))
 .have z:i<o.length:=by exact eV
  have B:Co d (d.length-(i+1)) (i+1) (d.foldl (Fd (o.getD i ByteArray.empty)) o)=Co d d.length 0 [s]:=by
   rw[<-r];obtain⟨m,A⟩:∃m,d.length-i=m+1:=⟨d.length-i-1,by omega⟩;have G:d.length-(i+1)=m:=by omega
   rw[A,G];show _=if i<o.length then Co d m (i+1) (d.foldl (Fd (o.getD i ByteArray.empty)) o) else o
   rw[BY z]
  refine AI (ι:={k:Nat//k<=d.length}) (λk=>⟨[(0,.p Fc d),(5,.sr 15 T9 0 ((d.take k.1).foldl (Fd (o.getD i ByteArray.empty)) o).length),(6,.p (.int .i64) (i:Int)),(7,.p (.int .i64) (k.1:Int))],[(15,.arr 9 T9 ((d.take k.1).foldl (Fd (o.getD i ByteArray.empty)) o))]⟩) (λk=>d.length-k.1) ⟨0,If _⟩ (AC [(15,.nm 15)] rfl rfl ?_ ?_) (λk=>?_)
  .refine eM ?_;rfl
  .refine eM ?_;rfl
  obtain⟨k,hk⟩:=k;have g:=Xe (o.getD i ByteArray.empty) (l:=d.take k) (o:=o) (λx v=>iS v) q;have N:=g.1.len;have E:=λh:k<d.length=>FI (Fd (o.getD i ByteArray.empty)) d d0 o h;have D:((d.take k).foldl (Fd (o.getD i ByteArray.empty)) o).getD i ByteArray.empty=o.getD i ByteArray.empty:=Sx _ z;simp only;generalize C:(d.take k).foldl (Fd (o.getD i ByteArray.empty)) o=f at *;repeat'(first|exact trivial|apply eS rfl|apply AB|refine rX b ?_ ?_|refine rC ?_ ?_<;>intro a<;>try(cases a;done))
  .have M:=g.2;refine⟨a,?_,λ_=>a⟩;dsimp only[Ty.den]at *;omega
  .refine⟨by assumption,?_⟩;simp only[AN];dsimp only[Ty.den]at *;omega
  .exact eV
  .have c:k<d.length:=by exact eV
   have e:=E c;rw[D]at a;have n:Fd (o.getD i ByteArray.empty) f (d.getD k d0)=f++[(d.getD k d0).1]:=by
    unfold Fd;rw[BY (by rw[As,SD];exact a)]
   rw[n]at e;refine⟨⟨k+1,by omega⟩,by simp only;omega,AC [(15,.nm 15)] rfl rfl ?_ ?_⟩
   .simp only[e];exact eN
   simp only[e];exact eN
  .exact eV
  .have c:k<d.length:=by exact eV
   have e:=E c;rw[D]at a;have n:Fd (o.getD i ByteArray.empty) f (d.getD k d0)=f:=by
    unfold Fd;rw[At];rw[As,SD];rintro⟨h1,w⟩;rw[a h1]at w;cases w
   rw[n]at e;refine⟨⟨k+1,by omega⟩,by simp only;omega,AC [(15,.nm 15)] rfl rfl ?_ ?_⟩
   .simp only[e];exact eN
   simp only[e];exact eN
  .exact eV
  have c:d.take k=d:=An (by exact eV);rw[c]at C;rw[C]at B;have I:=g.1;have O:=g.2;exact⟨⟨(i+1,f),by simp only;omega,I,B⟩,by simp only;omega,eW [(15,.nm 15)]⟩
 have H:o=Co d d.length 0 [s]:=by
  rw[<-r];cases A:d.length-i with
  | zero=>rfl
  | succ m =>
   show _=if i<o.length then _ else o
   rw[At (by exact eV)]
 rw[<-H]at h1;refine AI (ι:={j:Nat//j<=o.length}) (λj=>⟨[(0,.p Fc d),(5,.sr 15 T9 0 o.length),(8,.p GW ((o.take j.1).foldl Eh [])),(9,.p (.int .i64) (j.1:Int))],[(15,.arr 9 T9 o)]⟩) (λj=>o.length-j.1) ⟨0,If _⟩ (AC [(15,.nm 15)] rfl rfl ?_ ?_) (λj=>?_)
 .exact eN
 .refine eM ?_;rfl
 obtain⟨j,L⟩:=j;have J:=λh:j<o.length=>FI Eh o ByteArray.empty [] h;simp only;repeat'(first|exact trivial|apply eS rfl|apply AB|refine rX b ?_ ?_|refine rC ?_ ?_<;>intro a<;>try(cases a;done))
 .refine⟨a,?_⟩;have:=aM (o.take j);have K:=UA j o;unfold KV at this;dsimp only[Ty.den]at *;omega
 .exact eV
 .have t:j<o.length:=by exact eV
  have e:=J t;refine⟨⟨j+1,by omega⟩,by simp only;omega,AC [(15,.nm 15)] rfl rfl ?_ ?_⟩
  .exact eN
  simp only[e];exact eN
 have t:o.take j=o:=An (by exact eV);rw[t];exact fI b [.tmp 4] (by rw[h1];unfold KV;exact eR)
end
section
attribute [local go_sem] Pg fB qN J8
def Fe (d:List AJ) (o:List ByteArray) (x:ByteArray):List ByteArray:=if 0<=Ax d x then Eh o x else o
def Bi (d:List AJ) (l:List ByteArray):List ByteArray:=l.foldl (Fe d) []
theorem KA (d:List AJ) (l:List ByteArray):(Bi d l).length<=l.length:=by
 have key:∀(l o:List ByteArray),(l.foldl (Fe d) o).length<=o.length+l.length:=by
  intro l;induction l with
  | nil=>intro o;simp
  | cons x l a =>
   intro o;have h1:=a (Fe d o x);have b:(Fe d o x).length<=o.length+1:=by
    unfold Fe;split
    .exact M9 o x
    omega
   simp only[On,Is];omega
 have:=key l [];simpa[Bi] using this
def Sy:AZ:={ ins:=[Fc,GW],pre:=λ(_,l,_)=>List.length l<=100000,out:=λ(d,l,_)=>[.p GW (Bi d l)] }
attribute [local go_sem] Sy
theorem kT:Aa Tryz.prog 221 Sy:=by
 refine fK [0,1,4,5,6,10,19] Tryz.func221 Tryz.ntmps221 (AF M6 (AF Ss AH)) ?_;rintro w0 O0 ⟨d,l,u⟩ c-f;have f:l.length<=100000:=f;simp only[Sy,AL];repeat'(first|exact trivial|apply eS rfl|refine rX c ?_ ?_)
 refine AI (ι:={k:Nat//k<=l.length}) (λk=>⟨[(0,.p Fc d),(1,.p GW l),(5,.p GW (Bi d (l.take k.1))),(6,.p (.int .i64) (k.1:Int))],[]⟩) (λk=>l.length-k.1) ⟨0,If _⟩ (AC [] rfl rfl ?_ ?_) (λk=>?_)
 .exact eN
 .refine eM ?_;rfl
 obtain⟨k,hk⟩:=k;have hn:=KA d (l.take k);have g:=UA k l;have hs:=λh:k<l.length=>FI (Fe d) l ByteArray.empty [] h;simp only;repeat'(first|exact trivial|apply eS rfl|apply AB|refine rX c ?_ ?_|refine rC ?_ ?_<;>intro b<;>try(cases b;done))
 .exact b
 .exact⟨by assumption,by omega⟩
 .exact eV
 .have a:k<l.length:=by exact eV
  have e:Bi d (l.take (k+1))=Fe d (Bi d (l.take k)) (l.getD k ByteArray.empty):=hs a;unfold Fe at e;rw[BY b]at e;refine⟨⟨k+1,by omega⟩,by simp only;omega,AC [] rfl rfl ?_ ?_⟩
  .exact eN
  simp only[e];exact eN
 .exact eV
 .have a:k<l.length:=by exact eV
  have e:Bi d (l.take (k+1))=Fe d (Bi d (l.take k)) (l.getD k ByteArray.empty):=hs a;unfold Fe at e;rw[At (ABE.2 b)]at e;refine⟨⟨k+1,by omega⟩,by simp only;omega,AC [] rfl rfl ?_ ?_⟩
  .exact eN
  simp only[e];exact eN
 have a:l.take k=l:=An (by exact eV);rw[a];exact fI c [.tmp 4]
def vO (d:List AJ) (all:List ByteArray) (i:Nat) (k:Nat):Bool:=(k:Int)==(i:Int)||!Ac (LZ d (all.getD i ByteArray.empty)) (all.getD k ByteArray.empty)
def Q2 (d:List AJ) (all:List ByteArray) (i n:Nat):Bool:=(List.range n).all (vO d all i)
def Q3 (d:List AJ) (all:List ByteArray) (n:Nat):List ByteArray:=((List.range n).filter λi=>Q2 d all i all.length).map λi=>all.getD i ByteArray.empty
def A9 (d:List AJ) (l:List ByteArray):List ByteArray:=Q3 d (Bi d l) (Bi d l).length
theorem zS (d:List AJ) (all:List ByteArray) (n:Nat):Q3 d all (n+1)=Q3 d all n++if Q2 d all n all.length=true then [all.getD n ByteArray.empty] else []:=by
 unfold Q3;rw[To,ACr,SQ]
 congr 1
 rw[Tu,AD4];split<;>rfl
theorem kU (d:List AJ) (all:List ByteArray) (n:Nat):(Q3 d all n).length<=n:=by
 unfold Q3;rw[Of];exact R5 (bY _ _) sc
theorem qO (d:List AJ) (all:List ByteArray) (i n:Nat):Q2 d all i (n+1)=(Q2 d all i n&&vO d all i n):=by
 unfold Q2;rw[To,ACX];simp
def NB:AZ:={ ins:=[Fc,GW],pre:=λ(d,l,_)=>Q0 d/\List.length d<=256/\List.length l<=100000,out:=λ(d,l,_)=>[.p GW (A9 d l)] }
attribute [local go_sem] NB
theorem Xf:Aa Tryz.prog 206 NB:=by
 refine fK [0,1,4,5,6,7,8,9,10,17,29,47] Tryz.func206 Tryz.ntmps206 (AF kT (AF A3p (AF Hb AH))) ?_;rintro w0 O0 ⟨d,l,u⟩ c-⟨n,f,g⟩;have f:d.length<=256:=f;have g:l.length<=100000:=g;have m:A9 d l=Q3 d (Bi d l) (Bi d l).length:=rfl;have o:=KA d l;simp only[NB,AL];repeat'(first|exact trivial|apply eS rfl|refine rX c ?_ ?_)
 .exact g
 rw[m];generalize Bi d l=all at *;refine AI (ι:={i:Nat//i<=all.length}) (λi=>⟨[(0,.p Fc d),(5,.sr 54 T9 0 (Q3 d all i.1).length),(6,.p GW all),(7,.p (.int .i64) (i.1:Int))],[(54,.arr 9 T9 (Q3 d all i.1))]⟩) (λi=>all.length-i.1) ⟨0,If _⟩ (AC [(54,.nil)] rfl rfl ?_ ?_) (λi=>?_)
 .refine eM ?_;rfl
 .refine eM ?_;rfl
 obtain⟨i,hi⟩:=i;have q:=kU d all i;have b:=zS d all i;simp only;repeat'(first|exact trivial|apply eS rfl|refine rX c ?_ ?_|refine rC ?_ ?_<;>intro a<;>try(cases a;done))
 .exact⟨a,n,f⟩
 .have h:i<all.length:=by exact eV
  refine AI (ι:={k:Nat//k<=all.length}) (λk=>⟨[(0,.p Fc d),(5,.sr 54 T9 0 (Q3 d all i).length),(6,.p GW all),(7,.p (.int .i64) (i:Int)),(8,.p GW (LZ d (all.getD i ByteArray.empty))),(9,.p .bool (Q2 d all i k.1)),(10,.p (.int .i64) (k.1:Int))],[(54,.arr 9 T9 (Q3 d all i))]⟩) (λk=>all.length-k.1) ⟨0,If _⟩ (AC [(54,.nm 54)] rfl rfl ?_ ?_) (λk=>?_)
  .exact eN
  .refine eM ?_;rfl
  obtain⟨k,hk⟩:=k;have j:=qO d all i k;simp only;repeat'(first|exact trivial|apply eS rfl|apply AB|refine rX c ?_ ?_|refine rC ?_ ?_<;>intro a<;>try(cases a;done))
  .exact λ_=>a
  .exact eV
  .have e:k<all.length:=by exact eV
   refine⟨⟨k+1,by omega⟩,by simp only;omega,AC [(54,.nm 54)] rfl rfl ?_ ?_⟩
   .exact eN
   simp only[j];unfold vO;exact eN
  .refine⟨by assumption,?_⟩;simp only[AN];omega
  .exact eV
  .have e:k=all.length:=by exact eV
   subst e;rw[a,BY rfl]at b;refine⟨⟨i+1,by omega⟩,by simp only;omega,AC [(54,.nm 54)] rfl rfl ?_ ?_⟩
   .simp only[b];exact eN
   simp only[b];exact eN
  .exact eV
  have e:k=all.length:=by exact eV
  subst e;rw[a,At sc,SJ]at b;refine⟨⟨i+1,by omega⟩,by simp only;omega,AC [(54,.nm 54)] rfl rfl ?_ ?_⟩
  .simp only[b];exact eN
  simp only[b];exact eN
 have h:i=all.length:=by exact eV
 subst h;refine E2 [54] ?_;exact fI c [.tmp 4]
end
section
attribute [local go_sem] LV
def zT (b:List Int) (x:Int):List Int:=b.set (x.tdiv 64).toNat (Cs .or .u64 (b.getD (x.tdiv 64).toNat 0) (dQ .u64 1 (x.tmod 64)))
def ofL (l:List Int):List Int:=l.foldl zT (List.replicate 64 0)
def okB (x:Int):Bool:=!(decide (x<0)||decide (4095<x))
def ofF (l:List Int):List Int×Int:=if l.all okB=true then (BQ (ofL l),0) else ([],2)
theorem Q4 (l:List Int):(ofL l).length=64:=by
 have key:∀(l b:List Int),(l.foldl zT b).length=b.length:=by
  intro l;induction l with
  | nil=>intro b;rfl
  | cons x l a =>
   intro b;rw[On,a];simp[zT]
 unfold ofL;rw[key];simp
def ofS:AZ:={ ins:=[Ee],pre:=λ_=>True,out:=λ(l,_)=>[.p BX (ofF l).1,.p MU (ofF l).2] }
theorem ABq:Aa Tryz.prog 202 ofS:=by
 refine fK [0,2,3,4,5,10,24] Tryz.func202 Tryz.ntmps202 (AF OL AH) ?_;rintro w0 O0 ⟨l,u⟩ c ⟨⟨g,-⟩,-⟩ -;simp only[AN]at g;simp only[ofS,AL];repeat'(first|exact trivial|apply eS rfl|refine rX c ?_ ?_)
 .simp only[AN];omega
 refine AI (ι:={k:Nat//k<=l.length/\(l.take k).all okB=true}) (λk=>⟨[(0,.p Ee l),(4,.sr 6 Sq 0 (ofL (l.take k.1)).length),(5,.p (.int .i64) (k.1:Int))],[(6,.arr 186 Sq (ofL (l.take k.1)))]⟩) (λk=>l.length-k.1) ⟨0,If _,rfl⟩ (AC [(6,.nm 6)] rfl rfl ?_ ?_) (λk=>?_)
 .refine eM ?_;rfl
 .refine eM ?_;rfl
 obtain⟨k,hk,hf⟩:=k;have i:=Q4 (l.take k);have hs:∀h:k<l.length,ofL (l.take (k+1))=zT (ofL (l.take k)) (l.getD k 0):=λh=>FI zT l 0 _ h;simp only;repeat'(first|exact trivial|apply eS rfl|apply AB|refine rX c ?_ ?_|refine rC ?_ ?_<;>intro a<;>try(cases a;done))
 .exact⟨a,λ_=>a⟩
 .have b:k<l.length:=by exact eV
  have h1:ofF l=([],2):=by
   unfold ofF;rw[At];intro h;have:=No.1 h _ (AD l 0 b);unfold okB at this;rw[SD,AAe,SF,SF]at this;rcases a with h|h
   .exact this.1 h
   exact this.2 h
  exact fI c [.tmp 2,.tmp 3] (by rw[h1];exact eR)
 .obtain⟨h0,h1⟩:=a;have d:Int.tdiv (l.getD k 0) 64=l.getD k 0 / 64:=ACv h0;have f:Int.tmod (l.getD k 0) 64=l.getD k 0 % 64:=ACK h0;rw[d,f,i];refine⟨?_,⟨by decide,?_,?_⟩,?_,⟨by decide,?_,?_⟩,⟨?_,?_⟩,?_,⟨by decide,?_,?_⟩,⟨?_,?_⟩,?_,?_,?_⟩<;>exact eV
 .exact eV
 .have b:k<l.length:=by exact eV
  have e:=hs b;refine⟨⟨k+1,by omega,?_⟩,by simp only;omega,AC [(6,.nm 6)] rfl rfl ?_ ?_⟩
  .rw[HD l 0 _ b,hf,ADz];unfold okB;rw[SD,AAe,SF,SF];exact⟨AC2.2 a.1,AC2.2 a.2⟩
  .simp only[e];refine eM ?_;rfl
  simp only[e];refine eM ?_;rw[<-e,Q4,Q4]
 have b:l.take k=l:=An (by exact eV);rw[b]at hf ⊢;have h1:ofF l=(BQ (ofL l),0):=by unfold ofF;rw[BY hf]
 have j:=Q4 l;refine E2 [6] ?_;repeat'(first|apply eS rfl|refine rX c ?_ ?_)
 .rw[j];decide
 exact fI c [.tmp 2,.tmp 3] (by rw[h1];exact eR)
end
section
attribute [local go_sem] Xc Qy
def qP (l:List (List Int)) (b:List Int):Bool:=l.any λx=>Gu x b
def A9t:AZ:={ ins:=[VT,BX],pre:=λ_=>True,out:=λ(l,b,_)=>[.p .bool (qP l b)],lend:=true }
theorem A9u:Aa Tryz.prog 203 A9t:=by
 refine fK [0,1,4,5,9,17] Tryz.func203 Tryz.ntmps203 (AF fD AH) ?_;rintro w0 O0 ⟨l,n,u⟩ a ⟨⟨e,-⟩,-⟩ -;simp only[AN]at e;simp only[A9t,AL];repeat'(first|exact trivial|apply eS rfl|refine rX a ?_ ?_)
 refine AI (ι:={k:Nat//k<=l.length/\(l.take k).any (λx=>Gu x n)=false}) (λk=>⟨[(0,.p VT l),(1,.p BX n),(5,.p (.int .i64) (k.1:Int))],[]⟩) (λk=>l.length-k.1) ⟨0,by simp⟩ (eW []) (λk=>?_)
 obtain⟨k,hk,c⟩:=k;repeat'(first|exact trivial|apply eS rfl|apply AB|refine rX a ?_ ?_|refine rC ?_ ?_<;>intro b<;>try(cases b;done))
 .exact eV
 .have d:k<l.length:=by exact eV
  have h1:qP l n=true:=JZ l [] _ d b;exact fI a [.tmp 4] (by rw[h1];exact eR)
 .exact eV
 .have d:k<l.length:=by exact eV
  refine⟨⟨k+1,by exact eV,?_⟩,by simp only;exact eV,AC [] rfl rfl ?_ ?_⟩
  .rw[OK l [] _ d,c];exact b
  .exact eN
  exact eN
 have hk:l.take k=l:=An (by exact eV);rw[hk]at c;have h1:qP l n=false:=c;exact fI a [.tmp 4] (by rw[h1];exact eR)
abbrev AR:=ByteArray×List Int
abbrev c0:AR:=(ByteArray.empty,[])
def L8 (l:List AR) (i j:Int):Bool:=FH (l.getD j.toNat c0).2 (l.getD i.toNat c0).2
def vP:AZ:={ ins:=[KS,T3,T3],pre:=λ(l,i,j,_)=>((0:Int)<=i/\i<(List.length l:Int))/\((0:Int)<=j/\j<(List.length l:Int))/\(∀x∈(l:List AR),x.2.length<=100000),out:=λ(l,i,j,_)=>[.p .bool (L8 l i j)],lend:=true }
theorem vQ:Aa Tryz.prog 166 vP:=by
 refine fK [0,1,2,6] Tryz.func166 Tryz.ntmps166 (AF Sv AH) ?_;rintro w0 O0 ⟨l,i,j,u⟩ a-⟨hi,b,c⟩;simp only[vP,AL];repeat'(first|exact trivial|apply eS rfl|refine rX a ?_ ?_)
 .exact⟨b,hi,c _ (AD (l:List AR) c0 (by exact eV))⟩
 exact fI a [.tmp 6] (by unfold L8;exact eR)
end
section
attribute [local go_sem] Xc
def NC (s:ByteArray):Nat->List AR->Int
 | _,[]=>-1
 | k,x :: l=>if Ab x.1 s=true then (k:Int) else NC s (k+1) l
def BR (l:List AR) (s:ByteArray):Int:=NC s 0 l
theorem aO (s:ByteArray) (l:List AR) {k:Nat} (h:k<l.length):NC s k (l.drop k)=if Ab (l.getD k c0).1 s=true then (k:Int) else NC s (k+1) (l.drop (k+1)):=by
 rw[IS h];have e:l.getD k c0=l[k]:=by simp[AS,h]
 rw[e];rfl
def Vy:AZ:={ ins:=[KS,T9],pre:=λ_=>True,out:=λ(l,s,_)=>[.p T3 (BR l s)],lend:=true }
theorem aP:Aa Tryz.prog 168 Vy:=by
 refine fK [0,1,4,5,9,18] Tryz.func168 Tryz.ntmps168 AH ?_;rintro w0 O0 ⟨l,s,u⟩ c ⟨⟨d,-⟩,-⟩ -;simp only[AN]at d;simp only[Vy,AL];repeat'(first|exact trivial|apply eS rfl|refine rX c ?_ ?_)
 refine AI (ι:={k:Nat//k<=l.length/\NC s k (l.drop k)=BR l s}) (λk=>⟨[(0,.p KS l),(1,.p T9 s),(5,.p (.int .i64) (k.1:Int))],[]⟩) (λk=>l.length-k.1) ⟨0,If _,rfl⟩ (eW []) (λk=>?_)
 obtain⟨k,hk,hf⟩:=k;simp only;repeat'(first|exact trivial|apply eS rfl|apply AB|refine rX c ?_ ?_|refine rC ?_ ?_<;>intro b<;>try(cases b;done))
 .exact b
 .have a:k<l.length:=by exact eV
  rw[aO s l a,BY b]at hf;exact fI c [.tmp 4] (by rw[<-hf];exact eR)
 .exact eV
 .have a:k<l.length:=by exact eV
  rw[aO s l a,At (by rw[b];simp)]at hf;exact⟨⟨k+1,by omega,hf⟩,by simp only;omega,eW []⟩
 have a:l.drop k=[]:=By (by exact eV);rw[a]at hf;exact fI c [.tmp 4] (by rw[<-hf];first|exact eR|refine Uf ?_;rfl)
end
section
attribute [local go_sem] Xc LV
def Q5 (s:List Int):Nat->List AR->Int
 | _,[]=>-1
 | k,x :: l=>if Gu x.2 s=true then (k:Int) else Q5 s (k+1) l
def Hs (l:List AR) (b:List Int):Int:=Q5 (BQ b) 0 l
theorem Xg (s:List Int) (l:List AR) {k:Nat} (h:k<l.length):Q5 s k (l.drop k)=if Gu (l.getD k c0).2 s=true then (k:Int) else Q5 s (k+1) (l.drop (k+1)):=by
 rw[IS h];have e:l.getD k c0=l[k]:=by simp[AS,h]
 rw[e];rfl
def qQ:AZ:={ ins:=[KS,BX],pre:=λ(_,b,_)=>List.length b<=100000,out:=λ(l,b,_)=>[.p T3 (Hs l b)],lend:=true }
theorem A3r:Aa Tryz.prog 159 qQ:=by
 refine fK [0,1,4,5,6,12,21] Tryz.func159 Tryz.ntmps159 (AF OL (AF fD AH)) ?_;rintro w0 O0 ⟨l,b,u⟩ d ⟨⟨g,-⟩,-⟩ e;simp only[AN]at g;simp only[qQ,AL];repeat'(first|exact trivial|apply eS rfl|refine rX d ?_ ?_)
 .exact e
 have f:Hs l b=Q5 (BQ b) 0 l:=rfl;rw[f];generalize BQ b=s at *;refine AI (ι:={k:Nat//k<=l.length/\Q5 s k (l.drop k)=Q5 s 0 l}) (λk=>⟨[(0,.p KS l),(5,.p BX s),(6,.p (.int .i64) (k.1:Int))],[]⟩) (λk=>l.length-k.1) ⟨0,If _,rfl⟩ (eW []) (λk=>?_)
 obtain⟨k,hk,hf⟩:=k;simp only;repeat'(first|exact trivial|apply eS rfl|apply AB|refine rX d ?_ ?_|refine rC ?_ ?_<;>intro c<;>try(cases c;done))
 .exact c
 .have a:k<l.length:=by exact eV
  rw[Xg s l a,BY c]at hf;exact fI d [.tmp 4] (by rw[<-hf];exact eR)
 .exact eV
 .have a:k<l.length:=by exact eV
  rw[Xg s l a,At (by rw[c];simp)]at hf;exact⟨⟨k+1,by omega,hf⟩,by simp only;omega,eW []⟩
 have a:l.drop k=[]:=By (by exact eV);rw[a]at hf;exact fI d [.tmp 4] (by rw[<-hf];first|exact eR|refine Uf ?_;rfl)
end
section
attribute [local go_sem] Xc
def kV (s:ByteArray):List (ByteArray×ByteArray)->ByteArray×Bool
 | []=>(ByteArray.empty,false)
 | x :: l=>if Ab x.1 s=true then (x.2,true) else kV s l
def DR (x:AJ) (s:ByteArray):ByteArray×Bool:=kV s x.2.2
theorem aQ (s:ByteArray) (l:List (ByteArray×ByteArray)) {k:Nat} (h:k<l.length):kV s (l.drop k)=if Ab (l.getD k (ByteArray.empty,ByteArray.empty)).1 s=true then ((l.getD k (ByteArray.empty,ByteArray.empty)).2,true) else kV s (l.drop (k+1)):=by
 rw[IS h];have e:l.getD k (ByteArray.empty,ByteArray.empty)=l[k]:=by simp[AS,h]
 rw[e];rfl
def fO:AZ:={ ins:=[zF,T9],pre:=λ_=>True,out:=λ(x,s,_)=>[.p T9 (DR x s).1,.p .bool (DR x s).2],lend:=true }
theorem kW:Aa Tryz.prog 195 fO:=by
 refine fK [0,1,2,4,5,6,11,21] Tryz.func195 Tryz.ntmps195 AH ?_;rintro w0 O0 ⟨⟨nm,sup,a⟩,s,u⟩ d ⟨⟨-,-,f,-⟩,-⟩ -;simp only[AN]at f;simp only[fO,AL];repeat'(first|exact trivial|apply eS rfl|refine rX d ?_ ?_)
 have e:({ data:=#[] }:ByteArray).size<=AN:=by decide
 rw[BY e];refine AI (ι:={k:Nat//k<=a.length/\kV s (a.drop k)=DR (nm,sup,a) s}) (λk=>⟨[(1,.p T9 s),(2,.bp 2 [] 0),(6,.p (.int .i64) (k.1:Int))],[(2,.box 158 true [.p T9 nm,.p GW sup,.p qD a])]⟩) (λk=>a.length-k.1) ⟨0,If _,rfl⟩ (eW [(2,.nm 2)]) (λk=>?_)
 obtain⟨k,hk,hf⟩:=k;simp only;repeat'(first|exact trivial|apply eS rfl|apply AB|refine rX d ?_ ?_|refine rC ?_ ?_<;>intro c<;>try(cases c;done))
 .exact c
 .assumption
 .have b:k<a.length:=by exact eV
  rw[aQ s a b,BY c]at hf;exact fI d [.tmp 4,.tmp 5] (by rw[<-hf];exact eR)
 .exact eV
 .have b:k<a.length:=by exact eV
  rw[aQ s a b,At (by rw[c];simp)]at hf;exact⟨⟨k+1,by omega,hf⟩,by simp only;omega,eW [(2,.nm 2)]⟩
 have b:a.drop k=[]:=By (by exact eV);rw[b]at hf;rw[BY e];exact fI d [.tmp 4,.tmp 5] (by rw[<-hf];first|exact eR|refine Uf ?_;exact⟨rfl,rfl⟩)
end
section
attribute [local go_sem] qM
def GY (a b:AR):Bool:=decide (((Ic b.2).length:Int)<((Ic a.2).length:Int))||((Ic a.2).length:Int)==((Ic b.2).length:Int)&&Hx a.1 b.1
def fP:AZ:={ ins:=[fA,fA],pre:=λ(a,b,_)=>List.length (a:AR).2<=100000/\List.length (b:AR).2<=100000,out:=λ(a,b,_)=>[.p .bool (GY a b)],lend:=true }
theorem zU:Aa Tryz.prog 165 fP:=by
 refine fK [0,1,2,3,4,5,6] Tryz.func165 Tryz.ntmps165 (AF A3l AH) ?_;rintro w0 O0 ⟨⟨c,ac⟩,⟨e,d⟩,u⟩ a-⟨ha,b⟩;simp only[fP,AL];repeat'(first|exact trivial|apply eS rfl|refine rX a ?_ ?_)
 .exact ha
 .exact b
 exact fI a [.tmp 4] (by unfold GY;exact eR)
end
section
attribute [local go_sem] fN J8 ofS
def Pj (low all:List ByteArray) (n:Nat):List Int:=((List.range n).filter λ(i:Nat)=>Ac low (all.getD i ByteArray.empty)).map λ(i:Nat)=>(i:Int)
theorem zV (low all:List ByteArray) (n:Nat):Pj low all (n+1)=Pj low all n++if Ac low (all.getD n ByteArray.empty)=true then [(n:Int)] else []:=by
 unfold Pj;rw[To,ACr,SQ]
 congr 1
 rw[Tu,AD4];split<;>rfl
theorem A3s (low all:List ByteArray) (n:Nat):(Pj low all n).length<=n:=by
 unfold Pj;rw[Of];exact R5 (bY _ _) sc
def E5 (d:List AJ) (all:List ByteArray) (s:ByteArray):List Int:=(ofF (Pj (Cp d s) all all.length)).1
def A3t:AZ:={ ins:=[Fc,GW,T9],pre:=λ(d,l,_,_)=>List.length d<=256/\List.length l<=100000,out:=λ(d,l,s,_)=>[.p BX (E5 d l s)] }
theorem A6I:Aa Tryz.prog 162 A3t:=by
 refine fK [0,1,2,6,7,8,9,10,18,26] Tryz.func162 Tryz.ntmps162 (AF A3q (AF Hb (AF ABq AH))) ?_;rintro w0 O0 ⟨d,l,s,u⟩ b-⟨g,e⟩;have e:l.length<=100000:=e;have f:E5 d l s=(ofF (Pj (Cp d s) l l.length)).1:=rfl;simp only[A3t,AL];repeat'(first|exact trivial|apply eS rfl|refine rX b ?_ ?_)
 .exact g
 rw[f];generalize Cp d s=low at *;refine AI (ι:={n:Nat//n<=l.length}) (λn=>⟨[(0,.p Fc d),(1,.p GW l),(2,.p T9 s),(7,.p GW low),(8,.sr 30 T3 0 (Pj low l n.1).length),(9,.p (.int .i64) (n.1:Int))],[(30,.arr 3 T3 (Pj low l n.1))]⟩) (λn=>l.length-n.1) ⟨0,If _⟩ (AC [(30,.nil)] rfl rfl ?_ ?_) (λn=>?_)
 .refine eM ?_;rfl
 .refine eM ?_;rfl
 obtain⟨n,hn⟩:=n;have h:=A3s low l n;have hs:=zV low l n;simp only;repeat'(first|exact trivial|apply eS rfl|apply AB|refine rX b ?_ ?_|refine rC ?_ ?_<;>intro a<;>try(cases a;done))
 .exact a
 .rw[a,BY rfl]at hs;simp only[AN];dsimp only[Ty.den]at *;omega
 .exact eV
 .have c:n<l.length:=by exact eV
  rw[a,BY rfl]at hs;refine⟨⟨n+1,by omega⟩,by simp only;omega,AC [(30,.nm 30)] rfl rfl ?_ ?_⟩
  .simp only[hs];exact eN
  simp only[hs];exact eN
 .exact eV
 .have c:n<l.length:=by exact eV
  rw[a,At sc,SJ]at hs;refine⟨⟨n+1,by omega⟩,by simp only;omega,AC [(30,.nm 30)] rfl rfl ?_ ?_⟩
  .simp only[hs];exact eN
  simp only[hs];exact eN
 have c:n=l.length:=by exact eV
 subst c;refine E2 [30] ?_;repeat'(first|exact trivial|apply eS rfl|refine rX b ?_ ?_)
 exact fI b [.tmp 6]
end
section
attribute [local go_sem] fB
def Q6 (o:List ByteArray) (f:ByteArray×ByteArray):List ByteArray:=Eh o f.1
def Sz (o:List ByteArray) (x:AJ):List ByteArray:=x.2.2.foldl Q6 o
def BS (d:List AJ):List ByteArray:=d.foldl Sz []
theorem aR (l:List (ByteArray×ByteArray)):∀o:List ByteArray,(l.foldl Q6 o).length<=o.length+l.length:=by
 induction l with
 | nil=>intro o;simp
 | cons x l a =>
  intro o;have h1:=a (Q6 o x);have b:(Q6 o x).length<=o.length+1:=M9 o x.1;simp only[On,Is];omega
theorem qR {d:List AJ} (h:∀x∈d,x.2.2.length<=256):∀(l:List AJ),(∀x∈l,x∈d)->∀o:List ByteArray,(l.foldl Sz o).length<=o.length+256*l.length:=by
 intro l;induction l with
 | nil=>intro _ o;simp
 | cons x l c =>
  intro a o;have h1:=c (λy b=>a y (by simp[b])) (Sz o x);have e:=aR x.2.2 o;have f:=h x (a x sc);have g:(Sz o x).length=(x.2.2.foldl Q6 o).length:=rfl;simp only[On,Is];omega
def Xh:AZ:={ ins:=[Fc],pre:=λ(d,_)=>List.length d<=256/\(∀x∈(d:List AJ),x.2.2.length<=256),out:=λ(d,_)=>[.p GW (BS d)] }
theorem Xi:Aa Tryz.prog 157 Xh:=by
 refine fK [0,2,3,4,5,9,19] Tryz.func157 Tryz.ntmps157 (AF Ss AH) ?_;rintro w0 O0 ⟨d,u⟩ c-⟨f,m⟩;have f:d.length<=256:=f;simp only[Xh,AL];repeat'(first|exact trivial|apply eS rfl|refine rX c ?_ ?_)
 refine AI (ι:={i:Nat//i<=d.length}) (λi=>⟨[(0,.p Fc d),(3,.p GW (BS (d.take i.1))),(4,.p (.int .i64) (i.1:Int))],[]⟩) (λi=>d.length-i.1) ⟨0,If _⟩ (AC [] rfl rfl ?_ ?_) (λi=>?_)
 .exact eN
 .refine eM ?_;rfl
 obtain⟨i,hi⟩:=i;have l:=qR m (d.take i) (λx h=>iS h) [];have t:=UA i d;have hs:=λh:i<d.length=>FI Sz d d0 [] h;have g:∀e,BS e=e.foldl Sz []:=λ_=>rfl;simp only;repeat'(first|exact trivial|apply eS rfl|refine rX c ?_ ?_|refine rC ?_ ?_<;>intro a<;>try(cases a;done))
 .have j:i<d.length:=by exact eV
  have v:=m _ (AD d d0 j);have hs:=hs j;rw[<-g,<-g]at hs;rw[<-g]at l;generalize BS (d.take i)=o at *;refine AI (ι:={k:Nat//k<=(d.getD i d0).2.2.length}) (λk=>⟨[(0,.p Fc d),(3,.p GW (((d.getD i d0).2.2.take k.1).foldl Q6 o)),(4,.p (.int .i64) (i:Int)),(5,.p (.int .i64) (k.1:Int))],[]⟩) (λk=>(d.getD i d0).2.2.length-k.1) ⟨0,If _⟩ (AC [] rfl rfl ?_ ?_) (λk=>?_)
  .exact eN
  .refine eM ?_;rfl
  obtain⟨k,hk⟩:=k;have r:k<=(d.getD i d0).2.2.length:=hk;have q:=aR ((d.getD i d0).2.2.take k) o;have s:=UA k (d.getD i d0).2.2;have n:=λh:k<(d.getD i d0).2.2.length=>FI Q6 (d.getD i d0).2.2 (ByteArray.empty,ByteArray.empty) o h;simp only;repeat'(first|apply eS rfl|apply AB|refine rX c ?_ ?_|refine rC ?_ ?_<;>intro a<;>try(cases a;done))
  .assumption
  .refine⟨by assumption,a,?_⟩;simp only[AC5]at l;dsimp only[Ty.den]at *;omega
  .have h1:(k:Int)<((d.getD i d0).2.2.length:Int):=a;exact eV
  .have b:k<(d.getD i d0).2.2.length:=GO.1 a;have e:=n b;refine⟨⟨k+1,b⟩,by simp only;omega,AC [] rfl rfl ?_ ?_⟩
   .exact eN
   simp only[e];unfold Q6;exact eN
  .have:=f;exact eV
  have b:(d.getD i d0).2.2.take k=(d.getD i d0).2.2:=An (R4.1 a);have e:BS (d.take (i+1))=((d.getD i d0).2.2.take k).foldl Q6 o:=by rw[b];exact hs
  refine⟨⟨i+1,j⟩,by simp only;omega,AC [] rfl rfl ?_ ?_⟩
  .exact eN
  simp only[e];exact eN
 have b:d.take i=d:=An (by exact eV);rw[b];exact fI c [.tmp 2]
end
theorem aU {d:List AJ} {l:List ByteArray}:∀ {r:List ByteArray} {k:Nat},VV d l k r=0->∀s∈r,0<=Ax d s
 | [],_,_,s,hs=>by cases hs
 | x :: r,k,h,s,hs=>by
  simp only[VV]at h;split at h
  .cases h
  rename_i h1;split at h
  .cases h
  rcases Do.1 hs with rfl|hs
  .omega
  exact aU h s hs
theorem Q7 {d:List AJ}:∀ {l:List AJ},LX d l=0->∀x∈l,∀s∈x.2.1,0<=Ax d s
 | [],_,x,a=>by cases a
 | y :: l,h,x,a=>by
  simp only[LX]at h;split at h
  .rename_i h1;exact absurd h h1
  rename_i h1;rcases Do.1 a with rfl|a
  .exact aU (IF h1)
  exact Q7 h x a
theorem A3u {d:List AJ} (h:LY d=0):Q0 d:=Q7 h
theorem A5 {d:List AJ} (h:BC d=0):Q0 d/\d.length<=256/\Ig d=1/\Cn d=0/\d.length<=(Bn d).length:=by
 unfold BC at h;split at h
 .rename_i h1;exact absurd h h1
 rename_i h1;split at h
 .rename_i a;exact absurd h a
 rename_i a;split at h
 .rename_i b;exact absurd h b
 rename_i b;split at h
 .cases h
 rename_i c;split at h
 .cases h
 rename_i e;exact⟨A3u (IF b),Uj (IF h1),IF c,IF a,by omega⟩
section
attribute [local go_sem] A9t A3i
def HE (l:List (List Int)) (i k:Nat):List (List Int) :=
 if (decide (0<((EW (l.getD i []) (l.getD k [])).length:Int))&&!qP l (EW (l.getD i []) (l.getD k [])))=true then l++[EW (l.getD i []) (l.getD k [])] else l
def HF (i:Nat):Nat->Nat->List (List Int)->List (List Int)
 | 0,_,l=>l
 | n+1,k,l=>if l.length<=256 then HF i n (k+1) (HE l i k) else l
def Ii:Nat->Nat->List (List Int)->List (List Int)
 | 0,_,l=>l
 | n+1,i,l=>if i<l.length/\l.length<=256 then Ii n (i+1) (HF i i 0 l) else l
def A1 (c:List (List Int)):List (List Int):=Ii 257 0 c
theorem kX (a b:List Int):(EW a b).length<=a.length:=by
 unfold EW BQ;have:=E4 .and a b a.length;rw[OF];omega
structure A8p (l:List (List Int)):Prop where
 len:l.length<=257
 wid:∀c∈l,c.length<=64
theorem ND {l:List (List Int)} (h:∀c∈l,c.length<=64) (k:Nat):(l.getD k []).length<=64:=by
 rw[AS];cases hh:l[k]? with
 | none=>simp
 | some x=>exact h x (tO hh)
theorem kY {l:List (List Int)} (h:∀c∈l,c.length<=64) (i k:Nat):∀c∈HE l i k,c.length<=64:=by
 unfold HE;split
 .intro c a;rcases ON.1 a with a|a
  .exact h c a
  have:c=EW (l.getD i []) (l.getD k []):=by simpa using a
  rw[this];exact R5 (kX _ _) (ND h i)
 exact h
theorem A3v (l:List (List Int)) (i k:Nat):l.length<=(HE l i k).length/\(HE l i k).length<=l.length+1:=by
 unfold HE;split
 .simp
 exact⟨OR _,Nat.le_succ _⟩
def fQ:AZ:={ ins:=[VT],pre:=λ(c,_)=>List.length c<=256/\∀x∈(c:List (List Int)),x.length<=64,out:=λ(c,_)=>[.p VT (A1 c)] }
theorem zW:Aa Tryz.prog 163 fQ:=by
 refine fK [0,2,3,4,5,6,18,28,48] Tryz.func163 Tryz.ntmps163 (AF qJ (AF A9u AH)) ?_;rintro w0 O0 ⟨c,u⟩ d-⟨n,t⟩;have n:c.length<=256:=n;simp only[fQ,AL];repeat'(first|exact trivial|apply eS rfl|refine rX d ?_ ?_)
 .simp only[AN];dsimp only[Ty.den]at *;omega
 refine AI (ι:={x:Nat×List (List Int)//x.1<=256/\A8p x.2/\Ii (257-x.1) x.1 x.2=A1 c}) (λx=>⟨[(3,.sr 7 BX 0 x.1.2.length),(4,.p (.int .i64) (x.1.1:Int))],[(7,.arr 140 BX x.1.2)]⟩) (λx=>257-x.1.1) ⟨(0,c),by simp,⟨by simp only;omega,t⟩,rfl⟩ (eW [(7,.nm 7)]) (λx=>?_)
 obtain⟨⟨i,l⟩,hi,⟨q,s⟩,f⟩:=x;simp only at hi q s f;simp only;repeat'(first|exact trivial|apply eS rfl|refine rX d ?_ ?_|refine rC ?_ ?_<;>intro a<;>try(cases a;done))
 .have w:i<l.length:=by omega
  have z:l.length<=256:=by omega
  have o:Ii (256-i) (i+1) (HF i i 0 l)=A1 c:=by
   have e:257-i=(256-i)+1:=by omega
   rw[<-f,e];show _=if i<l.length/\l.length<=256 then Ii (256-i) (i+1) (HF i i 0 l) else l
   rw[BY ⟨w,z⟩]
  refine AI (ι:={y:Nat×List (List Int)//y.1<=i/\A8p y.2/\l.length<=y.2.length/\HF i (i-y.1) y.1 y.2=HF i i 0 l}) (λy=>⟨[(3,.sr 7 BX 0 y.1.2.length),(4,.p (.int .i64) (i:Int)),(5,.p (.int .i64) (y.1.1:Int))],[(7,.arr 140 BX y.1.2)]⟩) (λy=>i-y.1.1) ⟨(0,l),by simp,⟨q,s⟩,OR _,rfl⟩ (eW [(7,.nm 7)]) (λy=>?_)
  obtain⟨⟨k,m⟩,hk,⟨g,b⟩,r,hf⟩:=y;simp only at hk g b r hf;simp only;repeat'(first|exact trivial|apply eS rfl|apply AB|refine rX d ?_ ?_|refine rC ?_ ?_<;>intro a<;>try(cases a;done))
  .exact⟨by exact eV,by exact eV,R5 (ND b i) dg⟩
  .simp only[AN];omega
  .omega
  .have e:HE m i k=m++[EW (m.getD i []) (m.getD k [])]:=by
    unfold HE;rw[BY];rw[As,NO,SD];exact a
   have C:=kY b i k;have D:=A3v m i k;refine⟨⟨(k+1,HE m i k),by simp only;omega,⟨by simp only;omega,C⟩,by simp only;omega,?_⟩,by simp only;omega,AC [(7,.nm 7)] rfl rfl ?_ ?_⟩
   .simp only;rw[<-hf,show i-k=(i-(k+1))+1 by omega];show _=if m.length<=256 then HF i (i-(k+1)) (k+1) (HE m i k) else m
    rw[BY O1]
   .simp only[e];exact eN
   simp only[e];exact eN
  .omega
  .have e:HE m i k=m:=by
    unfold HE;rw[At];rw[As,NO,SD];intro h;rw[a h.1]at h;exact absurd h.2 sc
   refine⟨⟨(k+1,m),by simp only;omega,⟨g,b⟩,r,?_⟩,by simp only;omega,AC [(7,.nm 7)] rfl rfl ?_ ?_⟩
   .simp only;rw[<-hf,show i-k=(i-(k+1))+1 by omega];show _=if m.length<=256 then HF i (i-(k+1)) (k+1) (HE m i k) else m
    rw[BY O1,e]
   .exact eN
   exact eN
  .omega
  have B:m=HF i i 0 l:=by
   rw[<-hf];cases A:i-k with
   | zero=>rfl
   | succ j =>
    show _=if m.length<=256 then _ else m
    rw[At O1]
  rw[<-B]at o;refine⟨⟨(i+1,m),by simp only;omega,⟨g,b⟩,?_⟩,by simp only;omega,AC [(7,.nm 7)] rfl rfl ?_ ?_⟩
  .simp only;rw[show 257-(i+1)=256-i by omega];exact o
  .exact eN
  exact eN
 have v:l=A1 c:=by
  rw[<-f];cases A:257-i with
  | zero=>rfl
  | succ m =>
   show _=if i<l.length/\l.length<=256 then _ else l
   rw[At O1]
 rw[<-v];refine E2 [7] ?_;exact fI d [.tmp 2]
theorem cs0 {α:Type} (x y:α):(if ({ data:=#[] }:ByteArray).size<=AN then x else y)=x:=BY (by show 0<=AN;decide)
theorem cs1 {α:Type} (a:UInt8) (x y:α):(if ({ data:=#[a] }:ByteArray).size<=AN then x else y)=x:=BY (by show 1<=AN;decide)
theorem cs2 {α:Type} (a b:UInt8) (x y:α):(if ({ data:=#[a,b] }:ByteArray).size<=AN then x else y)=x:=BY (by show 2<=AN;decide)
theorem cs3 {α:Type} (a b c:UInt8) (x y:α):(if ({ data:=#[a,b,c] }:ByteArray).size<=AN then x else y)=x:=BY (by show 3<=AN;decide)
theorem cs4 {α:Type} (a b c d:UInt8) (x y:α):(if ({ data:=#[a,b,c,d] }:ByteArray).size<=AN then x else y)=x:=BY (by show 4<=AN;decide)
theorem cs5 {α:Type} (a b c d e:UInt8) (x y:α):(if ({ data:=#[a,b,c,d,e] }:ByteArray).size<=AN then x else y)=x:=BY (by show 5<=AN;decide)
theorem cs6 {α:Type} (a b c d e f:UInt8) (x y:α):(if ({ data:=#[a,b,c,d,e,f] }:ByteArray).size<=AN then x else y)=x:=BY (by show 6<=AN;decide)
theorem cs7 {α:Type} (a b c d e f g:UInt8) (x y:α):(if ({ data:=#[a,b,c,d,e,f,g] }:ByteArray).size<=AN then x else y)=x:=BY (by show 7<=AN;decide)
theorem cs8 {α:Type} (a b c d e f g h:UInt8) (x y:α):(if ({ data:=#[a,b,c,d,e,f,g,h] }:ByteArray).size<=AN then x else y)=x:=BY (by show 8<=AN;decide)
end
def BJ (b:List Int) (i:Nat):Bool:=(b.getD (i / 64) 0).toNat.testBit (i % 64)
def U64 (x:Int):Prop:=0<=x/\x<18446744073709551616
theorem GB {x:Int} (h:U64 x):(BitVec.ofInt 64 x).toNat=x.toNat:=by
 rw[BitVec.toNat_ofInt];have h1:=h.1;have a:=h.2;rw[Int.emod_eq_of_lt h1 (by simpa using a)]
theorem Q8 {n:Nat} (h:n<18446744073709551616):IntKind.u64.wrap (n:Int)=n:=LG (by rw[LN];omega)
theorem A6J {x y:Int} (a:U64 x) (b:U64 y):Cs .or .u64 x y=((x.toNat ||| y.toNat:Nat):Int):=by
 have h1:(BitVec.ofInt IntKind.u64.bits x ||| BitVec.ofInt IntKind.u64.bits y).toNat=x.toNat ||| y.toNat:=by
  rw[BitVec.toNat_or];show (BitVec.ofInt 64 x).toNat ||| (BitVec.ofInt 64 y).toNat=_
  rw[GB a,GB b]
 unfold Cs;simp only;rw[h1];have e:(18446744073709551616:Nat)=2 ^ 64:=by decide
 refine Q8 ?_;rw[e];refine Nat.or_lt_two_pow ?_ ?_
 .have:=a.2;have:=a.1;omega
 have:=b.2;have:=b.1;omega
theorem Ij {x y:Int} (a:U64 x) (b:U64 y):Cs .and .u64 x y=((x.toNat &&& y.toNat:Nat):Int):=by
 have h1:(BitVec.ofInt IntKind.u64.bits x &&& BitVec.ofInt IntKind.u64.bits y).toNat=x.toNat &&& y.toNat:=by
  rw[BitVec.toNat_and];show (BitVec.ofInt 64 x).toNat &&& (BitVec.ofInt 64 y).toNat=_;rw[GB a,GB b]
 unfold Cs;simp only;rw[h1];refine Q8 (ADE ADA ?_);have:=a.2;have:=a.1;omega
theorem S0 {x y:Int}:Cs .andNot .u64 x y=((BitVec.ofInt 64 x &&& ~~~BitVec.ofInt 64 y).toNat:Int):=by
 show IntKind.u64.wrap ((BitVec.ofInt 64 x &&& ~~~BitVec.ofInt 64 y).toNat:Int)=_;exact Q8 (BitVec.isLt _)
theorem Uk {x y:Int} (d:U64 x) (e:U64 y) (h:Cs .andNot .u64 x y=0) {r:Nat} (c:r<64) (b:x.toNat.testBit r=true):y.toNat.testBit r=true:=by
 rw[S0]at h;have h1:(BitVec.ofInt 64 x &&& ~~~BitVec.ofInt 64 y).toNat=0:=by omega
 have a:(BitVec.ofInt 64 x &&& ~~~BitVec.ofInt 64 y).toNat.testBit r=false:=by rw[h1];exact Nat.zero_testBit r
 rw[ACV,BitVec.getLsbD_and,BitVec.getLsbD_not,<-ACV,<-ACV,GB d,GB e,b]at a;simpa[c] using a
theorem Ul {x:Int}:Cs .andNot .u64 x x=0:=by
 rw[S0];simp
theorem Pk {b:List Int}:∀ {n:Nat},∀k,Ck b n<=k->k<n->b.getD k 0=0
 | 0,k,_,h=>by omega
 | n+1,k,h1,c=>by
  unfold Ck at h1;split at h1
  .rename_i a;by_cases hk:k=n
   .rw[hk];exact a
   exact Pk k h1 O1
  omega
theorem Q9 (b:List Int) (k:Nat):(BQ b).getD k 0=b.getD k 0:=by
 unfold BQ;by_cases h:k<Ck b b.length
 .simp[AS,Tv,h]
 have h1:(List.take (Ck b b.length) b).getD k 0=0:=by
  rw[AS,Tv,At h];rfl
 rw[h1];by_cases a:k<b.length
 .exact(Pk k O1 a).symm
 rw[AS,SA O1];rfl
theorem Pl (b:List Int) (i:Nat):BJ (BQ b) i=BJ b i:=by unfold BJ;rw[Q9]
def Ik (b:List Int):Prop:=∀x∈b,U64 x
theorem BO {b:List Int} (h:Ik b) (k:Nat):U64 (b.getD k 0):=by
 rw[AS];cases hh:b[k]? with
 | none=>exact⟨by simp,by simp⟩
 | some x=>exact h x (tO hh)
theorem Pm {b:List Int} (h:Ik b):Ik (BQ b):=λx a=>h x (iS a)
theorem IP (b:List Int) (k:Nat):Gt b (k:Int)=b.getD k 0:=by
 unfold Gt;split
 .simp
 rename_i h;rw[AS,SA O1];rfl
theorem OM (op:BinOp) (a b:List Int) {n k:Nat} (h:k<n):(HC op a b n).getD k 0=Cs op .u64 (a.getD k 0) (b.getD k 0):=by
 unfold HC;rw[AS,SR,ABr h];show Cs op .u64 (a.getD k 0) (Gt b (k:Int))=_;rw[IP]
theorem fR {a b:List Int} (h:FH a b=true) {k:Nat} (hk:k<a.length):Cs .andNot .u64 (a.getD k 0) (b.getD k 0)=0:=by
 unfold FH Su BQ at h;have h1:(List.take (Ck (HC .andNot a b a.length) (HC .andNot a b a.length).length) (HC .andNot a b a.length)).length=0:=by
  have:=Tx.1 h;omega
 rw[OF,E4]at h1;have d:=Xb (HC .andNot a b a.length) a.length;have c:=Pk (b:=HC .andNot a b a.length) (n:=a.length) k O1 hk;rw[OM _ _ _ hk]at c;exact c
theorem NE {a b:List Int} (ha:Ik a) (c:Ik b) (h:FH a b=true) {i:Nat} (hi:BJ a i=true):BJ b i=true:=by
 by_cases hk:i / 64<a.length
 .exact Uk (BO ha _) (BO c _) (fR h hk) (AE4 _ dg) hi
 exfalso;unfold BJ at hi;rw[AS,SA O1]at hi;simp at hi
theorem S1 {b:List Int}:∀ {n:Nat},(∀k,k<n->b.getD k 0=0)->Ck b n=0
 | 0,_=>rfl
 | n+1,h=>by
  unfold Ck;rw[BY (h n O1)];exact S1 λk hk=>h k O1
theorem kZ (a:List Int):FH a a=true:=by
 unfold FH Su BQ;have h1:Ck (HC .andNot a a a.length) (HC .andNot a a a.length).length=0:=by
  rw[E4];exact S1 λk hk=>by rw[OM _ _ _ hk];exact Ul
 rw[h1];rfl
theorem k5 (a:List Int):DY a a=true:=by unfold DY;rw[kZ];rfl
theorem A6K {b:List Int} (j:Ik b) (l:b.length=64) {x:Int} (h0:0<=x) (h1:x<=4095) (i:Nat):BJ (zT b x) i=(BJ b i||decide (x=(i:Int))):=by
 have d:Int.tdiv x 64=x / 64:=ACv h0;have e:Int.tmod x 64=x % 64:=ACK h0;obtain⟨n,rfl⟩:∃n:Nat,x=(n:Int):=⟨x.toNat,by omega⟩;have hs:dQ .u64 1 ((n:Int) % 64)=((2 ^ (n % 64):Nat):Int):=by
  unfold dQ;have f:min ((n:Int) % 64).toNat IntKind.u64.bits=n % 64:=by
   have:((n:Int) % 64).toNat=n % 64:=by omega
   rw[this];have:IntKind.u64.bits=64:=rfl;omega
  rw[f,Int.one_mul];have:(2:Int) ^ (n % 64)=((2 ^ (n % 64):Nat):Int):=by simp
  rw[this];refine Q8 ?_;have a:(2:Nat) ^ (n % 64)<2 ^ 64:=Nat.pow_lt_pow_right dg (AE4 _ dg);exact a
 have hu:U64 (dQ .u64 1 ((n:Int) % 64)):=by
  rw[hs];have a:(2:Nat) ^ (n % 64)<2 ^ 64:=Nat.pow_lt_pow_right dg (AE4 _ dg);have g:(2:Nat) ^ 64=18446744073709551616:=by decide
  refine⟨Tw _,?_⟩;rw[g]at a;exact GO.2 a
 have hn:((n:Int) / 64).toNat=n / 64:=by omega
 unfold zT BJ;rw[d,e,hn];by_cases c:i / 64=n / 64
 .have k:n / 64<b.length:=by omega
  rw[c];have:(b.set (n / 64) (Cs .or .u64 (b.getD (n / 64) 0) (dQ .u64 1 ((n:Int) % 64)))).getD (n / 64) 0=Cs .or .u64 (b.getD (n / 64) 0) (dQ .u64 1 ((n:Int) % 64)):=by
   simp[AS,k]
  rw[this,A6J (BO j _) hu,hs];simp only[R3,Nat.testBit_or,Nat.testBit_two_pow]
  congr 1
  rw[decide_eq_decide];omega
 have:(b.set (n / 64) (Cs .or .u64 (b.getD (n / 64) 0) (dQ .u64 1 ((n:Int) % 64)))).getD (i / 64) 0=b.getD (i / 64) 0:=by
  simp[AS,oR,AE6 c]
 rw[this];have:decide ((n:Int)=(i:Int))=false:=by
  rw[SF];intro h;exact c O1
 rw[this,Bool.or_false]
theorem A6L {b:List Int} (c:Ik b) (x:Int):Ik (zT b x):=by
 intro y a;unfold zT at a;rcases ACx a with h|h
 .exact c y h
 rw[h];have:=Nw .u64 ((BitVec.ofInt IntKind.u64.bits (b.getD (x.tdiv 64).toNat 0) ||| BitVec.ofInt IntKind.u64.bits (dQ .u64 1 (x.tmod 64))).toNat:Int);rw[LN]at this;exact⟨this.1,by have:=this.2;show _<_;exact ADl this dg⟩
theorem A6M {l:List Int} (h:l.all okB=true) (i:Nat):BJ (ofL l) i=decide ((i:Int)∈l)/\Ik (ofL l):=by
 have key:∀(l b:List Int),l.all okB=true->Ik b->b.length=64->BJ (l.foldl zT b) i=(BJ b i||decide ((i:Int)∈l))/\Ik (l.foldl zT b):=by
  intro l;induction l with
  | nil=>intro b _ a _;simp[a]
  | cons x l m =>
   intro b c a d;rw[ACy,As]at c;have e:=c.1;unfold okB at e;rw[SD,AAe,SF,SF]at e;obtain⟨f,g⟩:=m (zT b x) c.2 (A6L a x) (by simp[zT,d]);rw[On];refine⟨?_,g⟩;rw[f,A6K a d O1 O1,Bool.or_assoc]
   congr 1
   rw[<-Bool.decide_or,decide_eq_decide,Do,eq_comm]
 have j:Ik (List.replicate 64 (0:Int)):=by
  intro y k;rw[(List.mem_replicate.1 k).2];exact⟨by decide,by decide⟩
 have h1:=key l (List.replicate 64 0) h j sc;refine⟨?_,h1.2⟩;unfold ofL;rw[h1.1];have:BJ (List.replicate 64 (0:Int)) i=false:=by
  unfold BJ;have:(List.replicate 64 (0:Int)).getD (i / 64) 0=0:=by
   rw[AS,AAy];split<;>rfl
  rw[this];simp
 rw[this,ADV]
theorem A3x {low all:List ByteArray} {n i:Nat}:((i:Int)∈Pj low all n)↔i<n/\Ac low (all.getD i ByteArray.empty)=true:=by
 unfold Pj;rw[DO];constructor
 .rintro⟨j,a,e⟩;have:j=i:=by omega
  subst this;rw[Tz,SH]at a;exact a
 rintro⟨h1,b⟩;exact⟨i,by rw[Tz,SH];exact⟨h1,b⟩,rfl⟩
theorem A6N {low all:List ByteArray} {n:Nat} (hn:n<=4096):(Pj low all n).all okB=true:=by
 rw[No];intro x a;unfold Pj at a;obtain⟨j,b,rfl⟩:=DO.1 a;rw[Tz,SH]at b;unfold okB;rw[SD,AAe,SF,SF];exact⟨by omega,by omega⟩
theorem CF {d:List AJ} {all:List ByteArray} (c:all.length<=4096) (s:ByteArray) (i:Nat):(BJ (E5 d all s) i=true↔i<all.length/\Ac (Cp d s) (all.getD i ByteArray.empty)=true)/\Ik (E5 d all s)/\(E5 d all s).length<=64:=by
 have h1:=A6N (low:=Cp d s) (all:=all) c;have b:=A6M h1 i;have a:E5 d all s=BQ (ofL (Pj (Cp d s) all all.length)):=by
  unfold E5 ofF;rw[BY h1]
 refine⟨?_,?_,?_⟩
 .rw[a,Pl,b.1,NO,A3x]
 .rw[a];exact Pm b.2
 rw[a];unfold BQ;have:=Q4 (Pj (Cp d s) all all.length);rw[OF];omega
theorem Jc (d:List AJ) {s t:ByteArray} (h:Ab s t=true):Ax d s=Ax d t:=by
 have key:∀(l:List AJ) (k:Nat),Cz s k l=Cz t k l:=by
  intro l;induction l with
  | nil=>intro k;rfl
  | cons x l a =>
   intro k;simp only[Cz];have:Ab x.1 s=Ab x.1 t:=by grind [Ab,Be,EH]
   rw[this,a]
 exact key d 0
theorem BI {α:Type} {l:List α} {d:α} {k:Nat} (h:k<l.length):l.getD k d∈l:=by grind
theorem CN {α:Type} {l:List α} (d:α) {x:α} (h:x∈l):∃k,k<l.length/\l.getD k d=x:=by
 obtain⟨k,hk,e⟩:=aT.1 h;exact⟨k,hk,by rw[AS,AT hk];exact e⟩
theorem Jd {d:List AJ}:∀ {r:List AJ} {k:Nat},Ph d k r=0->∀j,j<r.length->¬Ax d (r.getD j d0).1<((k+j:Nat):Int)/\E3 (r.getD j d0).1 false=true
 | [],_,_,j,a=>by simp at a
 | x :: r,k,h,j,a=>by
  simp only[Ph]at h;split at h
  .cases h
  rename_i h1;split at h
  .cases h
  rename_i b;cases j with
  | zero=>exact⟨b,by simpa using h1⟩
  | succ j =>
   have:=Jd h j (by simpa using a);have e:k+(j+1)=k+1+j:=by omega
   rw[e];exact this
theorem RB (s:ByteArray):∀(l:List AJ) (k j:Nat),j<l.length->Ab (l.getD j d0).1 s=true->Cz s k l<=((k+j:Nat):Int)
 | [],_,j,h,_=>by simp at h
 | x :: l,k,j,h,e=>by
  simp only[Cz];split
  .omega
  rename_i h1;cases j with
  | zero=>exact absurd e h1
  | succ j =>
   have:=RB s l (k+1) j (by simpa using h) e;omega
theorem NF {d:List AJ} (h:Cn d=0) {j:Nat} (b:j<d.length):Ax d (d.getD j d0).1=(j:Int):=by
 have h1:=(Jd h j b).1;have a:=RB (d.getD j d0).1 d 0 j b (C0 _);rw[ABW]at h1 a;have a:Ax d (d.getD j d0).1<=(j:Int):=a;omega
theorem RD {d:List AJ} (h:Cn d=0) {x y:AJ} (a:x∈d) (b:y∈d) (e:Ab x.1 y.1=true):x=y:=by
 obtain⟨i,hi,rfl⟩:=CN d0 a;obtain⟨j,c,rfl⟩:=CN d0 b;grind [NF,Jc]
theorem qS (d:List AJ) (out:List ByteArray) (h:(Id d out).1=true):∃x∈d,x.1=(Id d out).2/\Ac out x.1=false/\J9 x out=true:=by
 have key:∀(l:List AJ) (s:Bool×ByteArray),(∀x∈l,x∈d)->(s.1=true->∃x∈d,x.1=s.2/\Ac out x.1=false/\J9 x out=true)->(l.foldl (Ja out) s).1=true ->
   ∃x∈d,x.1=(l.foldl (Ja out) s).2/\Ac out x.1=false/\J9 x out=true:=by
  intro l;induction l with
  | nil=>intro s _ hs h;exact hs h
  | cons y l e =>
   intro s a hs h;rw[On]at h ⊢;refine e _ (λx c=>a x (by simp[c])) (λb=>?_) h;unfold Ja at b ⊢;split
   .grind
   grind
 exact key d _ (λ_ h=>h) (λh=>by cases h) h
def PL (d:List AJ) (o:List ByteArray):Prop:=∀j,j<o.length->∃x∈d,x.1=o.getD j ByteArray.empty/\Ac (o.take j) x.1=false/\J9 x (o.take j)=true
theorem PL.snoc {d:List AJ} {o:List ByteArray} (h:PL d o) {x:AJ} (i:x∈d) (h1:Ac o x.1=false) (f:J9 x o=true):PL d (o++[x.1]):=by
 intro j g;by_cases a:j<o.length
 .obtain⟨y,k,b,c,e⟩:=h j a;grind
 grind
theorem Xj {d:List AJ}:∀ {n:Nat} {o:List ByteArray},PL d o->PL d (Jb d n o)
 | 0,_,h=>h
 | n+1,o,h=>by
  unfold Jb;split
  .rename_i b;obtain⟨x,c,e,h1,a⟩:=qS d o b;rw[<-e];exact Xj (h.snoc c h1 a)
  exact h
theorem aV (d:List AJ):PL d (Bn d):=Xj λj a=>by simp at a
theorem PL.ok {d:List AJ} {o:List ByteArray} (h:PL d o):fL d o:=by
 refine⟨λs hs=>?_,?_⟩
 .obtain⟨j,a,rfl⟩:=CN ByteArray.empty hs;obtain⟨x,b,e,-⟩:=h j a;rw[<-e];exact Dh b
 rw[SI];intro i j hi a f;obtain⟨x,b,e,h1,-⟩:=h j a;have c:=Q1 h1 o[i] (by rw[ACT];exact⟨i,by omega,rfl⟩);grind
theorem qT {n:Nat} {l:List Nat} (h:l.Nodup) (c:∀j∈l,j<n) (hn:n<=l.length) {k:Nat} (hk:k<n):k∈l:=by
 refine IF λb=>?_;have:=Ed n (k :: l) (gO.2 ⟨b,h⟩) (λj a=>by
  rcases Do.1 a with rfl|a
  .exact hk
  exact c j a)
 simp at this;omega
theorem qU {d:List AJ} (f:d.length<=(Bn d).length) {x:AJ} (h:x∈d):∃s∈Bn d,Ab s x.1=true:=by
 have a:=(aV d).ok;have h1:=La d a;have h0:=Dh h;have l:=DZ d x.1;have b:=qT (n:=d.length) h1 (λj c=>by
  obtain⟨s,hs,rfl⟩:=DO.1 c;have h1:=a.decl s hs;rcases DZ d s with g|⟨_,g,_⟩<;>omega) (by simpa using f) (k:=(Ax d x.1).toNat) O1
 obtain⟨s,hs,e⟩:=DO.1 b;refine⟨s,hs,?_⟩;rcases DZ d s with g|⟨_,_,i⟩
 .have:=a.decl s hs;omega
 grind [Be,EH]
def Gv (d:List AJ) (s:ByteArray):Nat:=(Bn d).findIdx λx=>Ab x s
theorem Il (d:List AJ) {s t:ByteArray} (h:Ab s t=true):Gv d s=Gv d t:=by grind [Gv,Ab,Be,EH]
theorem Lb {d:List AJ} (hn:Cn d=0) (o:d.length<=(Bn d).length) {x:AJ} (g:x∈d) {s:ByteArray} (hs:Ac x.2.1 s=true):Gv d s<Gv d x.1:=by
 obtain⟨t,q,e⟩:=qU o g;have c:Gv d x.1<(Bn d).length:=List.findIdx_lt_length_of_exists ⟨t,q,e⟩;have heq:Ab ((Bn d)[Gv d x.1]) x.1=true:=List.findIdx_getElem (w:=c);obtain⟨y,r,a,-,j⟩:=aV d (Gv d x.1) c;rw[AS,AT c]at a;have a:y.1=(Bn d)[Gv d x.1]:=a;rw[<-a]at heq;have z:=RD hn r g heq;subst z;obtain⟨u,hu,h⟩:=R9.1 hs;have k:Ac ((Bn d).take (Gv d y.1)) u=true:=No.1 j u hu;obtain⟨v,f,ev⟩:=R9.1 k;rw[ACT]at f;obtain⟨i,hi,rfl⟩:=f;have n:i<Gv d y.1:=by omega
 refine ADE ?_ n;refine IF λm=>?_;have b:=List.not_of_lt_findIdx (p:=λx=>Ab x s) (xs:=Bn d) (i:=i) (by unfold Gv at m;omega);have l:Ab ((Bn d)[i]) s=true:=Be ev h;try simp only at b
 rw[l]at b;exact absurd b sc
def Zf (d:List AJ) (s x:ByteArray):Prop:=Ab s x=true\/Gv d s<Gv d x
theorem zX {d:List AJ} (hn:Cn d=0) (f:d.length<=(Bn d).length) {s c:ByteArray} (b:Zf d s c) {o:List ByteArray} (e:∀x∈o,Zf d s x) {x:AJ} (g:x∈d):∀y∈Fd c o x,Zf d s y:=by
 intro y a;unfold Fd at a;split at a
 .rename_i h;rw[As]at h;rcases ON.1 a with a|a
  .exact e y a
  have:y=x.1:=by simpa using a
  subst this;have h1:=Lb hn f g h.1;right;rcases b with b|b
  .rw[Il d b];exact h1
  omega
 exact e y a
theorem Xk {d:List AJ} (hn:Cn d=0) (e:d.length<=(Bn d).length) {s c:ByteArray} (b:Zf d s c):∀ {l:List AJ} {o:List ByteArray},(∀x∈l,x∈d)->(∀x∈o,Zf d s x)->∀y∈l.foldl (Fd c) o,Zf d s y
 | [],_,_,a=>a
 | x :: l,o,f,a=>by
  rw[On];exact Xk hn e b (λy g=>f y (by simp[g])) (zX hn e b a (f x sc))
theorem Um {d:List AJ} (hn:Cn d=0) (b:d.length<=(Bn d).length) {s:ByteArray}:∀ {n i:Nat} {o:List ByteArray},(∀x∈o,Zf d s x)->∀y∈Co d n i o,Zf d s y
 | 0,_,_,a=>a
 | n+1,i,o,a=>by
  unfold Co;split
  .rename_i hi;exact Um hn b (Xk hn b (a _ (BI hi)) (λ_ h=>h) a)
  exact a
theorem A3y {c:ByteArray} {o:List ByteArray} {x:AJ} {y:ByteArray} (h:y∈o):y∈Fd c o x:=by grind [Fd]
theorem OO {c:ByteArray} {y:ByteArray}:∀ {l:List AJ} {o:List ByteArray},y∈o->y∈l.foldl (Fd c) o
 | [],_,h=>h
 | x :: l,o,h=>by rw[On];exact OO (A3y h)
theorem Lc {d:List AJ} {y:ByteArray}:∀ {n i:Nat} {o:List ByteArray},y∈o->y∈Co d n i o
 | 0,_,_,h=>h
 | n+1,i,o,h=>by
  unfold Co;split
  .exact Lc (OO h)
  exact h
theorem Hc {l:List ByteArray} {s x:ByteArray} (h:x∈Eh l s):x∈l\/x=s:=by grind [Eh]
theorem OP {l:List ByteArray} {s x:ByteArray} (h:x∈l):x∈Eh l s:=by
 unfold Eh;split
 .exact h
 have a:x∈l.take (atF l s)\/x∈l.drop (atF l s):=ON.1 (by rw[ACN];exact h);grind
theorem RE {l:List ByteArray} {s:ByteArray}:Ac (Eh l s) s=true:=by
 unfold Eh;grind [JZ,atF,Ab,Ac,C0]
theorem GC {l:List ByteArray} {s:ByteArray} (h:s∈l):Ac l s=true:=R9.2 ⟨s,h,C0 s⟩
theorem KW {l m:List ByteArray} {s:ByteArray} (hs:∀x∈l,x∈m) (h:Ac l s=true):Ac m s=true:=by
 obtain⟨x,a,e⟩:=R9.1 h;exact R9.2 ⟨x,hs x a,e⟩
theorem Xl:∀ {l o:List ByteArray} {x:ByteArray},x∈l.foldl Eh o->x∈o\/x∈l
 | [],_,_,h=>.inl h
 | y :: l,o,x,h=>by
  rw[On]at h;rcases Xl h with h|h
  .grind [Hc]
  grind
theorem aW:∀ {l o:List ByteArray} {x:ByteArray},x∈o->x∈l.foldl Eh o
 | [],_,_,h=>h
 | y :: l,o,x,h=>by rw[On];exact aW (OP h)
theorem RF:∀ {l o:List ByteArray} {x:ByteArray},x∈l->Ac (l.foldl Eh o) x=true
 | [],_,_,h=>by cases h
 | y :: l,o,x,h=>by
  rw[On];rcases Do.1 h with rfl|h
  .grind [KW,aW,RE]
  exact RF h
theorem Pn {d:List AJ} {s:ByteArray} (h:0<=Ax d s):Ac (Cp d s) s=true:=by
 unfold Cp;rw[At O1];exact RF (Lc sc)
theorem Xm {d:List AJ} (hn:Cn d=0) (c:d.length<=(Bn d).length) {s x:ByteArray} (h:Ac (Cp d s) x=true):Zf d s x:=by
 obtain⟨y,a,e⟩:=R9.1 h;have b:Zf d s y:=by
  unfold Cp at a;split at a
  .cases a
  rcases Xl a with a|a
  .cases a
  refine Um hn c (λz f=>?_) y a;have:z=s:=by simpa using f
  rw[this];exact .inl (C0 s)
 rcases b with b|b
 .exact .inl (Be b e)
 rw[Il d e]at b;exact .inr b
theorem Di {d:List AJ} {s:ByteArray} (h:s∈AO d):∃x∈d,x.1=s:=by
 have key:∀(l:List AJ) (o:List ByteArray),s∈l.foldl (λo x=>Eh o x.1) o->s∈o\/∃x∈l,x.1=s:=by
  intro l;induction l with
  | nil=>intro o h;exact .inl h
  | cons x l a =>
   intro o h;rw[On]at h;rcases a _ h with h|⟨y,b,e⟩
   .grind [Hc]
   grind
 rcases key d [] h with h|h
 .cases h
 exact h
theorem Po {d:List AJ} {x:AJ} (h:x∈d):Ac (AO d) x.1=true:=by
 have b:∀(l:List AJ) (o:List ByteArray),∀y∈o,y∈l.foldl (λo x=>Eh o x.1) o:=by
  intro l;induction l with
  | nil=>intro o y h;exact h
  | cons x l a=>intro o y h;rw[On];exact a _ y (OP h)
 have key:∀(l:List AJ) (o:List ByteArray),x∈l->Ac (l.foldl (λo x=>Eh o x.1) o) x.1=true:=by
  intro l;induction l with
  | nil=>intro o h;cases h
  | cons y l a =>
   intro o h;rw[On];rcases Do.1 h with rfl|h
   .grind [KW,RE]
   exact a _ h
 exact key d [] h
theorem k6 {d:List AJ} (hn:Cn d=0) (g:d.length<=(Bn d).length) (r:d.length<=256) {i j:Nat} (hi:i<(AO d).length) (f:j<(AO d).length)
  (h:DY (E5 d (AO d) ((AO d).getD i ByteArray.empty)) (E5 d (AO d) ((AO d).getD j ByteArray.empty))=true):Ab ((AO d).getD i ByteArray.empty) ((AO d).getD j ByteArray.empty)=true:=by
 have o:=EF d d.length;rw[R6]at o;have a:(AO d).length<=4096:=by omega
 generalize hs:(AO d).getD i ByteArray.empty=s at *;generalize b:(AO d).getD j ByteArray.empty=t at *;have p:0<=Ax d s:=by
  obtain⟨x,c,e⟩:=Di (s:=s) (by rw[<-hs];exact BI hi);rw[<-e];exact Dh c
 have q:0<=Ax d t:=by
  obtain⟨x,c,e⟩:=Di (s:=t) (by rw[<-b];exact BI f);rw[<-e];exact Dh c
 obtain⟨c1,k,-⟩:=CF (d:=d) a s i;obtain⟨c2,l,-⟩:=CF (d:=d) a t i;obtain⟨m,-,-⟩:=CF (d:=d) a s j;obtain⟨n,-,-⟩:=CF (d:=d) a t j;unfold DY at h;rw[As]at h;have b1:=Xm hn g (c2.1 (NE k l h.1 (c1.2 ⟨hi,by rw[hs];exact Pn p⟩))).2;have b2:=Xm hn g (m.1 (NE l k h.2 (n.2 ⟨f,by rw[b];exact Pn q⟩))).2;rw[hs]at b1;rw[b]at b2;rcases b1 with b1|b1
 .exact EH b1
 rcases b2 with b2|b2
 .exact b2
 omega
section
attribute [local go_sem] fC A3g NB cs0 cs1
def vS (d:List AJ) (all:List ByteArray) (codes:List (List Int)) (b:List Int):Nat->Nat->List ByteArray->ByteArray ⊕ List ByteArray
 | 0,_,l=>.inr l
 | n+1,i,l=>if DY (codes.getD i []) b=true then .inl (all.getD i ByteArray.empty) else vS d all codes b n (i+1) (if VU b (i:Int)=true then l++[all.getD i ByteArray.empty] else l)
def aX (l:List ByteArray) (s:ByteArray) (i:Nat):ByteArray:=(if 0<(i:Int) then s++ByteArray.mk #[38] else s)++l.getD i ByteArray.empty
def k7 (l:List ByteArray):ByteArray:=(List.range l.length).foldl (aX l) ByteArray.empty
def Hd (d:List AJ) (all:List ByteArray) (codes:List (List Int)) (b:List Int):ByteArray :=
 match vS d all codes b all.length 0 [] with
 | .inl s=>s
 | .inr l=>k7 (A9 d l)
theorem O5 {d:List AJ} {x:ByteArray}:∀ {l o:List ByteArray},x∈l.foldl (Fe d) o->x∈o\/x∈l
 | [],_,h=>.inl h
 | y :: l,o,h=>by
  rw[On]at h;rcases O5 h with h|h
  .unfold Fe at h;split at h
   .rcases Hc h with h|h
    .exact .inl h
    exact .inr (by simp[h])
   exact .inl h
  exact .inr (by simp[h])
theorem ID {d:List AJ} {l:List ByteArray} {x:ByteArray} (h:x∈A9 d l):x∈l:=by
 unfold A9 Q3 at h;obtain⟨i,hi,rfl⟩:=DO.1 h;rw[Tz,SH]at hi;rcases O5 (BI (d:=ByteArray.empty) hi.1) with h|h
 .cases h
 exact h
theorem fS (d:List AJ) (l:List ByteArray):(A9 d l).length<=l.length:=R5 (kU _ _ _) (KA d l)
theorem qV {l:List ByteArray} (h:∀s∈l,s.size<=32) (k:Nat):(l.getD k ByteArray.empty).size<=32:=by
 rw[AS];cases hh:l[k]? with
 | none=>simp
 | some x=>exact h x (tO hh)
def RG (l:List ByteArray) (n:Nat):ByteArray:=(List.range n).foldl (aX l) ByteArray.empty
theorem Pp (l:List ByteArray) (n:Nat):RG l (n+1)=aX l (RG l n) n:=by
 unfold RG;rw[To,ACG];rfl
theorem Xn {l:List ByteArray} (h:∀s∈l,s.size<=32):∀n,(RG l n).size<=33*n
 | 0=>by simp[RG]
 | n+1=>by
  have h1:=Xn h n;have a:=qV h n;rw[Pp];unfold aX;split
  .rw[ACR,ACR];have:(ByteArray.mk #[38]).size=1:=rfl;omega
  rw[ACR];omega
def fT:AZ:={ ins:=[Fc,GW,VT,BX],pre:=λ(d,all,codes,b,_)=>Q0 d/\List.length d<=256/\List.length all<=256/\List.length codes=List.length all/\(∀s∈(all:List ByteArray),s.size<=32)/\(∀x∈(codes:List (List Int)),x.length<=64)/\List.length b<=64,out:=λ(d,all,codes,b,_)=>[.p T9 (Hd d all codes b)] }
theorem zY:Aa Tryz.prog 164 fT:=by
 refine fK [0,1,2,3,8,9,10,11,12,16,24,31,45,49] Tryz.func164 Tryz.ntmps164 (AF zL (AF A3h (AF Xf AH))) ?_;rintro w0 O0 ⟨d,all,codes,b,u⟩ e-⟨hs,z,t,q,C,y,w⟩;have t:all.length<=256:=t;have q:codes.length=all.length:=q;simp only[fT,AL];repeat'(first|exact trivial|apply eS rfl|refine rX e ?_ ?_)
 refine AI (ι:={x:Nat×List ByteArray//x.1<=all.length/\x.2.length<=x.1/\(∀s∈x.2,s.size<=32)/\vS d all codes b (all.length-x.1) x.1 x.2=vS d all codes b all.length 0 []}) (λx=>⟨[(0,.p Fc d),(1,.p GW all),(2,.p VT codes),(3,.p BX b),(9,.sr 38 T9 0 x.1.2.length),(10,.p (.int .i64) (x.1.1:Int))],[(38,.arr 9 T9 x.1.2)]⟩) (λx=>all.length-x.1.1) ⟨(0,[]),by simp,by simp,by simp,rfl⟩ (eW [(38,.nil)]) (λx=>?_)
 obtain⟨⟨i,l⟩,hi,B,o,f⟩:=x;simp only at hi B o f;have r:i<all.length->vS d all codes b (all.length-i) i l=if DY (codes.getD i []) b=true then .inl (all.getD i ByteArray.empty) else vS d all codes b (all.length-(i+1)) (i+1) (if VU b (i:Int)=true then l++[all.getD i ByteArray.empty] else l):=by
  intro h;rw[show all.length-i=(all.length-(i+1))+1 by omega];rfl
 simp only;repeat'(first|exact trivial|apply eS rfl|apply AB|refine rX e ?_ ?_|refine rC ?_ ?_<;>intro a<;>try(cases a;done))
 .exact⟨by rw[q];exact a,R5 (ND y i) dg,R5 w dg⟩
 .assumption
 .have c:i<all.length:=by exact eV
  have j:Hd d all codes b=all.getD i ByteArray.empty:=by
   unfold Hd;rw[<-f,r c,BY a]
  exact fI e [.tmp 8] (by rw[j];exact eR)
 .have c:i<all.length:=by exact eV
  exact⟨GO.2 c,by simp only[AN];omega⟩
 .exact eV
 .have c:i<all.length:=by exact eV
  have hn:=r c;rw[At (by rw[‹DY _ _=false›];simp),BY a]at hn;refine⟨⟨(i+1,l++[all.getD i ByteArray.empty]),by simp only;omega,by simp only[F3,R7];omega,?_,hn.symm.trans f⟩,by simp only;omega,AC [(38,.nm 38)] rfl rfl ?_ ?_⟩
  .intro s hs;rcases ON.1 hs with hs|hs
   .exact o s hs
   have:s=all.getD i ByteArray.empty:=by simpa using hs
   rw[this];exact qV C i
  .exact eN
  exact eN
 .exact eV
 .have c:i<all.length:=by exact eV
  have hn:=r c;rw[At (by rw[‹DY _ _=false›];simp),At (by rw[a];simp)]at hn;exact⟨⟨(i+1,l),by simp only;omega,by simp only;omega,o,hn.symm.trans f⟩,by simp only;omega,eW [(38,.nm 38)]⟩
 have j:Hd d all codes b=k7 (A9 d l):=by
  unfold Hd;rw[<-f];have:all.length-i=0:=by exact eV
  rw[this];rfl
 refine E2 [38] ?_;repeat'(first|exact trivial|apply eS rfl|refine rX e ?_ ?_)
 .exact⟨hs,z,by omega⟩
 have v:∀s∈A9 d l,s.size<=32:=λs h=>o s (ID h);have E:=fS d l;have A:k7 (A9 d l)=RG (A9 d l) (A9 d l).length:=rfl;rw[A]at j;generalize A9 d l=m at *;refine AI (ι:={k:Nat//k<=m.length}) (λk=>⟨[(9,.p GW m),(11,.p T9 (RG m k.1)),(12,.p (.int .i64) (k.1:Int))],[]⟩) (λk=>m.length-k.1) ⟨0,If _⟩ (AC [] rfl rfl ?_ ?_) (λk=>?_)
 .exact eN
 .refine eM ?_;rfl
 obtain⟨k,hk⟩:=k;have hk:k<=m.length:=hk;have D:=Xn v k;have n:=Pp m k;have F:=qV v k;unfold aX at n;simp only;repeat'(first|exact trivial|apply eS rfl|apply AB|refine rX e ?_ ?_|refine rC ?_ ?_<;>intro a<;>try(cases a;done))
 .have h1:(ByteArray.mk #[38]).size=1:=rfl;rw[h1];simp only[AN];exact eV
 .refine⟨by assumption,?_⟩;have h1:(ByteArray.mk #[38]).size=1:=rfl;rw[ACR,h1];simp only[AN];exact eV
 .exact eV
 .have g:k<m.length:=by exact eV
  rw[BY a]at n;refine⟨⟨k+1,g⟩,by simp only;omega,AC [] rfl rfl ?_ ?_⟩
  .exact eN
  simp only[n];exact eN
 .refine⟨by assumption,?_⟩;simp only[AN];exact eV
 .exact eV
 .have g:k<m.length:=by exact eV
  rw[At (AC2.2 a)]at n;refine⟨⟨k+1,g⟩,by simp only;omega,AC [] rfl rfl ?_ ?_⟩
  .exact eN
  simp only[n];exact eN
 have g:k=m.length:=by exact eV
 rw[<-g]at j;exact fI e [.tmp 8] (by rw[j];exact eR)
end
section
attribute [local go_sem] Vx Qz A3t fQ fT fP
def GD (x:AR) (out:List AR):Nat->Nat
 | 0=>0
 | n+1=>if GY x (out.getD n c0)=true then GD x out n else n+1
def fU (out:List AR) (x:AR):List AR:=out.take (GD x out out.length)++[x]++out.drop (GD x out out.length)
def AW (d:List AJ):List (List Int):=(AO d).map λs=>E5 d (AO d) s
def HG (d:List AJ) (all:List ByteArray) (codes:List (List Int)) (out:List AR) (b:List Int):List AR:=fU out (Hd d all codes b,b)
def S2 (d:List AJ):List AR->List Int->List AR:=HG d (AO d) (AW d)
theorem Pq (d:List AJ) (all:List ByteArray) (codes:List (List Int)):∀(l:List (List Int)) (o:List AR),(l.foldl (HG d all codes) o).length=o.length+l.length
 | [],o=>by simp
 | b :: l,o=>by
  rw[On,Pq d all codes l];unfold HG fU;simp only[F3,OF,dO,Is,AC5];omega
theorem Xo {d:List AJ} {all:List ByteArray} {codes:List (List Int)}:∀ {l:List (List Int)} {o:List AR},(∀c∈l,c.length<=64)->(∀y∈o,y.2.length<=64)->∀y∈l.foldl (HG d all codes) o,y.2.length<=64
 | [],_,_,e=>e
 | b :: l,o,f,e=>by
  rw[On];refine Xo (λc g=>f c (by simp[g])) (λy a=>?_);unfold HG fU at a;simp only[ON,Tr]at a;rcases a with (a|a)|a
  .exact e y (iS a)
  .rw[a];exact f b sc
  exact e y (ACE a)
theorem k8 (x:AR) (out:List AR):∀n,GD x out n<=n
 | 0=>OR _
 | n+1=>by
  unfold GD;split
  .exact Nat.le_succ_of_le (k8 x out n)
  exact OR _
def AM (d:List AJ):List AR:=(A1 (AW d)).foldl (S2 d) []
def CG (d:List AJ):List AR×Int :=
 if BC d≠0 then ([],BC d) else if 256<(A1 (AW d)).length then ([],7) else (AM d,0)
theorem qW {s:ByteArray} {b:Bool} (h:E3 s b=true):s.size<=32:=by
 unfold E3 at h;rw[As]at h;have h1:=h.1;unfold Sr at h1;simp only[SD,AAe,SF]at h1;have:=h1.1.1.2;omega
theorem k9 {d:List AJ} (hn:Cn d=0):∀s∈AO d,s.size<=32:=by
 intro s hs;obtain⟨x,b,rfl⟩:=Di hs;obtain⟨j,a,rfl⟩:=CN d0 b;exact qW (Jd hn j a).2
def Ld (d:List AJ) (n:Nat):List (List Int):=((AO d).take n).map λs=>E5 d (AO d) s
theorem qX {d:List AJ} {n:Nat} (h:n<=(AO d).length):(Ld d n).length=n:=by simp[Ld,h]
theorem lA {d:List AJ} {n:Nat} (h:n<(AO d).length):Ld d (n+1)=Ld d n++[E5 d (AO d) ((AO d).getD n ByteArray.empty)]:=by
 unfold Ld;rw[AY _ ByteArray.empty h,SQ];rfl
theorem qY (d:List AJ):Ld d (AO d).length=AW d:=by simp[Ld,AW]
theorem qZ (d:List AJ):(AW d).length=(AO d).length:=by simp[AW]
theorem Pr {d:List AJ} (h:d.length<=256):∀c∈AW d,c.length<=64:=by
 intro c a;unfold AW at a;obtain⟨s,-,rfl⟩:=DO.1 a;have b:=EF d d.length;rw[R6]at b;exact(CF (d:=d) (all:=AO d) O1 s 0).2.2
theorem lB {i:Nat}:∀ {n k:Nat} {l:List (List Int)},(∀c∈l,c.length<=64)->∀c∈HF i n k l,c.length<=64
 | 0,_,_,h=>h
 | n+1,k,l,h=>by
  unfold HF;split
  .exact lB (kY h i k)
  exact h
theorem RH:∀ {n i:Nat} {l:List (List Int)},(∀c∈l,c.length<=64)->∀c∈Ii n i l,c.length<=64
 | 0,_,_,h=>h
 | n+1,i,l,h=>by
  unfold Ii;split
  .exact RH (lB h)
  exact h
theorem lC {out:List AR} {x y:AR}:y∈fU out x↔y=x\/y∈out:=by
 unfold fU;rw[ON,ON,Tr];have h:=ON (a:=y) (s:=out.take (GD x out out.length)) (t:=out.drop (GD x out out.length));rw[ACN]at h;rw[h];constructor
 .rintro ((h|h)|h)
  .exact .inr (.inl h)
  .exact .inl h
  exact .inr (.inr h)
 rintro (h|h|h)
 .exact .inl (.inr h)
 .exact .inl (.inl h)
 exact .inr h
def S3:AZ:={ ins:=[Fc],pre:=λ_=>True,out:=λ(d,_)=>[.p KS (CG d).1,.p MU (CG d).2] }
theorem RI:Aa Tryz.prog 118 S3:=by
 refine fK [0,2,3,4,5,6,7,8,9,10,11,12,13,17,24,41,45,73] Tryz.func118 Tryz.ntmps118 (AF zR (AF aL (AF A6I (AF zW (AF zY (AF zU AH)))))) ?_;rintro w0 O0 ⟨d,u⟩ g - -;simp only[S3,AL];repeat'(first|exact trivial|apply eS rfl|refine rX g ?_ ?_|refine rC ?_ ?_<;>intro a<;>try(cases a;done))
 .have h1:CG d=([],BC d):=by unfold CG;rw[BY a]
  exact fI g [.tmp 2,.tmp 3] (by rw[h1];exact eR)
 .have i:BC d=0:=by simpa using a
  obtain⟨-,E,-⟩:=A5 i;exact R5 E dg
 have i:BC d=0:=by simpa using a
 obtain⟨M,s,-,hn,-⟩:=A5 i;have F:=EF d d.length;rw[R6]at F;have N:=k9 hn;refine AI (ι:={n:Nat//n<=(AO d).length}) (λn=>⟨[(0,.p Fc d),(5,.p GW (AO d)),(6,.sr 36 BX 0 (Ld d n.1).length),(7,.p (.int .i64) (n.1:Int))],[(36,.arr 140 BX (Ld d n.1))]⟩) (λn=>(AO d).length-n.1) ⟨0,If _⟩ (AC [(36,.nil)] rfl rfl ?_ ?_) (λn=>?_)
 .refine eM ?_;rfl
 .refine eM ?_;rfl
 obtain⟨n,I⟩:=n;have Q:=qX I;have hs:=λh=>lA (d:=d) (n:=n) h;simp only;repeat'(first|exact trivial|apply eS rfl|apply AB|refine rX g ?_ ?_|refine rC ?_ ?_<;>intro a<;>try(cases a;done))
 .refine⟨a,⟨s,by dsimp only[Ty.den]at *;omega⟩,?_⟩;simp only[AN];dsimp only[Ty.den]at *;omega
 .exact eV
 .have w:n<(AO d).length:=by exact eV
  have e:=hs w;refine⟨⟨n+1,by omega⟩,by simp only;omega,AC [(36,.nm 36)] rfl rfl ?_ ?_⟩
  .simp only[e];exact eN
  simp only[e];exact eN
 have w:n=(AO d).length:=by exact eV
 subst w;rw[qY];have H:=qZ d;have x:=Pr s;have t:∀c∈A1 (AW d),c.length<=64:=RH x;refine E2 [36] ?_;repeat'(first|exact trivial|apply eS rfl|refine rX g ?_ ?_|refine rC ?_ ?_<;>intro a<;>try(cases a;done))
 .exact⟨by omega,x⟩
 .have h1:CG d=([],7):=by
   unfold CG;rw[At (by rw[i];simp),BY O1]
  exact fI g [.tmp 2,.tmp 3] (by rw[h1];exact eR)
 have D:CG d=((A1 (AW d)).foldl (HG d (AO d) (AW d)) [],0):=by
  unfold CG;rw[At (by rw[i];simp),At O1];rfl
 generalize A1 (AW d)=f at *;generalize AW d=codes at *;generalize AO d=all at *;refine AI (ι:={k:Nat//k<=f.length}) (λk=>⟨[(0,.p Fc d),(5,.p GW all),(6,.p VT codes),(8,.p VT f),(9,.sr 9 fA 0 ((f.take k.1).foldl (HG d all codes) []).length),(10,.p (.int .i64) (k.1:Int))],[(9,.arr 152 fA ((f.take k.1).foldl (HG d all codes) []))]⟩) (λk=>f.length-k.1) ⟨0,If _⟩ (AC [(9,.nil)] rfl rfl ?_ ?_) (λk=>?_)
 .refine eM ?_;rfl
 .refine eM ?_;rfl
 obtain⟨k,hk⟩:=k;have C:=Pq d all codes (f.take k) [];have O:(f.take k).length=k:=by rw[OF];exact ACd hk
 have J:=Xo (d:=d) (all:=all) (codes:=codes) (l:=f.take k) (o:=[]) (λc g=>t c (iS g)) sc;have L:=λh:k<f.length=>FI (HG d all codes) f [] [] h;rw[O]at C;simp only[AC5,ABW]at C;generalize B:(f.take k).foldl (HG d all codes) []=out at *;simp only;repeat'(first|exact trivial|apply eS rfl|refine rX g ?_ ?_|refine rC ?_ ?_<;>intro a<;>try(cases a;done))
 .exact⟨a,⟨M,s,by omega,H,N,x,ND t k⟩,a⟩
 .have v:k<f.length:=by exact eV
  have e:=L v;have G:=ND t k;generalize f.getD k []=b at *;unfold HG at e;generalize Hd d all codes b=nm at *;refine AI (ι:={q:Nat//q<=out.length/\GD (nm,b) out q=GD (nm,b) out out.length}) (λq=>⟨[(0,.p Fc d),(5,.p GW all),(6,.p VT codes),(8,.p VT f),(9,.sr 9 fA 0 out.length),(10,.p (.int .i64) (k:Int)),(11,.bp 11 [] 0),(12,.p (.int .i64) (q.1:Int))],[(9,.arr 152 fA out),(11,.box 152 true [.p T9 nm,.p BX b])]⟩) (λq=>q.1) ⟨out.length,OR _,rfl⟩ (eW [(9,.nm 9),(11,.nm 11)]) (λq=>?_)
  obtain⟨q,j,A⟩:=q;have j:q<=out.length:=j;simp only;repeat'(first|exact trivial|apply eS rfl|apply AB|refine rX g ?_ ?_|refine rC ?_ ?_<;>intro a<;>try(cases a;done))
  .refine⟨λh=>by omega,λh=>by exact eV,λh=>⟨R5 G dg,R5 (J _ (AD out c0 (k:=((q:Int)-1).toNat) O1)) dg⟩⟩
  .omega
  .obtain⟨P,z⟩:=a;obtain⟨q,rfl⟩:∃r,q=r+1:=⟨q-1,by omega⟩;have m:((q+1:Nat):Int)-1=(q:Int):=by omega
   refine⟨⟨q,by omega,?_⟩,ADs q,AC [(9,.nm 9),(11,.nm 11)] rfl rfl ?_ ?_⟩
   .rw[<-A];rw[m,R3]at z;show _=if GY (nm,b) (out.getD q c0)=true then GD (nm,b) out q else q+1
    rw[BY z]
   .exact eN
   refine eM ?_;show (q:Int)+1-1=q;omega
  .refine⟨R4.2 j,?_⟩;rw[OF];simp only[AN];omega
  .rw[OF];simp only[AN];omega
  .refine⟨R4.2 j,?_⟩;rw[OF,dO];simp only[AN];omega
  .omega
  have K:GD (nm,b) out q=q:=by
   cases q with
   | zero=>rfl
   | succ q =>
    have m:((q+1:Nat):Int)-1=(q:Int):=by omega
    have:=a O1;rw[m,R3]at this;show (if GY (nm,b) (out.getD q c0)=true then GD (nm,b) out q else q+1)=q+1;rw[At (by rw[this];simp)]
  unfold fU at e;rw[<-A,K]at e;refine⟨⟨k+1,by omega⟩,by simp only;omega,AC [(9,.nm 80)] rfl rfl ?_ ?_⟩
  .refine eM ?_;exact e.symm
  refine eM ?_;have y:=ACb List.length e;rw[F3,F3]at y;exact y.symm
 have v:k=f.length:=by exact eV
 rw[v,R6]at B;rw[B]at D;refine E2 [9] ?_;exact fI g [.tmp 2,.tmp 3] (by rw[D];exact eR)
end
theorem aY {d:List AJ}:∀ {l:List (List Int)} {o:List AR} {y:AR},y∈l.foldl (S2 d) o↔y∈o\/∃b∈l,y=(Hd d (AO d) (AW d) b,b)
 | [],o,y=>by simp
 | b :: l,o,y=>by
  rw[On,aY];unfold S2 HG;rw[lC];simp only[Do];constructor
  .rintro ((h|h)|⟨c,a,e⟩)
   .exact .inr ⟨b,.inl rfl,h⟩
   .exact .inl h
   exact .inr ⟨c,.inr a,e⟩
  rintro (h|⟨c,rfl|a,e⟩)
  .exact .inl (.inr h)
  .exact .inl (.inl e)
  exact .inr ⟨c,a,e⟩
theorem Dj {d:List AJ} {y:AR}:y∈AM d↔∃b∈A1 (AW d),y=(Hd d (AO d) (AW d) b,b):=by
 unfold AM;rw[aY];simp
theorem Im (d:List AJ):(AM d).length=(A1 (AW d)).length:=by
 have h:=Pq d (AO d) (AW d) (A1 (AW d)) [];rw[AC5,ABW]at h;exact h
theorem A3z {l:List (List Int)} {i k:Nat} {c:List Int} (h:c∈l):c∈HE l i k:=by
 unfold HE;split
 .exact ON.2 (.inl h)
 exact h
theorem lD {i:Nat} {c:List Int}:∀ {n k:Nat} {l:List (List Int)},c∈l->c∈HF i n k l
 | 0,_,_,h=>h
 | n+1,k,l,h=>by
  unfold HF;split
  .exact lD (A3z h)
  exact h
theorem lE {c:List Int}:∀ {n i:Nat} {l:List (List Int)},c∈l->c∈Ii n i l
 | 0,_,_,h=>h
 | n+1,i,l,h=>by
  unfold Ii;split
  .exact lE (lD h)
  exact h
theorem Je (d:List AJ) {i:Nat} (h:i<(AO d).length):(AW d).getD i []=E5 d (AO d) ((AO d).getD i ByteArray.empty):=by
 unfold AW;simp[AS,h]
theorem vT {d:List AJ} (hn:Cn d=0) (f:d.length<=(Bn d).length) (c:d.length<=256) {j:Nat} (b:j<(AO d).length):∀(m i:Nat) (l:List ByteArray),i+m=(AO d).length->i<=j ->
  ∃s,vS d (AO d) (AW d) ((AW d).getD j []) m i l=.inl s/\Ab s ((AO d).getD j ByteArray.empty)=true
 | 0,i,l,h,g=>by omega
 | m+1,i,l,h,g=>by
  unfold vS;split
  .rename_i a;refine⟨_,rfl,?_⟩;rw[Je d O1,Je d b]at a;exact k6 hn f c O1 b a
  rename_i a;have k:i≠j:=by
   intro e;subst e;exact a (k5 _)
  exact vT hn f c b m (i+1) _ O1 O1
theorem vU (s:ByteArray):∀(l:List AR) (k:Nat),NC s k l<((k+l.length:Nat):Int)
 | [],k=>by simp only[NC];omega
 | x :: l,k=>by
  simp only[NC];split
  .simp only[Is];omega
  have:=vU s l (k+1);simp only[Is];omega
theorem vV (s:ByteArray):∀(l:List AR) (k:Nat) (x:AR),x∈l->Ab x.1 s=true->0<=NC s k l
 | [],_,_,h,_=>by cases h
 | y :: l,k,x,h,e=>by
  simp only[NC];split
  .omega
  rename_i a;rcases Do.1 h with rfl|h
  .exact absurd e a
  exact vV s l (k+1) x h e
theorem Io (l:List AR) (s:ByteArray):BR l s<(l.length:Int):=by
 have:=vU s l 0;rw[ABW]at this;exact this
theorem He {d:List AJ} (h:BC d=0) {s:ByteArray} (hs:Ac (AO d) s=true):0<=BR (AM d) s:=by
 obtain⟨-,b,-,hn,f⟩:=A5 h;obtain⟨t,g,e⟩:=R9.1 hs;obtain⟨j,c,rfl⟩:=CN ByteArray.empty g;obtain⟨u,hu,a⟩:=vT hn f b c (AO d).length 0 [] O1 O1;have i:(AW d).length=(AO d).length:=by simp[AW]
 refine vV s (AM d) 0 (u,(AW d).getD j []) ?_ (Be a e);rw[Dj];refine⟨(AW d).getD j [],lE (BI O1),?_⟩;unfold Hd;rw[hu]
theorem Un {d:List AJ} (h:BC d=0) {x:AJ} (a:x∈d):0<=BR (AM d) x.1:=He h (Po a)
theorem Bg {d:List AJ} (h:(CG d).2=0):BC d=0/\(A1 (AW d)).length<=256/\(CG d).1=AM d:=by
 unfold CG at h ⊢;split at h
 .rename_i h1;exact absurd h h1
 rename_i h1;split at h
 .cases h
 rename_i a;exact⟨IF h1,by omega,by rw[At h1,At a]⟩
theorem vW {d:List AJ} (h:BC d=0):0<(AM d).length:=by
 obtain⟨-,-,a,-,-⟩:=A5 h;cases d with
 | nil=>cases a
 | cons x d =>
  have:=Un h (x:=x) sc;have b:=Io (AM (x :: d)) x.1;omega
section
attribute [local go_sem] vP
def A9v (l:List AR) (i k:Int) (m:Nat):Bool:=(m:Int)==i||(m:Int)==k||!L8 l k (m:Int)||!L8 l (m:Int) i
def zZ (l:List AR) (i k:Int) (n:Nat):Bool:=(List.range n).all (A9v l i k)
def z2 (l:List AR) (i:Int) (k:Nat):Bool:=!((k:Int)==i||!L8 l (k:Int) i)&&zZ l i (k:Int) l.length
def O6 (l:List AR) (i:Int) (n:Nat):List Int:=((List.range n).filter λ(k:Nat)=>z2 l i k).map λ(k:Nat)=>(k:Int)
def aZ (l:List AR) (i:Int):List Int:=O6 l i l.length
theorem q9 (l:List AR) (i:Int) (n:Nat):O6 l i (n+1)=O6 l i n++if z2 l i n=true then [(n:Int)] else []:=by
 unfold O6;rw[To,ACr,SQ]
 congr 1
 rw[Tu,AD4];split<;>rfl
theorem z3 (l:List AR) (i:Int) (n:Nat):(O6 l i n).length<=n:=by
 unfold O6;rw[Of];exact R5 (bY _ _) sc
theorem z4 (l:List AR) (i k:Int) (n:Nat):zZ l i k (n+1)=(zZ l i k n&&A9v l i k n):=by
 unfold zZ;rw[To,ACX];simp
def A3A:AZ:={ ins:=[KS,T3],pre:=λ(l,i,_)=>((0:Int)<=i/\i<(List.length l:Int))/\List.length l<=256/\(∀x∈(l:List AR),x.2.length<=64),out:=λ(l,i,_)=>[.p Ee (aZ l i)] }
theorem A6O:Aa Tryz.prog 119 A3A:=by
 refine fK [0,1,4,5,6,7,8,12,24,28,56] Tryz.func119 Tryz.ntmps119 (AF vQ AH) ?_;rintro w0 O0 ⟨l,i,u⟩ c-⟨hi,g,o⟩;have g:l.length<=256:=g;have f:∀x∈(l:List AR),x.2.length<=100000:=λx h=>R5 (o x h) dg;simp only[A3A,AL];repeat'(first|exact trivial|apply eS rfl|refine rX c ?_ ?_)
 refine AI (ι:={k:Nat//k<=l.length}) (λk=>⟨[(0,.p KS l),(1,.p T3 i),(5,.sr 60 T3 0 (O6 l i k.1).length),(6,.p (.int .i64) (k.1:Int))],[(60,.arr 3 T3 (O6 l i k.1))]⟩) (λk=>l.length-k.1) ⟨0,If _⟩ (AC [(60,.nil)] rfl rfl ?_ ?_) (λk=>?_)
 .refine eM ?_;rfl
 .refine eM ?_;rfl
 obtain⟨k,hk⟩:=k;have hk:k<=l.length:=hk;have q:=z3 l i k;have hs:=q9 l i k;simp only;repeat'(first|exact trivial|apply eS rfl|apply AB|refine rX c ?_ ?_|refine rC ?_ ?_<;>intro a<;>try(cases a;done))
 .intro h;exact⟨by assumption,hi,f⟩
 .exact eV
 .have e:k<l.length:=by exact eV
  have b:z2 l i k=false:=by
   unfold z2;rw[ACS];left;rw[AD3,Ts,Tx,SD];exact a
  rw[b,At sc,SJ]at hs;refine⟨⟨k+1,by omega⟩,by simp only;omega,AC [(60,.nm 60)] rfl rfl ?_ ?_⟩
  .simp only[hs];exact eN
  simp only[hs];exact eN
 .have e:k<l.length:=by exact eV
  have b:z2 l i k=zZ l i (k:Int) l.length:=by
   unfold z2;rw[show ((k:Int)==i||!L8 l (k:Int) i)=false by
    rw[AAe,ACc,AD3];exact a]
   rfl
  refine AI (ι:={m:Nat//m<=l.length}) (λm=>⟨[(0,.p KS l),(1,.p T3 i),(5,.sr 60 T3 0 (O6 l i k).length),(6,.p (.int .i64) (k:Int)),(7,.p .bool (zZ l i (k:Int) m.1)),(8,.p (.int .i64) (m.1:Int))],[(60,.arr 3 T3 (O6 l i k))]⟩) (λm=>l.length-m.1) ⟨0,If _⟩ (AC [(60,.nm 60)] rfl rfl ?_ ?_) (λm=>?_)
  .exact eN
  .refine eM ?_;rfl
  obtain⟨m,j⟩:=m;have j:m<=l.length:=j;have n:=z4 l i (k:Int) m;simp only;repeat'(first|exact trivial|apply eS rfl|apply AB|refine rX c ?_ ?_|refine rC ?_ ?_<;>intro a<;>try(cases a;done))
  .exact⟨λh=>⟨by assumption,a,f⟩,λh=>⟨a,hi,f⟩⟩
  .exact eV
  .have d:m<l.length:=by exact eV
   refine⟨⟨m+1,by omega⟩,by simp only;omega,AC [(60,.nm 60)] rfl rfl ?_ ?_⟩
   .exact eN
   simp only[n];unfold A9v;exact eN
  .simp only[AN];dsimp only[Ty.den]at *;omega
  .exact eV
  .have d:m=l.length:=by exact eV
   subst d;rw[b,BY a]at hs;refine⟨⟨k+1,by omega⟩,by simp only;omega,AC [(60,.nm 60)] rfl rfl ?_ ?_⟩
   .simp only[hs];exact eN
   simp only[hs];exact eN
  .exact eV
  have d:m=l.length:=by exact eV
  subst d;rw[b,At (by rw[a];simp),SJ]at hs;refine⟨⟨k+1,by omega⟩,by simp only;omega,AC [(60,.nm 60)] rfl rfl ?_ ?_⟩
  .simp only[hs];exact eN
  simp only[hs];exact eN
 have e:k=l.length:=by exact eV
 subst e;refine E2 [60] ?_;exact fI c [.tmp 4] (by unfold aZ;exact eR)
end
section
attribute [local go_sem] Qz Xa J8
abbrev FV:=ByteArray×ByteArray
abbrev f0V:FV:=(ByteArray.empty,ByteArray.empty)
def dcG (all:List ByteArray) (l:List FV):Nat->List FV->Int
 | _,[]=>0
 | k,x :: r=>if E3 x.1 true=false then 1 else if ((l.take k).any λy=>Ab y.1 x.1)=true then 4 else if Ac all x.2=false then 5 else dcG all l (k+1) r
def fV (all:List ByteArray):List AJ->Int
 | []=>0
 | x :: l=>if dcG all x.2.2 0 x.2.2≠0 then dcG all x.2.2 0 x.2.2 else fV all l
def Le (d:List AJ):Int:=fV (AO d) d
theorem A3B (all:List ByteArray) (l:List FV) {k:Nat} (h:k<l.length):dcG all l k (l.drop k)=if E3 (l.getD k f0V).1 true=false then 1 else if ((l.take k).any λy=>Ab y.1 (l.getD k f0V).1)=true then 4 else if Ac all (l.getD k f0V).2=false then 5 else dcG all l (k+1) (l.drop (k+1)):=by
 rw[IS h];have e:l.getD k f0V=l[k]:=by simp[AS,h]
 rw[e];rfl
theorem z5 (all:List ByteArray) (l:List AJ) {k:Nat} (h:k<l.length):fV all (l.drop k)=if dcG all (l.getD k d0).2.2 0 (l.getD k d0).2.2≠0 then dcG all (l.getD k d0).2.2 0 (l.getD k d0).2.2 else fV all (l.drop (k+1)):=by
 rw[IS h];have e:l.getD k d0=l[k]:=by simp[AS,h]
 rw[e];rfl
def rA:AZ:={ ins:=[Fc],pre:=λ(d,_)=>List.length d<=256,out:=λ(d,_)=>[.p MU (Le d)] }
theorem A3C:Aa Tryz.prog 193 rA:=by
 refine fK [0,2,3,4,5,6,7,13,24,33,36,49,57] Tryz.func193 Tryz.ntmps193 (AF aL (AF qI (AF Hb AH))) ?_;rintro w0 O0 ⟨d,u⟩ c ⟨⟨x,v⟩,-⟩ j;have j:d.length<=256:=j;simp only[rA,AL];repeat'(first|exact trivial|apply eS rfl|refine rX c ?_ ?_)
 .exact R5 j dg
 have w:Le d=fV (AO d) d:=rfl;rw[w];generalize AO d=all at *;refine AI (ι:={i:Nat//i<=d.length/\fV all (d.drop i)=fV all d}) (λi=>⟨[(0,.p Fc d),(3,.p GW all),(4,.p (.int .i64) (i.1:Int))],[]⟩) (λi=>d.length-i.1) ⟨0,If _,rfl⟩ (eW []) (λi=>?_)
 obtain⟨i,hi,hf⟩:=i;simp only;repeat'(first|exact trivial|apply eS rfl|refine rX c ?_ ?_|refine rC ?_ ?_<;>intro a<;>try(cases a;done))
 .exact a
 .have o:i<d.length:=by exact eV
  rw[z5 all d o]at hf;have A:(d.getD i d0).2.2.length<=AN:=(v _ (AD d d0 o)).2.2.1;have z:(List.getD d i (ByteArray.empty,[],[])).2.2=(d.getD i d0).2.2:=rfl;rw[z];generalize (d.getD i d0).2.2=l at *;simp only[AN]at A;refine AI (ι:={k:Nat//k<=l.length/\dcG all l k (l.drop k)=dcG all l 0 l}) (λk=>⟨[(0,.p Fc d),(3,.p GW all),(4,.p (.int .i64) (i:Int)),(5,.p qD l),(6,.p (.int .i64) (k.1:Int))],[]⟩) (λk=>l.length-k.1) ⟨0,If _,rfl⟩ (eW []) (λk=>?_)
  obtain⟨k,hk,b⟩:=k;have r:=λh:k<l.length=>A3B all l h;simp only;repeat'(first|exact trivial|apply eS rfl|apply AB|refine rX c ?_ ?_|refine rC ?_ ?_<;>intro a<;>try(cases a;done))
  .exact a
  .have e:k<l.length:=by exact eV
   rw[r e,BY a]at b;rw[<-b,BY dg]at hf;exact fI c [.tmp 2] (by rw[<-hf];exact eR)
  .have e:k<l.length:=by exact eV
   have q:(k:Int)<(l.length:Int):=GO.2 e;rw[r e,At (by rw[a];simp)]at b;refine AI (ι:={m:Nat//m<=k/\((l.take m).any λy=>Ab y.1 (l.getD k f0V).1)=false}) (λm=>⟨[(0,.p Fc d),(3,.p GW all),(4,.p (.int .i64) (i:Int)),(5,.p qD l),(6,.p (.int .i64) (k:Int)),(7,.p (.int .i64) (m.1:Int))],[]⟩) (λm=>k-m.1) ⟨0,If _,rfl⟩ (eW []) (λm=>?_)
   obtain⟨m,B,g⟩:=m;have s:=λh:m<l.length=>OK l f0V (λy=>Ab y.1 (l.getD k f0V).1) h;simp only;repeat'(first|exact trivial|apply eS rfl|apply AB|refine rX c ?_ ?_|refine rC ?_ ?_<;>intro a<;>try(cases a;done))
   .have h1:(m:Int)<(k:Int):=a;exact⟨by exact eV,q⟩
   .have f:m<k:=GO.1 (by assumption);have n:=s O1;have t:((l.take k).any λy=>Ab y.1 (l.getD k f0V).1)=true:=by
     rw[R9];exact⟨l.getD m f0V,by
      rw[ACT];refine⟨m,by omega,?_⟩;simp[AS,show m<l.length by omega],a⟩
    rw[BY t]at b;rw[<-b,BY dg]at hf;exact fI c [.tmp 2] (by rw[<-hf];exact eR)
   .omega
   .have f:m<k:=GO.1 (by assumption);have n:=s O1;refine⟨⟨m+1,by omega,?_⟩,by simp only;omega,AC [] rfl rfl ?_ ?_⟩
    .rw[n,g];exact a
    .exact eN
    exact eN
   .exact q
   .have f:m=k:=by omega
    subst f;rw[At (by rw[g];simp),BY a]at b;rw[<-b,BY dg]at hf;exact fI c [.tmp 2] (by rw[<-hf];exact eR)
   .have:=x;simp only[AN]at this;omega
   have f:m=k:=by omega
   subst f;rw[At (by rw[g];simp),At (by rw[a];simp)]at b;exact⟨⟨m+1,by omega,b⟩,by simp only;omega,eW []⟩
  .omega
  have e:l.drop k=[]:=By (R4.1 a);rw[e]at b;rw[<-b,At (by simp[dcG])]at hf;exact⟨⟨i+1,by omega,hf⟩,by simp only;omega,eW []⟩
 have e:d.drop i=[]:=By (by exact eV);rw[e]at hf;exact fI c [.tmp 2] (by rw[<-hf];first|exact eR|refine Uf ?_;rfl)
end
section
attribute [local go_sem] fO fB NB cs0
def H0 (s:ByteArray) (o:List ByteArray) (x:AJ):List ByteArray:=if (DR x s).2=true then Eh o x.1 else o
def Fx (d:List AJ) (s:ByteArray):List ByteArray:=d.foldl (H0 s) []
theorem rB (s:ByteArray) (d:List AJ) (k:Nat):(Fx (d.take k) s).length<=k:=by
 have key:∀(l:List AJ) (o:List ByteArray),(l.foldl (H0 s) o).length<=o.length+l.length:=by
  intro l;induction l with
  | nil=>intro o;simp
  | cons x l b =>
   intro o;have h1:=b (H0 s o x);have a:(H0 s o x).length<=o.length+1:=by
    unfold H0;split
    .exact M9 o x.1
    omega
   simp only[On,Is];omega
 have h1:=key (d.take k) [];have a:=UA k d;unfold Fx;simp only[AC5]at h1;omega
def Dk (d:List AJ) (s:ByteArray):ByteArray×Bool:=if (A9 d (Fx d s)).length=1 then ((A9 d (Fx d s)).getD 0 ByteArray.empty,true) else (ByteArray.empty,false)
def fW:AZ:={ ins:=[Fc,T9],pre:=λ(d,_,_)=>Q0 d/\List.length d<=256,out:=λ(d,s,_)=>[.p T9 (Dk d s).1,.p .bool (Dk d s).2] }
theorem lF:Aa Tryz.prog 167 fW:=by
 refine fK [0,1,4,5,6,7,9,10,14,26,39] Tryz.func167 Tryz.ntmps167 (AF kW (AF Ss (AF Xf AH))) ?_;rintro w0 O0 ⟨d,s,u⟩ c-⟨l,f⟩;have f:d.length<=256:=f;simp only[fW,AL];repeat'(first|exact trivial|apply eS rfl|refine rX c ?_ ?_)
 refine AI (ι:={i:Nat//i<=d.length}) (λi=>⟨[(0,.p Fc d),(1,.p T9 s),(6,.p GW (Fx (d.take i.1) s)),(7,.p (.int .i64) (i.1:Int))],[]⟩) (λi=>d.length-i.1) ⟨0,If _⟩ (AC [] rfl rfl ?_ ?_) (λi=>?_)
 .exact eN
 .refine eM ?_;rfl
 obtain⟨i,hi⟩:=i;have hi:i<=d.length:=hi;have hn:=rB s d i;have hs:=λh:i<d.length=>FI (H0 s) d d0 [] h;have j:∀e,Fx e s=e.foldl (H0 s) []:=λ_=>rfl;rw[<-j,<-j]at hs;unfold H0 at hs;simp only;repeat'(first|exact trivial|apply eS rfl|apply AB|refine rX c ?_ ?_|refine rC ?_ ?_<;>intro a<;>try(cases a;done))
 .exact a
 .exact⟨by assumption,by omega⟩
 .exact eV
 .have b:i<d.length:=by exact eV
  have e:=hs b;rw[BY a]at e;refine⟨⟨i+1,by omega⟩,by simp only;omega,AC [] rfl rfl ?_ ?_⟩
  .exact eN
  simp only[e];exact eN
 .exact eV
 .have b:i<d.length:=by exact eV
  have e:=hs b;rw[At (by rw[a];simp)]at e;refine⟨⟨i+1,by omega⟩,by simp only;omega,AC [] rfl rfl ?_ ?_⟩
  .exact eN
  simp only[e];exact eN
 .exact⟨l,f,by omega⟩
 .have b:d.take i=d:=An (by exact eV);rw[b]at a ⊢;have h1:Dk d s=(ByteArray.empty,false):=by
   unfold Dk;rw[At O1]
  exact fI c [.tmp 4,.tmp 5] (by rw[h1];first|exact eR|refine Uf ?_;first|rfl|exact⟨rfl,rfl⟩)
 .have g:((A9 d (Fx (d.take i) s)).length:Int)=1:=by simpa using a
  have k:(0:Int)<((A9 d (Fx (d.take i) s)).length:Int):=by rw[g];decide
  exact k
 have b:d.take i=d:=An (by exact eV);rw[b]at a ⊢;have g:((A9 d (Fx d s)).length:Int)=1:=by simpa using a
 have h1:Dk d s=((A9 d (Fx d s)).getD 0 ByteArray.empty,true):=by
  unfold Dk;rw[BY O1]
 exact fI c [.tmp 4,.tmp 5] (by rw[h1];exact eR)
end
section
attribute [local go_sem] fO Vy vP A3i
def KX (l:List AR) (t:Int) (s:ByteArray) (o:List Int×Bool) (x:AJ):List Int×Bool :=
 if (!(DR x s).2||!L8 l (BR l x.1) t)=true then o else (EW o.1 (l.getD (BR l (DR x s).1).toNat c0).2,true)
def Fy (d:List AJ) (l:List AR) (t:Int) (s:ByteArray):List Int×Bool:=d.foldl (KX l t s) ((l.getD 0 c0).2,false)
def rD (d:List AJ) (l:List AR):Prop:=(∀x∈d,0<=BR l x.1)/\∀x∈d,∀y∈x.2.2,0<=BR l y.2
theorem lG (s:ByteArray):∀(l:List (ByteArray×ByteArray)),(kV s l).2=true->∃y∈l,y.2=(kV s l).1
 | [],h=>by cases h
 | x :: l,h=>by
  simp only[kV]at h ⊢;split at h
  .rename_i h1;rw[BY h1];exact⟨x,by simp,rfl⟩
  rename_i h1;rw[At h1];obtain⟨y,a,e⟩:=lG s l h;exact⟨y,by simp[a],e⟩
theorem rD.value {d:List AJ} {l:List AR} (h:rD d l) {x:AJ} (b:x∈d) {s:ByteArray} (a:(DR x s).2=true):0<=BR l (DR x s).1:=by
 obtain⟨y,c,e⟩:=lG s x.2.2 a;have:=h.2 x b y c;rw[e]at this;exact this
theorem A3D {l:List AR} (t:Int) (s:ByteArray) (x:AJ) {o:List Int×Bool} (h:o.1.length<=64):(KX l t s o x).1.length<=64:=by
 unfold KX;split
 .exact h
 exact R5 (kX _ _) h
theorem Xp {l:List AR} (t:Int) (s:ByteArray):∀(d:List AJ) {o:List Int×Bool},o.1.length<=64->(d.foldl (KX l t s) o).1.length<=64
 | [],_,h=>h
 | x :: d,_,h=>by rw[On];exact Xp t s d (A3D t s x h)
theorem lH (s:ByteArray):∀(l:List AR) (k:Nat),NC s k l<((k+l.length:Nat):Int)
 | [],k=>by simp only[NC];omega
 | x :: l,k=>by
  simp only[NC];split
  .simp only[Is];omega
  have:=lH s l (k+1);simp only[Is];omega
theorem Uo (l:List AR) (s:ByteArray):BR l s<(l.length:Int):=by
 have:=lH s l 0;rw[ABW]at this;exact this
def A6Q:AZ:={ ins:=[Fc,KS,T3,T9],pre:=λ(d,l,t,_,_)=>rD d l/\((0:Int)<=t/\t<(List.length l:Int))/\List.length l<=256/\(∀x∈(l:List AR),x.2.length<=64),out:=λ(d,l,t,s,_)=>[.p BX (Fy d l t s).1,.p .bool (Fy d l t s).2] }
theorem A3E:Aa Tryz.prog 158 A6Q:=by
 refine fK [0,1,2,3,8,9,10,11,12,13,14,22,48] Tryz.func158 Tryz.ntmps158 (AF kW (AF aP (AF vQ (AF qJ AH)))) ?_;rintro w0 O0 ⟨d,l,t,s,u⟩ f ⟨⟨A,G⟩,-⟩ ⟨r,j,n,w⟩;have n:l.length<=256:=n;have F:∀x∈(l:List AR),x.2.length<=100000:=λx h=>R5 (w x h) dg;have q:0<List.length l:=GO.1 (ADl j.1 j.2);simp only[AN]at A;simp only[A6Q,AL];repeat'(first|exact trivial|apply eS rfl|refine rX f ?_ ?_)
 .exact GO.2 q
 have m:Fy d l t s=d.foldl (KX l t s) ((l.getD 0 c0).2,false):=rfl;have y:(l.getD 0 c0).2.length<=64:=w _ (AD l c0 q);have z:(List.getD l 0 (ByteArray.empty,[])).2=(l.getD 0 c0).2:=rfl;rw[z];generalize (l.getD 0 c0).2=c at *;refine AI (ι:={i:Nat//i<=d.length}) (λi=>⟨[(0,.p Fc d),(1,.p KS l),(2,.p T3 t),(3,.p T9 s),(10,.p .bool ((d.take i.1).foldl (KX l t s) (c,false)).2),(11,.p BX ((d.take i.1).foldl (KX l t s) (c,false)).1),(12,.p (.int .i64) (i.1:Int))],[]⟩) (λi=>d.length-i.1) ⟨0,If _⟩ (AC [] rfl rfl ?_ ?_) (λi=>?_)
 .exact eN
 .refine eM ?_;exact⟨rfl,rfl⟩
 obtain⟨i,hi⟩:=i;have hi:i<=d.length:=hi;have B:=Xp (l:=l) t s (d.take i) (o:=(c,false)) y;have hs:=λh:i<d.length=>FI (KX l t s) d d0 (c,false) h;have E:=λh:i<d.length=>r.1 _ (AD d d0 h);have D:=λ(h:i<d.length) (g:(DR (d.getD i d0) s).2=true)=>r.value (AD d d0 h) g;have k:∀o x,KX l t s o x=(if (!(DR x s).2||!L8 l (BR l x.1) t)=true then o else (EW o.1 (l.getD (BR l (DR x s).1).toNat c0).2,true)):=λ_ _=>rfl;generalize v:(d.take i).foldl (KX l t s) (c,false)=o at *;simp only;repeat'(first|exact trivial|apply eS rfl|apply AB|refine rX f ?_ ?_|refine rC ?_ ?_<;>intro a<;>try(cases a;done))
 .exact a
 .have b:i<d.length:=GO.1 a;exact⟨λ_=>a,λ_=>⟨⟨E b,Uo _ _⟩,j,F⟩⟩
 .exact eV
 .have b:i<d.length:=GO.1 (by assumption);have e:=hs b;rw[k,BY (by rw[Ts,SD,SD];exact a)]at e;refine⟨⟨i+1,by omega⟩,by simp only;omega,AC [] rfl rfl ?_ ?_⟩
  .exact eN
  refine eM ?_;rw[e];exact⟨rfl,rfl⟩
 .have b:i<d.length:=GO.1 (by assumption);exact⟨⟨D b a.1,Uo _ _⟩,R5 B dg⟩
 .exact eV
 .have b:i<d.length:=GO.1 (by assumption);have e:=hs b;have C:¬(!(DR (d.getD i d0) s).2||!L8 l (BR l (d.getD i d0).1) t)=true:=by
   rw[Ts,SD,SD];rintro (h|h)
   .rw[show (DR (d.getD i d0) s).2=true from a.1]at h;cases h
   rw[show L8 l (BR l (d.getD i d0).1) t=true from a.2]at h;cases h
  rw[k,At C]at e;refine⟨⟨i+1,by omega⟩,by simp only;omega,AC [] rfl rfl ?_ ?_⟩
  .exact eN
  refine eM ?_;rw[e];exact⟨rfl,rfl⟩
 have b:d.take i=d:=An (R4.1 a);rw[b]at v;rw[v]at m;exact fI f [.tmp 8,.tmp 9] (by rw[m];exact eR)
end
theorem Uq:∀ {l:List AJ},M7 l=0->∀x∈l,x.2.1.length<=256/\x.2.2.length<=256
 | [],_,x,a=>by cases a
 | y :: l,h,x,a=>by
  simp only[M7]at h;split at h
  .cases h
  rename_i h1;rcases Do.1 a with rfl|a
  .exact⟨by omega,by omega⟩
  exact Uq h x a
theorem Lf {d:List AJ} (h:BC d=0):∀x∈d,x.2.1.length<=256/\x.2.2.length<=256:=by
 have h1:FQ d=0:=by
  unfold BC at h;split at h
  .rename_i h1;exact absurd h h1
  rename_i h1;exact IF h1
 unfold FQ at h1;split at h1
 .cases h1
 exact Uq h1
theorem Ps {d:List AJ} (h:BC d=0):∀x∈AM d,x.2.length<=64:=by
 intro x e;obtain⟨-,a,-⟩:=A5 h;obtain⟨b,c,rfl⟩:=Dj.1 e;exact RH (Pr a) b c
theorem lI {all:List ByteArray} {l:List FV}:∀ {r:List FV} {k:Nat},dcG all l k r=0->∀y∈r,Ac all y.2=true
 | [],_,_,y,a=>by cases a
 | x :: r,k,h,y,a=>by
  simp only[dcG]at h;split at h
  .cases h
  split at h
  .cases h
  split at h
  .cases h
  rename_i b;rcases Do.1 a with rfl|a
  .simpa using b
  exact lI h y a
theorem a9 {all:List ByteArray}:∀ {l:List AJ},fV all l=0->∀x∈l,∀y∈x.2.2,Ac all y.2=true
 | [],_,x,a=>by cases a
 | z :: l,h,x,a=>by
  simp only[fV]at h;split at h
  .rename_i h1;exact absurd h h1
  rename_i h1;rcases Do.1 a with rfl|a
  .exact lI (IF h1)
  exact a9 h x a
theorem RJ {d:List AJ} (h:BC d=0) (b:Le d=0):rD d (AM d) :=
 ⟨λx a=>Un h a,λx a y c=>He h (a9 b x a y c)⟩
section
attribute [local go_sem] S3 Xh rA fW A6Q
def Lg (d:List AJ) (l:List AR) (t:Nat) (s:ByteArray):Bool:=(Fy d l (t:Int) s).2&&((Fy d l (t:Int) s).1.length:Int)==0
def fX (d:List AJ) (l:List AR) (f:List ByteArray) (t:Nat):Bool:=f.any (Lg d l t)
def Ip (d:List AJ) (l:List AR) (f:List ByteArray) (n:Nat):Bool:=(List.range n).any (fX d l f)
theorem lJ (d:List AJ) (l:List AR) (f:List ByteArray) (n:Nat):Ip d l f (n+1)=(Ip d l f n||fX d l f n):=by
 unfold Ip;rw[To,AD5];simp
def A4 (d:List AJ):Int :=
 if (CG d).2≠0 then (CG d).2 else if 64<(BS d).length then 7 else if Le d≠0 then Le d else
 if ((BS d).all λs=>(Dk d s).2)=false then 10 else if Ip d (CG d).1 (BS d) (CG d).1.length=true then 11 else 0
def Vz:AZ:={ ins:=[Fc],pre:=λ_=>True,out:=λ(d,_)=>[.p MU (A4 d)] }
theorem bA:Aa Tryz.prog 156 Vz:=by
 refine fK [0,2,3,4,5,6,7,9,10,11,12,13,20,26,30,35,48,52,58,77] Tryz.func156 Tryz.ntmps156 (AF RI (AF Xi (AF A3C (AF lF (AF A3E AH))))) ?_;rintro w0 O0 ⟨d,u⟩ b - -;simp only[Vz,AL];repeat'(first|exact trivial|apply eS rfl|refine rX b ?_ ?_|refine rC ?_ ?_<;>intro a<;>try(cases a;done))
 .have h1:A4 d=(CG d).2:=by unfold A4;rw[BY a]
  exact fI b [.tmp 2] (by rw[h1];exact eR)
 .have c:(CG d).2=0:=by simpa using a
  obtain⟨e,-,-⟩:=Bg c;obtain⟨-,r,-⟩:=A5 e;exact⟨r,λx L=>(Lf e x L).2⟩
 .have c:(CG d).2=0:=by simpa using ‹((CG d).2 != 0)=false›
  have h1:A4 d=7:=by
   unfold A4;rw[At (by rw[c];simp),BY O1]
  exact fI b [.tmp 2] (by rw[h1];exact eR)
 .have c:(CG d).2=0:=by simpa using ‹((CG d).2 != 0)=false›
  obtain⟨e,-,-⟩:=Bg c;exact(A5 e).2.1
 .have c:(CG d).2=0:=by simpa using ‹((CG d).2 != 0)=false›
  have h1:A4 d=Le d:=by
   unfold A4;rw[At (by rw[c];simp),At O1,BY a]
  exact fI b [.tmp 2] (by rw[h1];exact eR)
 have c:(CG d).2=0:=by simpa using ‹((CG d).2 != 0)=false›
 have v:Le d=0:=by simpa using a
 obtain⟨e,C,B⟩:=Bg c;obtain⟨H,r,-⟩:=A5 e;have E:=RJ e v;have K:=Ps e;have M:=vW e;have D:(AM d).length<=256:=by rw[Im];exact C
 have g:A4 d=if ((BS d).all λs=>(Dk d s).2)=false then 10 else if Ip d (CG d).1 (BS d) (CG d).1.length=true then 11 else 0:=by
  unfold A4;rw[At (by rw[c];simp),At O1,At (by rw[v];simp)]
 rw[B]at g ⊢;generalize AM d=l at *;generalize BS d=f at *;refine AI (ι:={i:Nat//i<=f.length/\((f.take i).all λs=>(Dk d s).2)=true}) (λi=>⟨[(0,.p Fc d),(3,.p KS l),(5,.p GW f),(7,.p (.int .i64) (i.1:Int))],[]⟩) (λi=>f.length-i.1) ⟨0,If _,rfl⟩ (eW []) (λi=>?_)
 obtain⟨i,hi,n⟩:=i;have G:=λh:i<f.length=>HD f ByteArray.empty (λs=>(Dk d s).2) h;simp only;repeat'(first|exact trivial|apply eS rfl|apply AB|refine rX b ?_ ?_|refine rC ?_ ?_<;>intro a<;>try(cases a;done))
 .exact⟨a,H,r⟩
 .have j:i<f.length:=GO.1 (by assumption);have z:(f.all λs=>(Dk d s).2)=false:=by
   rw[ACH];intro h;have:=No.1 h _ (AD f ByteArray.empty j);rw[show (Dk d (f.getD i ByteArray.empty)).2=false from a]at this;cases this
  rw[BY z]at g;exact fI b [.tmp 2] (by rw[g];exact eR)
 .omega
 .have j:i<f.length:=GO.1 (by assumption);refine⟨⟨i+1,j,?_⟩,by simp only;omega,AC [] rfl rfl ?_ ?_⟩
  .rw[G j,n];exact a
  .exact eN
  exact eN
 have j:f.take i=f:=An (R4.1 a);rw[j]at n;rw[At (by rw[n];simp)]at g;refine AI (ι:={t:Nat//t<=l.length/\Ip d l f t=false}) (λt=>⟨[(0,.p Fc d),(3,.p KS l),(5,.p GW f),(10,.p (.int .i64) (t.1:Int))],[]⟩) (λt=>l.length-t.1) ⟨0,If _,rfl⟩ (eW []) (λt=>?_)
 obtain⟨t,N,y⟩:=t;have J:=lJ d l f t;simp only;repeat'(first|exact trivial|apply eS rfl|refine rX b ?_ ?_|refine rC ?_ ?_<;>intro a<;>try(cases a;done))
 .have w:t<l.length:=GO.1 a;refine AI (ι:={k:Nat//k<=f.length/\(f.take k).any (Lg d l t)=false}) (λk=>⟨[(0,.p Fc d),(3,.p KS l),(5,.p GW f),(10,.p (.int .i64) (t:Int)),(11,.p (.int .i64) (k.1:Int))],[]⟩) (λk=>f.length-k.1) ⟨0,If _,rfl⟩ (eW []) (λk=>?_)
  obtain⟨k,hk,o⟩:=k;have F:=λh:k<f.length=>OK f ByteArray.empty (Lg d l t) h;simp only;repeat'(first|exact trivial|apply eS rfl|apply AB|refine rX b ?_ ?_|refine rC ?_ ?_<;>intro a<;>try(cases a;done))
  .exact⟨a,E,by assumption,D,K⟩
  .have m:k<f.length:=GO.1 (by assumption);have q:Lg d l t (f.getD k ByteArray.empty)=true:=by
    unfold Lg;rw[As,Tx];exact a
   have A:Ip d l f l.length=true:=by
    unfold Ip;rw[R9];exact⟨t,SH.2 w,JZ f ByteArray.empty _ m q⟩
   rw[BY A]at g;exact fI b [.tmp 2] (by rw[g];exact eR)
  .omega
  .have m:k<f.length:=GO.1 (by assumption);have q:Lg d l t (f.getD k ByteArray.empty)=false:=by
    rw[ACH];unfold Lg;intro h;rw[As,Tx]at h;exact a h.1 h.2
   refine⟨⟨k+1,m,?_⟩,by simp only;omega,AC [] rfl rfl ?_ ?_⟩
   .rw[F m,o,q];rfl
   .exact eN
   exact eN
  .omega
  have m:f.take k=f:=An (R4.1 a);rw[m]at o;refine⟨⟨t+1,w,?_⟩,by simp only;omega,AC [] rfl rfl ?_ ?_⟩
  .rw[J,y];exact o
  .exact eN
  exact eN
 have I:t=l.length:=by exact eV
 subst I;rw[At (by rw[y];simp)]at g;exact fI b [.tmp 2] (by rw[g];exact eR)
end
section
attribute [local go_sem] Vz S3 Xh fW Vy
abbrev bB:=ByteArray×Int
theorem CL {d:List AJ} (h:A4 d=0):(CG d).2=0/\(BS d).length<=64/\Le d=0:=by
 unfold A4 at h;split at h
 .rename_i h1;exact absurd h h1
 rename_i h1;split at h
 .cases h
 rename_i b;split at h
 .rename_i a;exact absurd h a
 rename_i a;exact⟨IF h1,by omega,IF a⟩
def RK (d:List AJ) (s:ByteArray):bB:=(s,BR (AM d) (Dk d s).1)
def Ef (d:List AJ):List bB×Int:=if A4 d≠0 then ([],A4 d) else ((BS d).map (RK d),0)
theorem Dl {α β:Type} (f:α->β) (l:List α) (d:α) {k:Nat} (h:k<l.length):(l.take (k+1)).map f=(l.take k).map f++[f (l.getD k d)]:=by
 rw[AY l d h,SQ];rfl
theorem fY {α β:Type} (f:α->β) (l:List α) {k:Nat} (h:k<=l.length):((l.take k).map f).length=k:=by simp[h]
def S4:AZ:={ ins:=[Fc],pre:=λ_=>True,out:=λ(d,_)=>[.p QG (Ef d).1,.p MU (Ef d).2] }
theorem lK:Aa Tryz.prog 120 S4:=by
 refine fK [0,2,3,4,5,7,8,9,10,15,27] Tryz.func120 Tryz.ntmps120 (AF bA (AF RI (AF Xi (AF lF (AF aP AH))))) ?_;rintro w0 O0 ⟨d,u⟩ g - -;simp only[S4,AL];repeat'(first|exact trivial|apply eS rfl|refine rX g ?_ ?_|refine rC ?_ ?_<;>intro a<;>try(cases a;done))
 .have h1:Ef d=([],A4 d):=by unfold Ef;rw[BY a]
  exact fI g [.tmp 2,.tmp 3] (by rw[h1];exact eR)
 .have c:A4 d=0:=by simpa using a
  obtain⟨k,-,-⟩:=CL c;obtain⟨b,-,-⟩:=Bg k;exact⟨(A5 b).2.1,λx r=>(Lf b x r).2⟩
 have c:A4 d=0:=by simpa using a
 obtain⟨k,s,-⟩:=CL c;obtain⟨b,-,m⟩:=Bg k;obtain⟨q,l,-⟩:=A5 b;have o:Ef d=((BS d).map (RK d),0):=by unfold Ef;rw[At (by rw[c];simp)]
 rw[m];generalize BS d=f at *;refine AI (ι:={i:Nat//i<=f.length}) (λi=>⟨[(0,.p Fc d),(5,.p KS (AM d)),(7,.p GW f),(8,.sr 49 A2j 0 ((f.take i.1).map (RK d)).length),(9,.p (.int .i64) (i.1:Int))],[(49,.arr 163 A2j ((f.take i.1).map (RK d)))]⟩) (λi=>f.length-i.1) ⟨0,If _⟩ (eW [(49,.nil)]) (λi=>?_)
 obtain⟨i,hi⟩:=i;have n:=fY (RK d) f hi;have hs:=λh:i<f.length=>Dl (RK d) f ByteArray.empty h;simp only;repeat'(first|exact trivial|apply eS rfl|apply AB|refine rX g ?_ ?_|refine rC ?_ ?_<;>intro a<;>try(cases a;done))
 .exact⟨a,q,l⟩
 .refine⟨a,?_⟩;rw[n];simp only[AN];omega
 .omega
 .have j:i<f.length:=GO.1 a;have e:=hs j;refine⟨⟨i+1,j⟩,by simp only;omega,AC [(49,.nm 49)] rfl rfl ?_ ?_⟩
  .simp only[e];refine eM ?_;rfl
  simp only[e];exact eN
 have j:f.take i=f:=An (R4.1 a);rw[j];refine E2 [49] ?_;exact fI g [.tmp 2,.tmp 3] (by rw[o];exact eR)
end
section
attribute [local go_sem] Vz S3 Xh A6Q qQ
def VW (d:List AJ) (l:List AR) (f:List ByteArray) (t:Nat) (n:Nat):List (Int×Int) :=
 ((List.range n).filter λ(i:Nat)=>(Fy d l (t:Int) (f.getD i ByteArray.empty)).2).map λ(i:Nat)=>((i:Int),Hs l (Fy d l (t:Int) (f.getD i ByteArray.empty)).1)
def KY (d:List AJ) (l:List AR) (f:List ByteArray) (n:Nat):List (List (Int×Int)):=(List.range n).map λt=>VW d l f t f.length
def BG (d:List AJ):List (List (Int×Int))×Int:=if A4 d≠0 then ([],A4 d) else (KY d (AM d) (BS d) (AM d).length,0)
theorem bC (d:List AJ) (l:List AR) (f:List ByteArray) (t n:Nat):VW d l f t (n+1)=VW d l f t n++if (Fy d l (t:Int) (f.getD n ByteArray.empty)).2=true then [((n:Int),Hs l (Fy d l (t:Int) (f.getD n ByteArray.empty)).1)] else []:=by
 unfold VW;rw[To,ACr,SQ]
 congr 1
 rw[Tu,AD4];split<;>rfl
theorem A3F (d:List AJ) (l:List AR) (f:List ByteArray) (t n:Nat):(VW d l f t n).length<=n:=by
 unfold VW;rw[Of];exact R5 (bY _ _) sc
theorem rE (d:List AJ) (l:List AR) (f:List ByteArray) (n:Nat):KY d l f (n+1)=KY d l f n++[VW d l f n f.length]:=by simp[KY,To]
theorem bD (d:List AJ) (l:List AR) (f:List ByteArray) (n:Nat):(KY d l f n).length=n:=by simp[KY]
theorem A3G {d:List AJ} {l:List AR} (h:∀x∈l,x.2.length<=64) (t:Int) (s:ByteArray):(Fy d l t s).1.length<=64:=by
 unfold Fy;refine Xp t s d ?_;rw[AS];cases hh:l[0]? with
 | none=>simp
 | some x=>exact h x (tO hh)
def Xq:AZ:={ ins:=[Fc],pre:=λ_=>True,out:=λ(d,_)=>[.p A6B (BG d).1,.p MU (BG d).2] }
theorem rF:Aa Tryz.prog 117 Xq:=by
 refine fK [0,2,3,4,5,7,8,9,10,11,12,13,17,29,35,49] Tryz.func117 Tryz.ntmps117 (AF bA (AF RI (AF Xi (AF A3E (AF A3r AH))))) ?_;rintro w0 O0 ⟨d,u⟩ e - -;simp only[Xq,AL];repeat'(first|exact trivial|apply eS rfl|refine rX e ?_ ?_|refine rC ?_ ?_<;>intro a<;>try(cases a;done))
 .have h1:BG d=([],A4 d):=by unfold BG;rw[BY a]
  exact fI e [.tmp 2,.tmp 3] (by rw[h1];exact eR)
 .have h:A4 d=0:=by simpa using a
  obtain⟨m,-,-⟩:=CL h;obtain⟨b,-,-⟩:=Bg m;exact⟨(A5 b).2.1,λx z=>(Lf b x z).2⟩
 have h:A4 d=0:=by simpa using a
 obtain⟨m,B,o⟩:=CL h;obtain⟨b,j,r⟩:=Bg m;obtain⟨D,A,-⟩:=A5 b;have y:BG d=(KY d (AM d) (BS d) (AM d).length,0):=by unfold BG;rw[At (by rw[h];simp)]
 have w:=RJ b o;have n:=Ps b;have v:(AM d).length<=256:=by rw[Im];exact j
 rw[r];generalize AM d=l at *;generalize BS d=f at *;have q:=λt s=>A3G (d:=d) n t s;refine AI (ι:={t:Nat//t<=l.length}) (λt=>⟨[(0,.p Fc d),(5,.p KS l),(7,.p GW f),(8,.sr 61 Ze 0 (KY d l f t.1).length),(9,.p (.int .i64) (t.1:Int))],[(61,.arr 142 Ze (KY d l f t.1))]⟩) (λt=>l.length-t.1) ⟨0,If _⟩ (AC [(61,.nil)] rfl rfl ?_ ?_) (λt=>?_)
 .refine eM ?_;rfl
 .refine eM ?_;rfl
 obtain⟨t,E⟩:=t;have j:=bD d l f t;have hs:=rE d l f t;simp only;repeat'(first|exact trivial|apply eS rfl|refine rX e ?_ ?_|refine rC ?_ ?_<;>intro a<;>try(cases a;done))
 .refine AI (ι:={i:Nat//i<=f.length}) (λi=>⟨[(0,.p Fc d),(5,.p KS l),(7,.p GW f),(8,.sr 61 Ze 0 (KY d l f t).length),(9,.p (.int .i64) (t:Int)),(10,.sr 57 A2k 0 (VW d l f t i.1).length),(11,.p (.int .i64) (i.1:Int))],[(61,.arr 142 Ze (KY d l f t)),(57,.arr 170 A2k (VW d l f t i.1))]⟩) (λi=>f.length-i.1) ⟨0,If _⟩ (AC [(61,.nm 61),(57,.nil)] rfl rfl ?_ ?_) (λi=>?_)
  .refine eM ?_;rfl
  .refine eM ?_;rfl
  obtain⟨i,hi⟩:=i;have C:=A3F d l f t i;have c:=bC d l f t i;simp only;repeat'(first|exact trivial|apply eS rfl|apply AB|refine rX e ?_ ?_|refine rC ?_ ?_<;>intro a<;>try(cases a;done))
  .exact⟨a,w,by assumption,v,n⟩
  .refine⟨R5 (q _ _) dg,?_⟩;simp only[AN];omega
  .omega
  .have g:i<f.length:=GO.1 (by assumption);rw[BY a]at c;refine⟨⟨i+1,g⟩,by simp only;omega,AC [(61,.nm 61),(57,.nm 57)] rfl rfl ?_ ?_⟩
   .simp only[c];exact eN
   simp only[c];exact eN
  .omega
  .have g:i<f.length:=GO.1 (by assumption);rw[At (by rw[a];simp),SJ]at c;refine⟨⟨i+1,g⟩,by simp only;omega,AC [(61,.nm 61),(57,.nm 57)] rfl rfl ?_ ?_⟩
   .simp only[c];exact eN
   simp only[c];exact eN
  .rw[j];simp only[AN];omega
  .omega
  have k:t<l.length:=GO.1 (by assumption);have g:i=f.length:=by omega
  subst g;refine⟨⟨t+1,k⟩,by simp only;omega,AC [(61,.nm 61)] rfl rfl ?_ ?_⟩
  .simp only[hs];exact eN
  simp only[hs];exact eN
 have k:t=l.length:=by omega
 subst k;refine E2 [61] ?_;exact fI e [.tmp 2,.tmp 3] (by rw[y];exact eR)
end
section
attribute [local go_sem] cs0
def L9 (l:List ByteArray) (n:Nat):List FV:=(List.range n).map λk=>(l.getD (2*k) ByteArray.empty,l.getD (2*k+1) ByteArray.empty)
theorem Xr (l:List ByteArray) (n:Nat):L9 l (n+1)=L9 l n++[(l.getD (2*n) ByteArray.empty,l.getD (2*n+1) ByteArray.empty)]:=by simp[L9,To]
theorem bE (l:List ByteArray) (n:Nat):(L9 l n).length=n:=by simp[L9]
def fZ (s:ByteArray):List ByteArray:=if Ab s ByteArray.empty=true then [] else [s]
def Gw (n s:ByteArray) (l:List ByteArray):AJ:=(n,fZ s,L9 l (l.length / 2))
def A3H:AZ:={ ins:=[T9,T9,GW],pre:=λ(_,_,l,_)=>List.length l<=1000,out:=λ(n,s,l,_)=>[.p zF (Gw n s l)] }
theorem A6R:Aa Tryz.prog 121 A3H:=by
 refine fK [0,1,2,6,7,8,12,20] Tryz.func121 Tryz.ntmps121 AH ?_;rintro w0 O0 ⟨n,s,l,u⟩ b-i;have i:l.length<=1000:=i;simp only[A3H,AL];repeat'(first|exact trivial|apply eS rfl|apply AB|refine rX b ?_ ?_|refine rC ?_ ?_<;>intro a<;>try(cases a;done))
 .have f:=a;refine E2 [14] ?_;refine AI (ι:={k:Nat//2*k<=l.length}) (λk=>⟨[(2,.p GW l),(6,.bp 6 [] 0),(7,.bp 7 [] 0),(8,.p (.int .i64) ((2*k.1:Nat):Int))],[(6,.box 158 true [.p T9 ByteArray.empty,.raw (.slice none 0 0),.raw (.slice none 0 0)]),(7,.box 158 true [.p T9 n,.p GW [s],.sr 36 qB 0 (L9 l k.1).length]),(36,.arr 161 qB (L9 l k.1))]⟩) (λk=>l.length-2*k.1) ⟨0,If _⟩ (AC [(6,.nm 6),(7,.nm 7),(36,.nil)] rfl rfl ?_ ?_) (λk=>?_)
  .first|exact eN|refine eM ?_
   exact⟨rfl,rfl⟩
  .first|exact eN|refine eM ?_
  obtain⟨k,hk⟩:=k;have g:=bE l k;have d:=Xr l k;simp only;repeat'(first|exact trivial|apply eS rfl|apply AB|refine rX b ?_ ?_|refine rC ?_ ?_<;>intro a<;>try(cases a;done))
  .exact eV
  .refine⟨by exact eV,⟨by exact eV,by exact eV⟩,⟨by exact eV,by exact eV⟩,?_⟩;rw[g];simp only[AN];exact eV
  .exact eV
  .have c:2*k+1<l.length:=by exact eV
   have e:((2*k:Nat):Int)+1=((2*k+1:Nat):Int):=by omega
   refine⟨⟨k+1,by omega⟩,by simp only;omega,AC [(6,.nm 6),(7,.nm 7),(36,.nm 36)] rfl rfl ?_ ?_⟩
   .simp only[d];first|exact eN|refine eM ?_
    rw[e];rfl
   simp only[d];first|exact eN|refine eM ?_
   show ((2*k:Nat):Int)+2=((2*(k+1):Nat):Int);omega
  have c:k=l.length / 2:=by exact eV
  refine E2 [36] ?_;have h:Gw n s l=(n,[s],L9 l k):=by
   unfold Gw fZ;rw[<-c,At (by rw[show Ab s ByteArray.empty=false from f];simp)]
  exact fI b [.cell 6 158] (by rw[h];exact eR)
 have f:=a;refine AI (ι:={k:Nat//2*k<=l.length}) (λk=>⟨[(2,.p GW l),(6,.bp 6 [] 0),(7,.bp 7 [] 0),(8,.p (.int .i64) ((2*k.1:Nat):Int))],[(6,.box 158 true [.p T9 ByteArray.empty,.raw (.slice none 0 0),.raw (.slice none 0 0)]),(7,.box 158 true [.p T9 n,.p GW ([]:List ByteArray),.sr 36 qB 0 (L9 l k.1).length]),(36,.arr 161 qB (L9 l k.1))]⟩) (λk=>l.length-2*k.1) ⟨0,If _⟩ (AC [(6,.nm 6),(7,.nm 7),(36,.nil)] rfl rfl ?_ ?_) (λk=>?_)
 .first|exact eN|refine eM ?_
  exact⟨rfl,rfl⟩
 .first|exact eN|refine eM ?_
 obtain⟨k,hk⟩:=k;have g:=bE l k;have d:=Xr l k;simp only;repeat'(first|exact trivial|apply eS rfl|apply AB|refine rX b ?_ ?_|refine rC ?_ ?_<;>intro a<;>try(cases a;done))
 .exact eV
 .refine⟨by exact eV,⟨by exact eV,by exact eV⟩,⟨by exact eV,by exact eV⟩,?_⟩;rw[g];simp only[AN];exact eV
 .exact eV
 .have c:2*k+1<l.length:=by exact eV
  have e:((2*k:Nat):Int)+1=((2*k+1:Nat):Int):=by omega
  refine⟨⟨k+1,by omega⟩,by simp only;omega,AC [(6,.nm 6),(7,.nm 7),(36,.nm 36)] rfl rfl ?_ ?_⟩
  .simp only[d];first|exact eN|refine eM ?_
   rw[e];rfl
  simp only[d];first|exact eN|refine eM ?_
  show ((2*k:Nat):Int)+2=((2*(k+1):Nat):Int);omega
 have c:k=l.length / 2:=by exact eV
 refine E2 [36] ?_;have h:Gw n s l=(n,([]:List ByteArray),L9 l k):=by
  unfold Gw fZ;rw[<-c,BY (show Ab s ByteArray.empty=true from f)]
 exact fI b [.cell 6 158] (by rw[h];exact eR)
end
section
attribute [local go_sem] A3H cs0 cs1 cs2 cs3 cs4 cs5 cs6 cs7 cs8
def DA:List AJ:=[
 Gw { data:=#[116,111,112] } { data:=#[] } [],
 Gw { data:=#[108,105,115,116] } { data:=#[116,111,112] } [],
 Gw { data:=#[99,111,110,115] } { data:=#[108,105,115,116] } [{ data:=#[70,73,82,83,84] },{ data:=#[116,111,112] },{ data:=#[82,69,83,84] },{ data:=#[108,105,115,116] }],
 Gw { data:=#[110,117,108,108] } { data:=#[108,105,115,116] } [],
 Gw { data:=#[100,108,105,115,116] } { data:=#[116,111,112] } [{ data:=#[76,73,83,84] },{ data:=#[108,105,115,116] },{ data:=#[76,65,83,84] },{ data:=#[108,105,115,116] }],
 Gw { data:=#[105,110,100,101,120] } { data:=#[116,111,112] } [],
 Gw { data:=#[104,97,110,100,108,101] } { data:=#[105,110,100,101,120] } [],
 Gw { data:=#[101,118,101,110,116] } { data:=#[105,110,100,101,120] } [],
 Gw { data:=#[101,110,116,105,116,121] } { data:=#[105,110,100,101,120] } [],
 Gw { data:=#[114,101,108] } { data:=#[116,111,112] } [{ data:=#[76,65,66,69,76] },{ data:=#[104,97,110,100,108,101] }],
 Gw { data:=#[113,101,113] } { data:=#[116,111,112] } [{ data:=#[72,73,71,72] },{ data:=#[104,97,110,100,108,101] },{ data:=#[76,79,87] },{ data:=#[104,97,110,100,108,101] }],
 Gw { data:=#[115,101,109] } { data:=#[116,111,112] } [{ data:=#[84,79,80] },{ data:=#[104,97,110,100,108,101] },{ data:=#[73,78,68,69,88] },{ data:=#[105,110,100,101,120] },{ data:=#[82,69,76,83] },{ data:=#[100,108,105,115,116] },{ data:=#[67,79,78,83] },{ data:=#[100,108,105,115,116] }],
 Gw { data:=#[115,105,103,110] } { data:=#[116,111,112] } [{ data:=#[83,69,77] },{ data:=#[115,101,109] },{ data:=#[65,82,71,83] },{ data:=#[108,105,115,116] }]]
def KZ:AZ:={ ins:=[],pre:=λ_=>True,out:=λ_=>[.p Fc DA] }
theorem Xs:Aa Tryz.prog 63 KZ:=by
 refine oY [0] [3,6,12,14,16,18,20] [] Tryz.func63 Tryz.ntmps63 (AF A6R AH) ?_;rintro w0 O0 u a - -;simp only[KZ,AL];repeat'(first|exact trivial|apply eS rfl|refine rX a ?_ ?_)
 exact fI a [.tmp 0] (by unfold DA;exact eR)
end
section
attribute [local go_sem] Xq S3 A3A S4
abbrev FM:=ByteArray×List Int×List Int×List (Int×Int)
abbrev AG:=List FM×List bB
def Er (l:List AR) (v:List (List (Int×Int))) (n:Nat):List FM:=(List.range n).map λi=>((l.getD i c0).1,(l.getD i c0).2,aZ l (i:Int),v.getD i [])
theorem rG (l:List AR) (v:List (List (Int×Int))) (n:Nat):Er l v (n+1)=Er l v n++[((l.getD n c0).1,(l.getD n c0).2,aZ l (n:Int),v.getD n [])]:=by simp[Er,To]
theorem Ka (l:List AR) (v:List (List (Int×Int))) (n:Nat):(Er l v n).length=n:=by simp[Er]
def Bz (d:List AJ):AG:=(Er (AM d) (BG d).1 (AM d).length,(Ef d).1)
def A0 (d:List AJ):AG×Int:=if (BG d).2≠0 then (([],[]),(BG d).2) else (Bz d,0)
def Kb:AZ:={ ins:=[Fc],pre:=λ_=>True,out:=λ(d,_)=>[.p D8 (A0 d).1,.p MU (A0 d).2] }
theorem rH:Aa Tryz.prog 62 Kb:=by
 refine fK [0,2,3,4,5,6,8,9,10,18,29] Tryz.func62 Tryz.ntmps62 (AF rF (AF RI (AF A6O (AF lK AH)))) ?_;rintro w0 O0 ⟨d,u⟩ b - -;simp only[Kb,AL];repeat'(first|exact trivial|apply eS rfl|refine rX b ?_ ?_|refine rC ?_ ?_<;>intro a<;>try(cases a;done))
 .have h1:A0 d=(([],[]),(BG d).2):=by unfold A0;rw[BY a]
  exact fI b [.cell 2 31,.tmp 3] (by rw[h1];exact eR)
 have c:(BG d).2=0:=by simpa using a
 have f:A4 d=0:=by
  unfold BG at c;split at c
  .rename_i h;exact absurd c h
  rename_i h;exact IF h
 obtain⟨t,x,w⟩:=CL f;obtain⟨j,m,k⟩:=Bg t;have g:A0 d=(Bz d,0):=by unfold A0;rw[At (by rw[c];simp)]
 have r:(BG d).1.length=(AM d).length:=by
  unfold BG;rw[At (by rw[f];simp)];exact bD _ _ _ _
 have s:=Ps j;have o:(AM d).length<=256:=by rw[Im];exact m
 unfold Bz at g;rw[k];generalize AM d=l at *;generalize (BG d).1=v at *;refine AI (ι:={n:Nat//n<=l.length}) (λn=>⟨[(0,.p Fc d),(2,.bp 2 [] 0),(4,.p A6B v),(6,.p KS l),(8,.bp 8 [] 0),(9,.p (.int .i64) (n.1:Int))],[(2,.box 31 true [.raw (.slice none 0 0),.raw (.slice none 0 0)]),(8,.box 31 true [.sr 53 qC 0 (Er l v n.1).length,.raw (.slice none 0 0)]),(53,.arr 144 qC (Er l v n.1))]⟩) (λn=>l.length-n.1) ⟨0,If _⟩ (AC [(2,.nm 2),(8,.nm 8),(53,.nil)] rfl rfl ?_ ?_) (λn=>?_)
 .refine eM ?_;exact⟨rfl,rfl⟩
 .exact eN
 obtain⟨n,hn⟩:=n;have q:=Ka l v n;have i:=rG l v n;simp only;repeat'(first|exact trivial|apply eS rfl|apply AB|refine rX b ?_ ?_|refine rC ?_ ?_<;>intro a<;>try(cases a;done))
 .refine⟨a,a,⟨a,o,s⟩,by rw[r];exact a,?_⟩;rw[q];simp only[AN];omega
 .omega
 .have e:n<l.length:=GO.1 a;refine⟨⟨n+1,e⟩,by simp only;omega,AC [(2,.nm 2),(8,.nm 8),(53,.nm 53)] rfl rfl ?_ ?_⟩
  .simp only[i];exact eN
  simp only[i];exact eN
 have e:n=l.length:=by omega
 subst e;refine E2 [53] ?_;exact fI b [.cell 2 31,.tmp 3] (by rw[g];exact eR)
def Jf (d:List AJ):AG:=if d.length<=20/\(A0 d).2=0 then (A0 d).1 else (A0 DA).1
end
abbrev ABs:=Int×List (Int×Int)
def E6 (f:List ABs):Bool:=decide (f.length<=12)&&f.all λn=>decide (n.2.length<=12)
def NG:AZ:={ ins:=[DK],pre:=λ_=>True,out:=λ(f,_)=>[.p .bool (E6 f)] }
theorem lL:Aa Tryz.prog 18 NG:=by
 refine fK [0,1,2,3,7,12,22] Tryz.func18 Tryz.ntmps18 AH ?_;rintro w0 O0 ⟨l,u⟩ a e f;simp only[NG,AL];repeat'(first|exact trivial|apply eS rfl|refine rX a ?_ ?_|refine rC ?_ ?_<;>intro b<;>try(cases b;done))
 .have h1:E6 l=false:=by
   have h:¬(List.length l<=12):=by exact eV
   unfold E6;rw[ACj h];rfl
  exact fI a [.tmp 2] (by rw[h1];exact eR)
 refine AI (ι:={k:Nat//k<=l.length/\(l.take k).all (λn=>decide (n.2.length<=12))=true}) (λk=>⟨[(0,.p DK l),(1,.bp 1 [] 0),(3,.p (.int .i64) (k.1:Int))],[(1,.box 25 true [.p DV l])]⟩) (λk=>l.length-k.1) ⟨0,by simp⟩ (AC [(1,.nm 1)] rfl rfl ?_ ?_) (λk=>?_)
 .exact eN
 .exact eN
 obtain⟨k,hk,c⟩:=k;repeat'(first|exact trivial|apply eS rfl|apply AB|refine rX a ?_ ?_|refine rC ?_ ?_<;>intro b<;>try(cases b;done))
 .exact eV
 .have h1:E6 l=false:=by
   have hk:k<l.length:=by exact eV
   have h:=AD l (0,[]) hk;unfold E6;rw[ACS];right;rw[ACg];exact⟨_,h,by simp only[NO];exact eV⟩
  exact fI a [.tmp 2] (by rw[h1];exact eR)
 .exact eV
 .have hk:k<l.length:=by exact eV
  refine⟨⟨k+1,by exact eV,?_⟩,by simp only;exact eV,AC [(1,.nm 1)] rfl rfl ?_ ?_⟩
  .have h1:=AY l (0,[]) hk;have d:((l.take (k+1)).all λn=>decide (n.2.length<=12))=_:=ACb (λx=>List.all x λn=>decide (n.2.length<=12)) h1;rw[d,ACX,c];simp only[ACy,List.all_nil,Bool.and_true,ADz,NO];exact eV
  .exact eN
  exact eN
 have h1:E6 l=true:=by
  have hk:l.take k=l:=An (by exact eV);rw[hk]at c;unfold E6;rw[c,ABV (by exact eV)];rfl
 exact fI a [.tmp 2] (by rw[h1];exact eR)
def GZ (n:Int) (seen:List (Int×Int)):List (Int×Int)->Int
 | []=>0
 | x :: r=>if x.1<0\/x.2<0\/n<=x.2 then 2 else if (seen.any λy=>y.1==x.1)=true then 4 else GZ n (seen++[x]) r
def Gx (l:List (Int×Int)) (n:Int):Int:=GZ n [] l
def lM:AZ:={ ins:=[Cl,T3],pre:=λ_=>True,out:=λ(l,n,_)=>[.p MU (Gx l n)] }
theorem Pt (n:Int) (l:List (Int×Int)) {k:Nat} (h:k<l.length):GZ n (l.take k) (l.drop k)=if (l.getD k (0,0)).1<0\/(l.getD k (0,0)).2<0\/n<=(l.getD k (0,0)).2 then 2 else if ((l.take k).any λy=>y.1==(l.getD k (0,0)).1)=true then 4 else GZ n (l.take (k+1)) (l.drop (k+1)):=by
 rw[AY l (0,0) h,IS h,AS,AT h];rfl
theorem Zg (l:List (Int×Int)) (f:Int) {k:Nat} (h:k<l.length):((l.take (k+1)).any λy=>y.1==f)=((l.take k).any (λy=>y.1==f)||((l.getD k (0,0)).1==f)):=by
 rw[AY l (0,0) h,AD5];simp
theorem A6S:Aa Tryz.prog 174 lM:=by
 refine fK [0,1,4,5,6,10,35,38,51] Tryz.func174 Tryz.ntmps174 AH ?_;rintro w0 O0 ⟨l,n,u⟩ b ⟨⟨h,-⟩,-⟩ -;simp only[AN]at h;simp only[lM,AL];repeat'(first|exact trivial|apply eS rfl|refine rX b ?_ ?_)
 refine AI (ι:={k:Nat//k<=l.length/\GZ n (l.take k) (l.drop k)=Gx l n}) (λk=>⟨[(0,.p Cl l),(1,.p T3 n),(5,.p (.int .i64) (k.1:Int))],[]⟩) (λk=>l.length-k.1) ⟨0,by simp[Gx]⟩ (AC [] rfl rfl ?_ ?_) (λk=>?_)
 .exact eN
 .exact eN
 obtain⟨k,hk,c⟩:=k;repeat'(first|exact trivial|apply eS rfl|refine rX b ?_ ?_|refine rC ?_ ?_<;>intro a<;>try(cases a;done))
 .exact eV
 .have hk:k<l.length:=by exact eV
  have h1:Gx l n=2:=by
   rw[<-c,Pt n l hk,BY (by rw[<-or_assoc];exact a)]
  exact fI b [.tmp 4] (by rw[h1];exact eR)
 .have hk:k<l.length:=by exact eV
  have hn:¬((l.getD k (0,0)).1<0\/(l.getD k (0,0)).2<0\/n<=(l.getD k (0,0)).2):=by
   have:=a;generalize l.getD k (0,0)=x at this;exact eV
  rw[Pt n l hk,At hn]at c;refine AI (ι:={j:Nat//j<=k/\((l.take j).any λy=>y.1==(l.getD k (0,0)).1)=false}) (λj=>⟨[(0,.p Cl l),(1,.p T3 n),(5,.p (.int .i64) (k:Int)),(6,.p (.int .i64) (j.1:Int))],[]⟩) (λj=>k-j.1) ⟨0,by simp⟩ (AC [] rfl rfl ?_ ?_) (λj=>?_)
  .exact eN
  .exact eN
  obtain⟨j,i,f⟩:=j;repeat'(first|exact trivial|apply eS rfl|apply AB|refine rX b ?_ ?_|refine rC ?_ ?_<;>intro a<;>try(cases a;done))
  .exact eV
  .have e:j<l.length:=by exact eV
   have h1:Gx l n=4:=by
    have d:((l.take k).any λy=>y.1==(l.getD k (0,0)).1)=true:=by
     rw[R9];refine⟨l.getD j (0,0),?_,by simpa using a⟩;rw[AS,AT e];exact ACT.2 ⟨j,by exact eV,rfl⟩
    rw[<-c,BY d]
   exact fI b [.tmp 4] (by rw[h1];exact eR)
  .exact eV
  .have e:j<l.length:=by exact eV
   refine⟨⟨j+1,by exact eV,?_⟩,by simp only;exact eV,AC [] rfl rfl ?_ ?_⟩
   .have d:=Zg l (l.getD k (0,0)).1 e;refine d.trans ?_;rw[f];simpa using a
   .exact eN
   exact eN
  .exact eV
  have g:j=k:=by exact eV
  subst g;refine⟨⟨j+1,by exact eV,?_⟩,by simp only;exact eV,AC [] rfl rfl ?_ ?_⟩
  .rw[<-c,At (by rw[f];simp)]
  .exact eN
  exact eN
 have h1:Gx l n=0:=by
  have hk:l.length<=k:=by exact eV
  rw[<-c,By hk];rfl
 exact fI b [.tmp 4] (by rw[h1];exact eR)
def Xt (n:Int×List (Int×Int)):List Int:=n.1 :: (n.2.length:Int) :: n.2.flatMap λa=>[a.1,a.2]
def B7 (f:List (Int×List (Int×Int))):List Int:=(f.length:Int) :: f.flatMap Xt
def Zh (l:List (Int×List (Int×Int))) (k:Nat):List Int:=(l.length:Int) :: (l.take k).flatMap Xt
def Xu (l:List (Int×List (Int×Int))) (k j:Nat):List Int:=Zh l k++[(l.getD k (0,[])).1,((l.getD k (0,[])).2.length:Int)]++((l.getD k (0,[])).2.take j).flatMap λa=>[a.1,a.2]
theorem S5:∀l:List (Int×Int),(l.flatMap λa=>[a.1,a.2]).length=2*l.length
 | []=>rfl
 | x :: l=>by simp[S5 l];omega
theorem A3I (n:Int×List (Int×Int)):(Xt n).length=2+2*n.2.length:=by
 have:=S5 n.2;simp only[Xt,Is];omega
theorem Xv:∀l:List (Int×List (Int×Int)),(∀n∈l,n.2.length<=100000)->(l.flatMap Xt).length<=l.length*200002
 | [],_=>by simp
 | x :: l,h=>by
  have h1:=h x sc;have a:=Xv l (λn hn=>h n (by simp[hn]));have b:=A3I x;simp only[AD7,F3,Is];omega
theorem lN {l:List (Int×List (Int×Int))} (h:∀n∈l,n.2.length<=100000) {k:Nat} (hk:k<=l.length):(Zh l k).length<=1+k*200002:=by
 have h1:=Xv (l.take k) (λn hn=>h n (iS hn));rw[OF,ACd hk]at h1;simp only[Zh,Is];omega
theorem A3J {l:List (Int×List (Int×Int))} (h:∀n∈l,n.2.length<=100000) {k j:Nat} (hk:k<l.length) (b:j<=(l.getD k (0,[])).2.length):(Xu l k j).length<=3+k*200002+2*j:=by
 have h1:=lN h (ADf hk);have a:=S5 ((l.getD k (0,[])).2.take j);rw[OF,ACd b]at a;simp only[Xu,F3,Is,AC5];omega
theorem bF {l:List (Int×List (Int×Int))} {k:Nat} (hk:k<l.length):Zh l (k+1)=Xu l k (l.getD k (0,[])).2.length:=by
 unfold Zh Xu;rw[AY l (0,[]) hk,List.flatMap_append,R6];simp[Xt,Zh]
theorem bG {l:List (Int×List (Int×Int))} {k j:Nat} (a:j<(l.getD k (0,[])).2.length):Xu l k (j+1)=Xu l k j++[((l.getD k (0,[])).2.getD j (0,0)).1,((l.getD k (0,[])).2.getD j (0,0)).2]:=by
 unfold Xu;rw[AY _ (0,0) a,List.flatMap_append];simp
def Xw:AZ:={ ins:=[DK],pre:=λ(f,_)=>f.length<=100000/\∀n∈f,n.2.length<=100000,out:=λ(f,_)=>[.p Ee (B7 f)] }
theorem rI:Aa Tryz.prog 130 Xw:=by
 refine fK [0,1,2,3,4,5,6,15,38] Tryz.func130 Tryz.ntmps130 AH ?_;rintro w0 O0 ⟨l,u⟩ a ⟨h,-⟩ ⟨n,d⟩;simp only[Xw,AL];repeat'(first|exact trivial|apply eS rfl|refine rX a ?_ ?_)
 refine AI (ι:={k:Nat//k<=l.length}) (λk=>⟨[(0,.p DK l),(1,.bp 1 [] 0),(3,.sr 10 T3 0 (Zh l k.1).length),(4,.p (.int .i64) (k.1:Int))],[(1,.box 25 true [.p DV l]),(10,.arr 3 T3 (Zh l k.1))]⟩) (λk=>l.length-k.1) ⟨0,by simp⟩ (AC [(1,.nm 1),(10,.nm 10)] rfl rfl ?_ ?_) (λk=>?_)
 .refine eM ?_;rfl
 .refine eM ?_;rfl
 obtain⟨k,hk⟩:=k;have i:=lN d hk;repeat'(first|exact trivial|apply eS rfl|refine rX a ?_ ?_|refine rC ?_ ?_<;>intro c<;>try(cases c;done))
 .exact eV
 .refine⟨by exact eV,?_⟩;simp only[AN];exact eV
 .have b:k<l.length:=by exact eV
  have o:=d _ (AD l (0,[]) b);refine AI (ι:={j:Nat//j<=(l.getD k (0,[])).2.length}) (λj=>⟨[(0,.p DK l),(1,.bp 1 [] 0),(3,.sr 10 T3 0 (Xu l k j.1).length),(4,.p (.int .i64) (k:Int)),(5,.p Cl (l.getD k (0,[])).2),(6,.p (.int .i64) (j.1:Int))],[(1,.box 25 true [.p DV l]),(10,.arr 3 T3 (Xu l k j.1))]⟩) (λj=>(l.getD k (0,[])).2.length-j.1) ⟨0,by simp⟩ (AC [(1,.nm 1),(10,.nm 10)] rfl rfl ?_ ?_) (λj=>?_)
  .refine eM ?_;simp[Xu]
  .refine eM ?_;simp[Xu]
  obtain⟨j,f⟩:=j;have m:=A3J d b f;repeat'(first|exact trivial|apply eS rfl|apply AB|refine rX a ?_ ?_|refine rC ?_ ?_<;>intro c<;>try(cases c;done))
  .refine⟨by exact eV,by exact eV,?_⟩;simp only[AN];exact eV
  .exact eV
  .have e:j<(l.getD k (0,[])).2.length:=by exact eV
   refine⟨⟨j+1,by exact eV⟩,by simp only;exact eV,AC [(1,.nm 1),(10,.nm 10)] rfl rfl ?_ ?_⟩
   .refine eM ?_;exact(bG e).symm
   refine eM ?_;have:=ACb List.length (bG (l:=l) e);rw[F3]at this;exact this.symm
  .exact eV
  have g:j=(l.getD k (0,[])).2.length:=by exact eV
  subst g;refine⟨⟨k+1,by exact eV⟩,by simp only;exact eV,AC [(1,.nm 1),(10,.nm 10)] rfl rfl ?_ ?_⟩
  .refine eM ?_;exact(bF b).symm
  refine eM ?_;exact ACb List.length (bF b).symm
 have hk:l.take k=l:=An (by exact eV);have h1:Zh l k=B7 l:=by unfold Zh B7;rw[hk]
 exact fI a [.tmp 2] (by first|exact eR|refine Uf ?_;exact h1)
section
attribute [local go_sem] Xw
def Lh:List Int->List Int->Int
 | x :: xs,y :: ys=>if x<y then -1 else if y<x then 1 else Lh xs ys
 | _,_=>0
theorem S6 (xs ys:List Int) {k:Nat} (h1:k<xs.length) (a:k<ys.length):Lh (xs.drop k) (ys.drop k)=if xs.getD k 0<ys.getD k 0 then -1 else if ys.getD k 0<xs.getD k 0 then 1 else Lh (xs.drop (k+1)) (ys.drop (k+1)):=by
 rw[IS h1,IS a,AS,AT h1,AS,AT a];rfl
theorem A3K (xs ys:List Int) {k:Nat} (h:xs.length<=k\/ys.length<=k):Lh (xs.drop k) (ys.drop k)=0:=by
 rcases h with h|h
 .rw[By h];simp[Lh]
 rw[By h];simp[Lh]
def DB (a b:List (Int×List (Int×Int))):Int:=Lh (B7 a) (B7 b)
def DC (f:List (Int×List (Int×Int))):Prop:=f.length<=100000/\∀n∈f,n.2.length<=100000
def Xx:AZ:={ ins:=[DK,DK],pre:=λ(a,b,_)=>DC a/\DC b,out:=λ(a,b,_)=>[.p T3 (DB a b)] }
theorem RL {f:List (Int×List (Int×Int))} (h:DC f):(B7 f).length<=1+f.length*200002:=by
 have:=Xv f h.2;simp only[B7,Is];omega
theorem rJ:Aa Tryz.prog 78 Xx:=by
 refine fK [0,1,2,3,4,5,6,7,21,32,41] Tryz.func78 Tryz.ntmps78 (AF rI AH) ?_;rintro w0 O0 ⟨a,b,u⟩ e-⟨⟨g,i⟩,⟨j,l⟩⟩;have m:=RL ⟨g,i⟩;have n:=RL ⟨j,l⟩;simp only[Xx,AL];repeat'(first|exact trivial|apply eS rfl|refine rX e ?_ ?_)
 .exact⟨g,i⟩
 .exact⟨j,l⟩
 refine AI (ι:={k:Nat//Lh ((B7 a).drop k) ((B7 b).drop k)=DB a b}) (λk=>⟨[(5,.p Ee (B7 a)),(6,.p Ee (B7 b)),(7,.p (.int .i64) (k.1:Int))],[]⟩) (λk=>(B7 a).length-k.1) ⟨0,by simp[DB]⟩ (AC [] rfl rfl ?_ ?_) (λk=>?_)
 .exact eN
 .exact eN
 obtain⟨k,hk⟩:=k;repeat'(first|exact trivial|apply eS rfl|apply AB|refine rX e ?_ ?_|refine rC ?_ ?_<;>intro f<;>try(cases f;done))
 .exact eV
 .obtain⟨h1,c⟩:k<(B7 a).length/\k<(B7 b).length:=by exact eV
  have d:DB a b=-1:=by rw[<-hk,S6 _ _ h1 c,BY f]
  exact fI e [.tmp 4] (by rw[d];exact eR)
 .exact eV
 .obtain⟨h1,c⟩:k<(B7 a).length/\k<(B7 b).length:=by exact eV
  have d:DB a b=1:=by rw[<-hk,S6 _ _ h1 c,At (by exact eV),BY f]
  exact fI e [.tmp 4] (by rw[d];exact eR)
 .exact eV
 .obtain⟨h1,c⟩:k<(B7 a).length/\k<(B7 b).length:=by exact eV
  refine⟨⟨k+1,?_⟩,by simp only;exact eV,AC [] rfl rfl ?_ ?_⟩
  .rw[<-hk,S6 _ _ h1 c,At (by exact eV),At (by exact eV)]
  .exact eN
  exact eN
 have d:DB a b=0:=by
  rw[<-hk];apply A3K;by_cases h:k<(B7 a).length
  .right;have:=f (by exact eV);exact eV
  left;exact eV
 exact fI e [.tmp 4] (by rw[d];exact eR)
def Pu:AZ:={ ins:=[DK,DK],pre:=λ(a,b,_)=>DC a/\DC b,out:=λ(a,b,_)=>[.p .bool (DB a b==0)] }
end
section
attribute [local go_sem] Xx lM
theorem Xy:Aa Tryz.prog 25 Pu:=by
 refine fK [0,1,2,3,4] Tryz.func25 Tryz.ntmps25 (AF rJ AH) ?_;rintro w0 O0 ⟨a,b,u⟩ c-d;simp only[Pu,AL];repeat'(first|exact trivial|apply eS rfl|refine rX c ?_ ?_)
 .exact d
 exact fI c [.tmp 4]
def Ga (m:Int):List (Int×List (Int×Int))->Int
 | []=>0
 | n :: r=>if n.1<0 then 2 else if Gx n.2 m≠0 then Gx n.2 m else Ga m r
def CH (f:List (Int×List (Int×Int))):Int:=if f.length=0 then 1 else if 4096<f.length then 7 else Ga f.length f
def A3L:AZ:={ ins:=[DK],pre:=λ_=>True,out:=λ(f,_)=>[.p MU (CH f)] }
theorem Iq (m:Int) (l:List (Int×List (Int×Int))) {k:Nat} (h:k<l.length):Ga m (l.drop k)=if (l.getD k (0,[])).1<0 then 2 else if Gx (l.getD k (0,[])).2 m≠0 then Gx (l.getD k (0,[])).2 m else Ga m (l.drop (k+1)):=by
 rw[IS h,AS,AT h];rfl
theorem A6T:Aa Tryz.prog 132 A3L:=by
 refine fK [0,1,2,3,4,8,12,17,26,38] Tryz.func132 Tryz.ntmps132 (AF A6S AH) ?_;rintro w0 O0 ⟨l,u⟩ a ⟨f,-⟩ -;simp only[A3L,AL];repeat'(first|exact trivial|apply eS rfl|refine rX a ?_ ?_|refine rC ?_ ?_<;>intro b<;>try(cases b;done))
 .have h1:CH l=1:=by
   have h:l.length=0:=by exact eV
   unfold CH;rw[BY h]
  exact fI a [.tmp 2] (by rw[h1];exact eR)
 .have h1:CH l=7:=by
   have h:¬l.length=0:=by exact eV
   have e:4096<l.length:=by exact eV
   unfold CH;rw[At h,BY e]
  exact fI a [.tmp 2] (by rw[h1];exact eR)
 have h1:CH l=Ga l.length l:=by
  have h:¬l.length=0:=by exact eV
  have e:¬4096<l.length:=by exact eV
  unfold CH;rw[At h,At e]
 refine AI (ι:={k:Nat//k<=l.length/\Ga l.length (l.drop k)=CH l}) (λk=>⟨[(1,.bp 1 [] 0),(3,.p (.int .i64) (k.1:Int))],[(1,.box 25 true [.p DV l])]⟩) (λk=>l.length-k.1) ⟨0,by simp[h1]⟩ (AC [(1,.nm 1)] rfl rfl ?_ ?_) (λk=>?_)
 .exact eN
 .exact eN
 obtain⟨k,hk,hf⟩:=k;repeat'(first|exact trivial|apply eS rfl|apply AB|refine rX a ?_ ?_|refine rC ?_ ?_<;>intro b<;>try(cases b;done))
 .exact eV
 .have d:k<l.length:=by exact eV
  have c:CH l=2:=by rw[<-hf,Iq _ _ d,BY b]
  exact fI a [.tmp 2] (by rw[c];exact eR)
 .exact eV
 .have d:k<l.length:=by exact eV
  have c:CH l=Gx (l.getD k (0,[])).2 l.length:=by rw[<-hf,Iq _ _ d,At (by exact eV),BY b]
  exact fI a [.tmp 2] (by rw[c];exact eR)
 .exact eV
 .have d:k<l.length:=by exact eV
  refine⟨⟨k+1,by exact eV,?_⟩,by simp only;exact eV,AC [(1,.nm 1)] rfl rfl ?_ ?_⟩
  .rw[<-hf,Iq _ _ d,At (by exact eV),At (by simpa using b)]
  .exact eN
  exact eN
 have c:CH l=0:=by
  have hk:l.length<=k:=by exact eV
  rw[<-hf,By hk];rfl
 exact fI a [.tmp 2] (by rw[c];exact eR)
end
def Ir (x:Int×Int) (s:List (Int×Int)):Nat->Nat
 | 0=>0
 | n+1=>if x.1<(s.getD n (0,0)).1 then Ir x s n else n+1
def Pv (s:List (Int×Int)) (x:Int×Int):List (Int×Int):=s.take (Ir x s s.length)++[x]++s.drop (Ir x s s.length)
def AU (l:List (Int×Int)):List (Int×Int):=l.foldl Pv []
theorem V0 (x:Int×Int) (s:List (Int×Int)):∀n,Ir x s n<=n
 | 0=>OR _
 | n+1=>by
  unfold Ir;have:=V0 x s n;split<;>omega
theorem A3M (s:List (Int×Int)) (x:Int×Int):(Pv s x).length=s.length+1:=by
 have:=V0 x s s.length;simp[Pv];omega
theorem IE (l:List (Int×Int)) (x:Int×Int):AU (l++[x])=Pv (AU l) x:=by simp[AU]
theorem NH:∀(l s:List (Int×Int)),(l.foldl Pv s).length=s.length+l.length
 | [],s=>by simp
 | x :: l,s=>by simp[NH l,A3M];omega
theorem CX (l:List (Int×Int)):(AU l).length=l.length:=by simp[AU,NH]
def RM:AZ:={ ins:=[Cl],pre:=λ(l,_)=>l.length<=1000000,out:=λ(l,_)=>[.own 106 Av (AU l)] }
theorem bH:Aa Tryz.prog 152 RM:=by
 refine fK [0,2,3,4,5,6,10,30] Tryz.func152 Tryz.ntmps152 AH ?_;rintro w0 O0 ⟨l,u⟩ c t m;simp only[RM]at m;simp only[RM,AL];repeat'(first|exact trivial|apply eS rfl|refine rX c ?_ ?_)
 refine AI (ι:={p:Nat//p<=l.length}) (λk=>⟨[(0,.p Cl l),(3,.sr 10 Av 0 (AU (l.take k.1)).length),(4,.p (.int .i64) (k.1:Int))],[(10,.arr 106 Av (AU (l.take k.1)))]⟩) (λk=>l.length-k.1) ⟨0,by omega⟩ (AC [(10,.nil)] rfl rfl ?_ ?_) (λk=>?_)
 .refine eM ?_;rfl
 .refine eM ?_;rfl
 obtain⟨k,h⟩:=k;have s:(AU (l.take k)).length=k:=by rw[CX,OF];exact ACd h
 repeat'(first|exact trivial|apply eS rfl|refine rX c ?_ ?_|refine rC ?_ ?_<;>intro b<;>try(cases b;done))
 .refine AI (ι:={q:Nat//q<=(AU (l.take k)).length/\Ir (l.getD k (0,0)) (AU (l.take k)) q=Ir (l.getD k (0,0)) (AU (l.take k)) (AU (l.take k)).length}) (λq=>⟨[(0,.p Cl l),(3,.sr 10 Av 0 (AU (l.take k)).length),(4,.p (.int .i64) (k:Int)),(5,.p (.int .i64) (q.1:Int))],[(10,.arr 106 Av (AU (l.take k)))]⟩) (λq=>q.1) ⟨(AU (l.take k)).length,by simp⟩ (eW [(10,.nm 10)]) (λq=>?_)
  obtain⟨q,n,g⟩:=q;have i:k<l.length:=by omega
  have o:=l.length_take_le k;have d:(List.take q (AU (List.take k l))).length=q:=by rw[OF];exact ACd n
  repeat'(first|exact trivial|apply eS rfl|apply AB|refine rX c ?_ ?_|refine rC ?_ ?_<;>intro b<;>try(cases b;done))
  .exact eV
  .exact eV
  .obtain⟨h1,a⟩:=b;obtain⟨q,rfl⟩:∃r,q=r+1:=⟨q-1,by omega⟩;have e:((q+1:Nat):Int)-1=(q:Int):=by omega
   refine⟨⟨q,by omega,?_⟩,ADs q,AC [(10,.nm 10)] rfl rfl ?_ ?_⟩
   .rw[<-g];simp only[Ir];rw[e,R3]at a;rw[BY a]
   .exact eN
   refine eM ?_;show (q:Int)+1-1=q;omega
  .refine⟨by exact eV,?_⟩;rw[d];unfold AN;omega
  .refine⟨by exact eV,?_⟩;rw[d];simp only[AN];omega
  .refine⟨by exact eV,?_⟩;rw[d];simp only[AN,dO];omega
  .exact eV
  have j:Ir (l.getD k (0,0)) (AU (l.take k)) q=q:=by
   cases q with
   | zero=>rfl
   | succ q =>
    have e:((q+1:Nat):Int)-1=(q:Int):=by omega
    have:=b O1;rw[e,R3]at this;simp only[Ir];rw[At O1]
  have h1:=AY l (0,0) i;have a:AU (l.take (k+1))=_:=(ACb AU h1).trans (IE _ _);unfold Pv at a;rw[<-g,j]at a;refine⟨⟨k+1,by exact eV⟩,by simp only;exact eV,AC [(10,.nm 37)] rfl rfl ?_ ?_⟩
  .refine eM ?_;exact a.symm
  refine eM ?_;have f:=ACb List.length a;rw[F3,F3]at f;exact f.symm
 have hk:l.take k=l:=An (by exact eV);refine LL c (.inl rfl) (rv:=.tmp 2) rfl ?_;simp only[KM,JJ,Hz,go_sem,Nat.reduceEqDiff,reduceCtorEq,Nat.reduceAdd,Nat.reduceSub,Nat.reduceMul,Nat.reduceLeDiff,Nat.reduceLT,Int.reduceLE,Int.reduceToNat,Int.reduceNeg,↓reduceIte];rw[hk];first|rfl|exact⟨rfl,rfl⟩|exact⟨rfl,rfl,rfl⟩
section
attribute [local go_sem] RM
abbrev AE:=Int×List (Int×Int)
def Dm (f:List AE):Nat->List Int×List Int->Int->List Int×List Int
 | 0,s,_=>s
 | k+1,s,n=>(AU (f.getD n.toNat (0,[])).2).foldl (λs a=>if s.1.getD a.2.toNat 0<0 then Dm f k s a.2 else s) (s.1.set n.toNat (s.2.length:Int),s.2++[n])
def MR (l:List Int):Nat:=l.countP (λx=>decide (x<0))
def AQ (f:List AE):Prop:=f.length<=100000/\∀x∈f,x.2.length<=100000/\∀a∈x.2,0<=a.2/\a.2<(f.length:Int)
def VX (f:List AE) (s:List Int×List Int):Prop:=s.1.length=f.length/\s.2.length+MR s.1<=f.length
theorem A3N {l:List Int} {n:Nat} {v:Int} (hn:n<l.length) (a:l.getD n 0<0) (d:0<=v):MR (l.set n v)+1=MR l:=by
 induction l generalizing n with
 | nil=>simp at hn
 | cons x r c =>
  cases n with
  | zero =>
   have b:x<0:=by simpa using a
   have:¬v<0:=by omega
   simp[MR,ACM,b,this]
  | succ n =>
   have h1:=c (n:=n) (by simpa using hn) (by simpa using a);simp only[MR,ADG,ACM]at h1 ⊢;omega
theorem rK {f:List AE} {s:List Int×List Int} {n:Int} (h:VX f s) (d:0<=n) (hn:n<f.length) (b:s.1.getD n.toNat 0<0) :
  VX f (s.1.set n.toNat (s.2.length:Int),s.2++[n])/\MR (s.1.set n.toNat (s.2.length:Int))+1=MR s.1:=by
 obtain⟨h1,c⟩:=h;have a:=A3N (l:=s.1) (n:=n.toNat) (v:=(s.2.length:Int)) O1 b O1;refine⟨⟨by simpa using h1,?_⟩,a⟩;simp only[F3,R7];omega
theorem z6 (s:List (Int×Int)) (x:Int×Int):(Pv s x).Perm (x :: s):=by
 unfold Pv;refine(List.perm_append_comm.append_right _).trans ?_;simp
theorem MA:∀(l s:List (Int×Int)),(l.foldl Pv s).Perm (l++s)
 | [],s=>List.Perm.refl _
 | x :: l,s=>by
  refine(MA l (Pv s x)).trans ?_;refine(List.Perm.append_left l (z6 s x)).trans ?_;exact ADY
theorem CJ (l:List (Int×Int)):(AU l).Perm l:=by
 have:=MA l [];simpa[AU] using this
theorem NI {f:List AE} (hf:AQ f) (n:Int):List.length (f.getD n.toNat (0,[])).2<=100000:=by
 by_cases h:n.toNat<f.length
 .have a:f.getD n.toNat (0,[])∈f:=by
   rw[AS,AT h];exact nO h
  exact(hf.2 _ a).1
 rw[AS,SA O1];simp
theorem WA {f:List AE} (hf:AQ f) {n:Int} {a:Int×Int} (ha:a∈AU (f.getD n.toNat (0,[])).2):0<=a.2/\a.2<f.length:=by
 have ha:=(CJ _).mem_iff.1 ha;by_cases h:n.toNat<f.length
 .have b:f.getD n.toNat (0,[])∈f:=by
   rw[AS,AT h];exact nO h
  exact(hf.2 _ b).2 a ha
 rw[AS,SA O1]at ha;simp at ha
def EX (f:List AE) (k:Nat) (s:List Int×List Int) (a:Int×Int):List Int×List Int:=if s.1.getD a.2.toNat 0<0 then Dm f k s a.2 else s
theorem D9 (f:List AE) (k:Nat) (s:List Int×List Int) (n:Int):Dm f (k+1) s n=(AU (f.getD n.toNat (0,[])).2).foldl (EX f k) (s.1.set n.toNat (s.2.length:Int),s.2++[n]):=rfl
theorem WB {f:List AE} {k:Nat} (i:∀(s:List Int×List Int) (n:Int),VX f s->0<=n->n<f.length->s.1.getD n.toNat 0<0->VX f (Dm f k s n)/\MR (Dm f k s n).1<=MR s.1) :
  ∀(l:List (Int×Int)) (t:List Int×List Int),(∀a∈l,0<=a.2/\a.2<(f.length:Int))->VX f t->VX f (l.foldl (EX f k) t)/\MR (l.foldl (EX f k) t).1<=MR t.1
 | [],t,_,d=>⟨d,OR _⟩
 | a :: l,t,c,d=>by
  simp only[On];by_cases h:t.1.getD a.2.toNat 0<0
  .obtain⟨j,m⟩:=i t a.2 d (c a sc).1 (c a sc).2 h;have e:EX f k t a=Dm f k t a.2:=BY h;rw[e];obtain⟨o,p⟩:=WB i l _ (λb g=>c b (by simp[g])) j;exact⟨o,R5 p m⟩
  have e:EX f k t a=t:=At h;rw[e];exact WB i l t (λb g=>c b (by simp[g])) d
theorem S7 {f:List AE} (hf:AQ f):∀(k:Nat) (s:List Int×List Int) (n:Int),VX f s->0<=n->n<f.length->s.1.getD n.toNat 0<0->VX f (Dm f k s n)/\MR (Dm f k s n).1<=MR s.1
 | 0,s,n,h,_,_,_=>⟨h,OR _⟩
 | k+1,s,n,h,h0,h1,d=>by
  obtain⟨e,g⟩:=rK h h0 h1 d;obtain⟨b,c⟩:=WB (S7 hf k) _ _ (λa ha=>WA hf ha) e;rw[D9];exact⟨b,by simp only at c g;omega⟩
theorem OQ {α β:Type} (g:β->α->β) (l:List α) (d:α) (t:β) {i:Nat} (hi:i<l.length):(l.take (i+1)).foldl g t=g ((l.take i).foldl g t) (l.getD i d):=by
 rw[AY l d hi,ACG];rfl
def MB (f:List AE) (s:List Int×List Int):List (Nat×Obj):=[(1,.box 184 true [.p DK f,.sr 2 T3 0 s.1.length,.sr 3 T3 0 s.2.length]),(2,.arr 3 T3 s.1),(3,.arr 3 T3 s.2)]
theorem A3O (f:List AE) (hf:AQ f):∀(k:Nat) (s:List Int×List Int) (n:Int),VX f s->0<=n->n<f.length->s.1.getD n.toNat 0<0->MR s.1<=k ->
  Bb Tryz.prog 151 [.bp 1 [] 0,.p T3 n] (MB f s) [1] (λres M=>res=.raw (.tuple #[])/\M=MB f (Dm f k s n)):=by
 intro k;induction k with
 | zero =>
  intro s n h0 h1 u B N;obtain⟨_,O⟩:=rK h0 h1 u B;omega
 | succ k J =>
  intro s n A w m x hk;obtain⟨num,g⟩:=s;obtain⟨t,v⟩:=rK A w m x;obtain⟨G,H⟩:=A;simp only at G H x t v hk;refine OJ [0,1,4,5,40,54] [] [] Tryz.func151 Tryz.ntmps151 (AF bH AH) ?_;intro w0 K O0 ρ0 c Q R;simp only[MB,A6];repeat'(first|exact trivial|apply eS rfl|refine rX c ?_ ?_)
  .exact eV
  .have:=hf.1;simp only[AN];omega
  .have I:=NI hf n;exact⟨⟨w,m⟩,R5 I O1⟩
  have l:=λa (ha:a∈AU (f.getD n.toNat (0,[])).2)=>WA hf ha;have D:(AU (f.getD n.toNat (0,[])).2).length<=100000:=by rw[CX];exact NI hf n
  generalize C:AU (f.getD n.toNat (0,[])).2=L at l D;generalize o:(num.set n.toNat (g.length:Int),g++[n])=s1 at t;have F:∀i,VX f ((L.take i).foldl (EX f k) s1)/\MR ((L.take i).foldl (EX f k) s1).1<=MR s1.1:=λi=>WB (S7 hf k) _ _ (λa ha=>l a (iS ha)) t;have m:num.set n.toNat (g.length:Int)=s1.1:=by rw[<-o]
  have P:g++[n]=s1.2:=by rw[<-o]
  rw[m]at v;refine AI (ι:={i:Nat//i<=L.length}) (λi=>⟨[(0,.bp 1 [] 0),(1,.p T3 n),(4,.p Cl L),(5,.p (.int .i64) (i.1:Int))],MB f ((L.take i.1).foldl (EX f k) s1)⟩) (λi=>L.length-i.1) ⟨0,by omega⟩ (AAY [36] (AC [(1,.nm 1),(2,.nm 2),(3,.nm 3)] rfl rfl ?_ ?_)) (λi=>?_)
  .simp only[MB];refine eM ?_;simp only[ADM];rw[<-o];simp
  .exact eN
  obtain⟨i,hi⟩:=i;obtain⟨r,E⟩:=F i;have q:=λ(h:i<L.length)=>OQ (EX f k) L (0,0) s1 h;generalize z:(L.take i).foldl (EX f k) s1=b at r E q;simp only[MB];repeat'(first|exact trivial|apply eS rfl|apply AB|refine rX c ?_ ?_|refine rC ?_ ?_<;>intro j<;>try(cases j;done))
  .have d:i<L.length:=by exact eV
   have:=l _ (AD L (0,0) d);obtain⟨h1,u⟩:=r;refine⟨by exact eV,this.1,?_⟩;rw[h1];exact this.2
  .have d:i<L.length:=by exact eV
   have y:=l _ (AD L (0,0) d);refine cP 6 c ?_ ?_
   .exact eV
   refine rM c (J b (L.getD i (0,0)).2 r y.1 y.2 (by simpa using j) O1) [(1,.nm 1),(2,.nm 2),(3,.nm 3)] [2,3] ?_ ?_ ?_
   .exact eN
   .simp only[MB];exact eN
   rintro _ _ ⟨rfl,rfl⟩;refine⟨[(1,.nm 1),(2,.nm 2),(3,.nm 3)],.raw (.tuple #[]),MB f (Dm f k b (L.getD i (0,0)).2),rfl,rfl,?_,?_,rfl,rfl,Eq ?_⟩
   .simp only[MB];exact eN
   .exact eN
   repeat'(first|apply eS rfl|apply AB|refine rX c ?_ ?_)
   .exact eV
   have e:EX f k b (L.getD i (0,0))=Dm f k b (L.getD i (0,0)).2:=BY (by simpa using j);refine⟨⟨i+1,by omega⟩,by simp only;omega,AC [(1,.nm 1),(2,.nm 2),(3,.nm 3)] rfl rfl ?_ ?_⟩
   .simp only[MB,q d,e];exact eN
   exact eN
  .exact eV
  .have d:i<L.length:=by exact eV
   have e:EX f k b (L.getD i (0,0))=b:=At (by simpa using j);refine⟨⟨i+1,by omega⟩,by simp only;omega,AC [(1,.nm 1),(2,.nm 2),(3,.nm 3)] rfl rfl ?_ ?_⟩
   .simp only[q d,e];exact eN
   exact eN
  have hk:L.take i=L:=An (by exact eV);rw[hk]at z;have h1:Dm f (k+1) (num,g) n=b:=by rw[D9,C,<-z,<-o]
  rw[h1];exact fM c [] (.raw (.tuple #[])) rfl ⟨rfl,rfl⟩
end
section
attribute [local go_sem] RM
def lO (f:List AE) (s:List Int×List Int):Prop:=∀n∈s.2,0<=n/\n<(f.length:Int)
theorem Xz {f:List AE} (hf:AQ f):∀(k:Nat) (s:List Int×List Int) (n:Int),lO f s->0<=n->n<f.length->lO f (Dm f k s n)
 | 0,s,n,h,_,_=>h
 | k+1,s,n,h,h0,h1=>by
  rw[D9];have key:∀(l:List (Int×Int)) (t:List Int×List Int),(∀a∈l,0<=a.2/\a.2<(f.length:Int))->lO f t->lO f (l.foldl (EX f k) t):=by
   intro l;induction l with
   | nil=>intro t _ d;exact d
   | cons a l i =>
    intro t e d;simp only[On];refine i _ (λb g=>e b (by simp[g])) ?_;unfold EX;split
    .exact Xz hf k t a.2 d (e a sc).1 (e a sc).2
    exact d
  refine key _ _ (λa ha=>WA hf ha) ?_;intro m c;simp only[ON,Tr]at c;rcases c with c|rfl
  .exact h m c
  exact⟨h0,h1⟩
def Gb (f:List AE) (root:Int):List Int×List Int:=Dm f f.length (List.replicate f.length (-1),[]) root
def Zi (num:List Int) (a:Int×Int):Int×Int:=(a.1,num.getD a.2.toNat 0)
def MC (f:List AE) (num:List Int) (n:Int):AE:=((f.getD n.toNat (0,[])).1,(AU (f.getD n.toNat (0,[])).2).map (Zi num))
def Ff (f:List AE) (root:Int):List AE:=(Gb f root).2.map (MC f (Gb f root).1)
theorem lQ (m:Nat):MR (List.replicate m (-1))=m:=by
 induction m with
 | zero=>rfl
 | succ m a=>simp only[MR,ACZ,ACM]at a ⊢;simp[a]
theorem tr0 (f:List AE):VX f (List.replicate f.length (-1),[]):=⟨by simp,by simp[lQ]⟩
theorem vY {f:List AE} {n:Int} (h0:0<=n) (h1:n<f.length):(List.replicate f.length (-1:Int)).getD n.toNat 0<0:=by
 have:n.toNat<f.length:=by omega
 simp[AS,AAy,this]
theorem vZ {f:List AE} (hf:AQ f) {n:Int} (h0:0<=n) (h1:n<f.length):VX f (Gb f n)/\lO f (Gb f n) :=
 ⟨(S7 hf _ _ n (tr0 f) h0 h1 (vY h0 h1)).1,Xz hf _ _ n (λm a=>by simp at a) h0 h1⟩
theorem X0 {α b:Type} (g:α->b) (h:b->α) (L:List α) (d:α) {k:Nat} (hk:k<L.length) (u:α->α):((L.take k).map u++L.drop k).set k (u (L.getD k d))=(L.take (k+1)).map u++L.drop (k+1)/\((L.take k).map u++L.drop k).getD k d=L.getD k d:=by
 have h1:((L.take k).map u).length=k:=by simp;omega
 have a:L.drop k=L.getD k d :: L.drop (k+1):=by
  rw[IS hk,AS,AT hk];rfl
 constructor
 .rw[AY L d hk,ABY _ _ O1,h1,AAu,a];simp
 rw[AS,SL O1,h1,AAu,a];rfl
def bI:AZ:={ ins:=[DK,T3],pre:=λ(f,n,_)=>AQ f/\0<=n/\n<(List.length f:Int),out:=λ(f,n,_)=>[.p DK (Ff f n)] }
theorem f3:Aa Tryz.prog 114 bI:=by
 refine fK [0,1,2,4,5,6,7,8,9,10,11,19,40,60] Tryz.func114 Tryz.ntmps114 (AF bH AH) ?_;rintro w0 O0 ⟨f,root,u⟩ d-⟨hf,l,m⟩;simp only[bI,AL];have G:=hf.1;repeat'(first|exact trivial|apply eS rfl|refine rX d ?_ ?_)
 refine AI (ι:={i:Nat//i<=f.length}) (λi=>⟨[(1,.p T3 root),(2,.bp 2 [] 0),(4,.bp 4 [] 0),(5,.bp 14 [] 0),(6,.p (.int .i64) (i.1:Int))],[(2,.box 25 true [.p DV f]),(4,.box 25 true [.raw (.slice none 0 0)]),(14,.box 184 true [.p DK f,.sr 10 T3 0 i.1,.raw (.slice none 0 0)]),(10,.arr 3 T3 (List.replicate i.1 (-1)))]⟩) (λi=>f.length-i.1) ⟨0,by omega⟩ (AC [(2,.nm 2),(4,.nm 4),(14,.nm 14),(10,.nil)] rfl rfl ?_ ?_) (λi=>?_)
 .refine eM ?_;rfl
 .exact eN
 obtain⟨i,hi⟩:=i;repeat'(first|exact trivial|apply eS rfl|apply AB|refine rX d ?_ ?_|refine rC ?_ ?_<;>intro h<;>try(cases h;done))
 .simp only[AN];omega
 .exact eV
 .have hi:i<List.length f:=by exact eV
  refine⟨⟨i+1,by omega⟩,by simp only;omega,AC [(2,.nm 2),(4,.nm 4),(14,.nm 14),(10,.nm 10)] rfl rfl ?_ ?_⟩
  .refine eM ?_;rw[ADu];simp
  exact eN
 have A:i=List.length f:=by exact eV
 subst A;have w:=vZ hf l m;refine cP 2 d ?_ ?_
 .trivial
 refine rM d (A3O f hf (List.length f) (List.replicate (List.length f) (-1),[]) root (tr0 f) l m (vY l m) (by rw[lQ];exact OR _)) [(1,.nm 14),(2,.nm 10),(3,.nil)] [10] ?_ ?_ ?_
 .exact eN
 .simp only[MB];refine eM ?_;simp
 rintro _ _ ⟨rfl,rfl⟩;refine⟨[(14,.nm 1),(101,.nm 2),(102,.nm 3)],.raw (.tuple #[]),[(14,.box 184 true [.p DK f,.sr 101 T3 0 (Gb f root).1.length,.sr 102 T3 0 (Gb f root).2.length]),(101,.arr 3 T3 (Gb f root).1),(102,.arr 3 T3 (Gb f root).2)],rfl,rfl,?_,?_,rfl,rfl,Eq ?_⟩
 .simp only[MB,Gb];exact eN
 .exact eN
 have z:Ff f root=(Gb f root).2.map (MC f (Gb f root).1):=rfl;rw[z];generalize Gb f root=s at w;obtain⟨num,c⟩:=s;obtain⟨⟨r,t⟩,j⟩:=w;simp only at r t;have j:∀n∈c,0<=n/\n<(List.length f:Int):=j;repeat'(first|exact trivial|apply eS rfl|refine rX d ?_ ?_)
 refine AI (ι:={i:Nat//i<=c.length}) (λi=>⟨[(2,.bp 2 [] 0),(4,.bp 4 [] 0),(5,.bp 14 [] 0),(7,.bp 7 [] 0),(8,.p (.int .i64) (i.1:Int))],[(2,.box 25 true [.p DV f]),(4,.box 25 true [.raw (.slice none 0 0)]),(14,.box 184 true [.p DK f,.sr 101 T3 0 num.length,.sr 102 T3 0 c.length]),(101,.arr 3 T3 num),(102,.arr 3 T3 c),(7,.box 25 true [.sr 200 GX 0 i.1]),(200,.arr 93 GX ((c.take i.1).map (MC f num)))]⟩) (λi=>c.length-i.1) ⟨0,by omega⟩ (eW [(2,.nm 2),(4,.nm 4),(14,.nm 14),(101,.nm 101),(102,.nm 102),(7,.nm 7),(200,.nil)]) (λi=>?_)
 obtain⟨i,hi⟩:=i;repeat'(first|exact trivial|apply eS rfl|refine rX d ?_ ?_|refine rC ?_ ?_<;>intro h<;>try(cases h;done))
 .have hi:i<c.length:=by exact eV
  exact⟨by exact eV,j _ (AD c 0 hi)⟩
 .exact R5 (NI hf _) O1
 .have hi:i<c.length:=by exact eV
  have q:=λa (ha:a∈AU (f.getD (Int.toNat (c.getD i 0)) (0,[])).2)=>WA hf ha;have v:MC f num (c.getD i 0)=((f.getD (Int.toNat (c.getD i 0)) (0,[])).1,(AU (f.getD (Int.toNat (c.getD i 0)) (0,[])).2).map (Zi num)):=rfl;have B:=NI hf (c.getD i 0);generalize List.getD f (Int.toNat (c.getD i 0)) (0,[])=x at *;obtain⟨E,o⟩:=x;simp only at q v B;have F:=CX o;generalize AU o=L at *;refine AI (ι:={k:Nat//k<=L.length}) (λk=>⟨[(2,.bp 2 [] 0),(4,.bp 4 [] 0),(5,.bp 14 [] 0),(7,.bp 7 [] 0),(8,.p (.int .i64) (i:Int)),(9,.bp 9 [] 0),(10,.sr 56 Av 0 L.length),(11,.p (.int .i64) (k.1:Int))],[(56,.arr 106 Av ((L.take k.1).map (Zi num)++L.drop k.1)),(9,.box 93 true [.p T3 E,.p Cl o]),(2,.box 25 true [.p DV f]),(4,.box 25 true [.raw (.slice none 0 0)]),(14,.box 184 true [.p DK f,.sr 101 T3 0 num.length,.sr 102 T3 0 c.length]),(101,.arr 3 T3 num),(102,.arr 3 T3 c),(7,.box 25 true [.sr 200 GX 0 i]),(200,.arr 93 GX ((c.take i).map (MC f num)))]⟩) (λk=>L.length-k.1) ⟨0,by omega⟩ (eW [(2,.nm 2),(4,.nm 4),(14,.nm 14),(101,.nm 101),(102,.nm 102),(7,.nm 7),(200,.nm 200),(9,.nm 9),(56,.nm 56)]) (λk=>?_)
  obtain⟨k,hk⟩:=k;repeat'(first|exact trivial|apply eS rfl|apply AB|refine rX d ?_ ?_|refine rC ?_ ?_<;>intro h<;>try(cases h;done))
  .have g:k<L.length:=by exact eV
   have e:=(X0 (Zi num) (λb=>b) L (0,0) g (Zi num)).2;rw[e];have:=q _ (AD L (0,0) g);rw[r];exact⟨by exact eV,this,by exact eV⟩
  .exact eV
  .have g:k<L.length:=by exact eV
   have e:=X0 (Zi num) (λb=>b) L (0,0) g (Zi num);refine⟨⟨k+1,by omega⟩,by simp only;omega,AC [(2,.nm 2),(4,.nm 4),(14,.nm 14),(101,.nm 101),(102,.nm 102),(7,.nm 7),(200,.nm 200),(9,.nm 9),(56,.nm 56)] rfl rfl ?_ ?_⟩
   .refine eM ?_;rw[e.2];exact e.1
   exact eN
  .simp only[AN];have:=t;omega
  .exact eV
  have g:L.take k=L:=An (by exact eV);have y:L.drop k=[]:=By (by exact eV);refine⟨⟨i+1,by omega⟩,by simp only;omega,AC [(2,.nm 2),(4,.nm 4),(14,.nm 14),(101,.nm 101),(102,.nm 102),(7,.nm 7),(200,.nm 200)] rfl rfl ?_ ?_⟩
  .refine eM ?_;rw[g,y,SJ,AY c 0 hi,SQ,SK,ADh,v];have C:List.take i ((c.take i).map (MC f num))=(c.take i).map (MC f num):=An (by rw[Of,OF];omega);have D:List.take L.length (L.map (Zi num))=L.map (Zi num):=An (by rw[Of];omega);rw[C,D]
  exact eN
 have hk:c.take i=c:=An (by exact eV);rw[hk];refine fI d [.cell 4 25] (by first|exact eR|refine Uf ?_;exact An (by rw[Of];exact eV))
end
section
attribute [local go_sem] A3L bI
theorem X2 {n:Int}:∀ {l seen:List (Int×Int)},GZ n seen l=0->∀a∈l,0<=a.1/\0<=a.2/\a.2<n
 | [],_,_,a,ha=>by cases ha
 | x :: l,seen,h,a,ha=>by
  simp only[GZ]at h;split at h
  .cases h
  split at h
  .cases h
  rename_i h1 _;rcases Do.1 ha with rfl|ha
  .omega
  exact X2 h a ha
theorem It {m:Int}:∀ {f:List (Int×List (Int×Int))},Ga m f=0->∀x∈f,0<=x.1/\∀a∈x.2,0<=a.1/\0<=a.2/\a.2<m
 | [],_,x,c=>by cases c
 | y :: f,h,x,c=>by
  simp only[Ga]at h;split at h
  .cases h
  split at h
  .rename_i h1 b;exact absurd h b
  rename_i h1 b;have b:Gx y.2 m=0:=IF b;rcases Do.1 c with rfl|c
  .exact⟨by omega,X2 b⟩
  exact It h x c
def X3 (f:List (Int×List (Int×Int))):Prop:=∀x∈f,x.2.length<=100000
theorem Iu {f:List (Int×List (Int×Int))} (h:CH f=0) (hs:X3 f):AQ f/\0<f.length:=by
 unfold CH at h;split at h
 .cases h
 split at h
 .cases h
 refine⟨⟨by omega,λx b=>⟨hs x b,λa ha=>?_⟩⟩,by omega⟩;have:=(It h x b).2 a ha;exact⟨this.2.1,this.2.2⟩
def BF (f:List AE):List AE×Int:=if CH f=0 then (Ff f 0,0) else ([],CH f)
def f5:AZ:={ ins:=[DK],pre:=λ(f,_)=>X3 f,out:=λ(f,_)=>[.p DK (BF f).1,.p MU (BF f).2] }
theorem A3P:Aa Tryz.prog 82 f5:=by
 refine fK [0,1,2,3,4,8] Tryz.func82 Tryz.ntmps82 (AF A6T (AF f3 AH)) ?_;rintro w0 O0 ⟨f,u⟩ b-hs;simp only[f5,AL];repeat'(first|exact trivial|apply eS rfl|refine rX b ?_ ?_|refine rC ?_ ?_<;>intro a<;>try(cases a;done))
 .have h:¬CH f=0:=by simpa using a
  have e:BF f=([],CH f):=At h;exact fI b [.cell 2 25,.tmp 3] (by rw[e];exact eR)
 .have h:CH f=0:=by simpa using a
  have:=Iu h hs;exact⟨this.1,by exact eV⟩
 have h:CH f=0:=by simpa using a
 have e:BF f=(Ff f 0,0):=BY h;exact fI b [.cell 2 25,.tmp 3] (by rw[e];exact eR)
end
def v6 (l:List Int) (n:Int):Bool:=l.any λx=>x==n
def lS:AZ:={ ins:=[T3],pre:=λ_=>True,out:=λ(t,_)=>[.p DK [(t,[])]] }
theorem A6U:Aa Tryz.prog 27 lS:=by
 refine fK [0,2] Tryz.func27 Tryz.ntmps27 AH ?_;rintro w0 O0 ⟨t,u⟩ a - -;simp only[lS,AL];repeat'(first|exact trivial|apply eS rfl|apply AB|refine rX a ?_ ?_|refine rC ?_ ?_<;>intro b<;>try(cases b;done))
 exact fI a [.cell 2 25]
section
attribute [local go_sem] NG f5 Pu
def ftB (a:Int×Int):Bool:=decide (a.1<64)
def ndB (x:AE):Bool:=decide (x.1<256)&&x.2.all ftB
def EI (f:List AE):Bool:=E6 f&&f.all ndB&&((BF f).2==0&&(DB (BF f).1 f==0))
theorem Hf {f:List AE} (h:E6 f=true):f.length<=12/\∀x∈f,x.2.length<=12:=by
 unfold E6 at h;simp only[As,NO,No]at h;exact h
theorem rO {f:List AE} (hf:AQ f) {n:Int} (h0:0<=n) (h1:n<f.length):DC (Ff f n):=by
 obtain⟨⟨b,c⟩,_⟩:=vZ hf h0 h1;have d:=hf.1;refine⟨?_,λx a=>?_⟩
 .unfold Ff;rw[Of];omega
 obtain⟨m,_,rfl⟩:=DO.1 a;unfold MC;simp only[Of,CX];exact NI hf m
theorem Ur {f:List AE} (hs:X3 f):DC (BF f).1:=by
 unfold BF;split
 .rename_i h;obtain⟨h1,b⟩:=Iu h hs;exact rO h1 O1 O1
 exact⟨by simp,λx a=>by cases a⟩
end
section
attribute [local go_sem] f5 Pu
def rQ (h:AG) (a:Int×Int):Bool:=decide (a.1<(h.2.length:Int))
def Us (h:AG) (x:AE):Bool:=decide (x.1<(h.1.length:Int))&&x.2.all (rQ h)
def BH (h:AG) (f:List AE):Int:=if (BF f).2≠0 then (BF f).2 else if f.all (Us h)=false then 2 else if (DB f (BF f).1==0)=false then 3 else 0
def Li:AZ:={ ins:=[D8,DK],pre:=λ(_,f,_)=>DC f,out:=λ(h,f,_)=>[.p MU (BH h f)] }
theorem S8:Aa Tryz.prog 33 Li:=by
 refine fK [0,1,2,3,4,5,6,7,8,9,16,22,35,40,52,56] Tryz.func33 Tryz.ntmps33 (AF A3P (AF Xy AH)) ?_;rintro w0 O0 ⟨⟨b,hf⟩,f,u⟩ d-hs;have hs:DC f:=hs;simp only[Li,AL];repeat'(first|exact trivial|apply eS rfl|refine rX d ?_ ?_|refine rC ?_ ?_<;>intro a<;>try(cases a;done))
 .exact hs.2
 .have h1:BH (b,hf) f=(BF f).2:=by unfold BH;rw[BY a]
  exact fI d [.tmp 4] (by rw[h1];exact eR)
 have t:(BF f).2=0:=by simpa using a
 have q:=Ur hs.2;have w:=hs.1;have g:BH (b,hf) f=if f.all (Us (b,hf))=false then 2 else if (DB f (BF f).1==0)=false then 3 else 0:=by unfold BH;rw[At (by rw[t];simp)]
 refine AI (ι:={i:Nat//i<=f.length/\(f.take i).all (Us (b,hf))=true}) (λi=>⟨[(2,.bp 2 [] 0),(3,.bp 3 [] 0),(5,.bp 5 [] 0),(7,.p (.int .i64) (i.1:Int))],[(2,.box 31 true [.p O2 b,.p QG hf]),(3,.box 25 true [.p DV f]),(5,.box 25 true [.p DV (BF f).1])]⟩) (λi=>f.length-i.1) ⟨0,by simp⟩ (eW [(2,.nm 2),(3,.nm 3),(5,.nm 5)]) (λi=>?_)
 obtain⟨i,hi,l⟩:=i;have r:=λh:i<f.length=>HD f (0,[]) (Us (b,hf)) h;simp only;repeat'(first|exact trivial|apply eS rfl|refine rX d ?_ ?_|refine rC ?_ ?_<;>intro a<;>try(cases a;done))
 .exact a
 .have c:i<f.length:=GO.1 (by assumption);have e:f.all (Us (b,hf))=false:=by
   rw[ACg];refine⟨_,AD f (0,[]) c,?_⟩;unfold Us;rw[ACj (AC2.2 a)];simp
  rw[BY e]at g;exact fI d [.tmp 4] (by rw[g];exact eR)
 .have c:i<f.length:=GO.1 (by assumption);have n:=AD f (0,[]) c;have o:Us (b,hf) (f.getD i (0,[]))=(f.getD i (0,[])).2.all (rQ (b,hf)):=by
   unfold Us;rw[ABV (show (f.getD i (0,[])).1<(b.length:Int) from a)];rfl
  have v:(f.getD i (0,[])).2.length<=100000:=hs.2 _ n;refine AI (ι:={k:Nat//k<=(f.getD i (0,[])).2.length/\((f.getD i (0,[])).2.take k).all (rQ (b,hf))=true}) (λk=>⟨[(2,.bp 2 [] 0),(3,.bp 3 [] 0),(5,.bp 5 [] 0),(7,.p (.int .i64) (i:Int)),(8,.bp 8 [] 0),(9,.p (.int .i64) (k.1:Int))],[(2,.box 31 true [.p O2 b,.p QG hf]),(3,.box 25 true [.p DV f]),(5,.box 25 true [.p DV (BF f).1]),(8,.box 93 true [.p T3 (f.getD i (0,[])).1,.p Cl (f.getD i (0,[])).2])]⟩) (λk=>(f.getD i (0,[])).2.length-k.1) ⟨0,by simp⟩ (eW [(2,.nm 2),(3,.nm 3),(5,.nm 5),(8,.nm 8)]) (λk=>?_)
  obtain⟨k,hk,m⟩:=k;have s:=λh:k<(f.getD i (0,[])).2.length=>HD (f.getD i (0,[])).2 (0,0) (rQ (b,hf)) h;simp only;repeat'(first|exact trivial|apply eS rfl|apply AB|refine rX d ?_ ?_|refine rC ?_ ?_<;>intro a<;>try(cases a;done))
  .exact a
  .have j:k<(f.getD i (0,[])).2.length:=GO.1 (by assumption);have e:f.all (Us (b,hf))=false:=by
    rw[ACg];refine⟨_,n,?_⟩;rw[o,ACg.2 ⟨_,AD (f.getD i (0,[])).2 (0,0) j,by unfold rQ;rw[ACj (AC2.2 a)];simp⟩];simp
   rw[BY e]at g;exact fI d [.tmp 4] (by rw[g];exact eR)
  .exact eV
  .have j:k<(f.getD i (0,[])).2.length:=GO.1 (by assumption);refine⟨⟨k+1,j,?_⟩,by simp only;omega,AC [(2,.nm 2),(3,.nm 3),(5,.nm 5),(8,.nm 8)] rfl rfl ?_ ?_⟩
   .rw[s j,m];unfold rQ;exact ABV a
   .exact eN
   exact eN
  .exact eV
  have j:(f.getD i (0,[])).2.take k=(f.getD i (0,[])).2:=An (R4.1 a);rw[j]at m;refine⟨⟨i+1,c,?_⟩,by simp only;omega,AC [(2,.nm 2),(3,.nm 3),(5,.nm 5)] rfl rfl ?_ ?_⟩
  .rw[r c,l,o,m];rfl
  .exact eN
  exact eN
 .exact⟨hs,q⟩
 .have c:f.take i=f:=An (R4.1 (by assumption));rw[c]at l;rw[At (by rw[l];simp),BY (by simpa using a)]at g;exact fI d [.tmp 4] (by rw[g];exact eR)
 have c:f.take i=f:=An (R4.1 (by assumption));rw[c]at l;rw[At (by rw[l];simp),At (by rw[a];simp)]at g;exact fI d [.tmp 4] (by rw[g];exact eR)
def Lj (h:AG) (f:List AE):Bool:=E6 f&&BH h f==0
end
section
attribute [local go_sem] Kb KZ NG Li
def v7 (d:List AJ):AG:=if d.length<=12/\(A0 d).2=0 then (A0 d).1 else (A0 DA).1
end
section
def rR:AZ:={ ins:=[BX,T3],pre:=λ(_,i,_)=>(0:Int)<=i,out:=λ(b,i,_)=>[.p Sq (Gt b i)],lend:=true }
attribute [local go_sem] rR
theorem A3Q:Aa Tryz.prog 175 rR:=by
 refine fK [0,1,4,8] Tryz.func175 Tryz.ntmps175 AH ?_;rintro w0 O0 ⟨b,i,u⟩ c-hi;simp only[rR,AL];repeat'(first|exact trivial|apply eS rfl|refine rX c ?_ ?_|refine rC ?_ ?_<;>intro a<;>try(cases a;done))
 .exact⟨hi,a⟩
 .have h1:Gt b i=b.getD i.toNat 0:=by unfold Gt;rw[BY a]
  exact fI c [.tmp 4] (by rw[h1];exact eR)
 have h1:Gt b i=0:=by unfold Gt;rw[At (AC2.2 a)]
 exact fI c [.tmp 4] (by rw[h1];exact eR)
def NJ (a b:List Int):Bool:=(List.range a.length).all λi=>Cs .andNot .u64 (a.getD i 0) (Gt b (i:Int))==0
def lU (a b:List Int) (n:Nat):Bool:=(List.range n).all λi=>Cs .andNot .u64 (a.getD i 0) (Gt b (i:Int))==0
theorem rS (a b:List Int) (n:Nat):lU a b (n+1)=(lU a b n&&Cs .andNot .u64 (a.getD n 0) (Gt b (n:Int))==0):=by
 unfold lU;rw[To,ACX];simp
def RN:AZ:={ ins:=[BX,BX],pre:=λ_=>True,out:=λ(a,b,_)=>[.p .bool (NJ a b)],lend:=true }
attribute [local go_sem] RN
theorem X4:Aa Tryz.prog 133 RN:=by
 refine fK [0,1,4,5,6,7,8,9,10,19] Tryz.func133 Tryz.ntmps133 (AF A3Q AH) ?_;rintro w0 O0 ⟨a,b,u⟩ e ⟨⟨g,-⟩,-⟩ -;simp only[AN]at g;simp only[RN,AL];repeat'(first|exact trivial|apply eS rfl|refine rX e ?_ ?_)
 have h:NJ a b=lU a b a.length:=rfl;refine AI (ι:={n:Nat//n<=a.length/\lU a b n=true}) (λn=>⟨[(1,.p BX b),(7,.p BX a),(8,.p (.int .i64) (a.length:Int)),(9,.p (.int .i64) (n.1:Int))],[]⟩) (λn=>a.length-n.1) ⟨0,If _,rfl⟩ (eW []) (λn=>?_)
 obtain⟨n,hn,f⟩:=n;have hs:=rS a b n;simp only;repeat'(first|exact trivial|apply eS rfl|apply AB|refine rX e ?_ ?_|refine rC ?_ ?_<;>intro d<;>try(cases d;done))
 .exact d
 .have c:n<a.length:=by exact eV
  have h1:NJ a b=false:=by
   unfold NJ;rw[ACg];exact⟨n,SH.2 c,by simpa using d⟩
  exact fI e [.tmp 4] (by rw[h1];exact eR)
 .exact eV
 .have c:n<a.length:=by exact eV
  refine⟨⟨n+1,c,?_⟩,by simp only;omega,AC [] rfl rfl ?_ ?_⟩
  .rw[hs,f];simpa using d
  .exact eN
  exact eN
 have c:n=a.length:=by exact eV
 subst c;exact fI e [.tmp 4] (by rw[h,f];exact eR)
abbrev Pw:FM:=(ByteArray.empty,[],[],[])
def Aj (h:AG) (a b:Int):Bool:=NJ (h.1.getD b.toNat Pw).2.1 (h.1.getD a.toNat Pw).2.1
def X5:AZ:={ ins:=[D8,T3,T3],pre:=λ(h,a,b,_)=>((0:Int)<=a/\a<(List.length (h:AG).1:Int))/\((0:Int)<=b/\b<(List.length (h:AG).1:Int)),out:=λ(h,a,b,_)=>[.p .bool (Aj h a b)],lend:=true }
theorem f6:Aa Tryz.prog 84 X5:=by
 refine fK [0,1,2,3,6] Tryz.func84 Tryz.ntmps84 (AF X4 AH) ?_;rintro w0 O0 ⟨⟨e,hf⟩,a,b,u⟩ c-⟨ha,d⟩;simp only[X5,AL];repeat'(first|exact trivial|apply eS rfl|refine rX c ?_ ?_)
 .exact⟨d,ha⟩
 exact fI c [.tmp 6] (by unfold Aj;exact eR)
end
section
attribute [local go_sem] RN
def X6:AZ:={ ins:=[BX],pre:=λ(b,_)=>List.length b<=100000,out:=λ(b,_)=>[.p BX (BQ b)] }
attribute [local go_sem] X6
theorem rU:Aa Tryz.prog 212 X6:=by
 refine fK [0,2,3,15] Tryz.func212 Tryz.ntmps212 AH ?_;rintro w0 O0 ⟨b,u⟩ d-f;have f:b.length<=100000:=f;simp only[X6,AL];repeat'(first|exact trivial|apply eS rfl|refine rX d ?_ ?_)
 refine AI (ι:={n:Nat//n<=b.length/\Ck b n=Ck b b.length}) (λn=>⟨[(0,.p BX b),(3,.p (.int .i64) (n.1:Int))],[]⟩) (λn=>n.1) ⟨b.length,OR _,rfl⟩ (eW []) (λn=>?_)
 obtain⟨n,hn,g⟩:=n;simp only;repeat'(first|apply eS rfl|apply AB|refine rX d ?_ ?_|refine rC ?_ ?_<;>intro c<;>try(cases c;done))
 .constructor
  .exact eV
  intro h;refine⟨?_,?_⟩<;>exact eV
 .exact eV
 .obtain⟨h1,a⟩:=c;obtain⟨m,rfl⟩:∃m,n=m+1:=⟨n-1,by omega⟩;have e:(((m+1:Nat):Int)-1)=(m:Int):=by omega
  rw[e]at a;have a:b.getD m 0=0:=a;have j:Ck b m=Ck b b.length:=by
   rw[<-g];show _=if b.getD m 0=0 then Ck b m else m+1
   rw[BY a]
  refine⟨⟨m,by omega,j⟩,by simp,AC [] rfl rfl ?_ ?_⟩
  .exact eN
  simp only[e];exact eN
 .exact R4.2 hn
 have i:Ck b n=n:=by
  cases n with
  | zero=>rfl
  | succ m =>
   have e:(((m+1:Nat):Int)-1)=(m:Int):=by omega
   rw[e]at c;have a:=c O1;have a:¬b.getD m 0=0:=a;show (if b.getD m 0=0 then Ck b m else m+1)=m+1;rw[At a]
 have h1:BQ b=b.take n:=by unfold BQ;rw[<-g,i]
 rw[<-h1];exact fI d [.tmp 2]
def Hg (g:Nat->Int) (n i:Nat):List Int:=(List.range n).map λj=>if j<i then g j else 0
theorem bJ (g:Nat->Int) (n i:Nat):(Hg g n i).length=n:=by simp[Hg]
theorem rV (g:Nat->Int) (n:Nat):Hg g n 0=List.replicate n 0:=by
 apply iF
 .simp[Hg]
 intro j h1 a;simp[Hg]
theorem z7 (g:Nat->Int) (n i:Nat):(Hg g n i).set i (g i)=Hg g n (i+1):=by
 apply iF
 .simp[Hg]
 intro j h1 b;simp only[Hg,List.getElem_set,ACL,ACP];split
 .rename_i e;rw[BY O1,e]
 rename_i e;by_cases a:j<i
 .rw[BY a,BY O1]
 rw[At a,At O1]
def f7 (a b:List Int) (i:Nat):Int:=Cs .and .u64 (a.getD i 0) (b.getD i 0)
def Gc (a b:List Int):List Int:=BQ (Hg (f7 a b) (min a.length b.length) (min a.length b.length))
def A3R:AZ:={ ins:=[BX,BX],pre:=λ(a,_,_)=>List.length a<=100000,out:=λ(a,b,_)=>[.p BX (Gc a b)] }
attribute [local go_sem] A3R
theorem A6V:Aa Tryz.prog 176 A3R:=by
 refine fK [0,1,4,5,6,14,15,16] Tryz.func176 Tryz.ntmps176 (AF rU AH) ?_;rintro w0 O0 ⟨a,b,u⟩ d-ha;have ha:a.length<=100000:=ha;simp only[A3R,AL];repeat'(first|exact trivial|apply eS rfl|refine rX d ?_ ?_)
 .split<;>simp only[AN]<;>dsimp only[Ty.den]at *<;>omega
 have h:Int.toNat (if ((List.length b:Nat):Int)<((List.length a:Nat):Int) then ((List.length b:Nat):Int) else ((List.length a:Nat):Int))=min (List.length a) (List.length b):=by split<;>omega
 rw[h];have j:Gc a b=BQ (Hg (f7 a b) (min a.length b.length) (min a.length b.length)):=rfl;have k:min a.length b.length<=a.length:=Nat.min_le_left _ _;have l:min a.length b.length<=b.length:=Nat.min_le_right _ _;generalize min a.length b.length=n at *;refine AI (ι:={i:Nat//i<=n}) (λi=>⟨[(0,.p BX a),(1,.p BX b),(5,.sr 12 Sq 0 n),(14,.p (.int .i64) (n:Int)),(15,.p (.int .i64) (i.1:Int))],[(12,.arr 186 Sq (Hg (f7 a b) n i.1))]⟩) (λi=>n-i.1) ⟨0,If _⟩ (AC [(12,.nm 12)] rfl rfl ?_ ?_) (λi=>?_)
 .refine eM ?_;rw[rV]
 .exact eN
 obtain⟨i,hi⟩:=i;have f:=bJ (f7 a b) n i;simp only;repeat'(first|exact trivial|apply eS rfl|apply AB|refine rX d ?_ ?_|refine rC ?_ ?_<;>intro c<;>try(cases c;done))
 .have e:i<n:=GO.1 c;exact⟨by exact eV,by exact eV,c⟩
 .exact eV
 .have e:i<n:=GO.1 c;refine⟨⟨i+1,e⟩,by simp only;omega,AC [(12,.nm 12)] rfl rfl ?_ ?_⟩
  .simp only[<-z7];refine eM ?_;rfl
  exact eN
 have e:i=n:=by omega
 subst e;have g:(Hg (f7 a b) i i).take i=Hg (f7 a b) i i:=An (by rw[f];exact OR _);refine E2 [12] ?_;repeat'(first|apply eS rfl|refine rX d ?_ ?_)
 .rw[g,f];dsimp only[Ty.den]at *;omega
 rw[g];exact fI d [.tmp 4] (by rw[j];exact eR)
def EJ (a b:List Int):Bool:=NJ a b&&NJ b a
def f8:AZ:={ ins:=[BX,BX],pre:=λ_=>True,out:=λ(a,b,_)=>[.p .bool (EJ a b)],lend:=true }
attribute [local go_sem] f8
theorem z8:Aa Tryz.prog 179 f8:=by
 refine fK [0,1,4] Tryz.func179 Tryz.ntmps179 (AF X4 AH) ?_;rintro w0 O0 ⟨a,b,u⟩ c - -;simp only[f8,AL];repeat'(first|exact trivial|apply eS rfl|refine rX c ?_ ?_)
 exact fI c [.tmp 4] (by unfold EJ;exact eR)
def FN (c:List Int):Nat->List FM->Int
 | _,[]=>-1
 | k,t :: l=>if EJ t.2.1 c=true then (k:Int) else FN c (k+1) l
theorem rW (c:List Int) (l:List FM) {k:Nat} (h:k<l.length):FN c k (l.drop k)=if EJ (l.getD k Pw).2.1 c=true then (k:Int) else FN c (k+1) (l.drop (k+1)):=by
 rw[IS h];have e:l.getD k Pw=l[k]:=by simp[AS,h]
 rw[e];rfl
theorem A3S (c:List Int) (t:FM):Bb Tryz.prog 178 [.p qC t,.bp 1 [] 0] [(1,.box 140 false [.p BX c])] [1] (λres b=>res=.p .bool (EJ t.2.1 c)/\b=[(1,.box 140 false [.p BX c])]):=by
 refine OJ [0,1,2,3] [] [] Tryz.func178 Tryz.ntmps178 (AF z8 AH) ?_;intro w0 K O0 ρ0 a d e;simp only[A6];repeat'(first|exact trivial|apply eS rfl|refine rX a ?_ ?_)
 refine Ev.ent (σ':=⟨[(3,.p .bool (EJ t.2.1 c))],[(1,.box 140 false [.p BX c])]⟩) ?_ (AC [(1,.nm 1)] rfl rfl ?_ ?_)
 .exact fM a [.tmp 3] (.p .bool (EJ t.2.1 c)) eT ⟨rfl,rfl⟩
 .exact eN
 exact eN
theorem z9 (l:List FM) (c:List Int) (i:l.length<=100000):Bb Tryz.prog 177 [.p O2 l,.clo 178 [1]] [(1,.box 140 false [.p BX c])] [1] (λres g=>res=.p T3 (FN c 0 l)/\g=[(1,.box 140 false [.p BX c])]):=by
 refine OJ [0,1,4,5,7,8,9,16] [] [] Tryz.func177 Tryz.ntmps177 AH ?_;intro w0 K O0 ρ0 b j m;simp only[A6];repeat'(first|exact trivial|apply eS rfl|refine rX b ?_ ?_)
 refine AI (ι:={k:Nat//k<=l.length/\FN c k (l.drop k)=FN c 0 l}) (λk=>⟨[(0,.p O2 l),(1,.clo 178 [1]),(7,.p (.int .i64) (l.length:Int)),(8,.p (.int .i64) (k.1:Int))],[(1,.box 140 false [.p BX c])]⟩) (λk=>l.length-k.1) ⟨0,If _,rfl⟩ (eW [(1,.nm 1)]) (λk=>?_)
 obtain⟨k,hk,hf⟩:=k;have f:=λh:k<l.length=>rW c l h;simp only;repeat'(first|exact trivial|apply eS rfl|refine rX b ?_ ?_|refine rC ?_ ?_<;>intro a<;>try(cases a;done))
 .have d:k<l.length:=GO.1 a;have e:=f d;refine cP 5 b ?_ ?_
  .exact a
  refine rM b (A3S c (l.getD k Pw)) [(1,.nm 1)] [] ?_ ?_ ?_
  .exact eN
  .exact eN
  rintro _ _ ⟨rfl,rfl⟩;refine⟨[(1,.nm 1)],.p .bool (EJ (l.getD k Pw).2.1 c),[(1,.box 140 false [.p BX c])],rfl,rfl,?_,?_,rfl,rfl,Eq ?_⟩
  .exact eN
  .exact eN
  repeat'(first|exact trivial|apply eS rfl|apply AB|refine rX b ?_ ?_|refine rC ?_ ?_<;>intro a<;>try(cases a;done))
  .have a:EJ (l.getD k Pw).2.1 c=true:=a;rw[BY a,hf]at e;refine Ev.ent (σ':=⟨[(4,.p (.int .i64) (k:Int))],[(1,.box 140 false [.p BX c])]⟩) ?_ (AC [(1,.nm 1)] rfl rfl ?_ ?_)
   .exact fM b [.tmp 4] (.p T3 (k:Int)) eT ⟨by rw[e],rfl⟩
   .exact eN
   exact eN
  .omega
  have a:EJ (l.getD k Pw).2.1 c=false:=a;rw[At (by rw[a];simp)]at e;exact⟨⟨k+1,d,e.symm.trans hf⟩,by simp only;omega,eW [(1,.nm 1)]⟩
 have d:l.drop k=[]:=By (R4.1 a);rw[d]at hf;have hf:(-1:Int)=FN c 0 l:=hf;refine Ev.ent (σ':=⟨[(4,.p (.int .i64) (-1))],[(1,.box 140 false [.p BX c])]⟩) ?_ (AC [(1,.nm 1)] rfl rfl ?_ ?_)
 .exact fM b [.tmp 4] (.p T3 (-1)) eT ⟨by rw[hf],rfl⟩
 .exact eN
 exact eN
def BN (h:AG) (t:Int):List Int:=(h.1.getD t.toNat Pw).2.1
def Bu (h:AG) (a b:Int):Int×Bool :=
 if (Gc (BN h a) (BN h b)).length=0 then (0,false) else if FN (Gc (BN h a) (BN h b)) 0 h.1<0 then (0,false) else (FN (Gc (BN h a) (BN h b)) 0 h.1,true)
def v8:AZ:={ ins:=[D8,T3,T3],pre:=λ(h,a,b,_)=>((0:Int)<=a/\a<(List.length (h:AG).1:Int))/\((0:Int)<=b/\b<(List.length (h:AG).1:Int))/\List.length (h:AG).1<=100000/\(∀x∈(h:AG).1,x.2.1.length<=100000),out:=λ(h,a,b,_)=>[.p T3 (Bu h a b).1,.p .bool (Bu h a b).2],lend:=true }
theorem v9:Aa Tryz.prog 135 v8:=by
 refine fK [0,1,2,3,6,7,8,9,25,31] Tryz.func135 Tryz.ntmps135 (AF A6V AH) ?_;rintro w0 O0 ⟨⟨d,hf⟩,a,b,u⟩ e-⟨ha,i,k,n⟩;simp only[v8,AL];refine Ev.ent (σ':=⟨[(0,.p D8 (d,hf)),(1,.p T3 a),(2,.p T3 b)],[]⟩) ?_ (AC [] rfl rfl ?_ ?_)
 .repeat'(first|exact trivial|apply eS rfl|refine rX e ?_ ?_|refine rC ?_ ?_<;>intro f<;>try(cases f;done))
  .refine⟨ha,i,?_⟩;have h1:Int.toNat a<List.length d:=(ADi ha.1).2 ha.2;exact n _ (AD (d:List FM) Pw h1)
  .have l:Bu (d,hf) a b=(0,false):=by
    unfold Bu;rw[BY (by unfold BN;exact ADy f)]
   exact fI e [.tmp 6,.tmp 7] (by rw[l];exact eR)
  have j:∀c,c=Gc (List.getD d (Int.toNat a) (ByteArray.empty,[],[],[])).2.1 (List.getD d (Int.toNat b) (ByteArray.empty,[],[],[])).2.1->c=Gc (BN (d,hf) a) (BN (d,hf) b):=λc h=>h;have g:Bu (d,hf) a b=if FN (Gc (BN (d,hf) a) (BN (d,hf) b)) 0 d<0 then (0,false) else (FN (Gc (BN (d,hf) a) (BN (d,hf) b)) 0 d,true):=by
   unfold Bu;rw[At (λh=>f (by unfold BN at h;exact ACb Int.ofNat h))]
  generalize o:Gc (List.getD d (Int.toNat a) (ByteArray.empty,[],[],[])).2.1 (List.getD d (Int.toNat b) (ByteArray.empty,[],[],[])).2.1=c at *;rw[<-j c rfl]at g;refine cP 3 e ?_ ?_
  .trivial
  refine rM e (z9 d c k) [(1,.nm 8)] [] ?_ ?_ ?_
  .exact eN
  .exact eN
  rintro _ _ ⟨rfl,rfl⟩;refine⟨[(8,.nm 1)],.p T3 (FN c 0 d),[(8,.box 140 false [.p BX c])],rfl,rfl,?_,?_,rfl,rfl,?_⟩
  .exact eN
  .exact eN
  generalize FN c 0 d=m at *;refine rL e ?_ ?_
  .trivial
  repeat'(first|exact trivial|apply eS rfl|refine rX e ?_ ?_|refine rC ?_ ?_<;>intro f<;>try(cases f;done))
  .rw[BY f]at g;exact fI e [.tmp 6,.tmp 7] (by rw[g];exact eR)
  rw[At (AC2.2 f)]at g;exact fI e [.tmp 6,.tmp 7] (by rw[g];exact eR)
 .exact eN
 exact eN
end
theorem X7 (l:List (List Int)) (i k:Nat):l <+: HE l i k:=by
 unfold HE;split
 .exact ADH _ _
 exact ACe _
theorem X8 (i:Nat):∀(n k:Nat) (l:List (List Int)),l <+: HF i n k l
 | 0,_,l=>ACe l
 | n+1,k,l=>by
  unfold HF;split
  .exact(X7 l i k).trans (X8 i n (k+1) _)
  exact ACe l
theorem RP:∀(n i:Nat) (l:List (List Int)),l <+: Ii n i l
 | 0,_,l=>ACe l
 | n+1,i,l=>by
  unfold Ii;split
  .exact(X8 i i 0 l).trans (RP n (i+1) _)
  exact ACe l
theorem RQ {l m:List (List Int)} (h:l <+: m) {k:Nat} (hk:k<l.length):m.getD k []=l.getD k []:=by
 obtain⟨t,rfl⟩:=h;simp only[AS];rw[TO hk]
def MD (l:List (List Int)) (q p:Nat):Prop:=EW (l.getD q []) (l.getD p [])=[]\/EW (l.getD q []) (l.getD p [])∈l
theorem MD.pre {l m:List (List Int)} (h:l <+: m) {q p:Nat} (c:q<l.length) (b:p<l.length) (a:MD l q p):MD m q p:=by
 unfold MD at a ⊢;rw[RQ h c,RQ h b];rcases a with a|a
 .exact .inl a
 exact .inr (h.subset a)
theorem A6W {l:List (List Int)} {b:List Int} (h:qP l b=true):b∈l:=by
 obtain⟨x,a,e⟩:=R9.1 h;have:x=b:=by simpa[Gu] using e
 rw[<-this];exact a
theorem rZ {l:List (List Int)} {i k:Nat} (hi:i<l.length) (hk:k<l.length):MD (HE l i k) i k:=by
 have b:=X7 l i k;unfold MD;rw[RQ b hi,RQ b hk];unfold HE;split
 .right;simp
 rename_i a;rw[As,NO,SD]at a;by_cases h0:0<((EW (l.getD i []) (l.getD k [])).length:Int)
 .right;cases hh:qP l (EW (l.getD i []) (l.getD k [])) with
  | true=>exact A6W hh
  | false=>exact absurd ⟨h0,hh⟩ a
 left;exact SG O1
theorem X9 {i:Nat}:∀ {n k:Nat} {l:List (List Int)},n+k=i->i<l.length->(HF i n k l).length<=256->(∀p,p<k->MD l i p)->∀p,p<i->MD (HF i n k l) i p
 | 0,k,l,hn,hi,a,h=>λp c=>h p O1
 | n+1,k,l,hn,hi,a,h=>by
  unfold HF at a ⊢;split at a
  .rename_i b;rw[BY b];have c:=X7 l i k;refine X9 O1 (AAv hi c.length_le) a λp d=>?_;by_cases e:p=k
   .subst e;exact rZ hi O1
   exact(h p O1).pre c hi O1
  rename_i b;exact absurd (by omega:l.length<=256) b
theorem YA:∀ {n i:Nat} {l:List (List Int)},257<=n+i->(Ii n i l).length<=256->i<=l.length->(∀q p,p<q->q<i->MD l q p)->∀q p,p<q->q<(Ii n i l).length->MD (Ii n i l) q p
 | 0,i,l,hn,a,g,h=>λq p c f=>by
  have k:l.length<=256:=a;omega
 | n+1,i,l,hn,a,g,h=>by
  unfold Ii at a ⊢;split at a
  .rename_i b;rw[BY b];have d:=X8 i i 0 l;have m:=d.length_le;have j:=(RP n (i+1) (HF i i 0 l)).length_le;refine YA O1 a O1 λq p c f=>?_;by_cases e:q=i
   .subst e;exact X9 O1 b.1 O1 (λp d=>by omega) p c
   exact(h q p c O1).pre d O1 O1
  rename_i b;rw[At b];intro q p c f;exact h q p c (by
   refine IF λhh=>b ⟨by omega,a⟩)
theorem f9 {c:List (List Int)} (a:(A1 c).length<=256):∀q p,p<q->q<(A1 c).length->MD (A1 c) q p :=
 YA O1 a (If _) (λq p _ h=>by omega)
theorem A3T (a b:List Int) (k:Nat):(EW a b).getD k 0=if k<a.length then Cs .and .u64 (a.getD k 0) (b.getD k 0) else 0:=by
 unfold EW;rw[Q9];split
 .rename_i h;exact OM .and a b h
 rename_i h;rw[AS,SA (by rw[E4];omega)];rfl
theorem Hh {b:List Int} {k:Nat} (h:¬k<b.length):b.getD k 0=0:=by
 rw[AS,SA O1];rfl
theorem Lk {a b:List Int} (ha:Ik a) (c:Ik b) (i:Nat):BJ (EW a b) i=(BJ a i&&BJ b i):=by
 unfold BJ;rw[A3T];split
 .rw[Ij (BO ha _) (BO c _),R3,Nat.testBit_and]
 rename_i h;rw[Hh h];simp
theorem OT {a b:List Int} (ha:Ik a) (d:Ik b):Ik (EW a b):=by
 refine Pm λx c=>?_;unfold HC at c;obtain⟨i,-,rfl⟩:=DO.1 c;rw[IP,Ij (BO ha _) (BO d _)];have h1:=BO ha i;have e:(a.getD i 0).toNat &&& (b.getD i 0).toNat<=(a.getD i 0).toNat:=ADA;have f:=h1.1;have g:=h1.2;exact⟨Tw _,by omega⟩
theorem S9 (b:List Int):∀n,Ck b n=0\/b.getD (Ck b n-1) 0≠0
 | 0=>.inl rfl
 | n+1=>by
  unfold Ck;split
  .exact S9 b n
  rename_i h;right;simpa using h
theorem A6X {n:Nat} (h0:n≠0) (h1:n<18446744073709551616):∃r,r<64/\n.testBit r=true:=by
 refine IF λb=>h0 ?_;refine Nat.eq_of_testBit_eq λr=>?_;rw[Nat.zero_testBit];by_cases c:r<64
 .cases a:n.testBit r with
  | false=>rfl
  | true=>exact absurd ⟨r,c,a⟩ b
 have e:(18446744073709551616:Nat)=2 ^ 64:=by decide
 rw[e]at h1;exact Nat.testBit_lt_two_pow (AAv h1 (Nat.pow_le_pow_right dg O1))
theorem lV {b:List Int} (a:Ik b) {k:Nat} (h:b.getD k 0≠0):∃i,BJ b i=true:=by
 have hu:=BO a k;have h1:=hu.1;have d:=hu.2;obtain⟨r,e,c⟩:=A6X (n:=(b.getD k 0).toNat) O1 O1;refine⟨64*k+r,?_⟩;unfold BJ;rw[show (64*k+r) / 64=k by omega,show (64*k+r) % 64=r by omega];exact c
theorem r7 {b:List Int} (a:Ik b) (h:BQ b≠[]):∃i,BJ b i=true:=by
 rcases S9 b b.length with h1|h1
 .exact absurd (by unfold BQ;rw[h1];rfl) h
 exact lV a h1
theorem bK {a b:List Int} (ha:Ik a) (c:Ik b) (h:∀i,BJ a i=true->BJ b i=true) (k:Nat):Cs .andNot .u64 (a.getD k 0) (b.getD k 0)=0:=by
 rw[S0];have:(BitVec.ofInt 64 (a.getD k 0) &&& ~~~BitVec.ofInt 64 (b.getD k 0))=0#64:=by
  apply BitVec.eq_of_getLsbD_eq;intro r e;rw[BitVec.getLsbD_and,BitVec.getLsbD_not,<-ACV,<-ACV,GB (BO ha k),GB (BO c k)];have hk:=h (64*k+r);unfold BJ at hk;rw[show (64*k+r) / 64=k by omega,show (64*k+r) % 64=r by omega]at hk;cases d:(a.getD k 0).toNat.testBit r with
  | false=>simp
  | true=>rw[hk d];simp
 rw[this];rfl
theorem Fz {a b:List Int} (ha:Ik a) (c:Ik b):FH a b=true↔∀i,BJ a i=true->BJ b i=true:=by
 constructor
 .exact λh i hi=>NE ha c h hi
 intro h;unfold FH Su BQ;have h1:Ck (HC .andNot a b a.length) (HC .andNot a b a.length).length=0:=by
  rw[E4];exact S1 λk hk=>by rw[OM _ _ _ hk];exact bK ha c h k
 rw[h1];rfl
structure Jg (l:List (List Int)):Prop where
 wds:∀c∈l,Ik c
 some:∀c∈l,∃i,BJ c i=true
 wid:∀c∈l,c.length<=64
 meet:∀a∈l,∀b∈l,(∃i,BJ a i=true/\BJ b i=true)->∃t∈l,∀i,BJ t i=(BJ a i&&BJ b i)
structure Bs (l:List (List Int)):Prop where
 wds:∀c∈l,Ik c
 some:∀c∈l,∃i,BJ c i=true
theorem TA {l:List (List Int)} {k:Nat} (h:¬k<l.length):l.getD k []=[]:=by
 rw[AS,SA O1];rfl
theorem Bs.get {l:List (List Int)} (h:Bs l) (k:Nat):Ik (l.getD k []):=by
 by_cases hk:k<l.length
 .exact h.wds _ (BI hk)
 rw[TA hk];intro x a;cases a
theorem A6Y {l:List (List Int)} (h:Bs l) (i k:Nat):Bs (HE l i k):=by
 unfold HE;split
 .rename_i b;rw[As,NO]at b;refine⟨λc a=>?_,λc a=>?_⟩
  .rcases ON.1 a with a|a
   .exact h.wds c a
   have:c=EW (l.getD i []) (l.getD k []):=by simpa using a
   rw[this];exact OT (h.get i) (h.get k)
  rcases ON.1 a with a|a
  .exact h.some c a
  have:c=EW (l.getD i []) (l.getD k []):=by simpa using a
  rw[this];have g:EW (l.getD i []) (l.getD k [])≠[]:=by
   intro e;rw[e]at b;exact absurd b.1 sc
  have m:Ik (HC .and (l.getD i []) (l.getD k []) (l.getD i []).length):=by
   intro x d;unfold HC at d;obtain⟨j,-,rfl⟩:=DO.1 d;rw[IP,Ij (BO (h.get i) _) (BO (h.get k) _)];have h1:=BO (h.get i) j;have n:((l.getD i []).getD j 0).toNat &&& ((l.getD k []).getD j 0).toNat<=((l.getD i []).getD j 0).toNat:=ADA;have o:=h1.1;have p:=h1.2;exact⟨Tw _,by omega⟩
  obtain⟨j,f⟩:=r7 m g;exact⟨j,by unfold EW;rw[Pl];exact f⟩
 exact h
theorem wA {i:Nat}:∀ {n k:Nat} {l:List (List Int)},Bs l->Bs (HF i n k l)
 | 0,_,_,h=>h
 | n+1,k,l,h=>by
  unfold HF;split
  .exact wA (A6Y h i k)
  exact h
theorem wB:∀ {n i:Nat} {l:List (List Int)},Bs l->Bs (Ii n i l)
 | 0,_,_,h=>h
 | n+1,i,l,h=>by
  unfold Ii;split
  .exact wB (wA h)
  exact h
theorem A00 {d:List AJ} (f:BC d=0):Bs (AW d):=by
 obtain⟨-,l,-⟩:=A5 f;have h:=EF d d.length;rw[R6]at h;have b:(AO d).length<=4096:=by omega
 refine⟨λc a=>?_,λc a=>?_⟩
 .unfold AW at a;obtain⟨s,-,rfl⟩:=DO.1 a;exact(CF (d:=d) b s 0).2.1
 unfold AW at a;obtain⟨s,hs,rfl⟩:=DO.1 a;obtain⟨j,g,e⟩:=CN ByteArray.empty hs;have i:0<=Ax d s:=by
  obtain⟨x,k,e⟩:=Di hs;rw[<-e];exact Dh k
 exact⟨j,(CF (d:=d) b s j).1.2 ⟨g,by rw[e];exact Pn i⟩⟩
theorem YB {d:List AJ} (m:BC d=0) (u:(A1 (AW d)).length<=256):Jg (A1 (AW d)):=by
 obtain⟨-,r,-⟩:=A5 m;have g:Bs (A1 (AW d)):=wB (A00 m);have o:=f9 u;refine⟨g.wds,g.some,RH (Pr r),λa ha b s hi=>?_⟩;obtain⟨q,f,rfl⟩:=CN [] ha;obtain⟨p,j,rfl⟩:=CN [] s;have key:∀q p,q<(A1 (AW d)).length->p<(A1 (AW d)).length->MD (A1 (AW d)) q p->(∃i,BJ ((A1 (AW d)).getD q []) i=true/\BJ ((A1 (AW d)).getD p []) i=true) ->
   ∃t∈A1 (AW d),∀i,BJ t i=(BJ ((A1 (AW d)).getD q []) i&&BJ ((A1 (AW d)).getD p []) i):=by
  intro q p f j c hi;have n:=Lk (g.get q) (g.get p);rcases c with c|c
  .obtain⟨i,k,l⟩:=hi;have:=n i;rw[c,k,l]at this;unfold BJ at this;simp at this
  exact⟨_,c,n⟩
 rcases ADo p q with h|h|h
 .exact key q p f j (o q p h f) hi
 .subst h;exact⟨_,BI f,λi=>by rw[Bool.and_self]⟩
 obtain⟨t,v,e⟩:=key p q j f (o p q h j) (by obtain⟨i,k,l⟩:=hi;exact⟨i,l,k⟩);exact⟨t,v,λi=>by rw[e i,ADW]⟩
def Ew (h:AG):Prop:=Jg (h.1.map λt=>t.2.1)/\h.1.length<=256
theorem Jh (d:List AJ):Ew (A0 d).1:=by
 unfold A0;split
 .exact⟨⟨λc h=>(by cases h),λc h=>(by cases h),λc h=>(by cases h),λc h=>(by cases h)⟩,by simp⟩
 rename_i g;have g:(BG d).2=0:=IF g;have m:A4 d=0:=by
  unfold BG at g;split at g
  .rename_i h;exact absurd g h
  rename_i h;exact IF h
 obtain⟨p,-,-⟩:=CL m;obtain⟨l,k,-⟩:=Bg p;have hf:=YB l k;have f:∀c,c∈((Bz d).1.map λt=>t.2.1)↔c∈A1 (AW d):=by
  intro c;have e:((Bz d).1.map λt=>t.2.1)=(AM d).map λx=>x.2:=by
   show ((Er _ _ _).map λt=>t.2.1)=_;unfold Er;rw[ABS];apply iF
   .simp
   intro i h1 q;simp[AS,show i<(AM d).length by simpa using h1]
  rw[e];constructor
  .intro h;obtain⟨x,o,rfl⟩:=DO.1 h;obtain⟨b,j,rfl⟩:=Dj.1 o;exact j
  intro h;exact DO.2 ⟨_,Dj.2 ⟨c,h,rfl⟩,rfl⟩
 refine⟨⟨λc h=>hf.wds c ((f c).1 h),λc h=>hf.some c ((f c).1 h),λc h=>hf.wid c ((f c).1 h),λa ha b j hi=>?_⟩,?_⟩
 .obtain⟨t,n,e⟩:=hf.meet a ((f a).1 ha) b ((f b).1 j) hi;exact⟨t,(f t).2 n,e⟩
 show (Er _ _ _).length<=256;rw[Ka,Im];exact k
theorem Bj {h:AG} {t:Int} (a:0<=t) (b:t<(h.1.length:Int)):BN h t∈h.1.map λt=>t.2.1 :=
 DO.2 ⟨_,AD h.1 Pw (k:=t.toNat) O1,rfl⟩
theorem YC {a b:List Int} (ha:Ik a) (c:Ik b):NJ a b=true↔∀i,BJ a i=true->BJ b i=true:=by
 constructor
 .intro h i hi;by_cases hk:i / 64<a.length
  .have h1:=No.1 h (i / 64) (SH.2 hk);rw[Tx,IP]at h1;exact Uk (BO ha _) (BO c _) h1 (AE4 _ dg) hi
  exfalso;unfold BJ at hi;rw[Hh hk]at hi;simp at hi
 intro h;unfold NJ;rw[No];intro k _;rw[Tx,IP];exact bK ha c h k
theorem A3U {a b:List Int} (ha:Ik a) (c:Ik b) (i:Nat):BJ (Gc a b) i=(BJ a i&&BJ b i):=by
 unfold Gc;rw[Pl];unfold BJ;have:(Hg (f7 a b) (min a.length b.length) (min a.length b.length)).getD (i / 64) 0=Cs .and .u64 (a.getD (i / 64) 0) (b.getD (i / 64) 0):=by
  by_cases h:i / 64<min a.length b.length
  .unfold Hg;rw[AS,SR,ABr h];show (if i / 64<min a.length b.length then f7 a b (i / 64) else 0)=_;rw[BY h];rfl
  rw[Hh (by rw[bJ];exact h),Ij (BO ha _) (BO c _)];by_cases h1:i / 64<a.length
  .rw[Hh (b:=b) O1];simp
  rw[Hh (b:=a) h1];simp
 rw[this,Ij (BO ha _) (BO c _),R3,Nat.testBit_and]
theorem A3V {a b:List Int} (ha:Ik a) (d:Ik b):Ik (Gc a b):=by
 refine Pm λx c=>?_;unfold Hg at c;obtain⟨j,-,rfl⟩:=DO.1 c;split
 .unfold f7;rw[Ij (BO ha _) (BO d _)];have h1:=BO ha j;have e:(a.getD j 0).toNat &&& (b.getD j 0).toNat<=(a.getD j 0).toNat:=ADA;have f:=h1.1;have g:=h1.2;exact⟨Tw _,by omega⟩
 exact⟨by decide,by decide⟩
theorem YD (c:List Int):∀(l:List FM) (k:Nat),(FN c k l=-1/\∀t∈l,EJ t.2.1 c=false)\/((k:Int)<=FN c k l/\FN c k l<(k:Int)+l.length/\EJ (l.getD ((FN c k l).toNat-k) Pw).2.1 c=true)
 | [],k=>.inl ⟨rfl,λt a=>by cases a⟩
 | x :: l,k=>by
  simp only[FN];split
  .rename_i h;right;refine⟨by omega,by simp only[Is];omega,?_⟩;rw[show ((k:Int).toNat-k)=0 by omega];exact h
  rename_i h;have h:EJ x.2.1 c=false:=by simpa using h
  rcases YD c l (k+1) with ⟨h1,b⟩|⟨h1,b,d⟩
  .left;refine⟨h1,λt a=>?_⟩;rcases Do.1 a with rfl|a
   .exact h
   exact b t a
  right;refine⟨by omega,by simp only[Is];omega,?_⟩;rw[show ((FN c (k+1) l).toNat-k)=((FN c (k+1) l).toNat-(k+1))+1 by omega];exact d
def lW (h:AG) (t:Int) (i:Nat):Bool:=BJ (BN h t) i
theorem BV {h:AG} (hk:Ew h) {a b:Int} (c:0<=a) (d:a<(h.1.length:Int)) (e:0<=b) (b1:b<(h.1.length:Int)):Aj h a b=true↔∀i,lW h b i=true->lW h a i=true :=
 YC (hk.1.wds _ (Bj e b1)) (hk.1.wds _ (Bj c d))
theorem A3W {h:AG} (hk:Ew h) {a b:Int} (g:0<=a) (j:a<(h.1.length:Int)) (l:0<=b) (b1:b<(h.1.length:Int)) :
  ((Bu h a b).2=true->0<=(Bu h a b).1/\(Bu h a b).1<(h.1.length:Int)/\∀i,lW h (Bu h a b).1 i=(lW h a i&&lW h b i))/\((∃i,lW h a i=true/\lW h b i=true)->(Bu h a b).2=true):=by
 have s:=hk.1.wds _ (Bj g j);have u:=hk.1.wds _ (Bj l b1);have c:=A3U s u;have o:=A3V s u;have heq:∀t∈h.1,EJ t.2.1 (Gc (BN h a) (BN h b))=true↔∀i,BJ t.2.1 i=BJ (Gc (BN h a) (BN h b)) i:=by
  intro t d;have wt:=hk.1.wds t.2.1 (DO.2 ⟨t,d,rfl⟩);unfold EJ;rw[As,YC wt o,YC o wt];constructor
  .rintro⟨v,w⟩ i;rw[ACB];exact⟨v i,w i⟩
  intro e;exact⟨λi hi=>by rw[<-e i];exact hi,λi hi=>by rw[e i];exact hi⟩
 unfold Bu;by_cases f:(Gc (BN h a) (BN h b)).length=0
 .rw[BY f];refine⟨λe=>(by cases e),?_⟩;rintro⟨i,q,r⟩;exfalso;have:=c i;rw[SG f]at this;unfold lW at q r;rw[q,r]at this;unfold BJ at this;simp at this
 rw[At f];rcases YD (Gc (BN h a) (BN h b)) h.1 0 with ⟨h1,m⟩|⟨h1,m,n⟩
 .rw[BY O1];refine⟨λe=>(by cases e),λhi=>?_⟩;exfalso;obtain⟨t,d,e⟩:=hk.1.meet _ (Bj g j) _ (Bj l b1) hi;obtain⟨x,p,rfl⟩:=DO.1 d;have:=(heq x p).2 (λi=>by rw[c i];exact e i);rw[m x p]at this;cases this
 have h1:0<=FN (Gc (BN h a) (BN h b)) 0 h.1:=by omega
 rw[At O1];refine⟨λ_=>⟨h1,by simp only;omega,λi=>?_⟩,λ_=>rfl⟩;rw[Nat.sub_zero]at n;have y:=AD h.1 Pw (k:=(FN (Gc (BN h a) (BN h b)) 0 h.1).toNat) O1;have:=(heq _ y).1 n i;rw[c i]at this;exact this
theorem NK {h:AG} (hk:Ew h) {a b:Int} (l:0<=a) (m:a<(h.1.length:Int)) (n:0<=b) (b1:b<(h.1.length:Int)) :
  ((Bu h a b).2=true->0<=(Bu h a b).1/\(Bu h a b).1<(h.1.length:Int)/\Aj h a (Bu h a b).1=true/\Aj h b (Bu h a b).1=true) /\
  ∀x,0<=x->x<(h.1.length:Int)->Aj h a x=true->Aj h b x=true->(Bu h a b).2=true/\Aj h (Bu h a b).1 x=true:=by
 obtain⟨r,u⟩:=A3W hk l m n b1;refine⟨λe=>?_,λx g k s t=>?_⟩
 .obtain⟨c,d,f⟩:=r e;refine⟨c,d,(BV hk l m c d).2 λi hi=>?_,(BV hk n b1 c d).2 λi hi=>?_⟩
  .rw[f i,As]at hi;exact hi.1
  rw[f i,As]at hi;exact hi.2
 have o:=(BV hk l m g k).1 s;have p:=(BV hk n b1 g k).1 t;obtain⟨i,hi⟩:=hk.1.some _ (Bj g k);have e:=u ⟨i,o i hi,p i hi⟩;obtain⟨c,d,f⟩:=r e;refine⟨e,(BV hk c d g k).2 λj q=>?_⟩;rw[f j,As];exact⟨o j q,p j q⟩
def Nrm (c:List Int):Prop:=c.length=0\/c.getD (c.length-1) 0≠0
theorem Ll (b:List Int):Nrm (BQ b):=by
 unfold Nrm BQ;have a:=Xb b b.length;rw[OF,ACd a];rcases S9 b b.length with h|h
 .exact .inl h
 by_cases h0:Ck b b.length=0
 .exact .inl h0
 right;rw[AS,List.getElem?_take_of_lt O1,<-AS];exact h
theorem A6Z {a b:List Int} (ha:Ik a) (g:Ik b) (h:∀i,BJ a i=BJ b i) (k:Nat):a.getD k 0=b.getD k 0:=by
 have d:=BO ha k;have f:=BO g k;have l:=d.1;have m:=d.2;have o:=f.1;have p:=f.2;have e:(a.getD k 0).toNat=(b.getD k 0).toNat:=by
  refine Nat.eq_of_testBit_eq λr=>?_;by_cases j:r<64
  .have:=h (64*k+r);unfold BJ at this;rw[show (64*k+r) / 64=k by omega,show (64*k+r) % 64=r by omega]at this;exact this
  have c:∀n:Nat,n<18446744073709551616->n.testBit r=false:=λn hn=>by
   have e:(18446744073709551616:Nat)=2 ^ 64:=by decide
   rw[e]at hn;exact Nat.testBit_lt_two_pow (AAv hn (Nat.pow_le_pow_right dg O1))
  rw[c _ O1,c _ O1]
 omega
theorem wC {a b:List Int} (d:∀k,a.getD k 0=b.getD k 0) (c:Nrm b):b.length<=a.length:=by
 rcases c with h|h
 .omega
 refine IF λe=>h ?_;rw[<-d];exact Hh O1
theorem gB {a b:List Int} (ha:Ik a) (e:Ik b) (g:Nrm a) (j:Nrm b) (h:∀i,BJ a i=BJ b i):a=b:=by
 have c:=A6Z ha e h;have f:a.length=b.length:=ACA (wC (λk=>(c k).symm) g) (wC c j);refine iF f λi h1 d=>?_;have:=c i;simpa[AS,h1,d] using this
theorem lX {α:Type} (l:List α) (x:α) (n:Nat):List.Perm (l.take n++[x]++l.drop n) (x :: l):=by
 have h:l.take n++[x]++l.drop n=l.take n++x :: l.drop n:=by simp
 rw[h];refine ADY.trans ?_;rw[ACN]
def wD (l:List ByteArray):Prop:=l.Pairwise λa b=>Ab a b=false
theorem NL {a b:ByteArray} (h:Ab a b=false):Ab b a=false:=by
 cases hh:Ab b a with
 | false=>rfl
 | true=>rw[EH hh]at h;cases h
theorem YE {l:List ByteArray} {s:ByteArray} (h:wD l) (hs:∀x∈l,Ab x s=false):wD (Eh l s):=by
 unfold Eh;split
 .exact h
 refine(List.Perm.pairwise_iff (λb=>NL b) (lX l s _)).2 ?_;exact aS.2 ⟨λx a=>NL (hs x a),h⟩
theorem YF {d:List AJ} (hn:Cn d=0):wD (AO d):=by
 have key:∀k,k<=d.length->wD (AO (d.take k))/\∀s∈AO (d.take k),∃i,i<k/\(d.getD i d0).1=s:=by
  intro k;induction k with
  | zero =>
   intro _;exact⟨.nil,λs hs=>by cases hs⟩
  | succ k c =>
   intro hk;obtain⟨h1,a⟩:=c O1;have e:AO (d.take (k+1))=Eh (AO (d.take k)) (d.getD k d0).1:=by
    have:d.take (k+1)=d.take k++[d.getD k d0]:=AY d d0 O1;rw[this];unfold AO;rw[ACG];rfl
   rw[e];refine⟨YE h1 λx b=>?_,λs hs=>?_⟩
   .obtain⟨i,hi,rfl⟩:=a x b;cases hh:Ab (d.getD i d0).1 (d.getD k d0).1 with
    | false=>rfl
    | true =>
     have g:=Jc d hh;rw[NF hn (j:=i) O1,NF hn (j:=k) O1]at g;omega
   rcases Hc hs with hs|hs
   .obtain⟨i,hi,e⟩:=a s hs;exact⟨i,by omega,e⟩
   exact⟨k,by omega,hs.symm⟩
 have:=(key d.length (OR _)).1
 rwa [R6]at this
structure Nd (l:List (List Int)):Prop where
 nd:l.Nodup
 nrm:∀c∈l,Nrm c
theorem A70 {l:List (List Int)} {c:List Int} (h:Nd l) (b:c∉l) (hn:Nrm c):Nd (l++[c]):=by
 refine⟨?_,λx a=>?_⟩
 .rw[ABU];refine⟨h.nd,by simp,λx a y d e=>b ?_⟩;have:y=c:=by simpa using d
  rw[<-this,<-e];exact a
 rcases ON.1 a with a|a
 .exact h.nrm x a
 have:x=c:=by simpa using a
 rw[this];exact hn
theorem A71 {l:List (List Int)} (h:Nd l) (i k:Nat):Nd (HE l i k):=by
 unfold HE;split
 .rename_i a;rw[As,SD]at a;refine A70 h (λb=>?_) (Ll _);have:qP l (EW (l.getD i []) (l.getD k []))=true:=R9.2 ⟨_,b,by unfold Gu;exact ABV rfl⟩;rw[this]at a;cases a.2
 exact h
theorem wF {i:Nat}:∀ {n k:Nat} {l:List (List Int)},Nd l->Nd (HF i n k l)
 | 0,_,_,h=>h
 | n+1,k,l,h=>by
  unfold HF;split
  .exact wF (A71 h i k)
  exact h
theorem WC:∀ {n i:Nat} {l:List (List Int)},Nd l->Nd (Ii n i l)
 | 0,_,_,h=>h
 | n+1,i,l,h=>by
  unfold Ii;split
  .exact WC (wF h)
  exact h
theorem TB {d:List AJ} (m:BC d=0):Nd (AW d):=by
 obtain⟨-,l,-,hn,p⟩:=A5 m;have q:=EF d d.length;rw[R6]at q;have hap:=YF hn;refine⟨?_,λc n=>?_⟩
 .unfold AW List.Nodup;rw[oN,SI];intro i j hi a o e;have h1:=(SI.1 hap) i j hi a o;have g:∀k,(hk:k<(AO d).length)->(AO d).getD k ByteArray.empty=(AO d)[k]:=λk hk=>by simp[AS,hk]
  have f:=(CF (d:=d) (all:=AO d) O1 (AO d)[j] 0).2.1;have b:=k6 hn p l hi a (by
   rw[g i hi,g j a,e];unfold DY;have:=(Fz f f).2 λ_ h=>h;rw[this];rfl)
  rw[g i hi,g j a,h1]at b;cases b
 obtain⟨s,hs,rfl⟩:=DO.1 n;unfold E5 ofF;split
 .exact Ll _
 exact .inl rfl
theorem NM {d:List AJ}:∀ {l:List (List Int)} {o:List AR},(o.map (·.2)++l).Nodup->((l.foldl (S2 d) o).map (·.2)).Nodup
 | [],o,h=>by simpa using h
 | b :: l,o,h=>by
  rw[On];refine NM ?_;unfold S2 HG fU;have c:=(lX o (Hd d (AO d) (AW d) b,b) (GD (Hd d (AO d) (AW d) b,b) o o.length)).map (λx:AR=>x.2);have e:List.Perm ((o.take (GD (Hd d (AO d) (AW d) b,b) o o.length)++[(Hd d (AO d) (AW d) b,b)]++o.drop (GD (Hd d (AO d) (AW d) b,b) o o.length)).map (λx:AR=>x.2)++l) (o.map (·.2)++b :: l) :=
   (c.append_right l).trans (ADY (a:=b)).symm
  exact e.nodup_iff.2 h
def KB (h:AG):Prop:=∀a b,0<=a->a<(h.1.length:Int)->0<=b->b<(h.1.length:Int)->Aj h a b=true->Aj h b a=true->a=b
theorem A9w {h:AG} (hk:Ew h) (hn:Nd (h.1.map λt=>t.2.1)):KB h:=by
 intro a b c d f b1 h1 l;have n:=hk.1.wds _ (Bj c d);have o:=hk.1.wds _ (Bj f b1);have e:BN h a=BN h b:=gB n o (hn.nrm _ (Bj c d)) (hn.nrm _ (Bj f b1)) λi=>by
  rw[ACB];exact⟨(BV hk f b1 c d).1 l i,(BV hk c d f b1).1 h1 i⟩
 have j:=SI.1 hn.nd;have g:∀k:Int,0<=k->(hk:k<(h.1.length:Int))->BN h k=(h.1.map λt=>t.2.1)[k.toNat]'(by rw[Of];omega):=λk p q=>by
  unfold BN;simp[AS,show k.toNat<h.1.length by omega]
 rw[g a c d,g b f b1]at e;rcases Int.lt_trichotomy a b with m|heq|m
 .exact absurd e (j a.toNat b.toNat (by rw[Of];omega) (by rw[Of];omega) O1)
 .exact heq
 exact absurd e.symm (j b.toNat a.toNat (by rw[Of];omega) (by rw[Of];omega) O1)
theorem lY (d:List AJ):KB (A0 d).1:=by
 refine A9w (Jh d) ?_;unfold A0;split
 .exact⟨.nil,λc h=>(by cases h)⟩
 rename_i a;have a:(BG d).2=0:=IF a;have g:A4 d=0:=by
  unfold BG at a;split at a
  .rename_i h;exact absurd a h
  rename_i h;exact IF h
 obtain⟨m,-,-⟩:=CL g;obtain⟨f,o,-⟩:=Bg m;have hf:Nd (A1 (AW d)):=WC (TB f);have e:((Bz d).1.map λt=>t.2.1)=(AM d).map λx=>x.2:=by
  show ((Er _ _ _).map λt=>t.2.1)=_;unfold Er;rw[ABS];apply iF
  .simp
  intro i h1 n;simp[AS,show i<(AM d).length by simpa using h1]
 show Nd ((Bz d).1.map λt=>t.2.1);rw[e];refine⟨NM (by simpa using hf.nd),λc k=>?_⟩;obtain⟨x,l,rfl⟩:=DO.1 k;obtain⟨b,j,rfl⟩:=Dj.1 l;exact hf.nrm b j
section
attribute [local go_sem] v8
def EY (f:Int):List (Int×Int)->Int×Bool
 | []=>(0,false)
 | x :: l=>if x.1=f then (x.2,true) else EY f l
theorem YG (f:Int) (l:List (Int×Int)) {k:Nat} (h:k<l.length):EY f (l.drop k)=if (l.getD k (0,0)).1=f then ((l.getD k (0,0)).2,true) else EY f (l.drop (k+1)):=by
 rw[IS h];have e:l.getD k (0,0)=l[k]:=by simp[AS,h]
 rw[e];rfl
def gC (h:AG) (t:Int):List (Int×Int):=(h.1.getD t.toNat Pw).2.2.2
def BW (h:AG) (t f:Int):Int×Bool:=EY f (gC h t)
def O7:AZ:={ ins:=[D8,T3,T3],pre:=λ(h,t,_,_)=>(0:Int)<=t/\t<(List.length (h:AG).1:Int),out:=λ(h,t,f,_)=>[.p T3 (BW h t f).1,.p .bool (BW h t f).2],lend:=true }
attribute [local go_sem] O7
theorem wG:Aa Tryz.prog 83 O7:=by
 refine fK [0,1,2,3,6,7,9,15,16,17,18,26] Tryz.func83 Tryz.ntmps83 AH ?_;rintro w0 O0 ⟨⟨d,hf⟩,t,f,u⟩ a q ⟨j,m⟩;simp only[O7,AL];refine Ev.ent (σ':=⟨[(0,.p D8 (d,hf)),(1,.p T3 t),(2,.p T3 f)],[]⟩) ?_ (AC [] rfl rfl ?_ ?_)
 .repeat'(first|exact trivial|apply eS rfl|refine rX a ?_ ?_)
  .exact⟨j,m⟩
  have o:∀l,l=(List.getD d (Int.toNat t) (ByteArray.empty,[],[],[])).2.2.2->BW (d,hf) t f=EY f l:=λl e=>by rw[e];rfl
  have r:List.length (List.getD d (Int.toNat t) (ByteArray.empty,[],[],[])).2.2.2<=140737488355328:=(q.1.1.2 _ (AD (d:List FM) Pw ((ADi j).2 m))).2.2.2.1;generalize (List.getD d (Int.toNat t) (ByteArray.empty,[],[],[])).2.2.2=l at *;rw[o l rfl];refine AI (ι:={k:Nat//k<=List.length l/\EY f l=EY f (l.drop k)}) (λk=>⟨[(2,.p T3 f),(15,.p Ze l),(16,.p (.int .i64) (List.length l:Int)),(17,.p (.int .i64) (k.1:Int))],[]⟩) (λk=>List.length l-k.1) ⟨0,If _,rfl⟩ (eW []) (λk=>?_)
  obtain⟨k,hk,b⟩:=k;have i:=λh:k<List.length l=>YG f l h;simp only;repeat'(first|exact trivial|apply eS rfl|refine rX a ?_ ?_|refine rC ?_ ?_<;>intro c<;>try(cases c;done))
  .exact c
  .refine cP 5 a ?_ ?_
   .trivial
   refine AC8 a ?_;refine rL a ?_ ?_
   .trivial
   repeat'(first|exact trivial|apply eS rfl|apply AB|refine rX a ?_ ?_|refine rC ?_ ?_<;>intro c<;>try(cases c;done))
   .have g:k<List.length l:=by exact eV
    rw[i g,BY c]at b;exact fI a [.tmp 6,.tmp 7] (by rw[b];exact eR)
   .omega
   have g:k<List.length l:=by exact eV
   rw[i g,At c]at b;exact⟨⟨k+1,g,b⟩,by simp only;omega,eW []⟩
  have n:List.drop k (l:List (Int×Int))=[]:=By (by exact eV);rw[n]at b;have b:EY f l=(0,false):=b;exact fI a [.tmp 6,.tmp 7] (by rw[b];exact eR)
 .exact eN
 exact eN
abbrev Ei:=List Int×List Int
def DS (h:AG) (s:Ei) (n t:Int):Option Ei :=
 if (Bu h (s.1.getD n.toNat 0) t).2=true then some (if (Bu h (s.1.getD n.toNat 0) t).1=s.1.getD n.toNat 0 then s else (s.1.set n.toNat (Bu h (s.1.getD n.toNat 0) t).1,s.2++[n])) else none
def EK (h:AG) (s:Ei):List (Nat×Obj):=[(1,.box 205 true [.p D8 h,.sr 2 T3 0 s.1.length,.p Ee s.2]),(2,.arr 3 T3 s.1)]
theorem lZ (h:AG) (hk:Ew h) (s:Ei) {n t:Int} (n0:0<=n) (n1:n<(s.1.length:Int)) (f:0<=s.1.getD n.toNat 0) (KT:s.1.getD n.toNat 0<(h.1.length:Int)) (k:0<=t) (l:t<(h.1.length:Int)) (i:s.2.length<=1000000000) :
  Bb Tryz.prog 211 [.bp 1 [] 0,.p T3 n,.p T3 t] (EK h s) [1]
  (λres d=>(DS h s n t=none/\res=.p .bool false/\d=EK h s)\/∃e,DS h s n t=some e/\res=.p .bool true/\d=EK h e):=by
 obtain⟨ty,w⟩:=s;simp only at n1 f KT i;have hh:h.1.length<=100000:=R5 hk.2 O1;have g:∀x∈h.1,x.2.1.length<=100000:=λx j=>R5 (hk.1.wid x.2.1 (DO.2 ⟨x,j,rfl⟩)) O1;refine OJ [0,1,2,6,7,8,26,35] [] [] Tryz.func211 Tryz.ntmps211 (AF v9 AH) ?_;intro w0 K O0 ρ0 c o q;simp only[EK,A6];repeat'(first|exact trivial|apply eS rfl|refine rX c ?_ ?_|refine rC ?_ ?_<;>intro b<;>try(cases b;done))
 .exact⟨⟨n0,n1⟩,⟨f,KT⟩,⟨k,l⟩,hh,g⟩
 .have a:DS h (ty,w) n t=none:=by unfold DS;rw[At (by simp only;rw[b];simp)]
  refine Ev.ent (σ':=⟨[(6,.p .bool false)],EK h (ty,w)⟩) ?_ (AC [(1,.nm 1),(2,.nm 2)] rfl rfl ?_ ?_)
  .exact fM c [.tmp 6] (.p .bool false) eT (.inl ⟨a,rfl,rfl⟩)
  .unfold EK;exact eN
  exact eN
 .exact⟨n0,n1⟩
 .exact⟨n0,n1⟩
 .simp only[AN];omega
 .have a:DS h (ty,w) n t=some (ty.set n.toNat (Bu h (ty.getD n.toNat 0) t).1,w++[n]):=by unfold DS;rw[BY (by assumption),At b]
  generalize (Bu h (ty.getD n.toNat 0) t).1=m at *;have r:(w++[n]).take (w.length+1)=w++[n]:=An sc;refine E2 [61] ?_;refine Ev.ent (σ':=⟨[(6,.p .bool true)],EK h (ty.set n.toNat m,w++[n])⟩) ?_ (AC [(1,.nm 1),(2,.nm 2)] rfl rfl ?_ ?_)
  .exact fM c [.tmp 6] (.p .bool true) eT (.inr ⟨_,a,rfl,rfl⟩)
  .unfold EK;simp only[Tq];exact eN
  exact eN
 have a:DS h (ty,w) n t=some (ty,w):=by unfold DS;rw[BY (by assumption),BY (by simpa using b)]
 refine Ev.ent (σ':=⟨[(6,.p .bool true)],EK h (ty,w)⟩) ?_ (AC [(1,.nm 1),(2,.nm 2)] rfl rfl ?_ ?_)
 .exact fM c [.tmp 6] (.p .bool true) eT (.inr ⟨_,a,rfl,rfl⟩)
 .unfold EK;exact eN
 exact eN
end
section
variable {α:Type}
structure SO (o:α->α->Int):Prop where
 anti:∀a b,o b a=- o a b
 trans:∀ {a b c},o a b<0->o b c<0->o a c<0
variable {o:α->α->Int} {d:α}
def l7 (d:α) (l:List α) (i j:Nat):List α:=(l.set i (l.getD j d)).set j (l.getD i d)
theorem l8 {l:List α} {i j:Nat} (hi:i<l.length) (c:j<l.length) (k:Nat):(l7 d l i j).getD k d=if k=j then l.getD i d else if k=i then l.getD j d else l.getD k d:=by
 unfold l7;simp only[AS,oR,Tq];by_cases a:j=k
 .rw[BY a,BY O1,BY a.symm];rfl
 rw[At a,At (show ¬k=j by omega)];by_cases b:i=k
 .rw[BY b,BY O1,BY b.symm];rfl
 rw[At b,At (show ¬k=i by omega)]
theorem A01 {l:List α} {i j:Nat} (hi:i<l.length) (a:j<l.length):(l7 d l i j).Perm l:=by
 have b:l.getD i d=l[i]:=by rw[AS,AT hi];rfl
 have c:l.getD j d=l[j]:=by rw[AS,AT a];rfl
 unfold l7;rw[b,c];exact List.set_set_perm hi a
structure bL (d:α) (a b:Nat) (l r:List α):Prop where
 perm:r.Perm l
 out:∀k,k<a\/b<=k->r.getD k d=l.getD k d
 inn:∀i,a<=i->i<b->∃j,a<=j/\j<b/\r.getD i d=l.getD j d
theorem bL.len {a b:Nat} {l r:List α} (h:bL d a b l r):r.length=l.length:=h.perm.length_eq
theorem bL.refl (a b:Nat) (l:List α):bL d a b l l:=⟨List.Perm.refl _,λ_ _=>rfl,λi h1 c=>⟨i,h1,c,rfl⟩⟩
theorem bL.trans {a b:Nat} {l r s:List α} (h:bL d a b l r) (c:bL d a b r s):bL d a b l s:=⟨c.perm.trans h.perm,λk hk=>(c.out k hk).trans (h.out k hk),λi h1 g=>by
 obtain⟨j,m,n,e⟩:=c.inn i h1 g;obtain⟨k,o,p,f⟩:=h.inn j m n;exact⟨k,o,p,e.trans f⟩⟩
theorem bL.mono {a b c f:Nat} {l r:List α} (h:bL d a b l r) (ha:c<=a) (m:b<=f):bL d c f l r:=⟨h.perm,λk hk=>h.out k O1,λi h1 g=>by
 by_cases hi:a<=i/\i<b
 .obtain⟨j,n,o,e⟩:=h.inn i hi.1 hi.2;exact⟨j,by omega,by omega,e⟩
 exact⟨i,h1,g,h.out i O1⟩⟩
theorem bL.swap {a b:Nat} (l:List α) {i j:Nat} (g:a<=i) (h:i<b) (m:a<=j) (n:j<b) (q:b<=l.length):bL d a b l (l7 d l i j):=by
 have f:=l8 (d:=d) (l:=l) (i:=i) (j:=j) O1 O1;refine⟨A01 O1 O1,λk hk=>?_,λk o p=>?_⟩
 .rw[f k,At O1,At O1]
 rw[f k];by_cases c:k=j
 .rw[BY c];exact⟨i,g,h,rfl⟩
 rw[At c];by_cases e:k=i
 .rw[BY e];exact⟨j,m,n,rfl⟩
 rw[At e];exact⟨k,o,p,rfl⟩
def Dst (o:α->α->Int) (d:α) (l:List α):Prop:=∀i j,i<l.length->j<l.length->i≠j->o (l.getD i d) (l.getD j d)≠0
theorem wH (g:SO o) (l:List α):Dst o d l↔l.Pairwise λa b=>o a b≠0:=by
 have e:∀i (h:i<l.length),l.getD i d=l[i]:=λi h=>by rw[AS,AT h];rfl
 rw[SI];constructor
 .intro h i j hi c f;have:=h i j hi c O1
  rwa [e i hi,e j c]at this
 intro h i j hi c f;rw[e i hi,e j c];rcases Nat.lt_or_gt_of_ne f with h1|h1
 .exact h i j hi c h1
 have k:=h j i c hi h1;rw[g.anti];omega
theorem Dst.perm (c:SO o) {l r:List α} (h:Dst o d l) (e:r.Perm l):Dst o d r:=by
 rw[wH c]at h ⊢;refine(e.symm.pairwise_iff ?_).1 h;intro a b f;rw[c.anti];omega
theorem Dst.lt (c:SO o) {l:List α} (h:Dst o d l) {i j:Nat} (hi:i<l.length) (b:j<l.length) (a:i≠j) (hn:¬o (l.getD i d) (l.getD j d)<0):o (l.getD j d) (l.getD i d)<0:=by
 have h1:=h i j hi b a;rw[c.anti];omega
def wI (o:α->α->Int) (d:α) (a b:Nat) (l:List α):Prop:=∀i j,a<=i->i<j->j<b->o (l.getD i d) (l.getD j d)<0
theorem A72 (a:Nat) (l:List α):wI o d a (a+1) l:=λi j h1 b c=>by omega
theorem bM {a b:Nat} {l r:List α} (h:wI o d a b l) (e:∀k,a<=k->k<b->r.getD k d=l.getD k d):wI o d a b r:=λi j h1 f c=>by
 rw[e i h1 O1,e j O1 c];exact h i j h1 f c
def A3X (o:α->α->Int) (d:α) (a i j:Nat) (m:List α):Prop:=(∀x y,a<=x->x<y->y<=i->x≠j->y≠j->o (m.getD x d) (m.getD y d)<0)/\∀y,j<y->y<=i->o (m.getD j d) (m.getD y d)<0
theorem r8 {a i:Nat} {m:List α} (h:wI o d a i m):A3X o d a i i m:=⟨λx y h0 h1 b c e=>h x y h0 h1 O1,λy h1 b=>by omega⟩
theorem A3Y (g:SO o) {a i j:Nat} {m:List α} (h:A3X o d a i j m) (l:a<=j) (n:j<=i) (b:j=a\/o (m.getD (j-1) d) (m.getD j d)<0):wI o d a (i+1) m:=by
 intro x y h0 h1 k;by_cases c:x=j
 .subst c;exact h.2 y h1 O1
 by_cases e:y=j
 .subst e;rcases b with b|b
  .omega
  by_cases f:x=y-1
  .subst f;exact b
  exact g.trans (h.1 x (y-1) h0 O1 O1 c O1) b
 exact h.1 x y h0 h1 O1 c e
theorem A02 {a i j:Nat} {m:List α} (h:A3X o d a i j m) (h0:a<j) (q:j<=i) (hi:i<m.length) (p:o (m.getD j d) (m.getD (j-1) d)<0):A3X o d a i (j-1) (l7 d m j (j-1)):=by
 have f:=l8 (d:=d) (l:=m) (i:=j) (j:=j-1) O1 O1;refine⟨λx y g h1 e k n=>?_,λy h1 e=>?_⟩
 .rw[f x,f y,At k,At n];by_cases c:x=j
  .subst c;rw[BY rfl,At O1];exact h.1 (x-1) y O1 O1 e O1 O1
  rw[At c];by_cases b:y=j
  .rw[BY b];exact h.1 x (j-1) g O1 O1 c O1
  rw[At b];exact h.1 x y g h1 e c b
 rw[f (j-1),f y,BY rfl,At O1];by_cases b:y=j
 .rw[BY b];exact p
 rw[At b];exact h.2 y O1 e
structure PtE (o:α->α->Int) (d:α) (a b p:Nat) (m:List α):Prop where
 l:a<=p
 r:p<b
 lo:∀x,a<=x->x<p->o (m.getD x d) (m.getD p d)<0
 hi:∀x,p<x->x<b->o (m.getD p d) (m.getD x d)<0
structure Cut (o:α->α->Int) (d:α) (a0 b0 a b:Nat) (m:List α):Prop where
 s1:wI o d a0 a m
 s2:wI o d b b0 m
 c1:∀x y,a0<=x->x<a->a<=y->y<b0->o (m.getD x d) (m.getD y d)<0
 c2:∀x y,a0<=x->x<b->b<=y->y<b0->o (m.getD x d) (m.getD y d)<0
 ab:a0<=a/\a<=b/\b<=b0
theorem Cut.pin {n p a b:Nat} {m r:List α} (h:Cut o d n p a b m) (g:bL d a b m r):Cut o d n p a b r:=by
 obtain⟨A,C,B⟩:=h.ab;have key:∀(P:α->Prop) (lo hi:Nat),lo<=a->b<=hi->(∀y,lo<=y->y<hi->P (m.getD y d))->∀y,lo<=y->y<hi->P (r.getD y d):=λP lo hi h1 q s y c f=>by
  obtain⟨j,t,u,e⟩:=(g.mono h1 q).inn y c f;rw[e];exact s j t u
 refine⟨bM h.s1 λk v w=>g.out k O1,bM h.s2 λk v w=>g.out k O1,λx y i l c f=>?_,λx y i l c f=>?_,h.ab⟩
 .rw[g.out x O1];exact key (λz=>o (m.getD x d) z<0) a p (OR _) B (λy c f=>h.c1 x y i l c f) y c f
 rw[g.out y O1];exact key (λz=>o z (m.getD y d)<0) n b A (OR _) (λx i l=>h.c2 x y i l c f) x i l
theorem Cut.done {g k a b:Nat} {m:List α} (h:Cut o d g k a b m) (hs:wI o d a b m):wI o d g k m:=by
 obtain⟨n,p,q⟩:=h.ab;intro i j h1 c e;by_cases hi:i<a
 .by_cases f:j<a
  .exact h.s1 i j h1 c f
  exact h.c1 i j h1 hi O1 e
 by_cases f:j<b
 .exact hs i j O1 c f
 by_cases l:i<b
 .exact h.c2 i j h1 l O1 e
 exact h.s2 i j O1 c e
theorem Cut.left (v:SO o) {f g a b p:Nat} {m:List α} (h:Cut o d f g a b m) (c:PtE o d a b p m) (hs:wI o d a p m):Cut o d f g (p+1) b m:=by
 obtain⟨B,C,D⟩:=h.ab;have z:=c.l;have A:=c.r;refine⟨λi j h1 k w=>?_,h.s2,λx y q E F s=>?_,h.c2,by omega⟩
 .by_cases hi:i<a
  .by_cases e:j<a
   .exact h.s1 i j h1 k e
   exact h.c1 i j h1 hi O1 O1
  by_cases e:j=p
  .rw[e];exact c.lo i O1 O1
  exact hs i j O1 k O1
 by_cases t:x<a
 .exact h.c1 x y q t O1 s
 by_cases n:y<b
 .by_cases u:x=p
  .rw[u];exact c.hi y O1 n
  exact v.trans (c.lo x O1 O1) (c.hi y O1 n)
 exact h.c2 x y q O1 O1 s
theorem Cut.right (A:SO o) {k n a b p:Nat} {m:List α} (h:Cut o d k n a b m) (c:PtE o d a b p m) (hs:wI o d (p+1) b m):Cut o d k n a p m:=by
 obtain⟨D,E,F⟩:=h.ab;have B:=c.l;have C:=c.r;refine⟨h.s1,λi j h1 q s=>?_,λx y e f u g=>h.c1 x y e f u g,λx y e f u g=>?_,by omega⟩
 .by_cases t:j<b
  .by_cases hi:i=p
   .rw[hi];exact c.hi j O1 t
   exact hs i j O1 q t
  by_cases v:i<b
  .exact h.c2 i j O1 v O1 s
  exact h.s2 i j O1 q s
 by_cases z:y<b
 .by_cases w:x<a
  .exact h.c1 x y e w O1 g
  by_cases hyp:y=p
  .rw[hyp];exact c.lo x O1 f
  exact A.trans (c.lo x O1 f) (c.hi y O1 z)
 exact h.c2 x y e O1 O1 g
def Bf (o:α->α->Int) (d:α) (a b:Nat) (m:List α):Prop:=a=0\/∀y,a<=y->y<b->o (m.getD (a-1) d) (m.getD y d)<0
theorem Bf.pin {a b:Nat} {m r:List α} (h:Bf o d a b m) (c:bL d a b m r):Bf o d a b r:=by
 rcases h with h|h
 .exact .inl h
 by_cases h0:a=0
 .exact .inl h0
 right;intro y i k;rw[c.out (a-1) O1];obtain⟨j,f,g,e⟩:=c.inn y i k;rw[e];exact h j f g
theorem Bf.sub {a b c:Nat} {m:List α} (h:Bf o d a b m) (f:c<=b):Bf o d a c m:=h.imp id λh y e g=>h y e O1
end
section
def r9:AZ:={ ins:=[T3],pre:=λ_=>True,out:=λ_=>[.p .bool false] }
attribute [local go_sem] r9
def Fg (a b:Int):Int:=if a<b then -1 else if b<a then 1 else 0
def Hi:AZ:={ ins:=[T3,T3],pre:=λ_=>True,out:=λ(a,b,_)=>[.p T3 (Fg a b)] }
attribute [local go_sem] Hi
def Iv:AZ:={ ins:=[Av,Av],pre:=λ_=>True,out:=λ(a,b,_)=>[.p T3 (Fg (Prod.fst a) (Prod.fst b))] }
attribute [local go_sem] Iv
theorem A40:Aa Tryz.prog 224 r9:=by
 refine fK [0,2] Tryz.func224 Tryz.ntmps224 AH ?_;rintro w0 O0 ⟨x,u⟩ a - -;simp only[r9,AL];repeat'(first|exact trivial|apply eS rfl|refine rX a ?_ ?_)
 exact fI a [.tmp 2]
theorem HP:Aa Tryz.prog 208 Hi:=by
 refine fK [0,1,4,5,6,11,12,13,16,19] Tryz.func208 Tryz.ntmps208 (AF A40 AH) ?_;rintro w0 O0 ⟨a,b,u⟩ c - -;simp only[Hi,AL];repeat'(first|exact trivial|apply eS rfl|refine rX c ?_ ?_|refine rC ?_ ?_<;>intro d<;>try(cases d;done))
 .have e:Fg a b=-1:=BY d;exact fI c [.tmp 4] (by rw[e];exact eR)
 .have e:Fg a b=1:=by unfold Fg;rw[At O1,BY d]
  exact fI c [.tmp 4] (by rw[e];exact eR)
 have e:Fg a b=0:=by unfold Fg;rw[At O1,At O1]
 exact fI c [.tmp 4] (by rw[e];exact eR)
theorem Lm:Aa Tryz.prog 192 Iv:=by
 refine fK [0,1,2,3,4] Tryz.func192 Tryz.ntmps192 (AF HP AH) ?_;rintro w0 O0 ⟨a,b,u⟩ c - -;simp only[Iv,AL];repeat'(first|exact trivial|apply eS rfl|refine rX c ?_ ?_)
 exact fI c [.tmp 4]
def NN (l:List (Int×Int)):Prop:=∀i,i+1<l.length->(l.getD i (0,0)).1<(l.getD (i+1) (0,0)).1
end
section
attribute [local go_sem] Iv
def TC (a b:Int×Int):Int:=Fg a.1 b.1
theorem wJ:SO TC:=⟨λa b=>by unfold TC Fg;(repeat' split)<;>omega,λ{a b c} h1 d=>by
 unfold TC Fg at *
 (repeat' split at h1)<;>(repeat' split at d)<;>(repeat' split)<;>omega⟩
theorem A73 (l:List (Int×Int)) (N:l.length<=100000) (z:Dst TC (0,0) l) (a b:Nat) (I:a<=100000) (J:b<=l.length):Bb Tryz.prog 232 [.sr 1000000 Av 0 l.length,.p T3 (a:Int),.p T3 (b:Int),.fn 192] [(1000000,.arr 106 Av l)] [1000000] (λres G=>res=.raw (.tuple #[])/\∃r,G=[(1000000,.arr 106 Av r)]/\bL (0,0) a b l r/\wI TC (0,0) a b r):=by
 refine OJ [0,1,2,3,8,9,14,34] [] [] Tryz.func232 Tryz.ntmps232 (AF Lm AH) ?_;intro w0 K O0 ρ0 d P Q;simp only[A6];repeat'(first|exact trivial|apply eS rfl|apply AB|refine rX d ?_ ?_|refine rC ?_ ?_<;>intro e<;>try(cases e;done))
 .omega
 refine AI (ι:={s:Nat×List (Int×Int)//a+1<=s.1/\(s.1=a+1\/s.1<=b)/\bL (0,0) a b l s.2/\wI TC (0,0) a s.1 s.2}) (λs=>⟨[(0,.sr 1000000 Av 0 l.length),(1,.p T3 (a:Int)),(2,.p T3 (b:Int)),(3,.fn 192),(8,.p (.int .i64) (s.1.1:Int))],[(1000000,.arr 106 Av s.1.2)]⟩) (λs=>b-s.1.1) ⟨(a+1,l),OR _,.inl rfl,bL.refl a b l,A72 a l⟩ (AC [(1000000,.nm 1000000)] rfl rfl ?_ ?_) (λs=>?_)
 .first|exact eN|refine eM ?_
 .first|exact eN|refine eM ?_
 obtain⟨⟨i,m⟩,C,D,n,hs⟩:=s;simp only at C D n hs ⊢;have O:=n.len;repeat'(first|exact trivial|apply eS rfl|apply AB|refine rX d ?_ ?_|refine rC ?_ ?_<;>intro e<;>try(cases e;done))
 .have E:i<b:=by exact eV
  refine AI (ι:={t:Nat×List (Int×Int)//a<=t.1/\t.1<=i/\bL (0,0) a b l t.2/\A3X TC (0,0) a i t.1 t.2}) (λt=>⟨[(0,.sr 1000000 Av 0 l.length),(1,.p T3 (a:Int)),(2,.p T3 (b:Int)),(3,.fn 192),(8,.p (.int .i64) (i:Int)),(9,.p (.int .i64) (t.1.1:Int))],[(1000000,.arr 106 Av t.1.2)]⟩) (λt=>t.1.1) ⟨(i,m),by omega,OR i,n,r8 hs⟩ (AC [(1000000,.nm 1000000)] rfl rfl ?_ ?_) (λt=>?_)
  .first|exact eN|refine eM ?_
  .first|exact eN|refine eM ?_
  obtain⟨⟨j,c⟩,ha,u,g,q⟩:=t;simp only at ha u g q ⊢;have L:=g.len;have A:=z.perm wJ g.perm;repeat'(first|exact trivial|apply eS rfl|apply AB|refine rX d ?_ ?_)
  .dsimp only[Ty.den]at *;exact⟨λ_=>by omega,λ_=>⟨by omega,by omega⟩,λ_=>⟨by omega,by omega⟩⟩
  have o:a<j->((j:Int)-1).toNat=j-1:=λ_=>by omega
  refine Ww (by simp only[go_sem,Nat.reduceEqDiff,reduceCtorEq,Nat.reduceAdd,Nat.reduceSub,Nat.reduceMul,Nat.reduceLeDiff,Nat.reduceLT,Int.reduceLE,Int.reduceToNat,Int.reduceNeg,↓reduceIte];rfl) ?_ ?_
  .intro f;simp only[As,NO]at f;have k:a<j:=by omega
   have v:TC (c.getD j (0,0)) (c.getD ((j:Int)-1).toNat (0,0))<0:=f.2;rw[o k]at v;have F:l7 (0,0) c j (j-1)=(c.set j (c.getD (j-1) (0,0))).set (j-1) (c.getD j (0,0)):=rfl;repeat'(first|exact trivial|apply eS rfl|apply AB|refine rP d ?_ ?_|fail)
   (refine Fv drawsAny d 16 [([0,1,5,6,7,8,9,10,11,12,13,14],15)] [2,3,4] (by kernel_rfl) (Vu ?_ ?_);(next=>exact p8);refine e9 d [] ?_ ?_;(next=>exact p8);refine p6 d ?_ ?_ ?_;(next=>exact p8);(next=>exact p8))
   rw[o k];repeat'(first|exact trivial|apply eS rfl|apply AB|refine rX d ?_ ?_|refine rC ?_ ?_<;>intro e<;>try(cases e;done))
   .dsimp only[Ty.den]at *;omega
   refine⟨⟨(j-1,l7 (0,0) c j (j-1)),by simp only;omega,by simp only;omega,g.trans (bL.swap c O1 O1 O1 O1 O1),A02 q k u O1 v⟩,by simp only;omega,AC [(1000000,.nm 1000000)] rfl rfl ?_ ?_⟩
   .simp only;rw[F];first|exact eN|refine eM ?_
   simp only;rw[show ((j-1:Nat):Int)=(j:Int)-1 by omega];first|exact eN|refine eM ?_
  intro f;have B:j=a\/TC (c.getD (j-1) (0,0)) (c.getD j (0,0))<0:=by
   by_cases k:j=a
   .exact .inl k
   right;simp only[ACS,SF]at f;rw[o O1]at f;rcases f with h|h
   .omega
   exact A.lt wJ O1 O1 O1 h
  repeat'(first|exact trivial|apply eS rfl|apply AB|refine rX d ?_ ?_|refine rC ?_ ?_<;>intro e<;>try(cases e;done))
  .exact eV
  refine⟨⟨(i+1,c),by simp only;omega,.inr E,g,A3Y wJ q ha u B⟩,by simp only;omega,AC [(1000000,.nm 1000000)] rfl rfl ?_ ?_⟩
  .first|exact eN|refine eM ?_
  first|exact eN|refine eM ?_
 have M:b<=i:=by exact eV
 exact fM d [] (.raw (.tuple #[])) rfl ⟨rfl,m,rfl,n,λx y h1 w H=>hs x y h1 w O1⟩
end
def Cm (f:List AE):Nat->List Int->Int->List Int
 | 0,o,_=>o
 | k+1,o,n=>(f.getD n.toNat (0,[])).2.foldl (λo a=>if a.2∈o then o else Cm f k o a.2) (o++[n])
def Ae (f:List AE) (k:Nat) (o:List Int) (a:Int×Int):List Int:=if a.2∈o then o else Cm f k o a.2
theorem CO (f:List AE) (k:Nat) (o:List Int) (n:Int):Cm f (k+1) o n=(f.getD n.toNat (0,[])).2.foldl (Ae f k) (o++[n]):=rfl
structure Ks (f:List AE) (o:List Int):Prop where
 nd:o.Nodup
 rng:∀x∈o,0<=x/\x<(f.length:Int)
theorem Ks.len {f:List AE} {o:List Int} (h:Ks f o):o.length<=f.length:=by
 have h1:(o.map Int.toNat).Nodup:=by
  rw[List.Nodup,oN];refine h.nd.imp_of_mem λ{a b} ha c g e=>g ?_;have:=h.rng a ha;have:=h.rng b c;omega
 have:=Ed f.length (o.map Int.toNat) h1 (λj d=>by
  obtain⟨x,i,rfl⟩:=DO.1 d;have:=h.rng x i;omega)
 simpa using this
theorem Ks.snoc {f:List AE} {o:List Int} (h:Ks f o) {n:Int} (h0:0<=n) (h1:n<f.length) (hn:n∉o):Ks f (o++[n]):=by
 refine⟨?_,λx c=>?_⟩
 .rw[ABU];refine⟨h.nd,by simp,λa ha b d=>?_⟩;grind
 rcases ON.1 c with c|c
 .exact h.rng x c
 grind
theorem E7 {f:List AE} {k:Nat} (j:∀(o:List Int) (n:Int),Ks f o->0<=n->n<f.length->n∉o->Ks f (Cm f k o n)/\o <+: Cm f k o n) :
  ∀(l:List (Int×Int)) (o:List Int),(∀a∈l,0<=a.2/\a.2<(f.length:Int))->Ks f o->Ks f (l.foldl (Ae f k) o)/\o <+: l.foldl (Ae f k) o
 | [],o,_,h=>⟨h,ACe _⟩
 | a :: l,o,i,h=>by
  simp only[On];have c:Ks f (Ae f k o a)/\o <+: Ae f k o a:=by grind [Ae]
  obtain⟨d,e⟩:=E7 j l _ (λb g=>i b (by simp[g])) c.1;exact⟨d,c.2.trans e⟩
theorem Aw {f:List AE} (hf:AQ f) {n:Int} {a:Int×Int} (ha:a∈(f.getD n.toNat (0,[])).2):0<=a.2/\a.2<f.length:=by
 by_cases h:n.toNat<f.length
 .have b:f.getD n.toNat (0,[])∈f:=by
   rw[AS,AT h];exact nO h
  exact(hf.2 _ b).2 a ha
 grind
theorem EL {f:List AE} (hf:AQ f):∀(k:Nat) (o:List Int) (n:Int),Ks f o->0<=n->n<f.length->n∉o->Ks f (Cm f k o n)/\o <+: Cm f k o n
 | 0,o,n,h,_,_,_=>⟨h,ACe _⟩
 | k+1,o,n,h,h0,h1,d=>by
  obtain⟨b,c⟩:=E7 (EL hf k) _ _ (λa ha=>Aw hf ha) (h.snoc h0 h1 d);rw[CO];exact⟨b,(ADH o [n]).trans c⟩
theorem Iw {f:List AE} (hf:AQ f):∀(k:Nat) (o:List Int) (n:Int),Ks f o->0<=n->n<f.length->n∉o->f.length-o.length<=k ->
  n∈Cm f k o n/\∀x∈Cm f k o n,x∈o\/∀a∈(f.getD x.toNat (0,[])).2,a.2∈Cm f k o n
 | 0,o,n,h,h0,h1,i,hk=>by
  have:=(h.snoc h0 h1 i).len;grind
 | k+1,o,n,h,h0,h1,i,hk=>by
  have key:∀(l:List (Int×Int)) (t:List Int),(∀a∈l,0<=a.2/\a.2<(f.length:Int))->Ks f t->f.length-t.length<=k ->
    (∀a∈l,a.2∈l.foldl (Ae f k) t)/\∀x∈l.foldl (Ae f k) t,x∈t\/∀a∈(f.getD x.toNat (0,[])).2,a.2∈l.foldl (Ae f k) t:=by
   intro l;induction l with
   | nil=>exact λt _ _ _=>⟨λa ha=>(by cases ha),λx m=>.inl m⟩
   | cons a l v =>
    intro t j r s;simp only[On];have u:Ks f (Ae f k t a)/\t <+: Ae f k t a/\a.2∈Ae f k t a/\∀x∈Ae f k t a,x∈t\/∀b∈(f.getD x.toNat (0,[])).2,b.2∈Ae f k t a:=by
     unfold Ae;split
     .grind
     rename_i hn;have q:=j a sc;obtain⟨c,d⟩:=EL hf k t a.2 r q.1 q.2 hn;obtain⟨e,p⟩:=Iw hf k t a.2 r q.1 q.2 hn s;exact⟨c,d,e,p⟩
    obtain⟨c,d,e,p⟩:=u;have w:=d.length_le;obtain⟨y,z⟩:=v (Ae f k t a) (λb g=>j b (by simp[g])) c O1;obtain⟨_,A⟩:=E7 (EL hf k) l (Ae f k t a) (λb g=>j b (by simp[g])) c;refine⟨λb g=>?_,λx m=>?_⟩
    .grind
    grind
  have hs:=h.snoc h0 h1 i;obtain⟨c,d⟩:=key (f.getD n.toNat (0,[])).2 (o++[n]) (λa ha=>Aw hf ha) hs (by simp only[F3,R7];omega);obtain⟨_,e⟩:=E7 (EL hf k) (f.getD n.toNat (0,[])).2 (o++[n]) (λa ha=>Aw hf ha) hs;rw[CO];refine⟨e.subset sc,λx m=>?_⟩;grind
def Bk (o:List Int) (x:Int):Int:=if x∈o then (o.idxOf x:Int) else 0
def JL (o:List Int) (a:Int×Int):Int×Int:=(a.1,Bk o a.2)
def DD (f:List AE) (o:List Int) (n:Int):AE:=((f.getD n.toNat (0,[])).1,(f.getD n.toNat (0,[])).2.map (JL o))
def AK (f:List AE) (root:Int):List AE:=(Cm f f.length [] root).map (DD f (Cm f f.length [] root))
def Ix (f:List AE):Prop:=∀x∈f,NN x.2/\x.2.length<=200
theorem sA {f:List AE} (hf:Ix f) (n:Int):NN (f.getD n.toNat (0,[])).2/\(f.getD n.toNat (0,[])).2.length<=200:=by
 by_cases h:n.toNat<f.length
 .have a:f.getD n.toNat (0,[])∈f:=by
   rw[AS,AT h];exact nO h
  exact hf _ a
 rw[AS,SA O1];exact⟨λi hi=>by simp at hi,by simp⟩
theorem GE {l:List (Int×Int)} (h:NN l):AU l=l:=by
 have key:∀i,i<=l.length->AU (l.take i)=l.take i:=by
  intro i;induction i with
  | zero=>intro _;rfl
  | succ i d =>
   intro hi;rw[AY l (0,0) O1,IE,d O1];have b:(l.take i).length=i:=by rw[OF];omega
   have c:Ir (l.getD i (0,0)) (l.take i) (l.take i).length=(l.take i).length:=by
    rw[b];cases i with
    | zero=>rfl
    | succ i =>
     have h1:=h i O1;have a:(l.take (i+1)).getD i (0,0)=l.getD i (0,0):=by grind
     simp only[Ir];rw[a,At O1]
   unfold Pv;rw[c,R6,AD0,SJ]
 have:=key l.length (OR _)
 rwa [R6]at this
structure ME (f:List AE) (num o:List Int):Prop where
 len:num.length=f.length
 get:∀j,j<f.length->num.getD j 0=if (j:Int)∈o then (o.idxOf (j:Int):Int) else -1
theorem ME.neg {f:List AE} {num o:List Int} (h:ME f num o) {n:Int} (h0:0<=n) (h1:n<f.length):num.getD n.toNat 0<0↔n∉o:=by
 have:=h.get n.toNat O1;grind
theorem A03 {o:List Int} {n:Int} (h:n∉o):(o++[n]).idxOf n=o.length:=by rw[ADP,At h];simp
theorem ME.snoc {f:List AE} {num o:List Int} (h:ME f num o) {n:Int} (h0:0<=n) (h1:n<f.length) (hn:n∉o):ME f (num.set n.toNat (o.length:Int)) (o++[n]):=by
 refine⟨by simpa using h.len,λj a=>?_⟩;have c:j<num.length:=by rw[h.len];exact a
 by_cases e:j=n.toNat
 .grind
 have en:¬(j:Int)=n:=by omega
 simp only[AS];rw[List.getElem?_set_ne (λb=>e b.symm)];have:=h.get j a;grind
theorem YH {f:List AE} (hf:AQ f) (hs:Ix f):∀(k:Nat) (s:List Int×List Int) (n:Int),ME f s.1 s.2->Ks f s.2->0<=n->n<f.length->n∉s.2->(Dm f k s n).2=Cm f k s.2 n/\ME f (Dm f k s n).1 (Dm f k s n).2
 | 0,s,n,h,_,_,_,_=>⟨rfl,h⟩
 | k+1,s,n,h,u,h0,h1,i=>by
  have key:∀(l:List (Int×Int)) (t:List Int×List Int),(∀a∈l,0<=a.2/\a.2<(f.length:Int))->ME f t.1 t.2->Ks f t.2->(l.foldl (EX f k) t).2=l.foldl (Ae f k) t.2/\ME f (l.foldl (EX f k) t).1 (l.foldl (EX f k) t).2:=by
   intro l;induction l with
   | nil=>exact λt _ e _=>⟨rfl,e⟩
   | cons a l y =>
    intro t j e m;simp only[On];have q:=j a sc;have v:=e.neg q.1 q.2;have w:(EX f k t a).2=Ae f k t.2 a/\ME f (EX f k t a).1 (EX f k t a).2/\Ks f (EX f k t a).2:=by
     unfold EX Ae;by_cases d:a.2∈t.2
     .grind
     rw[At d,BY (by rw[v];exact d)];obtain⟨c,g⟩:=YH hf hs k t a.2 e m q.1 q.2 d;exact⟨c,g,by rw[c];exact(EL hf k t.2 a.2 m q.1 q.2 d).1⟩
    obtain⟨c,g,p⟩:=w;obtain⟨o,x⟩:=y (EX f k t a) (λb r=>j b (by simp[r])) g p;rw[c]at o;exact⟨o,x⟩
  rw[D9,CO,GE (sA hs n).1];exact key _ (s.1.set n.toNat (s.2.length:Int),s.2++[n]) (λa ha=>Aw hf ha) (h.snoc h0 h1 i) (u.snoc h0 h1 i)
theorem E8 {f:List AE} (hf:AQ f) (hs:Ix f) {root:Int} (h0:0<=root) (h1:root<f.length):Ff f root=AK f root:=by
 have i:ME f (List.replicate f.length (-1)) []:=⟨by simp,λj h=>by simp[AS,AAy,h]⟩;have d:Ks f []:=⟨by simp,λx g=>by cases g⟩;obtain⟨c,b⟩:=YH hf hs f.length (List.replicate f.length (-1),[]) root i d h0 h1 sc;have c:(Gb f root).2=Cm f f.length [] root:=c;have b:ME f (Gb f root).1 (Gb f root).2:=b;have k:=(Iw hf f.length [] root d h0 h1 sc sc).2;have l:=(EL hf f.length [] root d h0 h1 sc).1;unfold Ff AK;rw[c]at b ⊢;generalize Cm f f.length [] root=o at *;refine SB λx g=>?_;unfold MC DD;rw[GE (sA hs x).1];refine ACb _ (SB λa ha=>?_);unfold Zi JL Bk;have e:a.2∈o:=by grind
 have m:=Aw hf ha;have:=b.get a.2.toNat O1;rw[show ((a.2.toNat:Nat):Int)=a.2 by omega]at this;rw[this,BY e,BY e]
def mOf (o:List Int):List (Int×Int):=(List.range o.length).map λi=>(o.getD i 0,(i:Int))
theorem l9 (o:List Int) (n:Int):mOf (o++[n])=mOf o++[(n,(o.length:Int))]:=by
 unfold mOf;rw[F3,R7,To,SQ]
 congr 1
 .refine SB λi hi=>?_;grind
 simp[AS]
theorem A04 (k:Int) (a b:List (Int×Int)):Bl T3 T3 k (a++b)=(Bl T3 T3 k a).or (Bl T3 T3 k b):=by
 induction a with
 | nil=>rfl
 | cons x a c =>
  simp only[ACf,Bl];split
  .rfl
  exact c
theorem Dn {α:Type} {p:List α->Prop} (h0:p []) (h1:∀l a,p l->p (l++[a])) (l:List α):p l:=by
 have:∀n (l:List α),l.length=n->p l:=by
  intro n;induction n with
  | zero=>intro l b;rw[List.length_eq_zero_iff.1 b];exact h0
  | succ n d =>
   intro l b;have c:l≠[]:=by intro e;subst e;simp at b
   rw[<-List.dropLast_concat_getLast c];exact h1 _ _ (d _ (by simp[b]))
 exact this _ l rfl
theorem TD (o:List Int) (x:Int):Bl T3 T3 x (mOf o)=if x∈o then some (o.idxOf x:Int) else none:=by
 induction o using Dn with
 | h0=>rfl
 | h1 o n a =>
  rw[l9,A04,a];by_cases b:x∈o
  .grind
  grind [A03,Bl,JH]
theorem A05 (k v:Int) (l:List (Int×Int)) (h:Bl T3 T3 k l=none):Gq T3 T3 k v l=l++[(k,v)]:=by
 induction l with
 | nil=>rfl
 | cons x l a =>
  simp only[Bl]at h;simp only[Gq,ACf];split at h
  .cases h
  grind
theorem A41 {o:List Int} {n:Int} (hn:n∉o):Gq T3 T3 n (o.length:Int) (mOf o)=mOf (o++[n]):=by grind [A05,TD,l9]
theorem A74 (o:List Int) (x:Int):(Bl T3 T3 x (mOf o)).getD 0=Bk o x:=by grind [TD,Bk]
theorem YI (o:List Int) (x:Int):(Bl T3 T3 x (mOf o)).isSome=decide (x∈o):=by
 rw[TD];split<;>simp[*]
def NdA (l:List (Int×Int)):Prop:=l.Pairwise λa b=>a.1≠b.1
def LtA (l:List (Int×Int)):Prop:=l.Pairwise λa b=>a.1<b.1
theorem bO (x:Int×Int) (s:List (Int×Int)):∀n,(∀j,Ir x s n<=j->j<n->x.1<(s.getD j (0,0)).1)/\(Ir x s n=0\/¬x.1<(s.getD (Ir x s n-1) (0,0)).1)
 | 0=>⟨λj h1 a=>by omega,.inl rfl⟩
 | n+1=>by
  obtain⟨h1,a⟩:=bO x s n;unfold Ir;split
  .rename_i h;refine⟨λj b c=>?_,a⟩;by_cases e:j=n
   .rw[e];exact h
   exact h1 j b O1
  rename_i h;exact⟨λj b c=>by omega,.inr (by simpa using h)⟩
theorem A75 {s:List (Int×Int)} (hs:LtA s) {x:Int×Int} (m:∀a∈s,a.1≠x.1):LtA (Pv s x):=by
 obtain⟨h1,c⟩:=bO x s s.length;have n:=V0 x s s.length;unfold Pv;generalize Ir x s s.length=p at *;have d:=hs;unfold LtA at d;rw[<-ACN p s,ACs]at d;have j:∀i (h:i<s.length),s.getD i (0,0)=s[i]:=λi h=>by rw[AS,AT h];rfl
 have l:∀a∈s.take p,a.1<x.1:=by
  intro a ha;rcases c with c|c
  .subst c;simp at ha
  obtain⟨i,hi,rfl⟩:=aT.1 ha;rw[OF]at hi;rw[List.getElem_take];by_cases q:p=0
  .omega
  have g:p-1<s.length:=by omega
  rw[j (p-1) g]at c;have o:=m s[p-1] (nO g);by_cases e:i=p-1
  .subst e;omega
  have:=(SI.1 hs) i (p-1) O1 g O1;omega
 have k:∀a∈s.drop p,x.1<a.1:=by
  intro a ha;obtain⟨i,hi,rfl⟩:=aT.1 ha;rw[dO]at hi;rw[List.getElem_drop,<-j (p+i) O1];exact h1 (p+i) O1 O1
 unfold LtA;rw[SC,ACs];refine⟨d.1,?_,λa ha b f=>?_⟩
 .rw[List.singleton_append,aS];exact⟨k,d.2.1⟩
 rcases Do.1 (by simpa using f:b∈x :: s.drop p) with rfl|f
 .exact l a ha
 exact d.2.2 a ha b f
theorem Px {l:List (Int×Int)} (h:NdA l):LtA (AU l):=by
 induction l using Dn with
 | h0=>exact List.Pairwise.nil
 | h1 l a d =>
  unfold NdA at h;rw[ACs]at h;rw[IE];exact A75 (d h.1) λb c=>h.2.2 b ((CJ l).mem_iff.1 c) a sc
theorem A07 {l r:List (Int×Int)} (d:r.Perm l) (h1:LtA r) (c:LtA l):r=l :=
 List.Perm.eq_of_pairwise (le:=λa b:Int×Int=>a.1<b.1) (λa b _ _ e f=>by omega) h1 c d
theorem wK {l:List (Int×Int)} (h:LtA l):NN l:=by
 intro i hi;have a:∀i (h:i<l.length),l.getD i (0,0)=l[i]:=λi h=>by rw[AS,AT h];rfl
 rw[a i O1,a (i+1) hi];exact(SI.1 h) i (i+1) O1 hi O1
theorem A42 {l:List (Int×Int)} (h:NN l):LtA l:=by
 refine SI.2 λi j hi f k=>?_;have c:∀i (h:i<l.length),l.getD i (0,0)=l[i]:=λi h=>by rw[AS,AT h];rfl
 have key:∀d i,i+d+1<l.length->(l.getD i (0,0)).1<(l.getD (i+d+1) (0,0)).1:=by
  intro d;induction d with
  | zero=>exact λi hi=>h i hi
  | succ d g =>
   intro i hi;have a:=g i O1;have b:=h (i+d+1) O1;have e:i+(d+1)+1=i+d+1+1:=by omega
   rw[e];omega
 have:=key (j-i-1) i O1;rw[show i+(j-i-1)+1=j by omega,c i hi,c j f]at this;exact this
theorem A9x {l:List (Int×Int)} (h:LtA l):NdA l:=h.imp λg=>by omega
theorem A9y {l:List (Int×Int)} (h:NdA l):Dst TC (0,0) l:=by
 rw[wH wJ];refine h.imp λ{a b} g e=>g ?_;unfold TC Fg at e;split at e
 .omega
 split at e<;>omega
theorem sB {l r:List (Int×Int)} (h:NdA l) (c:r.Perm l) (hs:wI TC (0,0) 0 l.length r):r=AU l:=by
 refine A07 (c.trans (CJ l).symm) (SI.2 λi j hi b d=>?_) (Px h);have a:∀i (h:i<r.length),r.getD i (0,0)=r[i]:=λi h=>by rw[AS,AT h];rfl
 have:=hs i j (If _) d (by rw[<-c.length_eq];exact b);rw[a i hi,a j b]at this;unfold TC Fg at this;split at this
 .assumption
 split at this<;>omega
theorem NP {l:List (Int×Int)} (h:NdA l):AU (AU l)=AU l:=GE (wK (Px h))
def SS (l:List (Int×Int)):Prop:=l.length<=200/\(l.length<=12\/NN l)
def NdF (f:List AE):Prop:=∀x∈f,NdA x.2/\SS x.2
def Dz (f:List AE):List AE:=f.map λx=>(x.1,AU x.2)
theorem Gd (f:List AE):(Dz f).length=f.length:=Of _
theorem RR (f:List AE) (n:Nat):(Dz f).getD n (0,[])=((f.getD n (0,[])).1,AU (f.getD n (0,[])).2):=by
 unfold Dz;simp only[AS,SR];cases f[n]?<;>rfl
theorem TE {f:List AE} (h:AQ f):AQ (Dz f):=by
 refine⟨by rw[Gd];exact h.1,λx d=>?_⟩;obtain⟨y,e,rfl⟩:=DO.1 d;obtain⟨b,c⟩:=h.2 y e;refine⟨by simp only[CX];exact b,λa ha=>?_⟩;rw[Gd];exact c a ((CJ _).mem_iff.1 ha)
theorem A43 {f:List AE} (h:NdF f):Ix (Dz f):=by
 intro x c;obtain⟨y,d,rfl⟩:=DO.1 c;obtain⟨a,b⟩:=h y d;exact⟨wK (Px a),by simp only[CX];exact b.1⟩
theorem A08 {f:List AE} (h:Ix f):Dz f=f:=by
 unfold Dz
 conv=>rhs;rw[<-ADS f]
 refine SB λx a=>?_;rw[GE (h x a).1];rfl
theorem A9z {f:List AE} (h:Ix f):NdF f:=λx a=>⟨A9x (A42 (h x a).1),(h x a).2,.inr (h x a).1⟩
theorem wL {f:List AE} (hf:NdF f) (n:Int):NdA (f.getD n.toNat (0,[])).2/\SS (f.getD n.toNat (0,[])).2:=by
 by_cases h:n.toNat<f.length
 .have a:f.getD n.toNat (0,[])∈f:=by
   rw[AS,AT h];exact nO h
  exact hf _ a
 rw[AS,SA O1];exact⟨List.Pairwise.nil,by simp,.inl sc⟩
theorem Ut {f:List AE} (h:NdF f):∀(k:Nat) (s:List Int×List Int) (n:Int),Dm (Dz f) k s n=Dm f k s n
 | 0,_,_=>rfl
 | k+1,s,n=>by
  rw[D9,D9,RR];simp only;rw[NP (wL h n).1];refine ACb (λg=>List.foldl g _ _) ?_;funext s a;unfold EX;rw[Ut h k s a.2]
theorem A09 {f:List AE} (h:NdF f) (r:Int):Ff (Dz f) r=Ff f r:=by
 have a:Gb (Dz f) r=Gb f r:=by
  unfold Gb;rw[Gd,Ut h]
 unfold Ff;rw[a];refine SB λn _=>?_;unfold MC;rw[RR];simp only;rw[NP (wL h n).1]
theorem mA {f:List AE} (hf:AQ f) (hn:NdF f) {root:Int} (h0:0<=root) (h1:root<f.length):Ff f root=AK (Dz f) root:=by
 rw[<-A09 hn];exact E8 (TE hf) (A43 hn) h0 (by rw[Gd];exact h1)
section
attribute [local go_sem] Iv
theorem A44 {l:List (Int×Int)} (h:NN l) {i j:Nat} (c:i<j) (a:j<l.length):(l.getD i (0,0)).1<(l.getD j (0,0)).1:=by
 induction j with
 | zero=>omega
 | succ j b =>
  have h1:=h j a;by_cases e:i=j
  .rw[e];exact h1
  exact Int.lt_trans (b O1 O1) h1
theorem sC {x y:Int} (h:y<x) (a:Fg x y<0):False:=by
 unfold Fg at a
 (repeat' split at a)<;>omega
def HH (l:List (Int×Int)) (s:Nat):List (Nat×Obj):=[(1000000,.arr 106 Av l),(70,.box 3 false [.p T3 (s:Int)])]
theorem YJ (l:List (Int×Int)) (g:NN l) (a b s:Nat) (ab:a<b) (bl:b<l.length) (hs:s<=1000):Bb Tryz.prog 251 [.sr 1000000 Av 0 l.length,.p T3 (a:Int),.p T3 (b:Int),.bp 70 [] 0,.fn 192] (HH l s) [1000000,70] (λres f=>res=.tup [.p T3 (a:Int),.p T3 (b:Int)]/\f=HH l s):=by
 refine OJ [0,1,2,3,4,10,11,22] [] [] Tryz.func251 Tryz.ntmps251 (AF Lm AH) ?_;intro w0 K O0 ρ0 d i j;simp only[A6,HH];have h:a<l.length:=by omega
 have e:=A44 g ab bl;repeat'(first|exact trivial|apply eS rfl|apply AB|refine rX d ?_ ?_|refine rC ?_ ?_<;>intro c<;>try(cases c;done))
 .exact p8
 .exact(sC e c).elim
 .exact(sC e c).elim
 exact fM d [.tmp 10,.tmp 11] (.tup [.p T3 (a:Int),.p T3 (b:Int)]) eT ⟨rfl,rfl⟩
theorem gD (l:List (Int×Int)) (f:NN l) (a b c s:Nat) (ab:a<b) (g:b<c) (cl:c<l.length) (hs:s<=900):Bb Tryz.prog 248 [.sr 1000000 Av 0 l.length,.p T3 (a:Int),.p T3 (b:Int),.p T3 (c:Int),.bp 70 [] 0,.fn 192] (HH l s) [1000000,70] (λres h=>res=.p T3 (b:Int)/\h=HH l s):=by
 refine OJ [0,1,2,3,4,5,12] [] [] Tryz.func248 Tryz.ntmps248 AH ?_;intro w0 K O0 ρ0 d i j;simp only[A6,HH];repeat'(first|exact trivial|apply eS rfl|apply AB|refine rX d ?_ ?_|refine rC ?_ ?_<;>intro e<;>try(cases e;done))
 refine cP 5 d ?_ ?_
 .trivial
 refine rM d (YJ l f a b s ab O1 O1) [(1000000,.nm 1000000),(70,.nm 70)] [] ?_ ?_ ?_
 .first|exact eN|refine eM ?_
 .simp only[HH];first|exact eN|refine eM ?_
 rintro _ _ ⟨rfl,rfl⟩;refine⟨[(1000000,.nm 1000000),(70,.nm 70)],.tup [.p T3 (a:Int),.p T3 (b:Int)],[(1000000,.arr 106 Av l),(70,.box 3 false [.p T3 (s:Int)])],rfl,rfl,?_,?_,rfl,rfl,?_⟩
 .simp only[HH];first|exact eN|refine eM ?_
 .first|exact eN|refine eM ?_
 refine rL d ?_ ?_
 .trivial
 repeat'(first|exact trivial|apply eS rfl|apply AB|refine rX d ?_ ?_|refine rC ?_ ?_<;>intro e<;>try(cases e;done))
 refine cP 5 d ?_ ?_
 .trivial
 refine rM d (YJ l f b c s g cl O1) [(1000000,.nm 1000000),(70,.nm 70)] [] ?_ ?_ ?_
 .first|exact eN|refine eM ?_
 .simp only[HH];first|exact eN|refine eM ?_
 rintro _ _ ⟨rfl,rfl⟩;refine⟨[(1000000,.nm 1000000),(70,.nm 70)],.tup [.p T3 (b:Int),.p T3 (c:Int)],[(1000000,.arr 106 Av l),(70,.box 3 false [.p T3 (s:Int)])],rfl,rfl,?_,?_,rfl,rfl,?_⟩
 .simp only[HH];first|exact eN|refine eM ?_
 .first|exact eN|refine eM ?_
 refine rL d ?_ ?_
 .trivial
 repeat'(first|exact trivial|apply eS rfl|apply AB|refine rX d ?_ ?_|refine rC ?_ ?_<;>intro e<;>try(cases e;done))
 refine cP 5 d ?_ ?_
 .trivial
 refine rM d (YJ l f a b s ab O1 O1) [(1000000,.nm 1000000),(70,.nm 70)] [] ?_ ?_ ?_
 .first|exact eN|refine eM ?_
 .simp only[HH];first|exact eN|refine eM ?_
 rintro _ _ ⟨rfl,rfl⟩;refine⟨[(1000000,.nm 1000000),(70,.nm 70)],.tup [.p T3 (a:Int),.p T3 (b:Int)],[(1000000,.arr 106 Av l),(70,.box 3 false [.p T3 (s:Int)])],rfl,rfl,?_,?_,rfl,rfl,?_⟩
 .simp only[HH];first|exact eN|refine eM ?_
 .first|exact eN|refine eM ?_
 refine rL d ?_ ?_
 .trivial
 repeat'(first|exact trivial|apply eS rfl|apply AB|refine rX d ?_ ?_|refine rC ?_ ?_<;>intro e<;>try(cases e;done))
 exact fM d [.tmp 12] (.p T3 (b:Int)) eT ⟨rfl,rfl⟩
theorem gE (l:List (Int×Int)) (e:NN l) (b s:Nat) (f:1<=b) (bl:b+1<l.length) (g:l.length<=100000) (hs:s<=900):Bb Tryz.prog 247 [.sr 1000000 Av 0 l.length,.p T3 (b:Int),.bp 70 [] 0,.fn 192] (HH l s) [1000000,70] (λres d=>res=.p T3 (b:Int)/\d=HH l s):=by
 refine OJ [0,1,2,3,8] [] [] Tryz.func247 Tryz.ntmps247 AH ?_;intro w0 K O0 ρ0 a h i;simp only[A6,HH];have key:=gD l e (b-1) b (b+1) s O1 O1 bl hs;rw[show ((b-1:Nat):Int)=(b:Int)-1 by omega,show ((b+1:Nat):Int)=(b:Int)+1 by omega]at key;repeat'(first|exact trivial|apply eS rfl|apply AB|refine rX a ?_ ?_|refine rC ?_ ?_<;>intro c<;>try(cases c;done))
 refine cP 8 a ?_ ?_
 .exact p8
 refine rM a (key) [(1000000,.nm 1000000),(70,.nm 70)] [] ?_ ?_ ?_
 .first|exact eN|refine eM ?_
 .simp only[HH];first|exact eN|refine eM ?_
 rintro _ _ ⟨rfl,rfl⟩;refine⟨[(1000000,.nm 1000000),(70,.nm 70)],.p T3 (b:Int),[(1000000,.arr 106 Av l),(70,.box 3 false [.p T3 (s:Int)])],rfl,rfl,?_,?_,rfl,rfl,?_⟩
 .simp only[HH];first|exact eN|refine eM ?_
 .first|exact eN|refine eM ?_
 refine rL a ?_ ?_
 .trivial
 repeat'(first|exact trivial|apply eS rfl|apply AB|refine rX a ?_ ?_|refine rC ?_ ?_<;>intro c<;>try(cases c;done))
 exact fM a [.tmp 8] (.p T3 (b:Int)) eT ⟨rfl,rfl⟩
theorem A77 (l:List (Int×Int)) (e:l.length<=100000) (d:NN l) (a b:Nat) (k:a+13<=b) (m:b<=l.length):Bb Tryz.prog 235 [.sr 1000000 Av 0 l.length,.p T3 (a:Int),.p T3 (b:Int),.fn 192] [(1000000,.arr 106 Av l)] [1000000] (λres i=>(∃j:Nat,res=.tup [.p T3 (j:Int),.p T3 (1:Int)])/\i=[(1000000,.arr 106 Av l)]):=by
 refine OJ [0,1,2,3,8,9,10,11,12,13,14,34,36,55,57,60] [] [] Tryz.func235 Tryz.ntmps235 AH ?_;intro w0 K O0 ρ0 c n o;simp only[A6];obtain⟨t,h⟩:∃t,t=(b-a) / 4:=⟨_,rfl⟩;have et:((b:Int)-(a:Int)).tdiv 4=(t:Int):=by
  rw[ACv O1];omega
 have q:4*t<=b-a:=by omega
 have r:3<=t:=by omega
 clear h
 (apply eS rfl;refine rX c ?_ ?_;(next=>first|exact trivial|exact p8))
 (apply eS rfl;refine rX c ?_ ?_;(next=>first|exact trivial|exact p8))
 (apply eS rfl;refine rX c ?_ ?_;(next=>first|exact trivial|exact p8))
 (apply eS rfl;refine rX c ?_ ?_;(next=>first|exact trivial|exact p8|(rw[et];refine⟨⟨by decide,?_⟩,?_,?_⟩<;>omega)))
 (apply eS rfl;refine rX c ?_ ?_;(next=>first|exact trivial|exact p8|(rw[et];refine⟨⟨by decide,?_⟩,?_,?_⟩<;>omega)))
 (apply eS rfl;refine rX c ?_ ?_;(next=>first|exact trivial|exact p8|(rw[et];refine⟨⟨by decide,?_⟩,?_,?_⟩<;>omega)))
 rw[et,show (a:Int)+(t:Int)*1=((a+t:Nat):Int) by omega,show (a:Int)+(t:Int)*2=((a+t*2:Nat):Int) by omega,show (a:Int)+(t:Int)*3=((a+t*3:Nat):Int) by omega];refine Wu ?_;refine A6p (ι:=Unit) (λ_=>⟨[(11,.bp 11 [] 0),(13,.p T3 ((a+t*2:Nat):Int))],[(1000000,.arr 106 Av l),(11,.box 3 false [.p T3 (0:Int)])]⟩) ?_ (λx=>?_)
 .repeat'(first|exact trivial|apply eS rfl|apply AB|refine rX c ?_ ?_)
  refine rC ?_ ?_<;>intro f
  .repeat'(first|exact trivial|apply eS rfl|apply AB|refine rX c ?_ ?_)
   refine rC (λg=>?_) (λg=>?_)
   .repeat'(first|exact trivial|apply eS rfl|apply AB|refine rP c ?_ ?_|fail)
    refine cP 3 c ?_ ?_
    .trivial
    refine rM c (gE l d (a+t) 0 O1 O1 e O1) [(1000000,.nm 1000000),(70,.nm 11)] [] ?_ ?_ ?_
    .first|exact eN|refine eM ?_
    .simp only[HH];first|exact eN|refine eM ?_
    rintro _ _ ⟨rfl,rfl⟩;refine⟨[(1000000,.nm 1000000),(11,.nm 70)],.p T3 ((a+t:Nat):Int),[(1000000,.arr 106 Av l),(11,.box 3 false [.p T3 (0:Int)])],rfl,rfl,?_,?_,rfl,rfl,?_⟩
    .simp only[HH];first|exact eN|refine eM ?_
    .first|exact eN|refine eM ?_
    refine rL c ?_ ?_
    .trivial
    repeat'(first|exact trivial|apply eS rfl|apply AB|refine rX c ?_ ?_)
    refine cP 3 c ?_ ?_
    .trivial
    refine rM c (gE l d (a+t*2) 0 O1 O1 e O1) [(1000000,.nm 1000000),(70,.nm 11)] [] ?_ ?_ ?_
    .first|exact eN|refine eM ?_
    .simp only[HH];first|exact eN|refine eM ?_
    rintro _ _ ⟨rfl,rfl⟩;refine⟨[(1000000,.nm 1000000),(11,.nm 70)],.p T3 ((a+t*2:Nat):Int),[(1000000,.arr 106 Av l),(11,.box 3 false [.p T3 (0:Int)])],rfl,rfl,?_,?_,rfl,rfl,?_⟩
    .simp only[HH];first|exact eN|refine eM ?_
    .first|exact eN|refine eM ?_
    refine rL c ?_ ?_
    .trivial
    repeat'(first|exact trivial|apply eS rfl|apply AB|refine rX c ?_ ?_)
    refine cP 3 c ?_ ?_
    .trivial
    refine rM c (gE l d (a+t*3) 0 O1 O1 e O1) [(1000000,.nm 1000000),(70,.nm 11)] [] ?_ ?_ ?_
    .first|exact eN|refine eM ?_
    .simp only[HH];first|exact eN|refine eM ?_
    rintro _ _ ⟨rfl,rfl⟩;refine⟨[(1000000,.nm 1000000),(11,.nm 70)],.p T3 ((a+t*3:Nat):Int),[(1000000,.arr 106 Av l),(11,.box 3 false [.p T3 (0:Int)])],rfl,rfl,?_,?_,rfl,rfl,?_⟩
    .simp only[HH];first|exact eN|refine eM ?_
    .first|exact eN|refine eM ?_
    refine rL c ?_ ?_
    .trivial
    repeat'(first|exact trivial|apply eS rfl|apply AB|refine rX c ?_ ?_)
    refine cP 5 c ?_ ?_
    .trivial
    refine rM c (gD l d (a+t) (a+t*2) (a+t*3) 0 O1 O1 O1 O1) [(1000000,.nm 1000000),(70,.nm 11)] [] ?_ ?_ ?_
    .first|exact eN|refine eM ?_
    .simp only[HH];first|exact eN|refine eM ?_
    rintro _ _ ⟨rfl,rfl⟩;refine⟨[(1000000,.nm 1000000),(11,.nm 70)],.p T3 ((a+t*2:Nat):Int),[(1000000,.arr 106 Av l),(11,.box 3 false [.p T3 (0:Int)])],rfl,rfl,?_,?_,rfl,rfl,?_⟩
    .simp only[HH];first|exact eN|refine eM ?_
    .first|exact eN|refine eM ?_
    refine rL c ?_ ?_
    .trivial
    repeat'(first|exact trivial|apply eS rfl|apply AB|refine rX c ?_ ?_)
    refine⟨(),AC [(1000000,.nm 1000000),(11,.nm 11)] rfl rfl ?_ ?_⟩
    .first|exact eN|refine eM ?_
    first|exact eN|refine eM ?_
   repeat'(first|exact trivial|apply eS rfl|apply AB|refine rP c ?_ ?_|fail)
   refine cP 5 c ?_ ?_
   .trivial
   refine rM c (gD l d (a+t) (a+t*2) (a+t*3) 0 O1 O1 O1 O1) [(1000000,.nm 1000000),(70,.nm 11)] [] ?_ ?_ ?_
   .first|exact eN|refine eM ?_
   .simp only[HH];first|exact eN|refine eM ?_
   rintro _ _ ⟨rfl,rfl⟩;refine⟨[(1000000,.nm 1000000),(11,.nm 70)],.p T3 ((a+t*2:Nat):Int),[(1000000,.arr 106 Av l),(11,.box 3 false [.p T3 (0:Int)])],rfl,rfl,?_,?_,rfl,rfl,?_⟩
   .simp only[HH];first|exact eN|refine eM ?_
   .first|exact eN|refine eM ?_
   refine rL c ?_ ?_
   .trivial
   repeat'(first|exact trivial|apply eS rfl|apply AB|refine rX c ?_ ?_)
   refine⟨(),AC [(1000000,.nm 1000000),(11,.nm 11)] rfl rfl ?_ ?_⟩
   .first|exact eN|refine eM ?_
   first|exact eN|refine eM ?_
  exfalso;omega
 repeat'(first|exact trivial|apply eS rfl|apply AB|refine rX c ?_ ?_|refine rC ?_ ?_<;>intro f<;>try(cases f;done))
 refine Ev.ent (σ':=⟨[(8,.p T3 ((a+t*2:Nat):Int)),(9,.p T3 (1:Int))],[(1000000,.arr 106 Av l)]⟩) ?_ (AC [(1000000,.nm 1000000)] rfl rfl ?_ ?_)
 .exact fM c [.tmp 8,.tmp 9] (.tup [.p T3 ((a+t*2:Nat):Int),.p T3 (1:Int)]) eT ⟨⟨_,rfl⟩,rfl⟩
 .first|exact eN|refine eM ?_
 first|exact eN|refine eM ?_
theorem A78 (l:List (Int×Int)) (r:l.length<=100000) (o:NN l) (n0:0<l.length):Bb Tryz.prog 237 [.sr 1000000 Av 0 l.length,.p T3 (0:Int),.p T3 (l.length:Int),.fn 192] [(1000000,.arr 106 Av l)] [1000000] (λres n=>res=.p .bool true/\n=[(1000000,.arr 106 Av l)]):=by
 refine OJ [0,1,2,3,8,9,10,11,12,16,36,41,45,65,69,84,104,109,124] [] [] Tryz.func237 Tryz.ntmps237 (AF Lm AH) ?_;intro w0 K O0 ρ0 a t u;simp only[A6];repeat'(first|exact trivial|apply eS rfl|apply AB|refine rX a ?_ ?_|refine rC ?_ ?_<;>intro c<;>try(cases c;done))
 .exact p8
 refine AI (ι:=Unit) (λs=>⟨[(0,.sr 1000000 Av 0 l.length),(1,.p T3 (0:Int)),(2,.p T3 (l.length:Int)),(3,.fn 192),(9,.p (.int .i64) (1:Int)),(10,.p (.int .i64) (0:Int))],[(1000000,.arr 106 Av l)]⟩) (λs=>0) () (AC [(1000000,.nm 1000000)] rfl rfl ?_ ?_) (λs=>?_)
 .first|exact eN|refine eM ?_
 .first|exact eN|refine eM ?_
  rfl
 repeat'(first|exact trivial|apply eS rfl|apply AB|refine rX a ?_ ?_)
 refine rC ?_ ?_<;>intro c
 .repeat'(first|exact trivial|apply eS rfl|apply AB|refine rX a ?_ ?_)
  refine AI (ι:={k:Nat//1<=k/\k<=l.length}) (λs=>⟨[(0,.sr 1000000 Av 0 l.length),(1,.p T3 (0:Int)),(2,.p T3 (l.length:Int)),(3,.fn 192),(9,.p (.int .i64) (s.1:Int)),(10,.p (.int .i64) (0:Int))],[(1000000,.arr 106 Av l)]⟩) (λs=>l.length-s.1) ⟨1,OR _,n0⟩ (AC [(1000000,.nm 1000000)] rfl rfl ?_ ?_) (λs=>?_)
  .first|exact eN|refine eM ?_
  .first|exact eN|refine eM ?_
   rfl
  obtain⟨k,e,f⟩:=s;simp only at e f ⊢;have d:((k:Int)-1).toNat=k-1:=by omega
  repeat'(first|exact trivial|apply eS rfl|apply AB|refine rX a ?_ ?_)
  .dsimp only[Ty.den];exact⟨λ_=>by omega,λ_=>by omega,λ_=>by omega⟩
  refine Ww (by simp only[go_sem,Nat.reduceEqDiff,reduceCtorEq,Nat.reduceAdd,Nat.reduceSub,Nat.reduceMul,Nat.reduceLeDiff,Nat.reduceLT,Int.reduceLE,Int.reduceToNat,Int.reduceNeg,↓reduceIte];rfl) ?_ ?_
  .intro b;simp only[As,NO,SD,SF]at b;obtain⟨h1,q⟩:=b;repeat'(first|exact trivial|apply eS rfl|apply AB|refine rX a ?_ ?_)
   .exact p8
   refine⟨⟨k+1,by omega,by omega⟩,by simp only;omega,AC [(1000000,.nm 1000000)] rfl rfl ?_ ?_⟩
   .first|exact eN|refine eM ?_
   first|exact eN|refine eM ?_
  intro b;rw[d]at b;have g:k=l.length:=by
   refine IF λhn=>?_;have m:=A44 o (i:=k-1) (j:=k) O1 O1;simp only[ACS,SF,AD3,NO]at b;rcases b with h|h
   .omega
   exact sC m h
  subst g;clear b;repeat'(first|exact trivial|apply eS rfl|apply AB|refine rX a ?_ ?_|refine rC ?_ ?_<;>intro c<;>try(cases c;done))
  exact fM a [.tmp 8] (.p .bool true) eT ⟨rfl,rfl⟩
 exfalso;simp at c
theorem A79 (l:List (Int×Int)) (v:l.length<=200) (nd:NdA l) (u:l.length<=12\/NN l) (c:Int) (m:13<=l.length->c≠0):Bb Tryz.prog 229 [.sr 1000000 Av 0 l.length,.p T3 (0:Int),.p T3 (l.length:Int),.p T3 c,.fn 192] [(1000000,.arr 106 Av l)] [1000000] (λres t=>res=.raw (.tuple #[])/\t=[(1000000,.arr 106 Av (AU l))]):=by
 refine OJ [0,1,2,3,4,10,11,12,13,14,15,16,17,18,19,20,25,32,39,56,75,80,97,125] [] [] Tryz.func229 Tryz.ntmps229 AH ?_;intro w0 K O0 ρ0 a w x;simp only[A6];repeat'(first|exact trivial|apply eS rfl|apply AB|refine rX a ?_ ?_)
 refine AI (ι:=Unit) (λs=>⟨[(0,.sr 1000000 Av 0 l.length),(1,.p T3 (0:Int)),(2,.p T3 (l.length:Int)),(3,.p T3 c),(4,.fn 192),(10,.p .bool true),(11,.p .bool true)],[(1000000,.arr 106 Av l)]⟩) (λs=>0) () (AC [(1000000,.nm 1000000)] rfl rfl ?_ ?_) (λs=>?_)
 .first|exact eN|refine eM ?_
 .first|exact eN|refine eM ?_
 repeat'(first|exact trivial|apply eS rfl|apply AB|refine rX a ?_ ?_)
 .exact p8
 refine rC ?_ ?_<;>intro b
 .have key:=A73 l O1 (A9y nd) 0 l.length O1 (OR _);rw[show ((0:Nat):Int)=0 from rfl]at key;repeat'(first|exact trivial|apply eS rfl|apply AB|refine rX a ?_ ?_)
  refine cP 4 a ?_ ?_
  .trivial
  refine rM a (key) [(1000000,.nm 1000000)] [] ?_ ?_ ?_
  .first|exact eN|refine eM ?_
  .first|exact eN|refine eM ?_
  rintro _ _ ⟨rfl,r,rfl,n,o⟩;have h:=sB nd n.perm o;subst h;have y:=CX l;refine⟨[(1000000,.nm 1000000)],.raw (.tuple #[]),[(1000000,.arr 106 Av (AU l))],rfl,rfl,?_,?_,rfl,rfl,Eq ?_⟩
  .first|exact eN|refine eM ?_
  .first|exact eN|refine eM ?_
  repeat'(first|exact trivial|apply eS rfl|apply AB|refine rX a ?_ ?_|refine rC ?_ ?_<;>intro b<;>try(cases b;done))
  exact fM a [] (.raw (.tuple #[])) rfl ⟨rfl,rfl⟩
 have i:13<=l.length:=by omega
 have hs:NN l:=u.resolve_left O1;have k:=m i;rw[GE hs];repeat'(first|exact trivial|apply eS rfl|apply AB|refine rX a ?_ ?_)
 refine rC (λd=>?_) (λd=>?_)
 .exact absurd d k
 have key:=A77 l O1 hs 0 l.length O1 (OR _);rw[show ((0:Nat):Int)=0 from rfl]at key;have q:=A78 l O1 hs O1;repeat'(first|exact trivial|apply eS rfl|apply AB|refine rX a ?_ ?_)
 refine rC (λe=>?_) (λe=>?_)
 .cases e
 repeat'(first|exact trivial|apply eS rfl|apply AB|refine rX a ?_ ?_)
 refine cP 4 a ?_ ?_
 .trivial
 refine rM a (key) [(1000000,.nm 1000000)] [] ?_ ?_ ?_
 .first|exact eN|refine eM ?_
 .first|exact eN|refine eM ?_
 rintro _ _ ⟨⟨j,rfl⟩,rfl⟩;refine⟨[(1000000,.nm 1000000)],.tup [.p T3 (j:Int),.p T3 (1:Int)],[(1000000,.arr 106 Av l)],rfl,rfl,?_,?_,rfl,rfl,?_⟩
 .first|exact eN|refine eM ?_
 .first|exact eN|refine eM ?_
 refine rL a ?_ ?_
 .trivial
 repeat'(first|exact trivial|apply eS rfl|apply AB|refine rX a ?_ ?_)
 refine rC (λf=>?_) (λf=>?_)
 .exact absurd f dg
 repeat'(first|exact trivial|apply eS rfl|apply AB|refine rX a ?_ ?_)
 refine rC (λg=>?_) (λg=>?_)
 .repeat'(first|exact trivial|apply eS rfl|apply AB|refine rX a ?_ ?_)
  refine cP 4 a ?_ ?_
  .trivial
  refine rM a (q) [(1000000,.nm 1000000)] [] ?_ ?_ ?_
  .first|exact eN|refine eM ?_
  .first|exact eN|refine eM ?_
  rintro _ _ ⟨rfl,rfl⟩;refine⟨[(1000000,.nm 1000000)],.p .bool true,[(1000000,.arr 106 Av l)],rfl,rfl,?_,?_,rfl,rfl,Eq ?_⟩
  .first|exact eN|refine eM ?_
  .first|exact eN|refine eM ?_
  repeat'(first|exact trivial|apply eS rfl|apply AB|refine rX a ?_ ?_|refine rC ?_ ?_<;>intro b<;>try(cases b;done))
  exact fM a [] (.raw (.tuple #[])) rfl ⟨rfl,rfl⟩
 exact absurd g dg
end
theorem YK {L:Go.Loop} (h1:L.state=.ready) (a:L.pending=none):{ { L with state:=.busy } with state:=.ready,pending:=none }=L:=by
 cases L;simp_all
theorem bP (l:List (Int×Int)):Bb Tryz.prog 191 [.p Cl l] [] [] (λres b=>res=.clo 216 [1]/\b=[(1,.box 91 false [.p Cl l])]):=by
 refine OJ [0,1,2] [] [] Tryz.func191 Tryz.ntmps191 AH ?_;intro w0 K O0 ρ0 a c d;simp only[A6];repeat'(first|exact trivial|apply eS rfl|refine rX a ?_ ?_)
 exact fM a [.tmp 2] (.clo 216 [1]) eT ⟨rfl,rfl⟩
def CV (l:List (Int×Int)) (L:Go.Loop) (a:Array Value) (i:Nat):List (Nat×Obj):=[(1,.box 91 false [.p Cl l]),(101,.loop L),(102,.frame a [(2,.bp 2 [] 0),(6,.clo 216 [1])]),(2,.box 91 false [.sr 7 Av 0 i]),(7,.arr 106 Av (l.take i))]
theorem sD (l:List (Int×Int)) (g:l.length<=100000) (L:Go.Loop) (b:Array Value) (f:∀i,i<l.length->aE Tryz.prog 101 [.p Av (l.getD i (0,0))] (CV l L b i) [1,101,102,2] (λres e=>res=.p .bool true/\e=CV l L b (i+1))) :
  Bb Tryz.prog 216 [.yl 101,.bp 1 [] 0] (CV l L b 0) [1,101,102,2] (λres e=>res=.raw (.tuple #[])/\e=CV l L b l.length):=by
 refine OJ [0,1,4,5,6,7,8,14] [] [] Tryz.func216 Tryz.ntmps216 AH ?_;intro w0 K O0 ρ0 a h j;simp only[A6,CV];repeat'(first|exact trivial|apply eS rfl|refine rX a ?_ ?_)
 refine AI (ι:={i:Nat//i<=l.length}) (λi=>⟨[(0,.yl 101),(1,.bp 1 [] 0),(5,.p Cl l),(6,.p (.int .i64) (l.length:Int)),(7,.p (.int .i64) (i.1:Int))],CV l L b i.1⟩) (λi=>l.length-i.1) ⟨0,by omega⟩ (AC [(1,.nm 1),(101,.nm 101),(102,.nm 102),(2,.nm 2),(7,.nm 7)] rfl rfl ?_ ?_) (λi=>?_)
 .simp only[CV];exact eN
 .exact eN
 obtain⟨i,hi⟩:=i;simp only[CV];repeat'(first|exact trivial|apply eS rfl|refine rX a ?_ ?_|refine rC ?_ ?_<;>intro c<;>try(cases c;done))
 .exact eV
 .have d:i<l.length:=by exact eV
  refine cP 2 a ?_ ?_
  .trivial
  refine rY 101 101 a (f i d) [(1,.nm 1),(101,.nm 101),(102,.nm 102),(2,.nm 2),(7,.nm 7)] [7] ?_ ?_ ?_
  .exact eN
  .simp only[CV];exact eN
  rintro _ _ ⟨rfl,rfl⟩;refine⟨[(1,.nm 1),(101,.nm 101),(102,.nm 102),(2,.nm 2),(7,.nm 7)],.p .bool true,CV l L b (i+1),rfl,rfl,?_,?_,rfl,rfl,?_⟩
  .simp only[CV];exact eN
  .exact eN
  simp only[CV];refine Ha [0,1,5,6,7,14] a (by simp only[go_sem,Nat.reduceEqDiff,reduceCtorEq,Nat.reduceAdd,Nat.reduceSub,Nat.reduceMul,Nat.reduceLeDiff,Nat.reduceLT,Int.reduceLE,Int.reduceToNat,Int.reduceNeg,↓reduceIte];rfl) ?_ ?_
  .trivial
  repeat'(first|apply eS rfl|apply AB|refine rX a ?_ ?_|refine rC ?_ ?_<;>intro c<;>try(cases c;done))
  .exact eV
  refine⟨⟨i+1,by omega⟩,by simp only;omega,AC [(1,.nm 1),(101,.nm 101),(102,.nm 102),(2,.nm 2),(7,.nm 7)] rfl rfl ?_ ?_⟩
  .simp only[CV];exact eN
  exact eN
 have d:i=l.length:=by exact eV
 subst d;refine fM a [] (.raw (.tuple #[])) rfl ⟨rfl,?_⟩;simp only[CV,R6]
theorem gF (l:List (Int×Int)) (n:l.length<=100000):Bb Tryz.prog 228 [.raw (.slice none 0 0),.clo 216 [1]] [(1,.box 91 false [.p Cl l])] [] (λres q=>res=.sr 7 Av 0 l.length/\q=[(7,.arr 106 Av l)]):=by
 refine fKR [0,1,2,4,5,6,7] [] [] Tryz.func228 Tryz.ntmps228 AH ?_;intro w0 K O0 ρ0 a t u;simp only[A6];repeat'(first|exact trivial|apply eS rfl|refine rX a ?_ ?_)
 refine kF a rfl rfl (by simp only[go_sem,Nat.reduceEqDiff,reduceCtorEq,Nat.reduceAdd,Nat.reduceSub,Nat.reduceMul,Nat.reduceLeDiff,Nat.reduceLT,Int.reduceLE,Int.reduceToNat,Int.reduceNeg,↓reduceIte];rfl) 101 103 102 rfl rfl rfl rfl ?_;intro L c d f g h j k o;refine⟨_,CV l L c 0,[1,101,102,2],_,[(1,.nm 1),(101,.nm 101),(102,.nm 102),(2,.nm 2),(7,.nil)],[],sD l n L c ?_,rfl,rfl,?_,?_,rfl,?_⟩
 .intro i hi;refine kD (fr:=102) rfl rfl d h j k g o rfl (by kernel_rfl) sc rfl rfl (by kernel_rfl) (by kernel_rfl) (tyTab_ok [] [0,1,2,4,5,6,7]) AH ?_;intro y r s z x a v w m;simp only[CV,Ib];repeat'(first|exact trivial|apply AB|refine rX a ?_ ?_)
  refine⟨rfl,?_⟩;repeat'(first|apply eS rfl|refine rX a ?_ ?_)
  .simp only[AN];omega
  have e:List.take i (List.take i l)++[((l.getD i (0,0)).1,(l.getD i (0,0)).2)]=l.take (i+1):=by
   rw[AY l (0,0) hi,An (ADg (by rw[OF];omega):(l.take i).length<=i)]
  refine Ev.ent (σ':=⟨[],[(1,.box 91 false [.p Cl l]),(101,.loop { L with state:=.busy }),(102,.frame c [(2,.bp 2 [] 0),(6,.clo 216 [1])]),(2,.box 91 false [.sr 7 Av 0 (i+1)]),(7,.arr 106 Av (l.take (i+1)))]⟩) ?_ (AC [(1,.nm 1),(101,.nm 101),(102,.nm 102),(2,.nm 2),(7,.nm 7)] rfl rfl ?_ ?_)
  .refine So a (yn:=101) rfl rfl sc m ⟨rfl,?_⟩;simp only[CV,go_sem,Nat.reduceEqDiff,reduceCtorEq,Nat.reduceAdd,Nat.reduceSub,Nat.reduceMul,Nat.reduceLeDiff,Nat.reduceLT,Int.reduceLE,Int.reduceToNat,Int.reduceNeg,↓reduceIte,YK d f]
  .refine eM ?_;exact e
  exact eN
 .simp only[Bd];exact eN
 .simp only[Bd,CV];exact eN
 rintro _ _ ⟨rfl,rfl⟩;refine⟨[(1,.nm 1),(101,.nm 101),(102,.nm 102),(2,.nm 2),(7,.nm 7)],CV l L c l.length,L,rfl,rfl,?_,rfl,rfl,rfl,by rw[d];rfl,?_⟩
 .simp only[CV];exact eN
 intro b;rw[f];simp only[EvJ,CV,Bd,go_sem,Nat.reduceEqDiff,reduceCtorEq,Nat.reduceAdd,Nat.reduceSub,Nat.reduceMul,Nat.reduceLeDiff,Nat.reduceLT,Int.reduceLE,Int.reduceToNat,Int.reduceNeg,↓reduceIte];replace a:=OI (dn:=103) (b:=b) a;repeat'(first|exact trivial|apply eS rfl|refine rX a ?_ ?_)
 refine Ev.ent (σ':=⟨[(4,.sr 7 Av 0 l.length)],[(7,.arr 106 Av l),(103,.dfr)]⟩) ?_ (AC [(7,.nm 7),(103,.nm 103)] rfl rfl ?_ ?_)
 .exact Qx a [.tmp 4] rfl (.inl rfl) rfl rfl (.sr 7 Av 0 l.length) eT ⟨rfl,by simp only[go_sem,Nat.reduceEqDiff,reduceCtorEq,Nat.reduceAdd,Nat.reduceSub,Nat.reduceMul,Nat.reduceLeDiff,Nat.reduceLT,Int.reduceLE,Int.reduceToNat,Int.reduceNeg,↓reduceIte]⟩
 .exact eN
 exact eN
theorem sE (l:List (Int×Int)) (b:l.length<=100000):Bb Tryz.prog 214 [.clo 216 [1]] [(1,.box 91 false [.p Cl l])] [] (λres c=>res=.sr 7 Av 0 l.length/\c=[(7,.arr 106 Av l)]):=by
 refine OJ [0,2] [] [] Tryz.func214 Tryz.ntmps214 AH ?_;intro w0 K O0 ρ0 a d e;simp only[A6];repeat'(first|exact trivial|apply eS rfl|refine rX a ?_ ?_)
 refine cP 1 a ?_ ?_
 .trivial
 refine rM a (gF l b) [(1,.nm 1)] [1] ?_ ?_ ?_
 .exact eN
 .exact eN
 rintro _ _ ⟨rfl,rfl⟩;refine⟨[(7,.nm 7)],.sr 7 Av 0 l.length,[(7,.arr 106 Av l)],rfl,rfl,?_,?_,rfl,rfl,?_⟩
 .exact eN
 .exact eN
 refine Ha [2] a (by simp only[go_sem,Nat.reduceEqDiff,reduceCtorEq,Nat.reduceAdd,Nat.reduceSub,Nat.reduceMul,Nat.reduceLeDiff,Nat.reduceLT,Int.reduceLE,Int.reduceToNat,Int.reduceNeg,↓reduceIte];rfl) ?_ ?_
 .trivial
 repeat' apply eS rfl
 exact fM a [.tmp 2] (.sr 7 Av 0 l.length) eT ⟨rfl,rfl⟩
theorem A45 (x:Int) (h0:0<=x) (h1:x<256):Bb Tryz.prog 241 [.p (.int .u64) x] [] [] (λres g=>(∃n:Int,res=.p T3 n/\(13<=x->n≠0))/\g=[]):=by
 refine OJ [0,2,4,8,14] [] [] Tryz.func241 Tryz.ntmps241 AH ?_;intro w0 K O0 ρ0 a i j;simp only[A6];repeat'(first|exact trivial|apply eS rfl|refine rX a ?_ ?_|refine rC ?_ ?_<;>intro b<;>try(cases b;done))
 all_goals first|(exfalso;omega)|skip
 refine M2 [0,2] a rfl (by simp only[go_sem,Nat.reduceEqDiff,reduceCtorEq,Nat.reduceAdd,Nat.reduceSub,Nat.reduceMul,Nat.reduceLeDiff,Nat.reduceLT,Int.reduceLE,Int.reduceToNat,Int.reduceNeg,↓reduceIte,ByteArray.size,List.size_toArray,AN];rfl) ?_ ?_
 .have hu:∀u:UInt8,((u.toNat:Nat):Int)<=255:=λu=>by have:=u.toNat_lt;omega
  refine⟨⟨h0,by omega⟩,⟨h0,?_⟩,⟨?_,?_⟩,?_,?_⟩
  .have c:x<((256:Nat):Int):=h1;exact c
  .exact ACu dg (Tw _)
  .exact ACu (hu _) dg
  .rw[Int.zero_add];exact ACu dg (Tw _)
  rw[Int.zero_add];exact ACu (hu _) dg
 repeat' apply eS rfl
 refine fM a [.tmp 2] (.p T3 _) (by simp only[Uc,yX,Sj,Z4,JJ,LK,Ju,go_sem,Nat.reduceEqDiff,reduceCtorEq,Nat.reduceAdd,Nat.reduceSub,Nat.reduceMul,Nat.reduceLeDiff,Nat.reduceLT,Int.reduceLE,Int.reduceToNat,Int.reduceNeg,↓reduceIte];rfl) ⟨⟨_,rfl,λh=>?_⟩,rfl⟩;rw[Int.zero_add];intro e;replace e:=ADy e;have d:x.toNat<256:=by omega
 have f:13<=x.toNat:=by omega
 generalize x.toNat=k at *;clear b;exact absurd e (by
  clear e;revert f;revert d;revert k;decide)
theorem A9A (x:Int) (h0:0<=x) (h1:x<256):Bb Tryz.prog 230 [.p (.int .u64) x] [] [] (λres d=>(∃n:Int,res=.p T3 n/\(13<=x->n≠0))/\d=[]):=by
 refine OJ [0,2] [] [] Tryz.func230 Tryz.ntmps230 AH ?_;intro w0 K O0 ρ0 a e f;simp only[A6];repeat'(first|exact trivial|apply eS rfl|refine rX a ?_ ?_|refine rC ?_ ?_<;>intro b<;>try(cases b;done))
 refine cP 1 a ?_ ?_
 .trivial
 refine rM a (A45 x h0 h1) [] [] ?_ ?_ ?_
 .exact eN
 .exact eN
 rintro _ _ ⟨⟨n,rfl,c⟩,rfl⟩;refine⟨[],.p T3 n,[],rfl,rfl,?_,?_,rfl,rfl,?_⟩
 .exact eN
 .exact eN
 refine Ha [2] a (by simp only[go_sem,Nat.reduceEqDiff,reduceCtorEq,Nat.reduceAdd,Nat.reduceSub,Nat.reduceMul,Nat.reduceLeDiff,Nat.reduceLT,Int.reduceLE,Int.reduceToNat,Int.reduceNeg,↓reduceIte];rfl) ?_ ?_
 .trivial
 repeat' apply eS rfl
 exact fM a [.tmp 2] (.p T3 n) eT ⟨⟨_,rfl,c⟩,rfl⟩
theorem mB (l:List (Int×Int)) (b:SS l) (hs:NdA l):Bb Tryz.prog 215 [.sr 1000000 Av 0 l.length,.fn 192] [(1000000,.arr 106 Av l)] [1000000] (λres e=>res=.raw (.tuple #[])/\e=[(1000000,.arr 106 Av (AU l))]):=by
 have f:=b.1;refine OJ [0,1,4] [] [] Tryz.func215 Tryz.ntmps215 AH ?_;intro w0 K O0 ρ0 a g h;simp only[A6];repeat'(first|exact trivial|apply eS rfl|refine rX a ?_ ?_)
 refine cP 4 a ?_ ?_
 .exact eV
 refine rM a (A9A (l.length:Int) O1 O1) [] [] ?_ ?_ ?_
 .exact eN
 .exact eN
 rintro _ _ ⟨⟨n,rfl,d⟩,rfl⟩;refine⟨[],.p T3 n,[],rfl,rfl,?_,?_,rfl,rfl,?_⟩
 .exact eN
 .exact eN
 have key:=A79 l b.1 hs b.2 n λq=>d O1;refine Qq a 1 (by simp only[go_sem,Nat.reduceEqDiff,reduceCtorEq,Nat.reduceAdd,Nat.reduceSub,Nat.reduceMul,Nat.reduceLeDiff,Nat.reduceLT,Int.reduceLE,Int.reduceToNat,Int.reduceNeg,↓reduceIte];rfl) ?_ ?_
 .trivial
 refine rM a (key) [(1000000,.nm 1000000)] [] ?_ ?_ ?_
 .exact eN
 .exact eN
 rintro _ _ ⟨rfl,rfl⟩;have i:=CX l;refine⟨[(1000000,.nm 1000000)],.raw (.tuple #[]),[(1000000,.arr 106 Av (AU l))],rfl,rfl,?_,?_,rfl,rfl,Eq ?_⟩
 .exact eN
 .exact eN
 repeat'(first|exact trivial|apply eS rfl|apply AB|refine rX a ?_ ?_|refine rC ?_ ?_<;>intro c<;>try(cases c;done))
 exact fM a [] (.raw (.tuple #[])) rfl ⟨rfl,rfl⟩
theorem O8 (l:List (Int×Int)) (b:SS l) (hs:NdA l):Bb Tryz.prog 190 [.clo 216 [1],.fn 192] [(1,.box 91 false [.p Cl l])] [] (λres c=>res=.sr 7 Av 0 l.length/\c=[(7,.arr 106 Av (AU l))]):=by
 have g:=CX l;have d:=b.1;refine OJ [0,1,4,5] [] [] Tryz.func190 Tryz.ntmps190 AH ?_;intro w0 K O0 ρ0 a e f;simp only[A6];repeat'(first|exact trivial|apply eS rfl|refine rX a ?_ ?_)
 refine cP 1 a ?_ ?_
 .trivial
 refine rM a (sE l O1) [(1,.nm 1)] [1] ?_ ?_ ?_
 .exact eN
 .exact eN
 rintro _ _ ⟨rfl,rfl⟩;refine⟨[(1000000,.nm 7)],.sr 1000000 Av 0 l.length,[(1000000,.arr 106 Av l)],rfl,rfl,?_,?_,rfl,rfl,?_⟩
 .exact eN
 .exact eN
 refine Ha [1,5] a (by simp only[go_sem,Nat.reduceEqDiff,reduceCtorEq,Nat.reduceAdd,Nat.reduceSub,Nat.reduceMul,Nat.reduceLeDiff,Nat.reduceLT,Int.reduceLE,Int.reduceToNat,Int.reduceNeg,↓reduceIte];rfl) ?_ ?_
 .trivial
 repeat' apply eS rfl
 refine cP 2 a ?_ ?_
 .trivial
 refine rM a (mB l b hs) [(1000000,.nm 1000000)] [] ?_ ?_ ?_
 .exact eN
 .exact eN
 rintro _ _ ⟨rfl,rfl⟩;refine⟨[(1000000,.nm 1000000)],.raw (.tuple #[]),[(1000000,.arr 106 Av (AU l))],rfl,rfl,?_,?_,rfl,rfl,Eq ?_⟩
 .exact eN
 .exact eN
 repeat'(first|exact trivial|apply eS rfl|refine rX a ?_ ?_)
 refine Ev.ent (σ':=⟨[(4,.sr 7 Av 0 l.length)],[(7,.arr 106 Av (AU l))]⟩) ?_ (AC [(7,.nm 1000000)] rfl rfl ?_ ?_)
 .exact fM a [.tmp 4] (.sr 7 Av 0 l.length) eT ⟨rfl,rfl⟩
 .exact eN
 exact eN
end Go.Proofs.YtapkhdkbkodbjaaGreat.Fw
