/- Contracts of functions and plain laws. -/
import Derived.Test.YtglkoagnnnpimaaGreatDoorAZJ
import Derived.Test.YtglkoagnnnpimaaGreatDoorAZI
set_option linter.unusedVariables false
set_option linter.unusedSimpArgs false
namespace Go.Proofs.YtglkoagnnnpimaaGreatDoor.Fw
attribute [local irreducible] Ev
attribute [local go_sem] jR AM List.toList_toArray Bt evG evK VR Ej KP Hk Gd F3 QN KO CL DW Nb C5 Ci frz m3 GJ DJ A6 FU BW AV.frz AV.frzs AV.drp AV.drps AV.names AV.namess aq GK KE KF SR I0 Bo Bw Jp D2 I3 D3 I5 I4 I6 VP QF Gy La FX EJ VQ RE qUn Jq X1 Mc E2 Dv I7 KH Ea SU Cn Eb E3 RF IP NZ E4 NY QH RG ME I8 KI DK Cz E7 Dw H2 DF E5 DG Ec F2 C5 Cq NW RD PJ GY I2 I1 KG Na QK MF Mg Me KK SV Mf KL Y7 QM QL AV.trn AV.trns D1 Cm Obj.trn Jv eL DI Dg DH Ed CP E6 Ab lk Hf GR H0 bin mY XS m5 ST SP zfx AV.cellss mZ zfs pfs AV.cells CD EZ IM FY QJ CE NX Ty.cell1 Iz El Du F0 Hz EY J9 MD NV Fz GX Mb SN VO L4 J8 Y3 dG SQ Hg Cr Gx RV.flat Ty.flat Ty.size St.add upd del Bb Value.oneCell' XQ Ty.dflt Ix Rm IX Rs List.take_succ_cons List.take_zero List.length_cons jU jV Rr Kj N4 IZ Ln A0G Ge Nt Nu Nv Nw Ss Su Nx JJ Xo Option.map_some Option.map_none Option.bind_some Option.getD_some Option.getD_none Option.isNone_none Option.isNone_some Bool.and_true Bool.true_and Bool.and_false Bool.false_and Bool.not_true Bool.not_false if_true if_false List.length_cons List.length_nil and_true true_and and_self List.all_cons List.all_nil List.append_nil List.nil_append List.cons_append List.getElem?_cons_zero List.getElem?_cons_succ List.getElem?_nil List.map_cons List.map_nil List.set_cons_zero List.set_cons_succ List.isEmpty_nil List.isEmpty_cons decide_true decide_false beq_self_eq_true bne_self_eq_false Nat.zero_add Nat.add_zero Nat.sub_zero Int.toNat_natCast Int.toNat_zero Int.toNat_one List.take_length List.length_append List.length_singleton true_or or_true or_self false_or or_false Ty.agg.injEq Ty.slice.injEq Ty.prod.injEq Ty.int.injEq Option.some.injEq beq_iff_eq Kh evMG evMQ opM IA MK B4 Ju Gf Sx Jt H9 JK Ll Kg PT N0 PU Sy Nz Ro Rp Lk AY Ag Op.operands Call.operands List.filterMap_cons List.filterMap_nil List.append_eq Bool.cond_false_right Bool.cond_true_left cond_true cond_false implies_true decide_eq_true_eq beq_true beq_false Bool.or_true Bool.or_false Bool.true_or Bool.false_or Option.isSome_some Array.empty_append List.append_toArray FW Nc E8 Hh Y6 QI Y5 F1 Gq Gp IQ H1 KJ Md XT m4 Gn inB KM Ft GZ KN Am jZ List.drop_zero Dr Hm Zd Ct Mr Cg AV.fgt AV.fgts Obj.fgt Aw Au AY D7 Kl Bp Km List.any_cons List.any_nil j7 eD Zf eF L5 RJ qs List.flatMap_cons List.flatMap_nil List.cons_append tn Zk ML List.take_succ_cons List.drop_succ_cons Zm HA BX tM Pd CG Ca Ai FA KZ Bz matchAVs C0 H8 JG G6 JH
attribute [local go_sem] ty1 ty2 ty3 ty4 ty5 ty9 A43 A44 A45 A46 A47 A48 A49 A4a A4b A4c A4d A4e A4f A4g A4h A4i A4j A4k A4l A4m A4n A4o A4p A4q A4r A4s A4t A4u tW tX tY tZ t4 t5 t6 t7 t8 t9 uA uB uC uD uE uF uG uH uI uJ uK uL uM uN uO uP uQ uR uS uT uU uV uW uX uY uZ u3 u4
set_option maxRecDepth 100000
set_option maxHeartbeats 4000000
variable {k i c f:Nat} {a b:List Int} {o m:List ByteArray} {s x:ByteArray} {l W:List (List Int)} {Z X:Type} {n y:Int} {Y r:List (Int×Int)} {V:Int×Int}
section
def B9 (a b c:Int):Bool:=decide (a<=c)&&decide (c<=b)
def Xy:AX:={ ins:=[.int .u8],pre:=λ_=>True,out:=λ(c,_)=>[.p .bool (B9 48 57 c)] }
attribute [local go_sem] Xy
def fD:AX:={ ins:=[.int .u8],pre:=λ_=>True,out:=λ(c,_)=>[.p .bool (B9 65 90 c)] }
attribute [local go_sem] fD
def fE:AX:={ ins:=[.int .u8],pre:=λ_=>True,out:=λ(c,_)=>[.p .bool (B9 97 122 c)] }
attribute [local go_sem] fE
theorem TW:Ac Tryz.prog 165 Xy:=by
 refine fK [0,2] Tryz.func165 Tryz.ntmps165 AI ?_;rintro w0 O0 ⟨c,u⟩ a - -;simp only[Xy,AM];repeat'(first|exact trivial|apply eS rfl|refine rX a ?_ ?_)
 exact fI a [.tmp 2] (by unfold B9;exact eR)
theorem vB:Ac Tryz.prog 198 fD:=by
 refine fK [0,2] Tryz.func198 Tryz.ntmps198 AI ?_;rintro w0 O0 ⟨c,u⟩ a - -;simp only[fD,AM];repeat'(first|exact trivial|apply eS rfl|refine rX a ?_ ?_)
 exact fI a [.tmp 2] (by unfold B9;exact eR)
theorem vC:Ac Tryz.prog 199 fE:=by
 refine fK [0,2] Tryz.func199 Tryz.ntmps199 AI ?_;rintro w0 O0 ⟨c,u⟩ a - -;simp only[fE,AM];repeat'(first|exact trivial|apply eS rfl|refine rX a ?_ ?_)
 exact fI a [.tmp 2] (by unfold B9;exact eR)
def Mz (c:Int) (a:Bool):Bool:=B9 48 57 c||c==45||a&&B9 65 90 c||!a&&B9 97 122 c
def vD:AX:={ ins:=[.int .u8,.bool],pre:=λ_=>True,out:=λ(c,b,_)=>[.p .bool (Mz c b)] }
attribute [local go_sem] vD
theorem A10:Ac Tryz.prog 188 vD:=by
 refine fK [0,1,4] Tryz.func188 Tryz.ntmps188 (AF TW (AF vB (AF vC AI))) ?_;rintro w0 O0 ⟨c,b,u⟩ a - -;simp only[vD,AM];repeat'(first|exact trivial|apply eS rfl|refine rX a ?_ ?_)
 exact fI a [.tmp 4] (by unfold Mz;exact eR)
abbrev MO (s:ByteArray) (i:Nat):Int:=((s.data.getD i 0).toNat:Int)
def M0 (s:ByteArray):Bool:=decide ((s.size:Int)<1)||decide (32<(s.size:Int))||B9 48 57 (MO s 0)||MO s 0==45
def BJ (s:ByteArray) (a:Bool):Bool:=!M0 s&&(List.range s.size).all λi=>Mz (MO s i) a
def fF:AX:={ ins:=[T9,.bool],pre:=λ_=>True,out:=λ(s,b,_)=>[.p .bool (BJ s b)] }
attribute [local go_sem] fF
theorem Z0:Ac Tryz.prog 174 fF:=by
 refine fK [0,1,4,5,23,27,35] Tryz.func174 Tryz.ntmps174 (AF TW (AF A10 AI)) ?_;rintro w0 O0 ⟨s,b,u⟩ d - -;simp only[fF,AM];repeat'(first|exact trivial|apply eS rfl|refine rX d ?_ ?_|refine rC ?_ ?_<;>intro a<;>try(cases a;done))
 .constructor
  .intro h;simp only[aT,AAa,TO]at h;have:1<=(s.size:Int):=by omega
   exact this
  intro h;simp only[aT,AAa,TO]at h;have:1<=(s.size:Int):=by omega
  exact this
 .have h1:M0 s=true:=by
   unfold M0 MO;simp only[qY,IN,AA3];exact a
  have c:BJ s b=false:=by unfold BJ;rw[h1];rfl
  exact fI d [.tmp 4] (by rw[c];exact eR)
 have h1:M0 s=false:=by
  unfold M0 MO;simp only[AAa,TO,AAP];exact⟨⟨⟨by omega,by omega⟩,a.1.2⟩,a.2⟩
 have g:s.size<=32:=by omega
 refine AJ (ι:={k:Nat//k<=s.size/\((List.range k).all λi=>Mz (MO s i) b)=true}) (λk=>⟨[(0,.p T9 s),(1,.p .bool b),(5,.p (.int .i64) (k.1:Int))],[]⟩) (λk=>s.size-k.1) ⟨0,by simp⟩ (eW []) (λk=>?_)
 obtain⟨k,hk,f⟩:=k;repeat'(first|exact trivial|apply eS rfl|apply AB|refine rX d ?_ ?_|refine rC ?_ ?_<;>intro a<;>try(cases a;done))
 .exact a
 .have e:k<s.size:=by omega
  have c:BJ s b=false:=by
   unfold BJ;rw[AAI];refine .inr (ABn.2 λh=>?_);have:=No.1 h k (oN.2 e);rw[show Mz (MO s k) b=false from a]at this;cases this
  exact fI d [.tmp 4] (by rw[c];exact eR)
 .omega
 .have e:k<s.size:=by omega
  refine⟨⟨k+1,by omega,?_⟩,by simp only;omega,AC [] rfl rfl ?_ ?_⟩
  .rw[AAh,ABM,f];rw[AC4,AB5,List.all_nil,Bool.and_true];exact a
  .exact eN
  exact eN
 have e:k=s.size:=by omega
 subst e;have c:BJ s b=true:=by unfold BJ;rw[h1,f];rfl
 exact fI d [.tmp 4] (by rw[c];exact eR)
def WH:AX:={ ins:=[T9],pre:=λ_=>True,out:=λ(s,_)=>[.p .bool (BJ s false)] }
def OA:AX:={ ins:=[T9],pre:=λ_=>True,out:=λ(s,_)=>[.p .bool (BJ s true)] }
theorem kM:Ac Tryz.prog 136 WH:=by
 refine fK [0,2] Tryz.func136 Tryz.ntmps136 (AF Z0 AI) ?_;rintro w0 O0 ⟨s,u⟩ a - -;simp only[WH,AM];repeat'(first|exact trivial|apply eS rfl|refine rX a ?_ ?_)
 exact fI a [.tmp 2]
theorem TX:Ac Tryz.prog 146 OA:=by
 refine fK [0,2] Tryz.func146 Tryz.ntmps146 (AF Z0 AI) ?_;rintro w0 O0 ⟨s,u⟩ a - -;simp only[OA,AM];repeat'(first|exact trivial|apply eS rfl|refine rX a ?_ ?_)
 exact fI a [.tmp 2]
end
section
theorem Lr {α:Type} (l:List α) (d:α) (p:α->Bool) (h:k<l.length):(l.take (k+1)).any p=((l.take k).any p||p (l.getD k d)):=by
 rw[A8 l d h,ABL];simp
theorem Ho {α:Type} (l:List α) (d:α) (p:α->Bool) (h:k<l.length) (a:p (l.getD k d)=true):l.any p=true :=
 VK.2 ⟨_,AG l d h,a⟩
def AU (l:List ByteArray) (s:ByteArray):Bool:=l.any λx=>AL x s
def IC:AX:={ ins:=[CQ,T9],pre:=λ_=>True,out:=λ(l,n,_)=>[.p .bool (AU l n)],lend:=true }
attribute [local go_sem] IC
theorem F7:Ac Tryz.prog 158 IC:=by
 refine fK [0,1,4,5,9,17] Tryz.func158 Tryz.ntmps158 AI ?_;rintro w0 O0 ⟨l,n,u⟩ a ⟨⟨e,-⟩,-⟩ -;simp only[AO]at e;simp only[IC,AM];repeat'(first|exact trivial|apply eS rfl|refine rX a ?_ ?_)
 refine AJ (ι:={k:Nat//k<=l.length/\(l.take k).any (λx=>AL x n)=false}) (λk=>⟨[(0,.p CQ l),(1,.p T9 n),(5,.p (.int .i64) (k.1:Int))],[]⟩) (λk=>l.length-k.1) ⟨0,by simp⟩ (eW []) (λk=>?_)
 obtain⟨k,hk,c⟩:=k;repeat'(first|exact trivial|apply eS rfl|apply AB|refine rX a ?_ ?_|refine rC ?_ ?_<;>intro b<;>try(cases b;done))
 .exact eV
 .have d:k<l.length:=by exact eV
  have h1:AU l n=true:=Ho l ByteArray.empty _ d b;exact fI a [.tmp 4] (by rw[h1];exact eR)
 .exact eV
 .have d:k<l.length:=by exact eV
  refine⟨⟨k+1,by exact eV,?_⟩,by simp only;exact eV,AC [] rfl rfl ?_ ?_⟩
  .rw[Lr l ByteArray.empty _ d,c];exact b
  .exact eN
  exact eN
 have hk:l.take k=l:=By (by exact eV);rw[hk]at c;have h1:AU l n=false:=c;exact fI a [.tmp 4] (by rw[h1];exact eR)
def VL (l:List ByteArray) (s:ByteArray):Nat:=(l.takeWhile λx=>CA x s).length
theorem fG {α:Type} (p:α->Bool) (d:α):∀(l:List α) (k:Nat),k<=(l.takeWhile p).length->((k<l.length/\p (l.getD k d)=true)↔k+1<=(l.takeWhile p).length)
 | [],k,h=>by simp
 | x :: l,k,h=>by
  by_cases a:p x=true
  .rw[List.takeWhile_cons,At a]at h ⊢;cases k with
   | zero=>simp[a]
   | succ k =>
    have:=fG p d l k (by simpa using h);simpa using this
  rw[List.takeWhile_cons,As a]at h ⊢;have hk:k=0:=by simpa using h
  subst hk;simp[a]
theorem A34 {α:Type} (p:α->Bool) (l:List α):(l.takeWhile p).length<=l.length:=(List.takeWhile_sublist p).length_le
def DZ (l:List ByteArray) (s:ByteArray):List ByteArray :=
 if (decide (VL l s<l.length)&&AL (l.getD (VL l s) ByteArray.empty) s)=true then l else l.take (VL l s)++[s]++l.drop (VL l s)
def Xz:AX:={ ins:=[CQ,T9],pre:=λ(l,_,_)=>List.length l<=100000,out:=λ(l,n,_)=>[.p CQ (DZ l n)] }
attribute [local go_sem] Xz
theorem Ph:Ac Tryz.prog 148 Xz:=by
 refine fK [0,1,4,5,6,18,32] Tryz.func148 Tryz.ntmps148 AI ?_;rintro w0 O0 ⟨l,n,u⟩ c-m;have m:l.length<=100000:=m;simp only[Xz,AM];repeat'(first|exact trivial|apply eS rfl|refine rX c ?_ ?_)
 refine AJ (ι:={k:Nat//k<=VL l n}) (λk=>⟨[(0,.p CQ l),(1,.p T9 n),(5,.raw (.slice none 0 0)),(6,.p (.int .i64) (k.1:Int))],[]⟩) (λk=>l.length-k.1) ⟨0,by simp⟩ (eW []) (λk=>?_)
 obtain⟨k,hk⟩:=k;have d:=A34 (λx=>CA x n) l;have i:=fG (λx=>CA x n) ByteArray.empty l k hk;simp only;repeat'(first|exact trivial|apply eS rfl|apply AB|refine rX c ?_ ?_|refine rC ?_ ?_<;>intro a<;>try(cases a;done))
 .exact λh=>h
 .have h1:k<l.length/\CA (l.getD k ByteArray.empty) n=true:=⟨by exact eV,a.2⟩;exact eV
 .have h1:k<l.length/\CA (l.getD k ByteArray.empty) n=true:=⟨by exact eV,a.2⟩;exact⟨⟨k+1,i.1 h1⟩,by simp only;omega,eW []⟩
 .exact λh=>h
 .rename_i f;have g:k=VL l n:=by
   refine ABH hk (Nat.le_of_not_lt λh=>?_);have:=i.2 h;rw[f (iN.2 this.1)]at this;cases this.2
  have e:DZ l n=l:=by
   unfold DZ;rw[<-g,At];rw[AT,IN];exact⟨iN.1 a.1,a.2⟩
  exact fI c [.tmp 4] (by rw[e];exact eR)
 .have j:=AAr k l;have b:k<=l.length:=gO hk d;simp only[AO];exact⟨AAe.2 b,by dsimp only[Ty.den]at *;omega⟩
 .have j:=AAr k l;have b:k<=l.length:=gO hk d;simp only[AO];dsimp only[Ty.den]at *;omega
 .have j:=AAr k l;have b:k<=l.length:=gO hk d;have q:(l.drop k).length<=l.length:=by rw[AB3];omega
  simp only[AO];exact⟨AAe.2 b,by dsimp only[Ty.den]at *;omega⟩
 rename_i f;have g:k=VL l n:=by
  refine ABH hk (Nat.le_of_not_lt λh=>?_);have:=i.2 h;rw[f (iN.2 this.1)]at this;cases this.2
 have e:DZ l n=l.take k++[n]++l.drop k:=by
  unfold DZ;rw[<-g,As];rw[AT,IN];intro h;rw[a (iN.2 h.1)]at h;cases h.2
 have b:k<=l.length:=gO hk d;have o:(l.take k).length+1+(l.drop k).length=(l.take k++[n]++l.drop k).length:=by simp only[If,nO]
 rw[o,<-e];refine C8 [38] ?_;exact fI c [.tmp 4]
end
section
def FN (b:List Int) (i:Int):Int:=if i<b.length then b.getD i.toNat 0 else 0
def Z1:AX:={ ins:=[BS,T3],pre:=λ(_,i,_)=>(0:Int)<=i,out:=λ(b,i,_)=>[.p Pf (FN b i)],lend:=true }
attribute [local go_sem] Z1
theorem kN:Ac Tryz.prog 166 Z1:=by
 refine fK [0,1,4,8] Tryz.func166 Tryz.ntmps166 AI ?_;rintro w0 O0 ⟨b,i,u⟩ c-hi;simp only[Z1,AM];repeat'(first|exact trivial|apply eS rfl|refine rX c ?_ ?_|refine rC ?_ ?_<;>intro a<;>try(cases a;done))
 .exact⟨hi,a⟩
 .have h1:FN b i=b.getD i.toNat 0:=by unfold FN;rw[At a]
  exact fI c [.tmp 4] (by rw[h1];exact eR)
 have h1:FN b i=0:=by unfold FN;rw[As (AAS.2 a)]
 exact fI c [.tmp 4] (by rw[h1];exact eR)
def CR (b:List Int):Nat->Nat
 | 0=>0
 | n+1=>if b.getD n 0=0 then CR b n else n+1
def BK (b:List Int):List Int:=b.take (CR b b.length)
theorem TY (b:List Int):∀n,CR b n<=n
 | 0=>OS _
 | n+1=>by
  unfold CR;split
  .exact Nat.le_succ_of_le (TY b n)
  exact OS _
def JQ:AX:={ ins:=[BS],pre:=λ(b,_)=>List.length b<=100000,out:=λ(b,_)=>[.p BS (BK b)] }
attribute [local go_sem] JQ
theorem Ls:Ac Tryz.prog 151 JQ:=by
 refine fK [0,2,3,15] Tryz.func151 Tryz.ntmps151 AI ?_;rintro w0 O0 ⟨b,u⟩ d-f;have f:b.length<=100000:=f;simp only[JQ,AM];repeat'(first|exact trivial|apply eS rfl|refine rX d ?_ ?_)
 refine AJ (ι:={n:Nat//n<=b.length/\CR b n=CR b b.length}) (λn=>⟨[(0,.p BS b),(3,.p (.int .i64) (n.1:Int))],[]⟩) (λn=>n.1) ⟨b.length,OS _,rfl⟩ (eW []) (λn=>?_)
 obtain⟨n,hn,g⟩:=n;simp only;repeat'(first|apply eS rfl|apply AB|refine rX d ?_ ?_|refine rC ?_ ?_<;>intro c<;>try(cases c;done))
 .constructor
  .exact eV
  intro h;refine⟨?_,?_⟩<;>exact eV
 .exact eV
 .obtain⟨h1,a⟩:=c;obtain⟨m,rfl⟩:∃m,n=m+1:=⟨n-1,by omega⟩;have e:(((m+1:Nat):Int)-1)=(m:Int):=by omega
  rw[e]at a;have a:b.getD m 0=0:=a;have j:CR b m=CR b b.length:=by
   rw[<-g];show _=if b.getD m 0=0 then CR b m else m+1
   rw[At a]
  refine⟨⟨m,by omega,j⟩,by simp,AC [] rfl rfl ?_ ?_⟩
  .exact eN
  simp only[e];exact eN
 .have k:=AAr n b;simp only[AO];exact⟨AAe.2 hn,by dsimp only[Ty.den]at *;omega⟩
 have i:CR b n=n:=by
  cases n with
  | zero=>rfl
  | succ m =>
   have e:(((m+1:Nat):Int)-1)=(m:Int):=by omega
   rw[e]at c;have a:=c O1;have a:¬b.getD m 0=0:=a;show (if b.getD m 0=0 then CR b m else m+1)=m+1;rw[As a]
 have h1:BK b=b.take n:=by unfold BK;rw[<-g,i]
 rw[<-h1];refine C8 [18] ?_;exact fI d [.tmp 2]
end
section
attribute [local go_sem] Z1 JQ
def vE (w:Int) (r:Int):Bool:=CY .and .u64 (Y4 .u64 w r) 1==1
def RM (b:List Int) (i:Int):Bool:=if (decide (i<0)||decide ((b.length:Int)<=i.tdiv 64))=true then false else vE (b.getD (i.tdiv 64).toNat 0) (i.tmod 64)
def vF:AX:={ ins:=[BS,T3],pre:=λ_=>True,out:=λ(b,i,_)=>[.p .bool (RM b i)],lend:=true }
theorem A4v {w:Int} (h0:0<=w) (r:Int):0<=Y4 .u64 w r/\Y4 .u64 w r<=w:=by
 unfold Y4;have a:(0:Int)<2 ^ (min r.toNat IntKind.u64.bits):=Int.pow_pos dg;rw[Int.fdiv_eq_ediv_of_nonneg _ (Int.le_of_lt a)];exact⟨Int.ediv_nonneg h0 (Int.le_of_lt a),Int.ediv_le_self _ h0⟩
theorem vG:Ac Tryz.prog 162 vF:=by
 refine fK [0,1,4,13] Tryz.func162 Tryz.ntmps162 AI ?_;rintro w0 O0 ⟨b,i,u⟩ d ⟨⟨m,k⟩,e,-⟩ -;have e:HY .i64 i:=e;rw[Nx]at e;have j:0<=i->Int.tdiv i 64=i / 64/\Int.tmod i 64=i % 64:=λh=>⟨AAW h,ABb h⟩;simp only[vF,AM];repeat'(first|exact trivial|apply eS rfl|refine rX d ?_ ?_|refine rC ?_ ?_<;>intro c<;>try(cases c;done))
 .intro h;have h0:0<=i:=by simpa using h
  obtain⟨a,g⟩:=j h0;rw[a];refine⟨by decide,?_,?_⟩<;>exact eV
 .have h1:RM b i=false:=by
   unfold RM;rw[At];rw[qY,IN,IN];exact c
  exact fI d [.tmp 4] (by rw[h1];exact eR)
 .obtain⟨h0,l⟩:=c;obtain⟨a,g⟩:=j h0;rw[a]at l;have f:HY .u64 (b.getD (i / 64).toNat 0):=k _ (AG b 0 (by exact eV));rw[JJ]at f;have hs:=A4v f.1 (i % 64);rw[a,g];refine⟨⟨by decide,by exact eV,by exact eV⟩,⟨by exact eV,by exact eV⟩,⟨by decide,by exact eV,by exact eV⟩,⟨by exact eV,by exact eV⟩,by exact eV,hs.1,AB6 hs.2 f.2⟩
 have h1:RM b i=vE (b.getD (i.tdiv 64).toNat 0) (i.tmod 64):=by
  unfold RM;rw[As];rw[qY,IN,IN];rintro (h|h)<;>omega
 exact fI d [.tmp 4] (by rw[h1];unfold vE;exact eR)
end
section
attribute [local go_sem] Z1 JQ
def Fg (op:BinOp) (a b:List Int) (n:Nat):List Int:=(List.range n).map λi=>CY op .u64 (a.getD i 0) (FN b (i:Int))
theorem D8 (op:BinOp) (a b:List Int) (n:Nat):(Fg op a b n).length=n:=by simp[Fg]
theorem WI (op:BinOp) (a b:List Int) (n:Nat):Fg op a b (n+1)=Fg op a b n++[CY op .u64 (a.getD n 0) (FN b (n:Int))]:=by simp[Fg,AAh]
def Dz (a b:List Int):List Int:=BK (Fg .and a b a.length)
def vH:AX:={ ins:=[BS,BS],pre:=λ(a,_,_)=>List.length a<=100000,out:=λ(a,b,_)=>[.p BS (Dz a b)] }
theorem vI:Ac Tryz.prog 150 vH:=by
 refine fK [0,1,4,5,6,10] Tryz.func150 Tryz.ntmps150 (AF kN (AF Ls AI)) ?_;rintro w0 O0 ⟨a,b,u⟩ c-ha;have ha:a.length<=100000:=ha;simp only[vH,AM];repeat'(first|exact trivial|apply eS rfl|refine rX c ?_ ?_)
 refine AJ (ι:={n:Nat//n<=a.length}) (λn=>⟨[(0,.p BS a),(1,.p BS b),(5,.sr 23 Pf 0 n.1),(6,.p (.int .i64) (n.1:Int))],[(23,.arr 205 Pf (Fg .and a b n.1))]⟩) (λn=>a.length-n.1) ⟨0,Do _⟩ (AC [(23,.nil)] rfl rfl ?_ ?_) (λn=>?_)
 .refine eM ?_;rfl
 .exact eN
 obtain⟨n,hn⟩:=n;have g:=D8 .and a b n;have hs:=WI .and a b n;simp only;repeat'(first|exact trivial|apply eS rfl|apply AB|refine rX c ?_ ?_|refine rC ?_ ?_<;>intro d<;>try(cases d;done))
 .refine⟨d,?_⟩;simp only[AO];dsimp only[Ty.den]at *;omega
 .exact eV
 .have e:n<a.length:=by exact eV
  refine⟨⟨n+1,by omega⟩,by simp only;omega,AC [(23,.nm 23)] rfl rfl ?_ ?_⟩
  .simp only[hs];refine eM ?_;rw[By (by rw[g];exact OS _)]
  exact eN
 have e:n=a.length:=by exact eV
 subst e;refine C8 [23] ?_;have f:(Fg .and a b a.length).take a.length=Fg .and a b a.length:=By (by rw[D8];exact OS _);repeat'(first|apply eS rfl|refine rX c ?_ ?_)
 .rw[f,D8];exact ha
 rw[f];exact fI c [.tmp 4] (by unfold Dz;exact eR)
def Pi (a b:List Int):List Int:=BK (Fg .andNot a b a.length)
def fH:AX:={ ins:=[BS,BS],pre:=λ(a,_,_)=>List.length a<=100000,out:=λ(a,b,_)=>[.p BS (Pi a b)] }
attribute [local go_sem] fH
theorem vJ:Ac Tryz.prog 127 fH:=by
 refine fK [0,1,4,5,6,10] Tryz.func127 Tryz.ntmps127 (AF kN (AF Ls AI)) ?_;rintro w0 O0 ⟨a,b,u⟩ c-ha;have ha:a.length<=100000:=ha;simp only[fH,AM];repeat'(first|exact trivial|apply eS rfl|refine rX c ?_ ?_)
 refine AJ (ι:={n:Nat//n<=a.length}) (λn=>⟨[(0,.p BS a),(1,.p BS b),(5,.sr 23 Pf 0 n.1),(6,.p (.int .i64) (n.1:Int))],[(23,.arr 205 Pf (Fg .andNot a b n.1))]⟩) (λn=>a.length-n.1) ⟨0,Do _⟩ (AC [(23,.nil)] rfl rfl ?_ ?_) (λn=>?_)
 .refine eM ?_;rfl
 .exact eN
 obtain⟨n,hn⟩:=n;have g:=D8 .andNot a b n;have hs:=WI .andNot a b n;simp only;repeat'(first|exact trivial|apply eS rfl|apply AB|refine rX c ?_ ?_|refine rC ?_ ?_<;>intro d<;>try(cases d;done))
 .refine⟨d,?_⟩;simp only[AO];dsimp only[Ty.den]at *;omega
 .exact eV
 .have e:n<a.length:=by exact eV
  refine⟨⟨n+1,by omega⟩,by simp only;omega,AC [(23,.nm 23)] rfl rfl ?_ ?_⟩
  .simp only[hs];refine eM ?_;rw[By (by rw[g];exact OS _)]
  exact eN
 have e:n=a.length:=by exact eV
 subst e;refine C8 [23] ?_;have f:(Fg .andNot a b a.length).take a.length=Fg .andNot a b a.length:=By (by rw[D8];exact OS _);repeat'(first|apply eS rfl|refine rX c ?_ ?_)
 .rw[f,D8];exact ha
 rw[f];exact fI c [.tmp 4] (by unfold Pi;exact eR)
def EL (a b:List Int):Bool:=((Pi a b).length:Int)==0
def OB:AX:={ ins:=[BS,BS],pre:=λ(a,_,_)=>List.length a<=100000,out:=λ(a,b,_)=>[.p .bool (EL a b)],lend:=true }
attribute [local go_sem] OB
theorem Pj:Ac Tryz.prog 79 OB:=by
 refine fK [0,1,4] Tryz.func79 Tryz.ntmps79 (AF vJ AI) ?_;rintro w0 O0 ⟨a,b,u⟩ c-ha;have ha:a.length<=100000:=ha;simp only[OB,AM];repeat'(first|exact trivial|apply eS rfl|refine rX c ?_ ?_)
 .exact ha
 exact fI c [.tmp 4] (by unfold EL;exact eR)
def C2 (a b:List Int):Bool:=EL a b&&EL b a
def X0:AX:={ ins:=[BS,BS],pre:=λ(a,b,_)=>List.length a<=100000/\List.length b<=100000,out:=λ(a,b,_)=>[.p .bool (C2 a b)],lend:=true }
theorem oG:Ac Tryz.prog 161 X0:=by
 refine fK [0,1,4] Tryz.func161 Tryz.ntmps161 (AF Pj AI) ?_;rintro w0 O0 ⟨a,b,u⟩ c-⟨ha,d⟩;simp only[X0,AM];repeat'(first|exact trivial|apply eS rfl|refine rX c ?_ ?_)
 .exact⟨ha,λ_=>d⟩
 exact fI c [.tmp 4] (by unfold C2;exact eR)
end
section
attribute [local go_sem] vF
def GS (a b:List Int):Bool:=decide (a=b)
def TZ:AX:={ ins:=[BS,BS],pre:=λ_=>True,out:=λ(a,b,_)=>[.p .bool (GS a b)],lend:=true }
theorem kO:Ac Tryz.prog 152 TZ:=by
 refine fK [0,1,4,5,10,14,25] Tryz.func152 Tryz.ntmps152 AI ?_;rintro w0 O0 ⟨a,b,u⟩ d ⟨⟨ha,-⟩,-⟩ -;simp only[AO]at ha;simp only[TZ,AM];repeat'(first|exact trivial|apply eS rfl|refine rX d ?_ ?_|refine rC ?_ ?_<;>intro c<;>try(cases c;done))
 .have h1:GS a b=false:=by
   unfold GS;rw[TO];rintro rfl;exact c rfl
  exact fI d [.tmp 4] (by rw[h1];exact eR)
 have f:a.length=b.length:=by
  have:(a.length:Int)=(b.length:Int):=by simpa using c
  exact Int.ofNat_inj.1 this
 refine AJ (ι:={k:Nat//k<=a.length/\a.take k=b.take k}) (λk=>⟨[(0,.p BS a),(1,.p BS b),(5,.p (.int .i64) (k.1:Int))],[]⟩) (λk=>a.length-k.1) ⟨0,Do _,rfl⟩ (eW []) (λk=>?_)
 obtain⟨k,hk,hf⟩:=k;simp only;repeat'(first|exact trivial|apply eS rfl|apply AB|refine rX d ?_ ?_|refine rC ?_ ?_<;>intro c<;>try(cases c;done))
 .exact⟨c,by rw[<-f];exact c⟩
 .have e:k<a.length:=by exact eV
  have h1:GS a b=false:=by
   unfold GS;rw[TO];rintro rfl;exact c rfl
  exact fI d [.tmp 4] (by rw[h1];exact eR)
 .exact eV
 .have e:k<a.length:=by exact eV
  have g:a.getD k 0=b.getD k 0:=by simpa using c
  refine⟨⟨k+1,by omega,?_⟩,by simp only;omega,AC [] rfl rfl ?_ ?_⟩
  .rw[A8 a 0 e,A8 b 0 O1,hf];rw[show a.getD k 0=b.getD k 0 from g]
  .exact eN
  exact eN
 have e:k=a.length:=by exact eV
 subst e;rw[oR,f,oR]at hf;have h1:GS a b=true:=by unfold GS;rw[hf];simp
 exact fI d [.tmp 4] (by rw[h1];exact eR)
end
section
attribute [local go_sem] vF
def MP (b:List Int) (n:Nat):List Int:=((List.range n).filter λ(i:Nat)=>RM b (i:Int)).map λ(i:Nat)=>(i:Int)
def HB (b:List Int):List Int:=MP b (64*b.length)
theorem fJ (b:List Int) (n:Nat):MP b (n+1)=MP b n++if RM b (n:Int)=true then [(n:Int)] else []:=by
 unfold MP;rw[AAh,ABs,AAH]
 congr 1
 rw[AAp,ABK];split<;>rfl
theorem oH (b:List Int) (n:Nat):(MP b n).length<=n:=by
 unfold MP;rw[dB];exact gO (AAZ _ _) sc
def vK:AX:={ ins:=[BS],pre:=λ(b,_)=>List.length b<=100000,out:=λ(b,_)=>[.p CH (HB b)] }
attribute [local go_sem] vK
theorem A11:Ac Tryz.prog 185 vK:=by
 refine fK [0,2,3,4,9,14] Tryz.func185 Tryz.ntmps185 (AF vG AI) ?_;rintro w0 O0 ⟨b,u⟩ c-e;have e:b.length<=100000:=e;simp only[vK,AM];repeat'(first|exact trivial|apply eS rfl|refine rX c ?_ ?_)
 refine AJ (ι:={n:Nat//n<=64*b.length}) (λn=>⟨[(0,.p BS b),(3,.sr 18 T3 0 (MP b n.1).length),(4,.p (.int .i64) (n.1:Int))],[(18,.arr 3 T3 (MP b n.1))]⟩) (λn=>64*b.length-n.1) ⟨0,Do _⟩ (AC [(18,.nil)] rfl rfl ?_ ?_) (λn=>?_)
 .refine eM ?_;rfl
 .refine eM ?_;rfl
 obtain⟨n,hn⟩:=n;have f:=oH b n;have hs:=fJ b n;simp only;repeat'(first|exact trivial|apply eS rfl|apply AB|refine rX c ?_ ?_|refine rC ?_ ?_<;>intro a<;>try(cases a;done))
 .exact eV
 .rw[a,At rfl]at hs;simp only[AO];dsimp only[Ty.den]at *;omega
 .exact eV
 .have d:n<64*b.length:=by exact eV
  rw[a,At rfl]at hs;refine⟨⟨n+1,by omega⟩,by simp only;omega,AC [(18,.nm 18)] rfl rfl ?_ ?_⟩
  .simp only[hs];exact eN
  simp only[hs];exact eN
 .exact eV
 .have d:n<64*b.length:=by exact eV
  rw[a,As sc,AAk]at hs;refine⟨⟨n+1,by omega⟩,by simp only;omega,AC [(18,.nm 18)] rfl rfl ?_ ?_⟩
  .simp only[hs];exact eN
  simp only[hs];exact eN
 have d:n=64*b.length:=by exact eV
 subst d;refine C8 [18] ?_;exact fI c [.tmp 2] (by unfold HB;exact eR)
def fL:AX:={ ins:=[BS],pre:=λ(b,_)=>List.length b<=100000,out:=λ(b,_)=>[.p T3 ((HB b).length:Int)],lend:=true }
theorem vL:Ac Tryz.prog 164 fL:=by
 refine fK [0,2] Tryz.func164 Tryz.ntmps164 (AF A11 AI) ?_;rintro w0 O0 ⟨b,u⟩ a-c;simp only[fL,AM];repeat'(first|exact trivial|apply eS rfl|refine rX a ?_ ?_)
 .exact c
 exact fI a [.tmp 2]
end
section
attribute [local go_sem] IC WH
abbrev AH:=ByteArray×List ByteArray×List (ByteArray×ByteArray)
abbrev d0:AH:=(ByteArray.empty,[],[])
def Cj (s:ByteArray):Nat->List AH->Int
 | _,[]=>-1
 | k,x :: l=>if AL x.1 s=true then (k:Int) else Cj s (k+1) l
def Aj (l:List AH) (s:ByteArray):Int:=Cj s 0 l
theorem Ql (s:ByteArray) (l:List AH) (h:k<l.length):Cj s k (l.drop k)=if AL (l.getD k d0).1 s=true then (k:Int) else Cj s (k+1) (l.drop (k+1)):=by
 rw[OF h];have e:l.getD k d0=l[k]:=by simp[AS,h]
 rw[e];rfl
def M2:AX:={ ins:=[Ee,T9],pre:=λ_=>True,out:=λ(l,s,_)=>[.p T3 (Aj l s)] }
attribute [local go_sem] M2
theorem Kt:Ac Tryz.prog 181 M2:=by
 refine fK [0,1,4,5,9,18] Tryz.func181 Tryz.ntmps181 AI ?_;rintro w0 O0 ⟨l,s,u⟩ c ⟨⟨d,-⟩,-⟩ -;simp only[AO]at d;simp only[M2,AM];repeat'(first|exact trivial|apply eS rfl|refine rX c ?_ ?_)
 refine AJ (ι:={k:Nat//k<=l.length/\Cj s k (l.drop k)=Aj l s}) (λk=>⟨[(0,.p Ee l),(1,.p T9 s),(5,.p (.int .i64) (k.1:Int))],[]⟩) (λk=>l.length-k.1) ⟨0,Do _,rfl⟩ (eW []) (λk=>?_)
 obtain⟨k,hk,hf⟩:=k;simp only;repeat'(first|exact trivial|apply eS rfl|apply AB|refine rX c ?_ ?_|refine rC ?_ ?_<;>intro b<;>try(cases b;done))
 .exact b
 .have a:k<l.length:=by exact eV
  rw[Ql s l a,At b]at hf;exact fI c [.tmp 4] (by rw[<-hf];exact eR)
 .exact eV
 .have a:k<l.length:=by exact eV
  rw[Ql s l a,As (by rw[b];simp)]at hf;exact⟨⟨k+1,by omega,hf⟩,by simp only;omega,eW []⟩
 have a:l.drop k=[]:=ON (by exact eV);rw[a]at hf;exact fI c [.tmp 4] (by rw[<-hf];first|exact eR|refine N9 ?_;rfl)
def Ku:List AH->Int
 | []=>0
 | x :: l=>if 256<x.2.1.length\/256<x.2.2.length then 7 else Ku l
def EV (l:List AH):Int:=if 256<l.length then 7 else Ku l
theorem Qm (l:List AH) (h:k<l.length):Ku (l.drop k)=if 256<(l.getD k d0).2.1.length\/256<(l.getD k d0).2.2.length then 7 else Ku (l.drop (k+1)):=by
 rw[OF h];have e:l.getD k d0=l[k]:=by simp[AS,h]
 rw[e];rfl
def X2:AX:={ ins:=[Ee],pre:=λ_=>True,out:=λ(l,_)=>[.p DD (EV l)] }
attribute [local go_sem] X2
theorem vM:Ac Tryz.prog 153 X2:=by
 refine fK [0,2,3,6,10,28] Tryz.func153 Tryz.ntmps153 AI ?_;rintro w0 O0 ⟨l,u⟩ b ⟨⟨d,-⟩,-⟩ -;simp only[AO]at d;simp only[X2,AM];repeat'(first|exact trivial|apply eS rfl|refine rX b ?_ ?_|refine rC ?_ ?_<;>intro a<;>try(cases a;done))
 .have h1:EV l=7:=by unfold EV;rw[At (by exact eV)]
  exact fI b [.tmp 2] (by rw[h1];exact eR)
 have h1:EV l=Ku l:=by unfold EV;rw[As (by exact eV)]
 refine AJ (ι:={k:Nat//k<=l.length/\Ku (l.drop k)=EV l}) (λk=>⟨[(0,.p Ee l),(3,.p (.int .i64) (k.1:Int))],[]⟩) (λk=>l.length-k.1) ⟨0,Do _,h1.symm⟩ (eW []) (λk=>?_)
 obtain⟨k,hk,hf⟩:=k;simp only;repeat'(first|exact trivial|apply eS rfl|apply AB|refine rX b ?_ ?_|refine rC ?_ ?_<;>intro a<;>try(cases a;done))
 .exact⟨a,λ_=>a⟩
 .have c:k<l.length:=by exact eV
  rw[Qm l c,At (by
   rcases a with h|h
   .exact .inl (iN.1 h)
   exact .inr (iN.1 h))]at hf
  exact fI b [.tmp 2] (by rw[<-hf];exact eR)
 .exact eV
 .have c:k<l.length:=by exact eV
  rw[Qm l c,As (by
   rintro (h|h)
   .have:=AAe.1 a.1;exact absurd h (Nat.not_lt.2 this)
   have:=AAe.1 a.2;exact absurd h (Nat.not_lt.2 this))]at hf
  exact⟨⟨k+1,by omega,hf⟩,by simp only;omega,eW []⟩
 have c:l.drop k=[]:=ON (by exact eV);rw[c]at hf;exact fI b [.tmp 2] (by rw[<-hf];first|exact eR|refine N9 ?_;rfl)
theorem Pk {α:Type} (l:List α) (d:α) (p:α->Bool) (h:k<l.length):(l.take (k+1)).all p=((l.take k).all p&&p (l.getD k d)):=by
 rw[A8 l d h,ABM];simp
def ID (x:AH) (done:List ByteArray):Bool:=x.2.1.all λs=>AU done s
def X3:AX:={ ins:=[tV,CQ],pre:=λ_=>True,out:=λ(x,l,_)=>[.p .bool (ID x l)],lend:=true }
attribute [local go_sem] X3
theorem vN:Ac Tryz.prog 182 X3:=by
 refine fK [0,1,2,4,5,10,20] Tryz.func182 Tryz.ntmps182 (AF F7 AI) ?_;rintro w0 O0 ⟨⟨nm,sup,d⟩,l,u⟩ c ⟨⟨-,⟨e,-⟩,-⟩,-⟩ -;simp only[AO]at e;simp only[X3,AM];repeat'(first|exact trivial|apply eS rfl|refine rX c ?_ ?_)
 refine AJ (ι:={k:Nat//k<=sup.length/\(sup.take k).all (λs=>AU l s)=true}) (λk=>⟨[(1,.p CQ l),(2,.bp 2 [] 0),(5,.p (.int .i64) (k.1:Int))],[(2,.box 65 true [.p T9 nm,.p CQ sup,.p T63 d])]⟩) (λk=>sup.length-k.1) ⟨0,by simp⟩ (eW [(2,.nm 2)]) (λk=>?_)
 obtain⟨k,hk,hf⟩:=k;simp only;repeat'(first|exact trivial|apply eS rfl|apply AB|refine rX c ?_ ?_|refine rC ?_ ?_<;>intro b<;>try(cases b;done))
 .exact b
 .have a:k<sup.length:=by exact eV
  have h1:ID (nm,sup,d) l=false:=by
   unfold ID;refine ABn.2 λh=>?_;have:=No.1 h _ (AG sup ByteArray.empty a);rw[b]at this;cases this
  exact fI c [.tmp 4] (by rw[h1];exact eR)
 .have:=e;exact eV
 .have a:k<sup.length:=by exact eV
  refine⟨⟨k+1,by omega,?_⟩,by simp only;omega,AC [(2,.nm 2)] rfl rfl ?_ ?_⟩
  .rw[Pk sup ByteArray.empty _ a,hf];exact b
  .exact eN
  exact eN
 have a:sup.take k=sup:=By (by exact eV);rw[a]at hf;have h1:ID (nm,sup,d) l=true:=hf;exact fI c [.tmp 4] (by rw[h1];exact eR)
def M3 (d:List AH):Nat->List AH->Int
 | _,[]=>0
 | k,x :: l=>if BJ x.1 false=false then 1 else if Aj d x.1<(k:Int) then 4 else M3 d (k+1) l
def CV (d:List AH):Int:=M3 d 0 d
theorem Kv (d l:List AH) (h:k<l.length):M3 d k (l.drop k)=if BJ (l.getD k d0).1 false=false then 1 else if Aj d (l.getD k d0).1<(k:Int) then 4 else M3 d (k+1) (l.drop (k+1)):=by
 rw[OF h];have e:l.getD k d0=l[k]:=by simp[AS,h]
 rw[e];rfl
def X4:AX:={ ins:=[Ee],pre:=λ_=>True,out:=λ(l,_)=>[.p DD (CV l)] }
attribute [local go_sem] X4
theorem vO:Ac Tryz.prog 154 X4:=by
 refine fK [0,2,3,7,16,25] Tryz.func154 Tryz.ntmps154 (AF kM (AF Kt AI)) ?_;rintro w0 O0 ⟨l,u⟩ c ⟨⟨e,-⟩,-⟩ -;simp only[AO]at e;simp only[X4,AM];repeat'(first|exact trivial|apply eS rfl|refine rX c ?_ ?_)
 refine AJ (ι:={k:Nat//k<=l.length/\M3 l k (l.drop k)=CV l}) (λk=>⟨[(0,.p Ee l),(3,.p (.int .i64) (k.1:Int))],[]⟩) (λk=>l.length-k.1) ⟨0,Do _,rfl⟩ (eW []) (λk=>?_)
 obtain⟨k,hk,hf⟩:=k;simp only;repeat'(first|exact trivial|apply eS rfl|apply AB|refine rX c ?_ ?_|refine rC ?_ ?_<;>intro b<;>try(cases b;done))
 .exact b
 .have a:k<l.length:=by exact eV
  rw[Kv l l a,At b]at hf;exact fI c [.tmp 2] (by rw[<-hf];exact eR)
 .assumption
 .rename_i d;have a:k<l.length:=by exact eV
  rw[Kv l l a,As (by rw[d];simp),At b]at hf;exact fI c [.tmp 2] (by rw[<-hf];exact eR)
 .exact eV
 .rename_i d;have a:k<l.length:=by exact eV
  rw[Kv l l a,As (by rw[d];simp),As (AAS.2 b)]at hf;exact⟨⟨k+1,by omega,hf⟩,by simp only;omega,eW []⟩
 have a:l.drop k=[]:=ON (by exact eV);rw[a]at hf;exact fI c [.tmp 2] (by rw[<-hf];first|exact eR|refine N9 ?_;rfl)
def RN (d:List AH) (l:List ByteArray):Nat->List ByteArray->Int
 | _,[]=>0
 | k,x :: r=>if Aj d x<0 then 5 else if AU (l.take k) x=true then 4 else RN d l (k+1) r
def JR (d:List AH):List AH->Int
 | []=>0
 | x :: l=>if RN d x.2.1 0 x.2.1≠0 then RN d x.2.1 0 x.2.1 else JR d l
def JS (d:List AH):Int:=JR d d
theorem Pl (d:List AH) (l:List ByteArray) (h:k<l.length):RN d l k (l.drop k)=if Aj d (l.getD k ByteArray.empty)<0 then 5 else if AU (l.take k) (l.getD k ByteArray.empty)=true then 4 else RN d l (k+1) (l.drop (k+1)):=by
 rw[OF h];have e:l.getD k ByteArray.empty=l[k]:=by simp[AS,h]
 rw[e];rfl
theorem X5 (d l:List AH) (h:k<l.length):JR d (l.drop k)=if RN d (l.getD k d0).2.1 0 (l.getD k d0).2.1≠0 then RN d (l.getD k d0).2.1 0 (l.getD k d0).2.1 else JR d (l.drop (k+1)):=by
 rw[OF h];have e:l.getD k d0=l[k]:=by simp[AS,h]
 rw[e];rfl
def Rz:AX:={ ins:=[Ee],pre:=λ_=>True,out:=λ(l,_)=>[.p DD (JS l)] }
attribute [local go_sem] Rz
theorem oI:Ac Tryz.prog 155 Rz:=by
 refine fK [0,2,3,4,5,9,20,29,37] Tryz.func155 Tryz.ntmps155 (AF F7 (AF Kt AI)) ?_;rintro w0 O0 ⟨l,u⟩ d ⟨⟨h,g⟩,-⟩ -;simp only[AO]at h;simp only[Rz,AM];repeat'(first|exact trivial|apply eS rfl|refine rX d ?_ ?_)
 refine AJ (ι:={i:Nat//i<=l.length/\JR l (l.drop i)=JS l}) (λi=>⟨[(0,.p Ee l),(3,.p (.int .i64) (i.1:Int))],[]⟩) (λi=>l.length-i.1) ⟨0,Do _,rfl⟩ (eW []) (λi=>?_)
 obtain⟨i,hi,hf⟩:=i;simp only;repeat'(first|exact trivial|apply eS rfl|refine rX d ?_ ?_|refine rC ?_ ?_<;>intro b<;>try(cases b;done))
 .exact b
 .have f:i<l.length:=by exact eV
  have j:=g _ (AG l d0 f);have m:(l.getD i d0).2.1.length<=AO:=j.2.1.1;simp only[AO]at m;rw[X5 l l f]at hf;generalize (l.getD i d0).2.1=sup at *;refine AJ (ι:={k:Nat//k<=sup.length/\RN l sup k (sup.drop k)=RN l sup 0 sup}) (λk=>⟨[(0,.p Ee l),(3,.p (.int .i64) (i:Int)),(4,.p CQ sup),(5,.p (.int .i64) (k.1:Int))],[]⟩) (λk=>sup.length-k.1) ⟨0,Do _,rfl⟩ (eW []) (λk=>?_)
  obtain⟨k,hk,c⟩:=k;simp only;repeat'(first|exact trivial|apply eS rfl|apply AB|refine rX d ?_ ?_|refine rC ?_ ?_<;>intro b<;>try(cases b;done))
  .exact b
  .have a:k<sup.length:=by exact eV
   rw[Pl l sup a,At b]at c;rw[<-c,At dg]at hf;exact fI d [.tmp 2] (by rw[<-hf];exact eR)
  .exact eV
  .rename_i e;have a:k<sup.length:=by exact eV
   rw[Pl l sup a,As (AAS.2 e),At b]at c;rw[<-c,At dg]at hf;exact fI d [.tmp 2] (by rw[<-hf];exact eR)
  .exact eV
  .rename_i e;have a:k<sup.length:=by exact eV
   rw[Pl l sup a,As (AAS.2 e),As (by rw[b];simp)]at c;exact⟨⟨k+1,by omega,c⟩,by simp only;omega,eW []⟩
  .exact eV
  have a:sup.drop k=[]:=ON (by exact eV);rw[a]at c;rw[<-c,As (by simp[RN])]at hf;exact⟨⟨i+1,by omega,hf⟩,by simp only;omega,eW []⟩
 have a:l.drop i=[]:=ON (by exact eV);rw[a]at hf;exact fI d [.tmp 2] (by rw[<-hf];first|exact eR|refine N9 ?_;rfl)
end
section
attribute [local go_sem] M2 X3 IC Xz
theorem EM {α:Type} (g:X->α->X) (l:List α) (d:α) (t:X) {i:Nat} (hi:i<l.length):(l.take (i+1)).foldl g t=g ((l.take i).foldl g t) (l.getD i d):=by
 rw[A8 l d hi,AB7];rfl
theorem Kw (l:List ByteArray) (s:ByteArray):(DZ l s).length<=l.length+1:=by
 unfold DZ;split
 .omega
 have:=A34 (λx=>CA x s) l;have a:VL l s<=l.length:=this;simp only[If,On,AB3,nO];omega
def AN (l:List AH):List ByteArray:=l.foldl (λo x=>DZ o x.1) []
theorem Da (l:List AH) (k:Nat):(AN (l.take k)).length<=k:=by
 have key:∀(l:List AH) (o:List ByteArray),(l.foldl (λo x=>DZ o x.1) o).length<=o.length+l.length:=by
  intro l;induction l with
  | nil=>intro o;simp
  | cons x l b =>
   intro o;have h1:=b (DZ o x.1);have a:=Kw o x.1;simp only[OR,NO];omega
 have h1:=key (l.take k) [];have a:=AAr k l;unfold AN;simp only[AAd]at h1;omega
def OC:AX:={ ins:=[Ee],pre:=λ(l,_)=>List.length l<=100000,out:=λ(l,_)=>[.p CQ (AN l)] }
attribute [local go_sem] OC
theorem WJ:Ac Tryz.prog 112 OC:=by
 refine fK [0,2,3,4,8] Tryz.func112 Tryz.ntmps112 (AF Ph AI) ?_;rintro w0 O0 ⟨l,u⟩ a-d;have d:l.length<=100000:=d;simp only[OC,AM];repeat'(first|exact trivial|apply eS rfl|refine rX a ?_ ?_)
 refine AJ (ι:={k:Nat//k<=l.length}) (λk=>⟨[(0,.p Ee l),(3,.p CQ (AN (l.take k.1))),(4,.p (.int .i64) (k.1:Int))],[]⟩) (λk=>l.length-k.1) ⟨0,Do _⟩ (AC [] rfl rfl ?_ ?_) (λk=>?_)
 .exact eN
 .refine eM ?_;rfl
 obtain⟨k,hk⟩:=k;have hn:=Da l k;have hs:=λh:k<l.length=>EM (λ(o:List ByteArray) (x:AH)=>DZ o x.1) l d0 [] h;simp only;repeat'(first|exact trivial|apply eS rfl|apply AB|refine rX a ?_ ?_|refine rC ?_ ?_<;>intro c<;>try(cases c;done))
 .exact⟨c,by omega⟩
 .exact eV
 .have b:k<l.length:=by exact eV
  have e:=hs b;refine⟨⟨k+1,by omega⟩,by simp only;omega,AC [] rfl rfl ?_ ?_⟩
  .exact eN
  simp only;have e:AN (l.take (k+1))=DZ (AN (l.take k)) (l.getD k d0).1:=e;rw[e];exact eN
 have b:l.take k=l:=By (by exact eV);rw[b];exact fI a [.tmp 2]
def Hp (out:List ByteArray) (s:Bool×ByteArray) (x:AH):Bool×ByteArray :=
 if (AU out x.1||!ID x out)=true then s else (true,if (!s.1||CA x.1 s.2)=true then x.1 else s.2)
def HC (d:List AH) (out:List ByteArray):Bool×ByteArray:=d.foldl (Hp out) (false,ByteArray.empty)
def Hq (d:List AH):Nat->List ByteArray->List ByteArray
 | 0,out=>out
 | n+1,out=>if (HC d out).1=true then Hq d n (out++[(HC d out).2]) else out
def Bd (d:List AH):List ByteArray:=Hq d d.length []
def HD (d:List AH) (out:List ByteArray):Nat:=d.countP λx=>!AU out x.1
theorem CO (s:ByteArray):AL s s=true:=by unfold AL;simp
theorem M4 (out:List ByteArray) (s x:ByteArray):AU (out++[s]) x=(AU out x||AL s x):=by
 unfold AU;simp[ABL]
theorem oJ (d:List AH) (out:List ByteArray) (h:(HC d out).1=true):∃x∈d,x.1=(HC d out).2/\AU out x.1=false:=by
 have key:∀(l:List AH) (s:Bool×ByteArray),(∀x∈l,x∈d)->(s.1=true->∃x∈d,x.1=s.2/\AU out x.1=false)->(l.foldl (Hp out) s).1=true ->
   ∃x∈d,x.1=(l.foldl (Hp out) s).2/\AU out x.1=false:=by
  intro l;induction l with
  | nil=>intro s _ hs h;exact hs h
  | cons y l i =>
   intro s e hs h;rw[OR]at h ⊢;refine i _ (λx f=>e x (by simp[f])) (λb=>?_) h;unfold Hp at b ⊢;split
   .rename_i a;rw[At a]at b;exact hs b
   rename_i a;simp only;have g:AU out y.1=false:=by
    cases hh:AU out y.1 with
    | false=>rfl
    | true=>rw[hh]at a;simp at a
   split
   .exact⟨y,e y sc,rfl,g⟩
   rename_i c;have:s.1=true:=by
    cases hh:s.1 with
    | true=>rfl
    | false=>rw[hh]at c;simp at c
   exact hs this
 exact key d _ (λ_ h=>h) (λh=>by cases h) h
theorem Z2 {d:List AH} {out:List ByteArray} (h:(HC d out).1=true):HD d (out++[(HC d out).2])<HD d out:=by
 obtain⟨x,e,h1,c⟩:=oJ d out h;generalize (HC d out).2=s at *;unfold HD;have key:∀l:List AH,(l.countP λy=>!AU (out++[s]) y.1)<=l.countP λy=>!AU out y.1:=by
  intro l;refine List.countP_mono_left λy _ a=>?_;rw[M4]at a;cases hh:AU out y.1 with
  | false=>rfl
  | true=>rw[hh]at a;simp at a
 obtain⟨f,g,rfl⟩:=List.append_of_mem e;rw[ACg,ACg,AC1,AC1];have i:=key f;have j:=key g;have b:AU (out++[s]) x.1=true:=by rw[M4,h1,CO,Bool.or_true]
 rw[b,c];simp only[Bool.not_true,ABV,AAB];simp only[AAM,AAR];omega
def X6:AX:={ ins:=[Ee],pre:=λ(l,_)=>List.length l<=100000,out:=λ(l,_)=>[.p CQ (Bd l)] }
theorem oK:Ac Tryz.prog 156 X6:=by
 refine fK [0,2,3,4,5,6,7,11,29,40,46] Tryz.func156 Tryz.ntmps156 (AF F7 (AF vN AI)) ?_;rintro w0 O0 ⟨d,u⟩ j-r;have r:d.length<=100000:=r;simp only[X6,AM];repeat'(first|exact trivial|apply eS rfl|refine rX j ?_ ?_)
 refine AJ (ι:={x:Nat×List ByteArray×Bool//x.1+x.2.1.length<=d.length/\(x.2.2=true->HD d x.2.1<=x.1/\Hq d x.1 x.2.1=Bd d)/\(x.2.2=false->x.2.1=Bd d)}) (λx=>⟨[(0,.p Ee d),(3,.sr 50 T9 0 x.1.2.1.length),(4,.p .bool x.1.2.2)],[(50,.arr 9 T9 x.1.2.1)]⟩) (λx=>(if x.1.2.2=true then x.1.1+1 else 0)) ⟨(d.length,[],true),by simp,λ_=>⟨List.countP_le_length,rfl⟩,λh=>by cases h⟩ (eW [(50,.nil)]) (λx=>?_)
 obtain⟨⟨n,out,D⟩,s,t,v⟩:=x;simp only at s t v;simp only;repeat'(first|exact trivial|apply eS rfl|refine rX j ?_ ?_|refine rC ?_ ?_<;>intro a<;>try(cases a;done))
 .subst a;obtain⟨hu,w⟩:=t rfl;have C:({ data:=#[] }:ByteArray).size<=AO:=by decide
  rw[At C];refine AJ (ι:={y:Nat×Bool×ByteArray//y.1<=d.length/\(d.take y.1).foldl (Hp out) (false,ByteArray.empty)=y.2}) (λy=>⟨[(0,.p Ee d),(3,.sr 50 T9 0 out.length),(4,.p .bool y.1.2.1),(5,.p T9 y.1.2.2),(6,.p (.int .i64) (y.1.1:Int))],[(50,.arr 9 T9 out)]⟩) (λy=>d.length-y.1.1) ⟨(0,false,ByteArray.empty),by simp,rfl⟩ (AC [(50,.nm 50)] rfl rfl ?_ ?_) (λy=>?_)
  .exact eN
  .refine eM ?_;rfl
  obtain⟨⟨k,z,b⟩,hk,c⟩:=y;simp only at hk c;have q:∀h:k<d.length,(d.take (k+1)).foldl (Hp out) (false,ByteArray.empty)=Hp out (z,b) (d.getD k d0):=λh=>by
   rw[EM (Hp out) d d0 _ h,c]
  simp only;repeat'(first|exact trivial|apply eS rfl|apply AB|refine rX j ?_ ?_|refine rC ?_ ?_<;>intro a<;>try(cases a;done))
  .exact⟨a,λ_=>a⟩
  .exact eV
  .have g:k<d.length:=by exact eV
   refine⟨⟨(k+1,z,b),by simp only;omega,?_⟩,by simp only;omega,AC [(50,.nm 50)] rfl rfl ?_ ?_⟩
   .simp only;rw[q g];unfold Hp;rw[At];rw[qY,aT];exact a
   .exact eN
   exact eN
  .exact λ_=>by assumption
  .assumption
  .exact eV
  .rename_i f;have g:k<d.length:=by exact eV
   refine⟨⟨(k+1,true,(d.getD k d0).1),by simp only;omega,?_⟩,by simp only;omega,AC [(50,.nm 50)] rfl rfl ?_ ?_⟩
   .simp only;rw[q g];unfold Hp;rw[As (by rw[f.1,f.2];simp),At (by rw[qY,aT];exact a)]
   .exact eN
   exact eN
  .exact eV
  .rename_i f;have g:k<d.length:=by exact eV
   refine⟨⟨(k+1,true,b),by simp only;omega,?_⟩,by simp only;omega,AC [(50,.nm 50)] rfl rfl ?_ ?_⟩
   .simp only;rw[q g];unfold Hp;rw[As (by rw[f.1,f.2];simp),As (by rw[qY,aT];rintro (h|h)<;>simp_all)]
   .exact eN
   exact eN
  .simp only[AO];dsimp only[Ty.den]at *;omega
  .subst a;have l:d.take k=d:=By (by exact eV);rw[l]at c;have i:HC d out=(true,b):=c;have m:=Z2 (d:=d) (out:=out) (by rw[i]);rw[i]at m;obtain⟨e,rfl⟩:∃e,n=e+1:=⟨n-1,by omega⟩;have o:Hq d e (out++[b])=Bd d:=by
    rw[<-w];show _=if (HC d out).1=true then Hq d e (out++[(HC d out).2]) else out
    rw[i,At rfl]
   have m:HD d (out++[b])<HD d out:=m;have B:HD d (out++[b])<=e:=by omega
   exact⟨⟨(e,out++[b],true),by simp only[If,nO];omega,λ_=>⟨B,o⟩,λh=>by cases h⟩,by simp,eW [(50,.nm 50)]⟩
  subst a;have l:d.take k=d:=By (by exact eV);rw[l]at c;have i:HC d out=(false,b):=c;have o:out=Bd d:=by
   rw[<-w];cases n with
   | zero=>rfl
   | succ n =>
    show _=if (HC d out).1=true then Hq d n (out++[(HC d out).2]) else out
    rw[i,As sc]
  exact⟨⟨(n,out,false),s,(λh=>by cases h),λ_=>o⟩,by simp,eW [(50,.nm 50)]⟩
 subst a;have A:=v rfl;rw[A];refine C8 [50] ?_;exact fI j [.tmp 2]
end
section
attribute [local go_sem] X2 X4 Rz X6
def HE (d:List AH):Nat:=d.countP λx=>x.2.1.length==0
theorem Z3 (d:List AH) (h:k<d.length):HE (d.take (k+1))=HE (d.take k)+if ((d.getD k d0).2.1.length==0)=true then 1 else 0:=by
 unfold HE;rw[A8 d d0 h,ACg,AC1,List.countP_nil];omega
theorem oL (d:List AH):HE d<=d.length:=List.countP_le_length
def A3 (d:List AH):Int :=
 if EV d≠0 then EV d else if CV d≠0 then CV d else if JS d≠0 then JS d else if HE d≠1 then 1 else if (Bd d).length<d.length then 6 else 0
theorem Qn {d:List AH} (h:EV d=0):d.length<=256:=by
 unfold EV at h;split at h
 .cases h
 omega
def R1:AX:={ ins:=[Ee],pre:=λ_=>True,out:=λ(l,_)=>[.p DD (A3 l)] }
attribute [local go_sem] R1
theorem oM:Ac Tryz.prog 111 R1:=by
 refine fK [0,2,3,4,5,6,7,11,16,21,26,35,39,45] Tryz.func111 Tryz.ntmps111 (AF vM (AF vO (AF oI (AF oK AI)))) ?_;rintro w0 O0 ⟨d,u⟩ c - -;simp only[R1,AM];repeat'(first|exact trivial|apply eS rfl|refine rX c ?_ ?_|refine rC ?_ ?_<;>intro a<;>try(cases a;done))
 .have h1:A3 d=EV d:=by unfold A3;rw[At a]
  exact fI c [.tmp 2] (by rw[h1];exact eR)
 .rename_i hs;have hs:EV d=0:=by simpa using hs
  have h1:A3 d=CV d:=by unfold A3;rw[As (by rw[hs];simp),At a]
  exact fI c [.tmp 2] (by rw[h1];exact eR)
 .rename_i hs hn;have hs:EV d=0:=by simpa using hs
  have hn:CV d=0:=by simpa using hn
  have h1:A3 d=JS d:=by unfold A3;rw[As (by rw[hs];simp),As (by rw[hn];simp),At a]
  exact fI c [.tmp 2] (by rw[h1];exact eR)
 rename_i hs hn;have hs:EV d=0:=by simpa using hs
 have hn:CV d=0:=by simpa using hn
 have hu:JS d=0:=by simpa using a
 have i:=Qn hs;have h1:A3 d=if HE d≠1 then 1 else if (Bd d).length<d.length then 6 else 0:=by
  unfold A3;rw[As (by rw[hs];simp),As (by rw[hn];simp),As (by rw[hu];simp)]
 refine AJ (ι:={k:Nat//k<=d.length}) (λk=>⟨[(0,.p Ee d),(6,.p (.int .i64) (HE (d.take k.1):Int)),(7,.p (.int .i64) (k.1:Int))],[]⟩) (λk=>d.length-k.1) ⟨0,Do _⟩ (AC [] rfl rfl ?_ ?_) (λk=>?_)
 .exact eN
 .refine eM ?_;rfl
 obtain⟨k,hk⟩:=k;have j:=oL (d.take k);have l:=AAr k d;have g:=λh:k<d.length=>Z3 d h;simp only;repeat'(first|exact trivial|apply eS rfl|apply AB|refine rX c ?_ ?_|refine rC ?_ ?_<;>intro a<;>try(cases a;done))
 .exact a
 .exact eV
 .exact eV
 .have b:k<d.length:=by exact eV
  have e:=g b;rw[At (by rw[AA3];exact Int.ofNat_eq_zero.1 a)]at e;refine⟨⟨k+1,by omega⟩,by simp only;omega,AC [] rfl rfl ?_ ?_⟩
  .exact eN
  simp only[e];exact eN
 .exact eV
 .have b:k<d.length:=by exact eV
  have e:=g b;rw[As (by rw[AA3];exact λh=>a (Int.ofNat_eq_zero.2 h))]at e;refine⟨⟨k+1,by omega⟩,by simp only;omega,AC [] rfl rfl ?_ ?_⟩
  .exact eN
  simp only[e];exact eN
 .have b:d.take k=d:=By (by exact eV);rw[b]at a;rw[At (λh=>a (by rw[h];rfl))]at h1;exact fI c [.tmp 2] (by rw[h1];exact eR)
 .show d.length<=100000;omega
 .rename_i f;have b:d.take k=d:=By (by exact eV);rw[b]at f;have f:(HE d:Int)=1:=by simpa using f
  rw[As O1,At (iN.1 a)]at h1;exact fI c [.tmp 2] (by rw[h1];exact eR)
 rename_i f;have b:d.take k=d:=By (by exact eV);rw[b]at f;have f:(HE d:Int)=1:=by simpa using f
 rw[As O1,As (λh=>absurd (AAe.1 a) (Nat.not_le.2 h))]at h1;exact fI c [.tmp 2] (by rw[h1];exact eR)
end
section
attribute [local go_sem] M2 IC Xz
def Id (o:List ByteArray) (s:ByteArray):List ByteArray:=if AU o s=true then o else o++[s]
def Kx (d:List AH) (s:ByteArray):List ByteArray:=(d.getD (Aj d s).toNat d0).2.1
def HF (d:List AH):Nat->Nat->List ByteArray->List ByteArray
 | 0,_,o=>o
 | n+1,i,o=>if i<o.length then HF d n (i+1) ((Kx d (o.getD i ByteArray.empty)).foldl Id o) else o
def Ie (l:List ByteArray):List ByteArray:=l.foldl DZ []
theorem WK (l:List ByteArray):(Ie l).length<=l.length:=by
 have key:∀(l o:List ByteArray),(l.foldl DZ o).length<=o.length+l.length:=by
  intro l;induction l with
  | nil=>intro o;simp
  | cons x l a =>
   intro o;have h1:=a (DZ o x);have b:=Kw o x;simp only[OR,NO];omega
 have:=key l [];simpa[Ie] using this
def JT (d:List AH) (s:ByteArray):List ByteArray:=if Aj d s<0 then [] else Ie (HF d d.length 0 [s])
def OD (d:List AH):Prop:=∀x∈d,∀s∈x.2.1,0<=Aj d s
theorem WL (s:ByteArray):∀(l:List AH) (k:Nat),Cj s k l=-1\/((k:Int)<=Cj s k l/\Cj s k l<(k:Int)+l.length/\AL (l.getD ((Cj s k l).toNat-k) d0).1 s=true)
 | [],_=>.inl rfl
 | x :: l,k=>by
  simp only[Cj];split
  .rename_i h;right;refine⟨by omega,by simp only[NO];omega,?_⟩;have:((k:Int).toNat-k)=0:=by omega
   rw[this];exact h
  rcases WL s l (k+1) with h|⟨h1,b,a⟩
  .exact .inl h
  right;refine⟨by omega,by simp only[NO];omega,?_⟩;have:((Cj s (k+1) l).toNat-k)=((Cj s (k+1) l).toNat-(k+1))+1:=by omega
  rw[this];exact a
theorem C3 (d:List AH) (s:ByteArray):Aj d s<0\/(0<=Aj d s/\Aj d s<(d.length:Int)/\AL (d.getD (Aj d s).toNat d0).1 s=true):=by
 rcases WL s d 0 with h|⟨h1,a,b⟩
 .left;show Cj s 0 d<0;omega
 have a:Aj d s<((0:Nat):Int)+d.length:=a;exact .inr ⟨h1,by omega,b⟩
theorem Fh {a b:ByteArray}:AL a b=true↔a.toList=b.toList:=by unfold AL;simp
theorem Bm {a b:ByteArray} (h:AL a b=true):AL b a=true:=Fh.2 (Fh.1 h).symm
theorem BF {a b c:ByteArray} (h:AL a b=true) (g:AL b c=true):AL a c=true:=Fh.2 ((Fh.1 h).trans (Fh.1 g))
structure X7 (d:List AH) (o:List ByteArray):Prop where
 decl:∀s∈o,0<=Aj d s
 nd:o.Pairwise λa b=>AL a b=false
theorem JU (d:List AH):∀ {o:List ByteArray},X7 d o->(o.map λs=>(Aj d s).toNat).Nodup
 | [],_=>by simp
 | s :: o,h=>by
  rw[AA2,AAi];have c:=AAf.1 h.nd;refine⟨λi=>?_,JU d ⟨λx a=>h.decl x (by simp[a]),c.2⟩⟩;obtain⟨x,a,e⟩:=IF.1 i;have h1:=h.decl s sc;have j:=h.decl x (by simp[a]);rcases C3 d s with g|⟨_,_,f⟩
  .omega
  rcases C3 d x with g|⟨_,_,b⟩
  .omega
  rw[e]at b;have:=c.1 x a;rw[BF (Bm f) b]at this;cases this
theorem X7.len {d:List AH} (h:X7 d o):o.length<=d.length:=by
 have:=DM d.length (o.map λs=>(Aj d s).toNat) (JU d h) (λj a=>by
  obtain⟨s,hs,rfl⟩:=IF.1 a;have h1:=h.decl s hs;rcases C3 d s with g|⟨_,g,_⟩<;>omega)
 simpa using this
theorem OE (h:AU o s=false):∀x∈o,AL x s=false:=λx a=>by
 cases hh:AL x s with
 | false=>rfl
 | true=>exact absurd h (by rw[show AU o s=true from VK.2 ⟨x,a,hh⟩];simp)
theorem kP {d:List AH} (h:X7 d o) (hs:0<=Aj d s):X7 d (Id o s):=by
 unfold Id;split
 .exact h
 rename_i e;have e:AU o s=false:=by simpa using e
 refine⟨λx c=>?_,?_⟩
 .rcases IS.1 c with c|c
  .exact h.decl x c
  have:x=s:=by simpa using c
  rw[this];exact hs
 rw[ABi];refine⟨h.nd,by simp,λa ha b f=>?_⟩;have:b=s:=by simpa using f
 rw[this];exact OE e a ha
theorem Z4 {d:List AH}:∀ {l o:List ByteArray},(∀s∈l,0<=Aj d s)->X7 d o->X7 d (l.foldl Id o)/\o.length<=(l.foldl Id o).length
 | [],o,_,h=>⟨h,OS _⟩
 | s :: l,o,a,h=>by
  obtain⟨b,c⟩:=Z4 (l:=l) (λx e=>a x (by simp[e])) (kP h (a s sc));refine⟨b,gO ?_ c⟩;unfold Id;split<;>simp
theorem Z5 {d:List AH} (b:OD d) (s:ByteArray):∀x∈Kx d s,0<=Aj d x:=by
 intro x a;unfold Kx at a;by_cases h:(Aj d s).toNat<d.length
 .exact b _ (AG d d0 h) x a
 rw[AS,oS O1]at a;cases a
def fN:AX:={ ins:=[Ee,T9],pre:=λ(d,_,_)=>OD d/\List.length d<=256,out:=λ(d,s,_)=>[.p CQ (JT d s)] }
theorem vP:Ac Tryz.prog 184 fN:=by
 refine fK [0,1,4,5,6,7,8,9,10,14,20,36,45,56] Tryz.func184 Tryz.ntmps184 (AF Kt (AF F7 (AF Ph AI))) ?_;rintro w0 O0 ⟨d,s,u⟩ b ⟨⟨Q,G⟩,-⟩ ⟨O,z⟩;have z:d.length<=256:=z;simp only[fN,AM];repeat'(first|exact trivial|apply eS rfl|refine rX b ?_ ?_|refine rC ?_ ?_<;>intro a<;>try(cases a;done))
 .have h1:JT d s=[]:=by unfold JT;rw[At a]
  exact fI b [.tmp 4] (by rw[h1];exact eR)
 have h1:JT d s=Ie (HF d d.length 0 [s]):=by unfold JT;rw[As (AAS.2 a)]
 have F:X7 d [s]:=⟨λx y=>by
  have:x=s:=by simpa using y
  rw[this];exact a,by simp⟩
 refine AJ (ι:={x:Nat×List ByteArray//x.1<=x.2.length/\X7 d x.2/\HF d (d.length-x.1) x.1 x.2=HF d d.length 0 [s]}) (λx=>⟨[(0,.p Ee d),(1,.p T9 s),(5,.sr 16 T9 0 x.1.2.length),(6,.p (.int .i64) (x.1.1:Int))],[(16,.arr 9 T9 x.1.2)]⟩) (λx=>d.length-x.1.1) ⟨(0,[s]),by simp,F,rfl⟩ (eW [(16,.nm 16)]) (λx=>?_)
 obtain⟨⟨i,o⟩,hi,c,t⟩:=x;simp only at hi c t;have U:=c.len;simp only;repeat'(first|exact trivial|apply eS rfl|refine rX b ?_ ?_|refine rC ?_ ?_<;>intro a<;>try(cases a;done))
 .have q:i<o.length:=by exact eV
  have A:=c.decl _ (AG o ByteArray.empty q);refine⟨a,A,?_⟩;rcases C3 d (o.getD i ByteArray.empty) with g|⟨_,g,_⟩
  .omega
  exact g
 .have q:i<o.length:=by exact eV
  have A:=c.decl _ (AG o ByteArray.empty q);have K:=Z5 O (o.getD i ByteArray.empty);have C:HF d (d.length-(i+1)) (i+1) ((Kx d (o.getD i ByteArray.empty)).foldl Id o)=HF d d.length 0 [s]:=by
   rw[<-t];obtain⟨m,B⟩:∃m,d.length-i=m+1:=⟨d.length-i-1,by omega⟩;have H:d.length-(i+1)=m:=by omega
   rw[B,H];show _=if i<o.length then HF d m (i+1) ((Kx d (o.getD i ByteArray.empty)).foldl Id o) else o
   rw[At q]
  have M:(Kx d (o.getD i ByteArray.empty)).length<=AO:=by
   rcases C3 d (o.getD i ByteArray.empty) with g|⟨_,g,_⟩
   .omega
   exact(G _ (AG d d0 (k:=(Aj d (o.getD i ByteArray.empty)).toNat) O1)).2.1.1
  have N:(List.getD d (Aj d (o.getD i ByteArray.empty)).toNat (ByteArray.empty,[],[])).2.1=Kx d (o.getD i ByteArray.empty):=rfl;rw[N];generalize Kx d (o.getD i ByteArray.empty)=sup at *;simp only[AO]at M;refine AJ (ι:={k:Nat//k<=sup.length}) (λk=>⟨[(0,.p Ee d),(1,.p T9 s),(5,.sr 16 T9 0 ((sup.take k.1).foldl Id o).length),(6,.p (.int .i64) (i:Int)),(7,.p CQ sup),(8,.p (.int .i64) (k.1:Int))],[(16,.arr 9 T9 ((sup.take k.1).foldl Id o))]⟩) (λk=>sup.length-k.1) ⟨0,Do _⟩ (AC [(16,.nm 16)] rfl rfl ?_ ?_) (λk=>?_)
  .refine eM ?_;rfl
  .refine eM ?_;rfl
  obtain⟨k,hk⟩:=k;have w:=Z4 (l:=sup.take k) (o:=o) (λx y=>K x (AAs y)) c;have S:=w.1.len;have E:=λh:k<sup.length=>EM Id sup ByteArray.empty o h;simp only;generalize D:(sup.take k).foldl Id o=n at *;repeat'(first|exact trivial|apply eS rfl|apply AB|refine rX b ?_ ?_|refine rC ?_ ?_<;>intro a<;>try(cases a;done))
  .exact a
  .refine⟨by exact eV,?_⟩;simp only[AO];dsimp only[Ty.den]at *;omega
  .exact eV
  .have f:k<sup.length:=by exact eV
   have e:=E f;have r:Id n (sup.getD k ByteArray.empty)=n++[sup.getD k ByteArray.empty]:=by unfold Id;rw[As (by rw[a];simp)]
   rw[r]at e;refine⟨⟨k+1,by omega⟩,by simp only;omega,AC [(16,.nm 16)] rfl rfl ?_ ?_⟩
   .simp only[e];exact eN
   simp only[e];exact eN
  .exact eV
  .have f:k<sup.length:=by exact eV
   have e:=E f;have r:Id n (sup.getD k ByteArray.empty)=n:=by unfold Id;rw[At a]
   rw[r]at e;refine⟨⟨k+1,by omega⟩,by simp only;omega,AC [(16,.nm 16)] rfl rfl ?_ ?_⟩
   .simp only[e];exact eN
   simp only[e];exact eN
  .exact eV
  have f:sup.take k=sup:=By (by exact eV);rw[f]at D;rw[D]at C;have J:=w.1;have T:=w.2;exact⟨⟨(i+1,n),by simp only;omega,J,C⟩,by simp only;omega,eW [(16,.nm 16)]⟩
 have I:o=HF d d.length 0 [s]:=by
  rw[<-t];cases B:d.length-i with
  | zero=>rfl
  | succ m =>
   show _=if i<o.length then _ else o
   rw[As (by exact eV)]
 rw[<-I]at h1;refine AJ (ι:={j:Nat//j<=o.length}) (λj=>⟨[(0,.p Ee d),(5,.sr 16 T9 0 o.length),(9,.p CQ ((o.take j.1).foldl DZ [])),(10,.p (.int .i64) (j.1:Int))],[(16,.arr 9 T9 o)]⟩) (λj=>o.length-j.1) ⟨0,Do _⟩ (AC [(16,.nm 16)] rfl rfl ?_ ?_) (λj=>?_)
 .exact eN
 .refine eM ?_;rfl
 obtain⟨j,R⟩:=j;have L:=λh:j<o.length=>EM DZ o ByteArray.empty [] h;simp only;repeat'(first|exact trivial|apply eS rfl|apply AB|refine rX b ?_ ?_|refine rC ?_ ?_<;>intro a<;>try(cases a;done))
 .refine⟨a,?_⟩;have:=WK (o.take j);have P:=AAr j o;unfold Ie at this;dsimp only[Ty.den]at *;omega
 .exact eV
 .have v:j<o.length:=by exact eV
  have e:=L v;refine⟨⟨j+1,by omega⟩,by simp only;omega,AC [(16,.nm 16)] rfl rfl ?_ ?_⟩
  .exact eN
  simp only[e];exact eN
 have v:o.take j=o:=By (by exact eV);rw[v];exact fI b [.tmp 4] (by rw[h1];unfold Ie;exact eR)
end
section
attribute [local go_sem] M2 IC Xz
def Ef (s:ByteArray) (o:List ByteArray) (x:AH):List ByteArray:=if (AU x.2.1 s&&!AU o x.1)=true then o++[x.1] else o
def CW (d:List AH):Nat->Nat->List ByteArray->List ByteArray
 | 0,_,o=>o
 | n+1,i,o=>if i<o.length then CW d n (i+1) (d.foldl (Ef (o.getD i ByteArray.empty)) o) else o
def CX (d:List AH) (s:ByteArray):List ByteArray:=if Aj d s<0 then [] else Ie (CW d d.length 0 [s])
theorem Ta (s:ByteArray):∀(l:List AH) (k:Nat) (x:AH),x∈l->AL x.1 s=true->0<=Cj s k l
 | y :: l,k,x,a,h=>by
  simp only[Cj];split
  .omega
  rename_i b;rcases BY.1 a with rfl|a
  .exact absurd h b
  exact Ta s l (k+1) x a h
theorem C9 {d:List AH} {x:AH} (a:x∈d):0<=Aj d x.1:=Ta x.1 d 0 x a (CO _)
theorem A12 {d:List AH} (h:X7 d o) (s:ByteArray) {x:AH} (b:x∈d):X7 d (Ef s o x):=by
 unfold Ef;split
 .rename_i a;rw[AT,aT]at a;have:=kP h (C9 b);unfold Id at this
  rwa [As (by rw[a.2];simp)]at this
 exact h
theorem Tc {d:List AH} (s:ByteArray):∀ {l:List AH} {o:List ByteArray},(∀x∈l,x∈d)->X7 d o->X7 d (l.foldl (Ef s) o)/\o.length<=(l.foldl (Ef s) o).length
 | [],o,_,h=>⟨h,OS _⟩
 | x :: l,o,a,h=>by
  obtain⟨b,c⟩:=Tc s (l:=l) (λy e=>a y (by simp[e])) (A12 h s (a x sc));refine⟨b,gO ?_ c⟩;unfold Ef;split<;>simp
theorem Pm (s:ByteArray) {i:Nat}:∀ {l:List AH} {o:List ByteArray},i<o.length->(l.foldl (Ef s) o).getD i ByteArray.empty=o.getD i ByteArray.empty
 | [],_,_=>rfl
 | x :: l,o,h=>by
  have a:i<(Ef s o x).length/\(Ef s o x).getD i ByteArray.empty=o.getD i ByteArray.empty:=by
   unfold Ef;split
   .refine⟨by rw[If];omega,?_⟩;simp only[AS];rw[AA9 h]
   exact⟨h,rfl⟩
  rw[OR,Pm s a.1,a.2]
def X8:AX:={ ins:=[Ee,T9],pre:=λ(d,_,_)=>List.length d<=256,out:=λ(d,s,_)=>[.p CQ (CX d s)] }
attribute [local go_sem] X8
theorem vQ:Ac Tryz.prog 157 X8:=by
 refine fK [0,1,4,5,6,7,8,9,13,19,25,47,59] Tryz.func157 Tryz.ntmps157 (AF Kt (AF F7 (AF Ph AI))) ?_;rintro w0 O0 ⟨d,s,u⟩ b-y;have y:d.length<=256:=y;simp only[X8,AM];repeat'(first|exact trivial|apply eS rfl|refine rX b ?_ ?_|refine rC ?_ ?_<;>intro a<;>try(cases a;done))
 .have h1:CX d s=[]:=by unfold CX;rw[At a]
  exact fI b [.tmp 4] (by rw[h1];exact eR)
 have h1:CX d s=Ie (CW d d.length 0 [s]):=by unfold CX;rw[As (AAS.2 a)]
 have F:X7 d [s]:=⟨λx v=>by
  have:x=s:=by simpa using v
  rw[this];exact a,by simp⟩
 refine AJ (ι:={x:Nat×List ByteArray//x.1<=x.2.length/\X7 d x.2/\CW d (d.length-x.1) x.1 x.2=CW d d.length 0 [s]}) (λx=>⟨[(0,.p Ee d),(5,.sr 15 T9 0 x.1.2.length),(6,.p (.int .i64) (x.1.1:Int))],[(15,.arr 9 T9 x.1.2)]⟩) (λx=>d.length-x.1.1) ⟨(0,[s]),by simp,F,rfl⟩ (eW [(15,.nm 15)]) (λx=>?_)
 obtain⟨⟨i,o⟩,hi,q,r⟩:=x;simp only at hi q r;have P:=q.len;simp only;repeat'(first|exact trivial|apply eS rfl|refine rX b ?_ ?_|refine rC ?_ ?_<;>intro a<;>try(cases a;done))
 .have z:i<o.length:=by exact eV
  have B:CW d (d.length-(i+1)) (i+1) (d.foldl (Ef (o.getD i ByteArray.empty)) o)=CW d d.length 0 [s]:=by
   rw[<-r];obtain⟨m,A⟩:∃m,d.length-i=m+1:=⟨d.length-i-1,by omega⟩;have G:d.length-(i+1)=m:=by omega
   rw[A,G];show _=if i<o.length then CW d m (i+1) (d.foldl (Ef (o.getD i ByteArray.empty)) o) else o
   rw[At z]
  refine AJ (ι:={k:Nat//k<=d.length}) (λk=>⟨[(0,.p Ee d),(5,.sr 15 T9 0 ((d.take k.1).foldl (Ef (o.getD i ByteArray.empty)) o).length),(6,.p (.int .i64) (i:Int)),(7,.p (.int .i64) (k.1:Int))],[(15,.arr 9 T9 ((d.take k.1).foldl (Ef (o.getD i ByteArray.empty)) o))]⟩) (λk=>d.length-k.1) ⟨0,Do _⟩ (AC [(15,.nm 15)] rfl rfl ?_ ?_) (λk=>?_)
  .refine eM ?_;rfl
  .refine eM ?_;rfl
  obtain⟨k,hk⟩:=k;have g:=Tc (o.getD i ByteArray.empty) (l:=d.take k) (o:=o) (λx v=>AAs v) q;have N:=g.1.len;have E:=λh:k<d.length=>EM (Ef (o.getD i ByteArray.empty)) d d0 o h;have D:((d.take k).foldl (Ef (o.getD i ByteArray.empty)) o).getD i ByteArray.empty=o.getD i ByteArray.empty:=Pm _ z;simp only;generalize C:(d.take k).foldl (Ef (o.getD i ByteArray.empty)) o=f at *;repeat'(first|exact trivial|apply eS rfl|apply AB|refine rX b ?_ ?_|refine rC ?_ ?_<;>intro a<;>try(cases a;done))
  .have M:=g.2;refine⟨a,?_,λ_=>a⟩;dsimp only[Ty.den]at *;omega
  .refine⟨by assumption,?_⟩;simp only[AO];dsimp only[Ty.den]at *;omega
  .exact eV
  .have c:k<d.length:=by exact eV
   have e:=E c;rw[D]at a;have n:Ef (o.getD i ByteArray.empty) f (d.getD k d0)=f++[(d.getD k d0).1]:=by
    unfold Ef;rw[At (by rw[AT,aT];exact a)]
   rw[n]at e;refine⟨⟨k+1,by omega⟩,by simp only;omega,AC [(15,.nm 15)] rfl rfl ?_ ?_⟩
   .simp only[e];exact eN
   simp only[e];exact eN
  .exact eV
  .have c:k<d.length:=by exact eV
   have e:=E c;rw[D]at a;have n:Ef (o.getD i ByteArray.empty) f (d.getD k d0)=f:=by
    unfold Ef;rw[As];rw[AT,aT];rintro⟨h1,w⟩;rw[a h1]at w;cases w
   rw[n]at e;refine⟨⟨k+1,by omega⟩,by simp only;omega,AC [(15,.nm 15)] rfl rfl ?_ ?_⟩
   .simp only[e];exact eN
   simp only[e];exact eN
  .exact eV
  have c:d.take k=d:=By (by exact eV);rw[c]at C;rw[C]at B;have I:=g.1;have O:=g.2;exact⟨⟨(i+1,f),by simp only;omega,I,B⟩,by simp only;omega,eW [(15,.nm 15)]⟩
 have H:o=CW d d.length 0 [s]:=by
  rw[<-r];cases A:d.length-i with
  | zero=>rfl
  | succ m =>
   show _=if i<o.length then _ else o
   rw[As (by exact eV)]
 rw[<-H]at h1;refine AJ (ι:={j:Nat//j<=o.length}) (λj=>⟨[(0,.p Ee d),(5,.sr 15 T9 0 o.length),(8,.p CQ ((o.take j.1).foldl DZ [])),(9,.p (.int .i64) (j.1:Int))],[(15,.arr 9 T9 o)]⟩) (λj=>o.length-j.1) ⟨0,Do _⟩ (AC [(15,.nm 15)] rfl rfl ?_ ?_) (λj=>?_)
 .exact eN
 .refine eM ?_;rfl
 obtain⟨j,L⟩:=j;have J:=λh:j<o.length=>EM DZ o ByteArray.empty [] h;simp only;repeat'(first|exact trivial|apply eS rfl|apply AB|refine rX b ?_ ?_|refine rC ?_ ?_<;>intro a<;>try(cases a;done))
 .refine⟨a,?_⟩;have:=WK (o.take j);have K:=AAr j o;unfold Ie at this;dsimp only[Ty.den]at *;omega
 .exact eV
 .have t:j<o.length:=by exact eV
  have e:=J t;refine⟨⟨j+1,by omega⟩,by simp only;omega,AC [(15,.nm 15)] rfl rfl ?_ ?_⟩
  .exact eN
  simp only[e];exact eN
 have t:o.take j=o:=By (by exact eV);rw[t];exact fI b [.tmp 4] (by rw[h1];unfold Ie;exact eR)
end
section
attribute [local go_sem] M2 Xz fN IC
def Eg (d:List AH) (o:List ByteArray) (x:ByteArray):List ByteArray:=if 0<=Aj d x then DZ o x else o
def BZ (d:List AH) (l:List ByteArray):List ByteArray:=l.foldl (Eg d) []
theorem IE (d:List AH) (l:List ByteArray):(BZ d l).length<=l.length:=by
 have key:∀(l o:List ByteArray),(l.foldl (Eg d) o).length<=o.length+l.length:=by
  intro l;induction l with
  | nil=>intro o;simp
  | cons x l a =>
   intro o;have h1:=a (Eg d o x);have b:(Eg d o x).length<=o.length+1:=by
    unfold Eg;split
    .exact Kw o x
    omega
   simp only[OR,NO];omega
 have:=key l [];simpa[BZ] using this
def Pn:AX:={ ins:=[Ee,CQ],pre:=λ(_,l,_)=>List.length l<=100000,out:=λ(d,l,_)=>[.p CQ (BZ d l)] }
attribute [local go_sem] Pn
theorem Z6:Ac Tryz.prog 183 Pn:=by
 refine fK [0,1,4,5,6,10,19] Tryz.func183 Tryz.ntmps183 (AF Kt (AF Ph AI)) ?_;rintro w0 O0 ⟨d,l,u⟩ c-f;have f:l.length<=100000:=f;simp only[Pn,AM];repeat'(first|exact trivial|apply eS rfl|refine rX c ?_ ?_)
 refine AJ (ι:={k:Nat//k<=l.length}) (λk=>⟨[(0,.p Ee d),(1,.p CQ l),(5,.p CQ (BZ d (l.take k.1))),(6,.p (.int .i64) (k.1:Int))],[]⟩) (λk=>l.length-k.1) ⟨0,Do _⟩ (AC [] rfl rfl ?_ ?_) (λk=>?_)
 .exact eN
 .refine eM ?_;rfl
 obtain⟨k,hk⟩:=k;have hn:=IE d (l.take k);have g:=AAr k l;have hs:=λh:k<l.length=>EM (Eg d) l ByteArray.empty [] h;simp only;repeat'(first|exact trivial|apply eS rfl|apply AB|refine rX c ?_ ?_|refine rC ?_ ?_<;>intro b<;>try(cases b;done))
 .exact b
 .exact⟨by assumption,by omega⟩
 .exact eV
 .have a:k<l.length:=by exact eV
  have e:BZ d (l.take (k+1))=Eg d (BZ d (l.take k)) (l.getD k ByteArray.empty):=hs a;unfold Eg at e;rw[At b]at e;refine⟨⟨k+1,by omega⟩,by simp only;omega,AC [] rfl rfl ?_ ?_⟩
  .exact eN
  simp only[e];exact eN
 .exact eV
 .have a:k<l.length:=by exact eV
  have e:BZ d (l.take (k+1))=Eg d (BZ d (l.take k)) (l.getD k ByteArray.empty):=hs a;unfold Eg at e;rw[As (ACA.2 b)]at e;refine⟨⟨k+1,by omega⟩,by simp only;omega,AC [] rfl rfl ?_ ?_⟩
  .exact eN
  simp only[e];exact eN
 have a:l.take k=l:=By (by exact eV);rw[a];exact fI c [.tmp 4]
def kQ (d:List AH) (all:List ByteArray) (i:Nat) (k:Nat):Bool:=(k:Int)==(i:Int)||!AU (JT d (all.getD i ByteArray.empty)) (all.getD k ByteArray.empty)
def OG (d:List AH) (all:List ByteArray) (i n:Nat):Bool:=(List.range n).all (kQ d all i)
def OH (d:List AH) (all:List ByteArray) (n:Nat):List ByteArray:=((List.range n).filter λi=>OG d all i all.length).map λi=>all.getD i ByteArray.empty
def A0 (d:List AH) (l:List ByteArray):List ByteArray:=OH d (BZ d l) (BZ d l).length
theorem oO (d:List AH) (all:List ByteArray) (n:Nat):OH d all (n+1)=OH d all n++if OG d all n all.length=true then [all.getD n ByteArray.empty] else []:=by
 unfold OH;rw[AAh,ABs,AAH]
 congr 1
 rw[AAp,ABK];split<;>rfl
theorem Z7 (d:List AH) (all:List ByteArray) (n:Nat):(OH d all n).length<=n:=by
 unfold OH;rw[dB];exact gO (AAZ _ _) sc
theorem fO (d:List AH) (all:List ByteArray) (i n:Nat):OG d all i (n+1)=(OG d all i n&&kQ d all i n):=by
 unfold OG;rw[AAh,ABM];simp
def Ky:AX:={ ins:=[Ee,CQ],pre:=λ(d,l,_)=>OD d/\List.length d<=256/\List.length l<=100000,out:=λ(d,l,_)=>[.p CQ (A0 d l)] }
attribute [local go_sem] Ky
theorem Td:Ac Tryz.prog 163 Ky:=by
 refine fK [0,1,4,5,6,7,8,9,10,17,29,47] Tryz.func163 Tryz.ntmps163 (AF Z6 (AF vP (AF F7 AI))) ?_;rintro w0 O0 ⟨d,l,u⟩ c-⟨n,f,g⟩;have f:d.length<=256:=f;have g:l.length<=100000:=g;have m:A0 d l=OH d (BZ d l) (BZ d l).length:=rfl;have o:=IE d l;simp only[Ky,AM];repeat'(first|exact trivial|apply eS rfl|refine rX c ?_ ?_)
 .exact g
 rw[m];generalize BZ d l=all at *;refine AJ (ι:={i:Nat//i<=all.length}) (λi=>⟨[(0,.p Ee d),(5,.sr 54 T9 0 (OH d all i.1).length),(6,.p CQ all),(7,.p (.int .i64) (i.1:Int))],[(54,.arr 9 T9 (OH d all i.1))]⟩) (λi=>all.length-i.1) ⟨0,Do _⟩ (AC [(54,.nil)] rfl rfl ?_ ?_) (λi=>?_)
 .refine eM ?_;rfl
 .refine eM ?_;rfl
 obtain⟨i,hi⟩:=i;have q:=Z7 d all i;have b:=oO d all i;simp only;repeat'(first|exact trivial|apply eS rfl|refine rX c ?_ ?_|refine rC ?_ ?_<;>intro a<;>try(cases a;done))
 .exact⟨a,n,f⟩
 .have h:i<all.length:=by exact eV
  refine AJ (ι:={k:Nat//k<=all.length}) (λk=>⟨[(0,.p Ee d),(5,.sr 54 T9 0 (OH d all i).length),(6,.p CQ all),(7,.p (.int .i64) (i:Int)),(8,.p CQ (JT d (all.getD i ByteArray.empty))),(9,.p .bool (OG d all i k.1)),(10,.p (.int .i64) (k.1:Int))],[(54,.arr 9 T9 (OH d all i))]⟩) (λk=>all.length-k.1) ⟨0,Do _⟩ (AC [(54,.nm 54)] rfl rfl ?_ ?_) (λk=>?_)
  .exact eN
  .refine eM ?_;rfl
  obtain⟨k,hk⟩:=k;have j:=fO d all i k;simp only;repeat'(first|exact trivial|apply eS rfl|apply AB|refine rX c ?_ ?_|refine rC ?_ ?_<;>intro a<;>try(cases a;done))
  .exact λ_=>a
  .exact eV
  .have e:k<all.length:=by exact eV
   refine⟨⟨k+1,by omega⟩,by simp only;omega,AC [(54,.nm 54)] rfl rfl ?_ ?_⟩
   .exact eN
   simp only[j];unfold kQ;exact eN
  .refine⟨by assumption,?_⟩;simp only[AO];omega
  .exact eV
  .have e:k=all.length:=by exact eV
   subst e;rw[a,At rfl]at b;refine⟨⟨i+1,by omega⟩,by simp only;omega,AC [(54,.nm 54)] rfl rfl ?_ ?_⟩
   .simp only[b];exact eN
   simp only[b];exact eN
  .exact eV
  have e:k=all.length:=by exact eV
  subst e;rw[a,As sc,AAk]at b;refine⟨⟨i+1,by omega⟩,by simp only;omega,AC [(54,.nm 54)] rfl rfl ?_ ?_⟩
  .simp only[b];exact eN
  simp only[b];exact eN
 have h:i=all.length:=by exact eV
 subst h;refine C8 [54] ?_;exact fI c [.tmp 4]
end
section
attribute [local go_sem] JQ
def oP (b:List Int) (x:Int):List Int:=b.set (x.tdiv 64).toNat (CY .or .u64 (b.getD (x.tdiv 64).toNat 0) (XR .u64 1 (x.tmod 64)))
def q9 (l:List Int):List Int:=l.foldl oP (List.replicate 64 0)
def okB (x:Int):Bool:=!(decide (x<0)||decide (4095<x))
def ofF (l:List Int):List Int×Int:=if l.all okB=true then (BK (q9 l),0) else ([],2)
theorem OI (l:List Int):(q9 l).length=64:=by
 have key:∀(l b:List Int),(l.foldl oP b).length=b.length:=by
  intro l;induction l with
  | nil=>intro b;rfl
  | cons x l a =>
   intro b;rw[OR,a];simp[oP]
 unfold q9;rw[key];simp
def ofS:AX:={ ins:=[CH],pre:=λ_=>True,out:=λ(l,_)=>[.p BS (ofF l).1,.p DD (ofF l).2] }
theorem A6v:Ac Tryz.prog 159 ofS:=by
 refine fK [0,2,3,4,5,10,24] Tryz.func159 Tryz.ntmps159 (AF Ls AI) ?_;rintro w0 O0 ⟨l,u⟩ c ⟨⟨g,-⟩,-⟩ -;simp only[AO]at g;simp only[ofS,AM];repeat'(first|exact trivial|apply eS rfl|refine rX c ?_ ?_)
 .simp only[AO];omega
 refine AJ (ι:={k:Nat//k<=l.length/\(l.take k).all okB=true}) (λk=>⟨[(0,.p CH l),(4,.sr 6 Pf 0 (q9 (l.take k.1)).length),(5,.p (.int .i64) (k.1:Int))],[(6,.arr 205 Pf (q9 (l.take k.1)))]⟩) (λk=>l.length-k.1) ⟨0,Do _,rfl⟩ (AC [(6,.nm 6)] rfl rfl ?_ ?_) (λk=>?_)
 .refine eM ?_;rfl
 .refine eM ?_;rfl
 obtain⟨k,hk,hf⟩:=k;have i:=OI (l.take k);have hs:∀h:k<l.length,q9 (l.take (k+1))=oP (q9 (l.take k)) (l.getD k 0):=λh=>EM oP l 0 _ h;simp only;repeat'(first|exact trivial|apply eS rfl|apply AB|refine rX c ?_ ?_|refine rC ?_ ?_<;>intro a<;>try(cases a;done))
 .exact⟨a,λ_=>a⟩
 .have b:k<l.length:=by exact eV
  have h1:ofF l=([],2):=by
   unfold ofF;rw[As];intro h;have:=No.1 h _ (AG l 0 b);unfold okB at this;rw[aT,AAa,TO,TO]at this;rcases a with h|h
   .exact this.1 h
   exact this.2 h
  exact fI c [.tmp 2,.tmp 3] (by rw[h1];exact eR)
 .obtain⟨h0,h1⟩:=a;have d:Int.tdiv (l.getD k 0) 64=l.getD k 0 / 64:=AAW h0;have f:Int.tmod (l.getD k 0) 64=l.getD k 0 % 64:=ABb h0;rw[d,f,i];refine⟨?_,⟨by decide,?_,?_⟩,?_,⟨by decide,?_,?_⟩,⟨?_,?_⟩,?_,⟨by decide,?_,?_⟩,⟨?_,?_⟩,?_,?_,?_⟩<;>exact eV
 .exact eV
 .have b:k<l.length:=by exact eV
  have e:=hs b;refine⟨⟨k+1,by omega,?_⟩,by simp only;omega,AC [(6,.nm 6)] rfl rfl ?_ ?_⟩
  .rw[Pk l 0 _ b,hf,AC4];unfold okB;rw[aT,AAa,TO,TO];exact⟨AAS.2 a.1,AAS.2 a.2⟩
  .simp only[e];refine eM ?_;rfl
  simp only[e];refine eM ?_;rw[<-e,OI,OI]
 have b:l.take k=l:=By (by exact eV);rw[b]at hf ⊢;have h1:ofF l=(BK (q9 l),0):=by unfold ofF;rw[At hf]
 have j:=OI l;refine C8 [6] ?_;repeat'(first|apply eS rfl|refine rX c ?_ ?_)
 .rw[j];decide
 exact fI c [.tmp 2,.tmp 3] (by rw[h1];exact eR)
end
section
attribute [local go_sem] TZ OB
def fP (l:List (List Int)) (b:List Int):Bool:=l.any λx=>GS x b
def A4w:AX:={ ins:=[RL,BS],pre:=λ_=>True,out:=λ(l,b,_)=>[.p .bool (fP l b)],lend:=true }
theorem A4x:Ac Tryz.prog 160 A4w:=by
 refine fK [0,1,4,5,9,17] Tryz.func160 Tryz.ntmps160 (AF kO AI) ?_;rintro w0 O0 ⟨l,n,u⟩ a ⟨⟨e,-⟩,-⟩ -;simp only[AO]at e;simp only[A4w,AM];repeat'(first|exact trivial|apply eS rfl|refine rX a ?_ ?_)
 refine AJ (ι:={k:Nat//k<=l.length/\(l.take k).any (λx=>GS x n)=false}) (λk=>⟨[(0,.p RL l),(1,.p BS n),(5,.p (.int .i64) (k.1:Int))],[]⟩) (λk=>l.length-k.1) ⟨0,by simp⟩ (eW []) (λk=>?_)
 obtain⟨k,hk,c⟩:=k;repeat'(first|exact trivial|apply eS rfl|apply AB|refine rX a ?_ ?_|refine rC ?_ ?_<;>intro b<;>try(cases b;done))
 .exact eV
 .have d:k<l.length:=by exact eV
  have h1:fP l n=true:=Ho l [] _ d b;exact fI a [.tmp 4] (by rw[h1];exact eR)
 .exact eV
 .have d:k<l.length:=by exact eV
  refine⟨⟨k+1,by exact eV,?_⟩,by simp only;exact eV,AC [] rfl rfl ?_ ?_⟩
  .rw[Lr l [] _ d,c];exact b
  .exact eN
  exact eN
 have hk:l.take k=l:=By (by exact eV);rw[hk]at c;have h1:fP l n=false:=c;exact fI a [.tmp 4] (by rw[h1];exact eR)
abbrev AP:=ByteArray×List Int
abbrev c0:AP:=(ByteArray.empty,[])
def Jw (l:List AP) (i j:Int):Bool:=EL (l.getD j.toNat c0).2 (l.getD i.toNat c0).2
def kR:AX:={ ins:=[Ic,T3,T3],pre:=λ(l,i,j,_)=>((0:Int)<=i/\i<(List.length l:Int))/\((0:Int)<=j/\j<(List.length l:Int))/\(∀x∈(l:List AP),x.2.length<=100000),out:=λ(l,i,j,_)=>[.p .bool (Jw l i j)],lend:=true }
theorem kS:Ac Tryz.prog 117 kR:=by
 refine fK [0,1,2,6] Tryz.func117 Tryz.ntmps117 (AF Pj AI) ?_;rintro w0 O0 ⟨l,i,j,u⟩ a-⟨hi,b,c⟩;simp only[kR,AM];repeat'(first|exact trivial|apply eS rfl|refine rX a ?_ ?_)
 .exact⟨b,hi,c _ (AG (l:List AP) c0 (by exact eV))⟩
 exact fI a [.tmp 6] (by unfold Jw;exact eR)
end
section
attribute [local go_sem] TZ
def JV (s:ByteArray):Nat->List AP->Int
 | _,[]=>-1
 | k,x :: l=>if AL x.1 s=true then (k:Int) else JV s (k+1) l
def BE (l:List AP) (s:ByteArray):Int:=JV s 0 l
theorem WM (s:ByteArray) (l:List AP) (h:k<l.length):JV s k (l.drop k)=if AL (l.getD k c0).1 s=true then (k:Int) else JV s (k+1) (l.drop (k+1)):=by
 rw[OF h];have e:l.getD k c0=l[k]:=by simp[AS,h]
 rw[e];rfl
def R2:AX:={ ins:=[Ic,T9],pre:=λ_=>True,out:=λ(l,s,_)=>[.p T3 (BE l s)],lend:=true }
theorem WN:Ac Tryz.prog 119 R2:=by
 refine fK [0,1,4,5,9,18] Tryz.func119 Tryz.ntmps119 AI ?_;rintro w0 O0 ⟨l,s,u⟩ c ⟨⟨d,-⟩,-⟩ -;simp only[AO]at d;simp only[R2,AM];repeat'(first|exact trivial|apply eS rfl|refine rX c ?_ ?_)
 refine AJ (ι:={k:Nat//k<=l.length/\JV s k (l.drop k)=BE l s}) (λk=>⟨[(0,.p Ic l),(1,.p T9 s),(5,.p (.int .i64) (k.1:Int))],[]⟩) (λk=>l.length-k.1) ⟨0,Do _,rfl⟩ (eW []) (λk=>?_)
 obtain⟨k,hk,hf⟩:=k;simp only;repeat'(first|exact trivial|apply eS rfl|apply AB|refine rX c ?_ ?_|refine rC ?_ ?_<;>intro b<;>try(cases b;done))
 .exact b
 .have a:k<l.length:=by exact eV
  rw[WM s l a,At b]at hf;exact fI c [.tmp 4] (by rw[<-hf];exact eR)
 .exact eV
 .have a:k<l.length:=by exact eV
  rw[WM s l a,As (by rw[b];simp)]at hf;exact⟨⟨k+1,by omega,hf⟩,by simp only;omega,eW []⟩
 have a:l.drop k=[]:=ON (by exact eV);rw[a]at hf;exact fI c [.tmp 4] (by rw[<-hf];first|exact eR|refine N9 ?_;rfl)
end
section
attribute [local go_sem] TZ JQ
def OJ (s:List Int):Nat->List AP->Int
 | _,[]=>-1
 | k,x :: l=>if GS x.2 s=true then (k:Int) else OJ s (k+1) l
def GM (l:List AP) (b:List Int):Int:=OJ (BK b) 0 l
theorem Te (s:List Int) (l:List AP) (h:k<l.length):OJ s k (l.drop k)=if GS (l.getD k c0).2 s=true then (k:Int) else OJ s (k+1) (l.drop (k+1)):=by
 rw[OF h];have e:l.getD k c0=l[k]:=by simp[AS,h]
 rw[e];rfl
def fQ:AX:={ ins:=[Ic,BS],pre:=λ(_,b,_)=>List.length b<=100000,out:=λ(l,b,_)=>[.p T3 (GM l b)],lend:=true }
theorem vR:Ac Tryz.prog 110 fQ:=by
 refine fK [0,1,4,5,6,12,21] Tryz.func110 Tryz.ntmps110 (AF Ls (AF kO AI)) ?_;rintro w0 O0 ⟨l,b,u⟩ d ⟨⟨g,-⟩,-⟩ e;simp only[AO]at g;simp only[fQ,AM];repeat'(first|exact trivial|apply eS rfl|refine rX d ?_ ?_)
 .exact e
 have f:GM l b=OJ (BK b) 0 l:=rfl;rw[f];generalize BK b=s at *;refine AJ (ι:={k:Nat//k<=l.length/\OJ s k (l.drop k)=OJ s 0 l}) (λk=>⟨[(0,.p Ic l),(5,.p BS s),(6,.p (.int .i64) (k.1:Int))],[]⟩) (λk=>l.length-k.1) ⟨0,Do _,rfl⟩ (eW []) (λk=>?_)
 obtain⟨k,hk,hf⟩:=k;simp only;repeat'(first|exact trivial|apply eS rfl|apply AB|refine rX d ?_ ?_|refine rC ?_ ?_<;>intro c<;>try(cases c;done))
 .exact c
 .have a:k<l.length:=by exact eV
  rw[Te s l a,At c]at hf;exact fI d [.tmp 4] (by rw[<-hf];exact eR)
 .exact eV
 .have a:k<l.length:=by exact eV
  rw[Te s l a,As (by rw[c];simp)]at hf;exact⟨⟨k+1,by omega,hf⟩,by simp only;omega,eW []⟩
 have a:l.drop k=[]:=ON (by exact eV);rw[a]at hf;exact fI d [.tmp 4] (by rw[<-hf];first|exact eR|refine N9 ?_;rfl)
end
section
attribute [local go_sem] TZ
def Z8 (s:ByteArray):List (ByteArray×ByteArray)->ByteArray×Bool
 | []=>(ByteArray.empty,false)
 | x :: l=>if AL x.1 s=true then (x.2,true) else Z8 s l
def Cu (x:AH) (s:ByteArray):ByteArray×Bool:=Z8 s x.2.2
theorem WO (s:ByteArray) (l:List (ByteArray×ByteArray)) (h:k<l.length):Z8 s (l.drop k)=if AL (l.getD k (ByteArray.empty,ByteArray.empty)).1 s=true then ((l.getD k (ByteArray.empty,ByteArray.empty)).2,true) else Z8 s (l.drop (k+1)):=by
 rw[OF h];have e:l.getD k (ByteArray.empty,ByteArray.empty)=l[k]:=by simp[AS,h]
 rw[e];rfl
def X9:AX:={ ins:=[tV,T9],pre:=λ_=>True,out:=λ(x,s,_)=>[.p T9 (Cu x s).1,.p .bool (Cu x s).2],lend:=true }
theorem Z9:Ac Tryz.prog 149 X9:=by
 refine fK [0,1,2,4,5,6,11,21] Tryz.func149 Tryz.ntmps149 AI ?_;rintro w0 O0 ⟨⟨nm,sup,a⟩,s,u⟩ d ⟨⟨-,-,f,-⟩,-⟩ -;simp only[AO]at f;simp only[X9,AM];repeat'(first|exact trivial|apply eS rfl|refine rX d ?_ ?_)
 have e:({ data:=#[] }:ByteArray).size<=AO:=by decide
 rw[At e];refine AJ (ι:={k:Nat//k<=a.length/\Z8 s (a.drop k)=Cu (nm,sup,a) s}) (λk=>⟨[(1,.p T9 s),(2,.bp 2 [] 0),(6,.p (.int .i64) (k.1:Int))],[(2,.box 65 true [.p T9 nm,.p CQ sup,.p T63 a])]⟩) (λk=>a.length-k.1) ⟨0,Do _,rfl⟩ (eW [(2,.nm 2)]) (λk=>?_)
 obtain⟨k,hk,hf⟩:=k;simp only;repeat'(first|exact trivial|apply eS rfl|apply AB|refine rX d ?_ ?_|refine rC ?_ ?_<;>intro c<;>try(cases c;done))
 .exact c
 .assumption
 .have b:k<a.length:=by exact eV
  rw[WO s a b,At c]at hf;exact fI d [.tmp 4,.tmp 5] (by rw[<-hf];exact eR)
 .exact eV
 .have b:k<a.length:=by exact eV
  rw[WO s a b,As (by rw[c];simp)]at hf;exact⟨⟨k+1,by omega,hf⟩,by simp only;omega,eW [(2,.nm 2)]⟩
 have b:a.drop k=[]:=ON (by exact eV);rw[b]at hf;rw[At e];exact fI d [.tmp 4,.tmp 5] (by rw[<-hf];first|exact eR|refine N9 ?_;exact⟨rfl,rfl⟩)
end
section
attribute [local go_sem] fL
def FC (a b:AP):Bool:=decide (((HB b.2).length:Int)<((HB a.2).length:Int))||((HB a.2).length:Int)==((HB b.2).length:Int)&&CA a.1 b.1
def YA:AX:={ ins:=[Xx,Xx],pre:=λ(a,b,_)=>List.length (a:AP).2<=100000/\List.length (b:AP).2<=100000,out:=λ(a,b,_)=>[.p .bool (FC a b)],lend:=true }
theorem oQ:Ac Tryz.prog 116 YA:=by
 refine fK [0,1,2,3,4,5,6] Tryz.func116 Tryz.ntmps116 (AF vL AI) ?_;rintro w0 O0 ⟨⟨c,ac⟩,⟨e,d⟩,u⟩ a-⟨ha,b⟩;simp only[YA,AM];repeat'(first|exact trivial|apply eS rfl|refine rX a ?_ ?_)
 .exact ha
 .exact b
 exact fI a [.tmp 4] (by unfold FC;exact eR)
end
section
attribute [local go_sem] X8 IC ofS
def M5 (low all:List ByteArray) (n:Nat):List Int:=((List.range n).filter λ(i:Nat)=>AU low (all.getD i ByteArray.empty)).map λ(i:Nat)=>(i:Int)
theorem oT (low all:List ByteArray) (n:Nat):M5 low all (n+1)=M5 low all n++if AU low (all.getD n ByteArray.empty)=true then [(n:Int)] else []:=by
 unfold M5;rw[AAh,ABs,AAH]
 congr 1
 rw[AAp,ABK];split<;>rfl
theorem vS (low all:List ByteArray) (n:Nat):(M5 low all n).length<=n:=by
 unfold M5;rw[dB];exact gO (AAZ _ _) sc
def D9 (d:List AH) (all:List ByteArray) (s:ByteArray):List Int:=(ofF (M5 (CX d s) all all.length)).1
def vT:AX:={ ins:=[Ee,CQ,T9],pre:=λ(d,l,_,_)=>List.length d<=256/\List.length l<=100000,out:=λ(d,l,s,_)=>[.p BS (D9 d l s)] }
theorem A14:Ac Tryz.prog 113 vT:=by
 refine fK [0,1,2,6,7,8,9,10,18,26] Tryz.func113 Tryz.ntmps113 (AF vQ (AF F7 (AF A6v AI))) ?_;rintro w0 O0 ⟨d,l,s,u⟩ b-⟨g,e⟩;have e:l.length<=100000:=e;have f:D9 d l s=(ofF (M5 (CX d s) l l.length)).1:=rfl;simp only[vT,AM];repeat'(first|exact trivial|apply eS rfl|refine rX b ?_ ?_)
 .exact g
 rw[f];generalize CX d s=low at *;refine AJ (ι:={n:Nat//n<=l.length}) (λn=>⟨[(0,.p Ee d),(1,.p CQ l),(2,.p T9 s),(7,.p CQ low),(8,.sr 30 T3 0 (M5 low l n.1).length),(9,.p (.int .i64) (n.1:Int))],[(30,.arr 3 T3 (M5 low l n.1))]⟩) (λn=>l.length-n.1) ⟨0,Do _⟩ (AC [(30,.nil)] rfl rfl ?_ ?_) (λn=>?_)
 .refine eM ?_;rfl
 .refine eM ?_;rfl
 obtain⟨n,hn⟩:=n;have h:=vS low l n;have hs:=oT low l n;simp only;repeat'(first|exact trivial|apply eS rfl|apply AB|refine rX b ?_ ?_|refine rC ?_ ?_<;>intro a<;>try(cases a;done))
 .exact a
 .rw[a,At rfl]at hs;simp only[AO];dsimp only[Ty.den]at *;omega
 .exact eV
 .have c:n<l.length:=by exact eV
  rw[a,At rfl]at hs;refine⟨⟨n+1,by omega⟩,by simp only;omega,AC [(30,.nm 30)] rfl rfl ?_ ?_⟩
  .simp only[hs];exact eN
  simp only[hs];exact eN
 .exact eV
 .have c:n<l.length:=by exact eV
  rw[a,As sc,AAk]at hs;refine⟨⟨n+1,by omega⟩,by simp only;omega,AC [(30,.nm 30)] rfl rfl ?_ ?_⟩
  .simp only[hs];exact eN
  simp only[hs];exact eN
 have c:n=l.length:=by exact eV
 subst c;refine C8 [30] ?_;repeat'(first|exact trivial|apply eS rfl|refine rX b ?_ ?_)
 exact fI b [.tmp 6]
end
section
attribute [local go_sem] Xz
def Ig (o:List ByteArray) (f:ByteArray×ByteArray):List ByteArray:=DZ o f.1
def IG (o:List ByteArray) (x:AH):List ByteArray:=x.2.2.foldl Ig o
def BC (d:List AH):List ByteArray:=d.foldl IG []
theorem WP (l:List (ByteArray×ByteArray)):∀o:List ByteArray,(l.foldl Ig o).length<=o.length+l.length:=by
 induction l with
 | nil=>intro o;simp
 | cons x l a =>
  intro o;have h1:=a (Ig o x);have b:(Ig o x).length<=o.length+1:=Kw o x.1;simp only[OR,NO];omega
theorem fR {d:List AH} (h:∀x∈d,x.2.2.length<=256):∀(l:List AH),(∀x∈l,x∈d)->∀o:List ByteArray,(l.foldl IG o).length<=o.length+256*l.length:=by
 intro l;induction l with
 | nil=>intro _ o;simp
 | cons x l c =>
  intro a o;have h1:=c (λy b=>a y (by simp[b])) (IG o x);have e:=WP x.2.2 o;have f:=h x (a x sc);have g:(IG o x).length=(x.2.2.foldl Ig o).length:=rfl;simp only[OR,NO];omega
def Tf:AX:={ ins:=[Ee],pre:=λ(d,_)=>List.length d<=256/\(∀x∈(d:List AH),x.2.2.length<=256),out:=λ(d,_)=>[.p CQ (BC d)] }
theorem Tg:Ac Tryz.prog 108 Tf:=by
 refine fK [0,2,3,4,5,9,19] Tryz.func108 Tryz.ntmps108 (AF Ph AI) ?_;rintro w0 O0 ⟨d,u⟩ c-⟨f,m⟩;have f:d.length<=256:=f;simp only[Tf,AM];repeat'(first|exact trivial|apply eS rfl|refine rX c ?_ ?_)
 refine AJ (ι:={i:Nat//i<=d.length}) (λi=>⟨[(0,.p Ee d),(3,.p CQ (BC (d.take i.1))),(4,.p (.int .i64) (i.1:Int))],[]⟩) (λi=>d.length-i.1) ⟨0,Do _⟩ (AC [] rfl rfl ?_ ?_) (λi=>?_)
 .exact eN
 .refine eM ?_;rfl
 obtain⟨i,hi⟩:=i;have l:=fR m (d.take i) (λx h=>AAs h) [];have t:=AAr i d;have hs:=λh:i<d.length=>EM IG d d0 [] h;have g:∀e,BC e=e.foldl IG []:=λ_=>rfl;simp only;repeat'(first|exact trivial|apply eS rfl|refine rX c ?_ ?_|refine rC ?_ ?_<;>intro a<;>try(cases a;done))
 .have j:i<d.length:=by exact eV
  have v:=m _ (AG d d0 j);have hs:=hs j;rw[<-g,<-g]at hs;rw[<-g]at l;generalize BC (d.take i)=o at *;refine AJ (ι:={k:Nat//k<=(d.getD i d0).2.2.length}) (λk=>⟨[(0,.p Ee d),(3,.p CQ (((d.getD i d0).2.2.take k.1).foldl Ig o)),(4,.p (.int .i64) (i:Int)),(5,.p (.int .i64) (k.1:Int))],[]⟩) (λk=>(d.getD i d0).2.2.length-k.1) ⟨0,Do _⟩ (AC [] rfl rfl ?_ ?_) (λk=>?_)
  .exact eN
  .refine eM ?_;rfl
  obtain⟨k,hk⟩:=k;have r:k<=(d.getD i d0).2.2.length:=hk;have q:=WP ((d.getD i d0).2.2.take k) o;have s:=AAr k (d.getD i d0).2.2;have n:=λh:k<(d.getD i d0).2.2.length=>EM Ig (d.getD i d0).2.2 (ByteArray.empty,ByteArray.empty) o h;simp only;repeat'(first|apply eS rfl|apply AB|refine rX c ?_ ?_|refine rC ?_ ?_<;>intro a<;>try(cases a;done))
  .assumption
  .refine⟨by assumption,a,?_⟩;simp only[AAd]at l;dsimp only[Ty.den]at *;omega
  .have h1:(k:Int)<((d.getD i d0).2.2.length:Int):=a;exact eV
  .have b:k<(d.getD i d0).2.2.length:=iN.1 a;have e:=n b;refine⟨⟨k+1,b⟩,by simp only;omega,AC [] rfl rfl ?_ ?_⟩
   .exact eN
   simp only[e];unfold Ig;exact eN
  .have:=f;exact eV
  have b:(d.getD i d0).2.2.take k=(d.getD i d0).2.2:=By (AAe.1 a);have e:BC (d.take (i+1))=((d.getD i d0).2.2.take k).foldl Ig o:=by rw[b];exact hs
  refine⟨⟨i+1,j⟩,by simp only;omega,AC [] rfl rfl ?_ ?_⟩
  .exact eN
  simp only[e];exact eN
 have b:d.take i=d:=By (by exact eV);rw[b];exact fI c [.tmp 2]
end
theorem WQ {d:List AH} {l:List ByteArray}:∀ {r:List ByteArray} {k:Nat},RN d l k r=0->∀s∈r,0<=Aj d s
 | [],_,_,s,hs=>by cases hs
 | x :: r,k,h,s,hs=>by
  simp only[RN]at h;split at h
  .cases h
  rename_i h1;split at h
  .cases h
  rcases BY.1 hs with rfl|hs
  .omega
  exact WQ h s hs
theorem OK {d:List AH}:∀ {l:List AH},JR d l=0->∀x∈l,∀s∈x.2.1,0<=Aj d s
 | [],_,x,a=>by cases a
 | y :: l,h,x,a=>by
  simp only[JR]at h;split at h
  .rename_i h1;exact absurd h h1
  rename_i h1;rcases BY.1 a with rfl|a
  .exact WQ (DO h1)
  exact OK h x a
theorem vU {d:List AH} (h:JS d=0):OD d:=OK h
theorem Av {d:List AH} (h:A3 d=0):OD d/\d.length<=256/\HE d=1/\CV d=0/\d.length<=(Bd d).length:=by
 unfold A3 at h;split at h
 .rename_i h1;exact absurd h h1
 rename_i h1;split at h
 .rename_i a;exact absurd h a
 rename_i a;split at h
 .rename_i b;exact absurd h b
 rename_i b;split at h
 .cases h
 rename_i c;split at h
 .cases h
 rename_i e;exact⟨vU (DO b),Qn (DO h1),DO c,DO a,by omega⟩
section
attribute [local go_sem] A4w vH
def Fi (l:List (List Int)) (i k:Nat):List (List Int) :=
 if (decide (0<((Dz (l.getD i []) (l.getD k [])).length:Int))&&!fP l (Dz (l.getD i []) (l.getD k [])))=true then l++[Dz (l.getD i []) (l.getD k [])] else l
def Fj (i:Nat):Nat->Nat->List (List Int)->List (List Int)
 | 0,_,l=>l
 | n+1,k,l=>if l.length<=256 then Fj i n (k+1) (Fi l i k) else l
def HG:Nat->Nat->List (List Int)->List (List Int)
 | 0,_,l=>l
 | n+1,i,l=>if i<l.length/\l.length<=256 then HG n (i+1) (Fj i i 0 l) else l
def Ar (c:List (List Int)):List (List Int):=HG 257 0 c
theorem aA (a b:List Int):(Dz a b).length<=a.length:=by
 unfold Dz BK;have:=D8 .and a b a.length;rw[On];omega
structure A35 (l:List (List Int)):Prop where
 len:l.length<=257
 wid:∀c∈l,c.length<=64
theorem Kz (h:∀c∈l,c.length<=64) (k:Nat):(l.getD k []).length<=64:=by
 rw[AS];cases hh:l[k]? with
 | none=>simp
 | some x=>exact h x (AAm hh)
theorem aB (h:∀c∈l,c.length<=64) (i k:Nat):∀c∈Fi l i k,c.length<=64:=by
 unfold Fi;split
 .intro c a;rcases IS.1 a with a|a
  .exact h c a
  have:c=Dz (l.getD i []) (l.getD k []):=by simpa using a
  rw[this];exact gO (aA _ _) (Kz h i)
 exact h
theorem vV (l:List (List Int)) (i k:Nat):l.length<=(Fi l i k).length/\(Fi l i k).length<=l.length+1:=by
 unfold Fi;split
 .simp
 exact⟨OS _,Nat.le_succ _⟩
def YB:AX:={ ins:=[RL],pre:=λ(c,_)=>List.length c<=256/\∀x∈(c:List (List Int)),x.length<=64,out:=λ(c,_)=>[.p RL (Ar c)] }
theorem oU:Ac Tryz.prog 114 YB:=by
 refine fK [0,2,3,4,5,6,18,28,48] Tryz.func114 Tryz.ntmps114 (AF vI (AF A4x AI)) ?_;rintro w0 O0 ⟨c,u⟩ d-⟨n,t⟩;have n:c.length<=256:=n;simp only[YB,AM];repeat'(first|exact trivial|apply eS rfl|refine rX d ?_ ?_)
 .simp only[AO];dsimp only[Ty.den]at *;omega
 refine AJ (ι:={x:Nat×List (List Int)//x.1<=256/\A35 x.2/\HG (257-x.1) x.1 x.2=Ar c}) (λx=>⟨[(3,.sr 7 BS 0 x.1.2.length),(4,.p (.int .i64) (x.1.1:Int))],[(7,.arr 111 BS x.1.2)]⟩) (λx=>257-x.1.1) ⟨(0,c),by simp,⟨by simp only;omega,t⟩,rfl⟩ (eW [(7,.nm 7)]) (λx=>?_)
 obtain⟨⟨i,l⟩,hi,⟨q,s⟩,f⟩:=x;simp only at hi q s f;simp only;repeat'(first|exact trivial|apply eS rfl|refine rX d ?_ ?_|refine rC ?_ ?_<;>intro a<;>try(cases a;done))
 .have w:i<l.length:=by omega
  have z:l.length<=256:=by omega
  have o:HG (256-i) (i+1) (Fj i i 0 l)=Ar c:=by
   have e:257-i=(256-i)+1:=by omega
   rw[<-f,e];show _=if i<l.length/\l.length<=256 then HG (256-i) (i+1) (Fj i i 0 l) else l
   rw[At ⟨w,z⟩]
  refine AJ (ι:={y:Nat×List (List Int)//y.1<=i/\A35 y.2/\l.length<=y.2.length/\Fj i (i-y.1) y.1 y.2=Fj i i 0 l}) (λy=>⟨[(3,.sr 7 BS 0 y.1.2.length),(4,.p (.int .i64) (i:Int)),(5,.p (.int .i64) (y.1.1:Int))],[(7,.arr 111 BS y.1.2)]⟩) (λy=>i-y.1.1) ⟨(0,l),by simp,⟨q,s⟩,OS _,rfl⟩ (eW [(7,.nm 7)]) (λy=>?_)
  obtain⟨⟨k,m⟩,hk,⟨g,b⟩,r,hf⟩:=y;simp only at hk g b r hf;simp only;repeat'(first|exact trivial|apply eS rfl|apply AB|refine rX d ?_ ?_|refine rC ?_ ?_<;>intro a<;>try(cases a;done))
  .exact⟨by exact eV,by exact eV,gO (Kz b i) dg⟩
  .simp only[AO];omega
  .omega
  .have e:Fi m i k=m++[Dz (m.getD i []) (m.getD k [])]:=by
    unfold Fi;rw[At];rw[AT,IN,aT];exact a
   have C:=aB b i k;have D:=vV m i k;refine⟨⟨(k+1,Fi m i k),by simp only;omega,⟨by simp only;omega,C⟩,by simp only;omega,?_⟩,by simp only;omega,AC [(7,.nm 7)] rfl rfl ?_ ?_⟩
   .simp only;rw[<-hf,show i-k=(i-(k+1))+1 by omega];show _=if m.length<=256 then Fj i (i-(k+1)) (k+1) (Fi m i k) else m
    rw[At O1]
   .simp only[e];exact eN
   simp only[e];exact eN
  .omega
  .have e:Fi m i k=m:=by
    unfold Fi;rw[As];rw[AT,IN,aT];intro h;rw[a h.1]at h;exact absurd h.2 sc
   refine⟨⟨(k+1,m),by simp only;omega,⟨g,b⟩,r,?_⟩,by simp only;omega,AC [(7,.nm 7)] rfl rfl ?_ ?_⟩
   .simp only;rw[<-hf,show i-k=(i-(k+1))+1 by omega];show _=if m.length<=256 then Fj i (i-(k+1)) (k+1) (Fi m i k) else m
    rw[At O1,e]
   .exact eN
   exact eN
  .omega
  have B:m=Fj i i 0 l:=by
   rw[<-hf];cases A:i-k with
   | zero=>rfl
   | succ j =>
    show _=if m.length<=256 then _ else m
    rw[As O1]
  rw[<-B]at o;refine⟨⟨(i+1,m),by simp only;omega,⟨g,b⟩,?_⟩,by simp only;omega,AC [(7,.nm 7)] rfl rfl ?_ ?_⟩
  .simp only;rw[show 257-(i+1)=256-i by omega];exact o
  .exact eN
  exact eN
 have v:l=Ar c:=by
  rw[<-f];cases A:257-i with
  | zero=>rfl
  | succ m =>
   show _=if i<l.length/\l.length<=256 then _ else l
   rw[As O1]
 rw[<-v];refine C8 [7] ?_;exact fI d [.tmp 2]
theorem KD {α:Type} (x y:α):(if ({ data:=#[] }:ByteArray).size<=AO then x else y)=x:=At (by show 0<=AO;decide)
theorem KB {α:Type} (a:UInt8) (x y:α):(if ({ data:=#[a] }:ByteArray).size<=AO then x else y)=x:=At (by show 1<=AO;decide)
theorem cs2 {α:Type} (a b:UInt8) (x y:α):(if ({ data:=#[a,b] }:ByteArray).size<=AO then x else y)=x:=At (by show 2<=AO;decide)
theorem MQ {α:Type} (a b c:UInt8) (x y:α):(if ({ data:=#[a,b,c] }:ByteArray).size<=AO then x else y)=x:=At (by show 3<=AO;decide)
theorem JW {α:Type} (a b c d:UInt8) (x y:α):(if ({ data:=#[a,b,c,d] }:ByteArray).size<=AO then x else y)=x:=At (by show 4<=AO;decide)
theorem IJ {α:Type} (a b c d e:UInt8) (x y:α):(if ({ data:=#[a,b,c,d,e] }:ByteArray).size<=AO then x else y)=x:=At (by show 5<=AO;decide)
theorem M6 {α:Type} (a b c d e f:UInt8) (x y:α):(if ({ data:=#[a,b,c,d,e,f] }:ByteArray).size<=AO then x else y)=x:=At (by show 6<=AO;decide)
theorem cs7 {α:Type} (a b c d e f g:UInt8) (x y:α):(if ({ data:=#[a,b,c,d,e,f,g] }:ByteArray).size<=AO then x else y)=x:=At (by show 7<=AO;decide)
theorem cs8 {α:Type} (a b c d e f g h:UInt8) (x y:α):(if ({ data:=#[a,b,c,d,e,f,g,h] }:ByteArray).size<=AO then x else y)=x:=At (by show 8<=AO;decide)
end
section
attribute [local go_sem] KB
abbrev Th:=ByteArray×Int
abbrev HZ:=ByteArray×Int×List Th
abbrev RP:=Int×Int
abbrev Cv:=Int×Int×List ByteArray×List HZ×List RP
abbrev e0D:HZ:=(ByteArray.empty,0,[])
theorem OL {α:Type} (f:α->X) (l:List α) (d:α) (h:k<l.length):(l.take (k+1)).map f=(l.take k).map f++[f (l.getD k d)]:=by
 rw[A8 l d h];simp
theorem tk2 {α:Type} (A B:List α) (x y:α):(A++B++[x]).take (A.length+B.length+1)++[y]=A++(B++[x]++[y]):=by
 rw[By (by simp only[If,NO,AAd];omega)];simp
def Ha (n:Int):Nat->List Int->Int
 | _,[]=>-1
 | k,x :: r=>if x=n then (k:Int) else Ha n (k+1) r
def kT (l:List Int) (n:Int):Int:=Ha n 0 l
theorem vW (n:Int) (l:List Int) (h:k<l.length):Ha n k (l.drop k)=if l.getD k 0=n then (k:Int) else Ha n (k+1) (l.drop (k+1)):=by
 rw[OF h];have e:l.getD k 0=l[k]:=by simp[AS,h]
 rw[e];rfl
def Ih:AX:={ ins:=[CH,T3],pre:=λ_=>True,out:=λ(l,n,_)=>[.p T3 (kT l n)],lend:=true }
attribute [local go_sem] Ih
theorem Ti:Ac Tryz.prog 90 Ih:=by
 refine fK [0,1,4,5,9,17] Tryz.func90 Tryz.ntmps90 AI ?_;rintro w0 O0 ⟨l,n,u⟩ d ⟨⟨f,-⟩,-⟩ -;simp only[AO]at f;simp only[Ih,AM];repeat'(first|exact trivial|apply eS rfl|apply AB|refine rX d ?_ ?_|refine rC ?_ ?_<;>intro a<;>try(cases a;done))
 refine AJ (ι:={k:Nat//k<=l.length/\Ha n k (l.drop k)=kT l n}) (λk=>⟨[(0,.p CH l),(1,.p T3 n),(5,.p (.int .i64) (k.1:Int))],[]⟩) (λk=>l.length-k.1) ⟨0,Do _,rfl⟩ (eW []) (λk=>?_)
 obtain⟨k,hk,b⟩:=k;have e:=λh:k<l.length=>vW n l h;simp only;repeat'(first|exact trivial|apply eS rfl|apply AB|refine rX d ?_ ?_|refine rC ?_ ?_<;>intro a<;>try(cases a;done))
 .exact a
 .have c:k<l.length:=by exact eV
  rw[e c,At a]at b;exact fI d [.tmp 4] (by rw[<-b];exact eR)
 .omega
 .have c:k<l.length:=by exact eV
  rw[e c,As a]at b;exact⟨⟨k+1,by omega,b⟩,by simp only;omega,eW []⟩
 have c:l.drop k=[]:=ON (by exact eV);rw[c]at b;exact fI d [.tmp 4] (by rw[<-b];first|exact eR|refine N9 ?_;rfl)
def YC (s:ByteArray):Bool:=AL s ⟨#[104]⟩||AL s ⟨#[101]⟩||AL s ⟨#[120]⟩||AL s ⟨#[105]⟩
def Ii:AX:={ ins:=[T9],pre:=λ_=>True,out:=λ(s,_)=>[.p .bool (YC s)] }
attribute [local go_sem] Ii
theorem Qo:Ac Tryz.prog 102 Ii:=by
 refine fK [0,2] Tryz.func102 Tryz.ntmps102 AI ?_;rintro w0 O0 ⟨s,u⟩ a - -;simp only[Ii,AM];repeat'(first|exact trivial|apply eS rfl|apply AB|refine rX a ?_ ?_|refine rC ?_ ?_<;>intro b<;>try(cases b;done))
 exact fI a [.tmp 2] (by first|exact eR|refine N9 ?_;rfl)
def fS (e:HZ):List Int:=e.2.1 :: e.2.2.map (·.2)
def Ij (q:RP):List Int:=[q.1,q.2]
def Eh (m:Cv):List Int:=[m.1,m.2.1]++m.2.2.2.1.flatMap fS++m.2.2.2.2.flatMap Ij
def RQ (m:Cv):Prop:=True/\m.2.2.2.1.length<=200000/\(∀e∈m.2.2.2.1,e.2.2.length<=100000)/\m.2.2.2.2.length<=200000
theorem Hr {α b:Type} (f:α->List b) (B:Nat):∀l:List α,(∀e∈l,(f e).length<=B)->(l.flatMap f).length<=l.length*B
 | [],_=>by simp
 | x :: l,h=>by
  have h1:=h x iF;have c:=Hr f B l λe a=>h e (GO _ a);simp only[ABw,If,NO,ABR];omega
def A15:AX:={ ins:=[kJ],pre:=λ(m,_)=>RQ m,out:=λ(m,_)=>[.p CH (Eh m)] }
attribute [local go_sem] A15
def dD (tp ix:Int) (a:List HZ) (i:Nat):List Int:=[tp,ix]++(a.take i).flatMap fS
theorem vX (tp ix:Int) (a:List HZ) {i:Nat} (h:i<a.length):dD tp ix a (i+1)=dD tp ix a i++[(a.getD i e0D).2.1]++(a.getD i e0D).2.2.map (·.2):=by
 unfold dD;rw[A8 a e0D h,ABF];simp[fS]
theorem kU {tp ix:Int} {a:List HZ} (h1:a.length<=200000) (b:∀e∈a,e.2.2.length<=100000) (i:Nat):(dD tp ix a i).length<=20000200002:=by
 have:=Hr fS 100001 (a.take i) λe d=>by
  have:=b e (AAs d);simp only[fS,NO,dB];omega
 have c:(a.take i).length<=200000:=by simp only[On];omega
 have f:=AA1 100001 c;simp only[dD,If,NO,AAd];omega
theorem vY:Ac Tryz.prog 104 A15:=by
 refine fK [0,1,2,3,4,5,6,16,36,56] Tryz.func104 Tryz.ntmps104 AI ?_;rintro w0 O0 ⟨⟨tp,ix,m,a,cs⟩,u⟩ d-⟨-,h1,f,n⟩;have h1:a.length<=200000:=h1;have f:∀e∈a,e.2.2.length<=100000:=f;have n:cs.length<=200000:=n;have v:=kU (tp:=tp) (ix:=ix) h1 f;simp only[A15,AM];repeat'(first|exact trivial|apply eS rfl|apply AB|refine rX d ?_ ?_|refine rC ?_ ?_<;>intro c<;>try(cases c;done))
 refine AJ (ι:={i:Nat//i<=a.length}) (λi=>⟨[(1,.bp 1 [] 0),(3,.sr 11 T3 0 (dD tp ix a i.1).length),(4,.p (.int .i64) (i.1:Int))],[(11,.arr 3 T3 (dD tp ix a i.1)),(1,.box 41 true [.p T3 tp,.p T3 ix,.p CQ m,.p L7 a,.p NT cs])]⟩) (λi=>a.length-i.1) ⟨0,Do _⟩ (AC [(1,.nm 1),(11,.nm 11)] rfl rfl ?_ ?_) (λi=>?_)
 .first|exact eN|refine eM ?_
  rfl
 .first|exact eN|refine eM ?_
  rfl
 obtain⟨i,hi⟩:=i;have A:=v i;have l:=λh:i<a.length=>vX tp ix a h;simp only;repeat'(first|exact trivial|apply eS rfl|apply AB|refine rX d ?_ ?_|refine rC ?_ ?_<;>intro c<;>try(cases c;done))
 .refine⟨c,?_⟩;simp only[AO];omega
 .have g:i<a.length:=by exact eV
  have l:=l g;have y:(a.getD i (ByteArray.empty,0,[])).2.2.length<=100000:=f _ (AG a e0D g);refine AJ (ι:={k:Nat//k<=(a.getD i (ByteArray.empty,0,[])).2.2.length}) (λk=>⟨[(1,.bp 1 [] 0),(3,.sr 11 T3 0 (dD tp ix a i++[(a.getD i (ByteArray.empty,0,[])).2.1]++((a.getD i (ByteArray.empty,0,[])).2.2.take k.1).map (·.2)).length),(4,.p (.int .i64) (i:Int)),(5,.p (.int .i64) (k.1:Int))],[(11,.arr 3 T3 (dD tp ix a i++[(a.getD i (ByteArray.empty,0,[])).2.1]++((a.getD i (ByteArray.empty,0,[])).2.2.take k.1).map (·.2))),(1,.box 41 true [.p T3 tp,.p T3 ix,.p CQ m,.p L7 a,.p NT cs])]⟩) (λk=>(a.getD i (ByteArray.empty,0,[])).2.2.length-k.1) ⟨0,Do _⟩ (AC [(1,.nm 1),(11,.nm 11)] rfl rfl ?_ ?_) (λk=>?_)
  .first|exact eN|refine eM ?_
  .first|exact eN|refine eM ?_
  obtain⟨k,hk⟩:=k;simp only;repeat'(first|exact trivial|apply eS rfl|apply AB|refine rX d ?_ ?_|refine rC ?_ ?_<;>intro c<;>try(cases c;done))
  .omega
  .refine⟨iN.2 g,c,?_⟩;simp only[AO,dB,On];omega
  .omega
  .have q:k<(a.getD i (ByteArray.empty,0,[])).2.2.length:=by exact eV
   have b:=OL (λx:Th=>x.2) (a.getD i (ByteArray.empty,0,[])).2.2 (ByteArray.empty,0) q;refine⟨⟨k+1,q⟩,by simp only;omega,AC [(1,.nm 1),(11,.nm 11)] rfl rfl ?_ ?_⟩
   .simp only[b];first|exact eN|refine eM ?_
    rw[By (by simp only[If,NO,AAd];omega)];simp only[AA5]
   simp only[b];first|exact eN|refine eM ?_
   rfl
  .omega
  have b:(a.getD i (ByteArray.empty,0,[])).2.2.take k=(a.getD i (ByteArray.empty,0,[])).2.2:=By (by exact eV);refine⟨⟨i+1,g⟩,by simp only;omega,AC [(1,.nm 1),(11,.nm 11)] rfl rfl ?_ ?_⟩
  .simp only[b,l];first|exact eN|refine eM ?_
  simp only[b,l];first|exact eN|refine eM ?_
 have t:dD tp ix a i=[tp,ix]++a.flatMap fS:=by
  have b:a.take i=a:=By (by exact eV);unfold dD;rw[b]
 have s:=λj:Nat=>Hr Ij 2 (cs.take j) λ_ _=>OS 2;refine AJ (ι:={j:Nat//j<=cs.length}) (λj=>⟨[(1,.bp 1 [] 0),(3,.sr 11 T3 0 (dD tp ix a i++(cs.take j.1).flatMap Ij).length),(6,.p (.int .i64) (j.1:Int))],[(11,.arr 3 T3 (dD tp ix a i++(cs.take j.1).flatMap Ij)),(1,.box 41 true [.p T3 tp,.p T3 ix,.p CQ m,.p L7 a,.p NT cs])]⟩) (λj=>cs.length-j.1) ⟨0,Do _⟩ (AC [(1,.nm 1),(11,.nm 11)] rfl rfl ?_ ?_) (λj=>?_)
 .first|exact eN|refine eM ?_
 .first|exact eN|refine eM ?_
 obtain⟨j,z⟩:=j;have r:=s j;simp only[On]at r;simp only;repeat'(first|exact trivial|apply eS rfl|apply AB|refine rX d ?_ ?_|refine rC ?_ ?_<;>intro c<;>try(cases c;done))
 .refine⟨c,?_⟩;simp only[AO];omega
 .refine⟨c,?_⟩;simp only[AO];omega
 .omega
 .have o:j<cs.length:=by exact eV
  have b:(cs.take (j+1)).flatMap Ij=(cs.take j).flatMap Ij++[(cs.getD j (0,0)).1]++[(cs.getD j (0,0)).2]:=by
   rw[A8 cs (0,0) o,ABF];simp[Ij]
  refine⟨⟨j+1,o⟩,by simp only;omega,AC [(1,.nm 1),(11,.nm 11)] rfl rfl ?_ ?_⟩
  .simp only[b];first|exact eN|refine eM ?_
   exact tk2 _ _ _ _
  simp only[b];first|exact eN|refine eM ?_
  omega
 have b:cs.take j=cs:=By (by exact eV);have w:Eh (tp,ix,m,a,cs)=dD tp ix a i++cs.flatMap Ij:=by rw[t];rfl
 simp only[b]at *;refine C8 [11] ?_;exact fI d [.tmp 2] (by rw[w];exact eR)
def Va (e:HZ):List Int:=[e.2.1]
def Tj (m:Cv):List Int:=[m.1]++m.2.2.2.1.flatMap Va++m.2.2.2.2.flatMap Ij
def A16:AX:={ ins:=[kJ],pre:=λ(m,_)=>RQ m,out:=λ(m,_)=>[.p CH (Tj m)] }
attribute [local go_sem] A16
theorem A4y:Ac Tryz.prog 105 A16:=by
 refine fK [0,1,2,3,4,5,13,29] Tryz.func105 Tryz.ntmps105 AI ?_;rintro w0 O0 ⟨⟨tp,ix,e,a,cs⟩,u⟩ d-⟨-,h1,s,f⟩;have h1:a.length<=200000:=h1;have f:cs.length<=200000:=f;have r:=λj:Nat=>Hr Va 1 (a.take j) λ_ _=>OS 1;have m:=λj:Nat=>Hr Ij 2 (cs.take j) λ_ _=>OS 2;simp only[A16,AM];repeat'(first|exact trivial|apply eS rfl|apply AB|refine rX d ?_ ?_|refine rC ?_ ?_<;>intro b<;>try(cases b;done))
 refine AJ (ι:={i:Nat//i<=a.length}) (λi=>⟨[(1,.bp 1 [] 0),(3,.sr 8 T3 0 ([tp]++(a.take i.1).flatMap Va).length),(4,.p (.int .i64) (i.1:Int))],[(8,.arr 3 T3 ([tp]++(a.take i.1).flatMap Va)),(1,.box 41 true [.p T3 tp,.p T3 ix,.p CQ e,.p L7 a,.p NT cs])]⟩) (λi=>a.length-i.1) ⟨0,Do _⟩ (AC [(1,.nm 1),(8,.nm 8)] rfl rfl ?_ ?_) (λi=>?_)
 .first|exact eN|refine eM ?_
 .first|exact eN|refine eM ?_
 obtain⟨i,hi⟩:=i;have o:=r i;simp only[On]at o;simp only;repeat'(first|exact trivial|apply eS rfl|apply AB|refine rX d ?_ ?_|refine rC ?_ ?_<;>intro b<;>try(cases b;done))
 .refine⟨b,?_⟩;simp only[AO];omega
 .omega
 .have g:i<a.length:=by exact eV
  have c:(a.take (i+1)).flatMap Va=(a.take i).flatMap Va++[(a.getD i (ByteArray.empty,0,[])).2.1]:=by
   rw[A8 a (ByteArray.empty,0,[]) g,ABF];simp[Va]
  refine⟨⟨i+1,g⟩,by simp only;omega,AC [(1,.nm 1),(8,.nm 8)] rfl rfl ?_ ?_⟩
  .simp only[c];first|exact eN|refine eM ?_
  simp only[c];first|exact eN|refine eM ?_
 have n:a.take i=a:=By (by exact eV);simp only[n]at *;generalize k:a.flatMap Va=A at *;refine AJ (ι:={j:Nat//j<=cs.length}) (λj=>⟨[(1,.bp 1 [] 0),(3,.sr 8 T3 0 ([tp]++A++(cs.take j.1).flatMap Ij).length),(5,.p (.int .i64) (j.1:Int))],[(8,.arr 3 T3 ([tp]++A++(cs.take j.1).flatMap Ij)),(1,.box 41 true [.p T3 tp,.p T3 ix,.p CQ e,.p L7 a,.p NT cs])]⟩) (λj=>cs.length-j.1) ⟨0,Do _⟩ (AC [(1,.nm 1),(8,.nm 8)] rfl rfl ?_ ?_) (λj=>?_)
 .first|exact eN|refine eM ?_
 .first|exact eN|refine eM ?_
 obtain⟨j,t⟩:=j;have l:=m j;simp only[On]at l;simp only;repeat'(first|exact trivial|apply eS rfl|apply AB|refine rX d ?_ ?_|refine rC ?_ ?_<;>intro b<;>try(cases b;done))
 .refine⟨b,?_⟩;simp only[AO];omega
 .refine⟨b,?_⟩;simp only[AO];omega
 .omega
 .have h:j<cs.length:=by exact eV
  have c:(cs.take (j+1)).flatMap Ij=(cs.take j).flatMap Ij++[(cs.getD j (0,0)).1]++[(cs.getD j (0,0)).2]:=by
   rw[A8 cs (0,0) h,ABF];simp[Ij]
  refine⟨⟨j+1,h⟩,by simp only;omega,AC [(1,.nm 1),(8,.nm 8)] rfl rfl ?_ ?_⟩
  .simp only[c];first|exact eN|refine eM ?_
   exact ABa (tp :: ·) (tk2 A _ _ _)
  simp only[c];first|exact eN|refine eM ?_
  rfl
 have c:cs.take j=cs:=By (by exact eV);have q:Tj (tp,ix,e,a,cs)=[tp]++A++cs.flatMap Ij:=by rw[<-k];rfl
 simp only[c]at *;refine C8 [8] ?_;exact fI d [.tmp 2] (by rw[q];exact eR)
def EW (out:List Int) (x:Int):List Int:=if kT out x<0 then out++[x] else out
def vZ (l:List Int):List Int:=l.foldl EW []
def fsS:AX:={ ins:=[kJ],pre:=λ(m,_)=>RQ m,out:=λ(m,_)=>[.p CH (vZ (Eh m))] }
attribute [local go_sem] fsS
theorem YD {m:Cv} (h:RQ m):(Eh m).length<=20000600002:=by
 obtain⟨-,h1,a,b⟩:=h;have e:Eh m=dD m.1 m.2.1 m.2.2.2.1 m.2.2.2.1.length++m.2.2.2.2.flatMap Ij:=by simp[Eh,dD]
 have c:=kU (tp:=m.1) (ix:=m.2.1) h1 a m.2.2.2.1.length;have d:=Hr Ij 2 m.2.2.2.2 λ_ _=>OS 2;rw[e,If];omega
theorem aC {α:Type} (g:X->α->X) (l:List α) (d:α) (b:X) (h:k<l.length):(l.take (k+1)).foldl g b=g ((l.take k).foldl g b) (l.getD k d):=by
 rw[A8 l d h,AB7];rfl
theorem v7 (l:List Int):∀(out:List Int),(l.foldl EW out).length<=out.length+l.length:=by
 induction l with
 | nil=>intro out;simp
 | cons x l a =>
  intro out;have h1:=a (EW out x);have b:(EW out x).length<=out.length+1:=by
   unfold EW;split<;>simp
  simp only[OR,NO];omega
theorem A6x:Ac Tryz.prog 62 fsS:=by
 refine fK [0,1,2,3,4,5,12,21] Tryz.func62 Tryz.ntmps62 (AF vY (AF Ti AI)) ?_;rintro w0 O0 ⟨m,u⟩ e-d;have d:RQ m:=d;have n:=YD d;simp only[fsS,AM];repeat'(first|exact trivial|apply eS rfl|apply AB|refine rX e ?_ ?_|refine rC ?_ ?_<;>intro b<;>try(cases b;done))
 .exact d
 have g:(m.1,m.2.1,m.2.2.1,m.2.2.2.1,m.2.2.2.2)=m:=rfl;simp only[g]at *;generalize Eh m=l at *;refine AJ (ι:={i:Nat//i<=l.length}) (λi=>⟨[(3,.p CH l),(4,.sr 8 T3 0 ((l.take i.1).foldl EW []).length),(5,.p (.int .i64) (i.1:Int))],[(8,.arr 3 T3 ((l.take i.1).foldl EW []))]⟩) (λi=>l.length-i.1) ⟨0,Do _⟩ (AC [(8,.nm 8)] rfl rfl ?_ ?_) (λi=>?_)
 .first|exact eN|refine eM ?_
  rfl
 .first|exact eN|refine eM ?_
  rfl
 obtain⟨i,hi⟩:=i;have j:=v7 (l.take i) [];simp only[On,AAd]at j;have a:=λh:i<l.length=>aC EW l 0 [] h;generalize f:(l.take i).foldl EW []=A at *;simp only;repeat'(first|exact trivial|apply eS rfl|apply AB|refine rX e ?_ ?_|refine rC ?_ ?_<;>intro b<;>try(cases b;done))
 .exact b
 .refine⟨by assumption,?_⟩;simp only[AO];omega
 .omega
 .have c:i<l.length:=by exact eV
  have a:=(a c).trans (At b);refine⟨⟨i+1,c⟩,by simp only;omega,AC [(8,.nm 8)] rfl rfl ?_ ?_⟩
  .simp only[a];first|exact eN|refine eM ?_
  simp only[a];first|exact eN|refine eM ?_
 .omega
 .have c:i<l.length:=by exact eV
  have a:=(a c).trans (As (AAS.2 b));refine⟨⟨i+1,c⟩,by simp only;omega,AC [(8,.nm 8)] rfl rfl ?_ ?_⟩
  .simp only[a];first|exact eN|refine eM ?_
  simp only[a];first|exact eN|refine eM ?_
 have k:vZ l=A:=by rw[<-f,By (by exact eV)];rfl
 refine C8 [8] ?_;exact fI e [.tmp 2] (by rw[k];exact eR)
end
section
attribute [local go_sem] Ih Ii A15 A16 fsS WH OA KB IJ
def BD {β:Type} (g:Nat->Option β) (d:β):Nat->Nat->β
 | 0,_=>d
 | k+1,i=>match g i with
  | some r=>r
  | none=>BD g d k (i+1)
theorem Ce {a:Type} {g:Nat->Option a} {d r s:a} {n:Nat} (h:BD g d (n-i) i=s) (hi:i<n) (b:g i=some r):s=r:=by
 rw[show n-i=(n-(i+1))+1 by omega]at h;rw[<-h,BD,b]
theorem DN {a:Type} {g:Nat->Option a} {d s:a} {n:Nat} (h:BD g d (n-i) i=s) (hi:i<n) (b:g i=none):BD g d (n-(i+1)) (i+1)=s:=by
 rw[show n-i=(n-(i+1))+1 by omega]at h;rw[<-h,BD,b]
theorem EA {g:Nat->Option Z} {d s:Z} {n:Nat} (h:BD g d (n-i) i=s) (hi:n<=i):s=d:=by
 rw[show n-i=0 by omega]at h;exact h.symm
theorem K2 {c:Type} {g:Nat->Option c} {d:c} (b:∀i r,g i=some r->r≠d):∀k i,BD g d k i=d->∀j,i<=j->j<i+k->g j=none
 | 0,i,_,j,h1,f=>by omega
 | k+1,i,h,j,h1,f=>by
  cases a:g i with
  | some r=>rw[BD,a]at h;exact absurd h (b i r a)
  | none =>
   rw[BD,a]at h;by_cases e:j=i
   .rw[e];exact a
   exact K2 b k (i+1) h j O1 O1
def v8 (xs:List Th) (i:Nat):Option Int :=
 if BJ (xs.getD i (ByteArray.empty,0)).1 true=false\/AL (xs.getD i (ByteArray.empty,0)).1 ⟨#[76,65,66,69,76]⟩=true then some 1
 else if 0<(i:Int)/\(CA (xs.getD i (ByteArray.empty,0)).1 (xs.getD (i-1) (ByteArray.empty,0)).1=true\/AL (xs.getD i (ByteArray.empty,0)).1 (xs.getD (i-1) (ByteArray.empty,0)).1=true) then some 3 else none
def aD (e:HZ):Int:=if BJ e.1 false=true then BD (v8 e.2.2) 0 e.2.2.length 0 else 1
def A4z:AX:={ ins:=[T54],pre:=λ_=>True,out:=λ(e,_)=>[.p DD (aD e)],lend:=true }
attribute [local go_sem] A4z
theorem A4A:Ac Tryz.prog 103 A4z:=by
 refine fK [0,1,2,3,7,12,31,49] Tryz.func103 Tryz.ntmps103 (AF kM (AF TX AI)) ?_;rintro w0 O0 ⟨⟨e,f,xs⟩,u⟩ b ⟨⟨-,-,g,-⟩,-⟩ -;simp only[AO]at g;simp only[A4z,AM];repeat'(first|exact trivial|apply eS rfl|apply AB|refine rX b ?_ ?_|refine rC ?_ ?_<;>intro a<;>try(cases a;done))
 .have h:aD (e,f,xs)=1:=As (by rw[a];simp);exact fI b [.tmp 2] (by rw[h];exact eR)
 have hn:BJ e false=true:=a;refine AJ (ι:={i:Nat//i<=xs.length/\BD (v8 xs) 0 (xs.length-i) i=aD (e,f,xs)}) (λi=>⟨[(1,.bp 1 [] 0),(3,.p (.int .i64) (i.1:Int))],[(1,.box 54 true [.p T9 e,.p T3 f,.p T52 xs])]⟩) (λi=>xs.length-i.1) ⟨0,Do _,(At hn).symm⟩ (AC [(1,.nm 1)] rfl rfl ?_ ?_) (λi=>?_)
 .first|exact eN|refine eM ?_
 .first|exact eN|refine eM ?_
 obtain⟨i,hi,d⟩:=i;have h1:((i:Int)-1).toNat=i-1:=by omega
 simp only;repeat'(first|exact trivial|apply eS rfl|apply AB|refine rX b ?_ ?_|refine rC ?_ ?_<;>intro a<;>try(cases a;done))
 all_goals try simp only[h1]at a
 .exact⟨a,λ_=>a⟩
 .rw[Ce d (by exact eV) (At a)];exact fI b [.tmp 2]
 .exact⟨λ_=>by exact eV,λ_=>by exact eV,λ_=>by exact eV⟩
 .rename_i c;rw[Ce d (by exact eV) ((As (by rw[c.1,c.2];simp)).trans (At a))];exact fI b [.tmp 2]
 .omega
 .rename_i c;refine⟨⟨i+1,by exact eV,DN d (by exact eV) ((As (by rw[c.1,c.2];simp)).trans (As λq=>?_))⟩,by simp only;omega,AC [(1,.nm 1)] rfl rfl ?_ ?_⟩
  .obtain⟨j,k⟩:=a q.1;rw[j,k]at q;simp at q
  .first|exact eN|refine eM ?_
  first|exact eN|refine eM ?_
 rw[EA d (by exact eV)];exact fI b [.tmp 2]
def oV (a:List ByteArray) (i:Nat):Option Int:=if YC (a.getD i ByteArray.empty)=true then none else some 1
def aE (a:List HZ) (i:Nat):Option Int:=if aD (a.getD i (ByteArray.empty,0,[]))=0 then none else some (aD (a.getD i (ByteArray.empty,0,[])))
def fT (n:Int) (l:List Int) (i:Nat):Option Int:=if l.getD i 0<0\/n<=l.getD i 0 then some 2 else none
def A17 (a:List ByteArray) (l:List Int) (i:Nat):Option Int:=if AL (a.getD (l.getD i 0).toNat ByteArray.empty) ⟨#[104]⟩=true then none else some 2
def GN (m:Cv):Int :=
 if 16<(m.2.2.2.1.length:Int)\/16<(m.2.2.2.2.length:Int)\/256<(m.2.2.1.length:Int) then 7
 else if BD (oV m.2.2.1) 0 m.2.2.1.length 0≠0 then 1
 else if BD (aE m.2.2.2.1) 0 m.2.2.2.1.length 0≠0 then BD (aE m.2.2.2.1) 0 m.2.2.2.1.length 0
 else if BD (fT m.2.2.1.length (Eh m)) 0 (Eh m).length 0≠0 then 2
 else BD (A17 m.2.2.1 (Tj m)) 0 (Tj m).length 0
def fU:AX:={ ins:=[kJ],pre:=λ(m,_)=>RQ m,out:=λ(m,_)=>[.p DD (GN m)] }
theorem A18 (m:Cv):∀x∈Tj m,x∈Eh m:=by
 intro x a;simp only[Tj,Eh,IS,AB2,BY,Va,fS]at a ⊢;rcases a with (a|⟨e,b,a⟩)|a
 .exact .inl (.inl (.inl (by simpa using a)))
 .exact .inl (.inr ⟨e,b,.inl (by simpa using a)⟩)
 exact .inr a
theorem kV {l:List Int} (h:BD (fT n l) 0 l.length 0=0):∀x∈l,0<=x/\x<n:=by
 intro x c;obtain⟨j,b,rfl⟩:=AAn.1 c;have h1:=K2 (λi r a=>by unfold fT at a;split at a<;>cases a;decide) _ 0 h j (Do _) O1;unfold fT at h1;split at h1
 .cases h1
 rename_i q;have e:l.getD j 0=l[j]:=by simp[AS,b]
 rw[e]at q;omega
theorem v9:Ac Tryz.prog 61 fU:=by
 refine fK [0,1,2,3,4,5,6,7,8,9,25,30,39,44,54,61,78,84,95] Tryz.func61 Tryz.ntmps61 (AF vY (AF A4y (AF Qo (AF A4A AI)))) ?_;rintro w0 O0 ⟨⟨tp,ix,a,b,cs⟩,u⟩ e ⟨⟨-,-,⟨h0,-⟩,-,-⟩,-⟩ g;have g:RQ (tp,ix,a,b,cs):=g;obtain⟨-,h1,B,m⟩:=id g;simp only[AO]at h0;have h1:b.length<=200000:=h1;have m:cs.length<=200000:=m;have k:GN (tp,ix,a,b,cs)=if 16<(b.length:Int)\/16<(cs.length:Int)\/256<(a.length:Int) then 7 else if BD (oV a) 0 a.length 0≠0 then 1 else if BD (aE b) 0 b.length 0≠0 then BD (aE b) 0 b.length 0
  else if BD (fT a.length (Eh (tp,ix,a,b,cs))) 0 (Eh (tp,ix,a,b,cs)).length 0≠0 then 2 else BD (A17 a (Tj (tp,ix,a,b,cs))) 0 (Tj (tp,ix,a,b,cs)).length 0:=rfl
 have F:=YD g;have C:(Tj (tp,ix,a,b,cs)).length<=600001:=by
  have I:=Hr Va 1 b λ_ _=>OS 1;have J:=Hr Ij 2 cs λ_ _=>OS 2;simp only[Tj,If,NO,AAd];omega
 simp only[fU,AM];repeat'(first|exact trivial|apply eS rfl|apply AB|refine rX e ?_ ?_|refine rC ?_ ?_<;>intro c<;>try(cases c;done))
 .rw[k,At O1];exact fI e [.tmp 2]
 rw[k,As O1];clear k;generalize t:BD (oV a) 0 a.length 0=V;generalize s:BD (aE b) 0 b.length 0=R;generalize r:Eh (tp,ix,a,b,cs)=ol at *;generalize o:Tj (tp,ix,a,b,cs)=f at *;have z:∀x∈f,x∈ol:=by rw[<-r,<-o];exact A18 _
 generalize h:BD (fT a.length ol) 0 ol.length 0=v;generalize w:BD (A17 a f) 0 f.length 0=H;refine AJ (ι:={i:Nat//i<=a.length/\BD (oV a) 0 (a.length-i) i=V}) (λi=>⟨[(1,.bp 1 [] 0),(3,.p (.int .i64) (i.1:Int))],[(1,.box 41 true [.p T3 tp,.p T3 ix,.p CQ a,.p L7 b,.p NT cs])]⟩) (λi=>a.length-i.1) ⟨0,Do _,t⟩ (AC [(1,.nm 1)] rfl rfl ?_ ?_) (λi=>?_)
 .first|exact eN|refine eM ?_
 .first|exact eN|refine eM ?_
 obtain⟨i,hi,d⟩:=i;simp only;repeat'(first|exact trivial|apply eS rfl|apply AB|refine rX e ?_ ?_|refine rC ?_ ?_<;>intro c<;>try(cases c;done))
 .exact c
 .rw[Ce d (by exact eV) (As (by rw[c];simp)),At dg];exact fI e [.tmp 2]
 .omega
 .refine⟨⟨i+1,by exact eV,DN d (by exact eV) (At c)⟩,by simp only;omega,AC [(1,.nm 1)] rfl rfl ?_ ?_⟩
  .first|exact eN|refine eM ?_
  first|exact eN|refine eM ?_
 rw[EA d (by exact eV),As dg];clear t d;refine AJ (ι:={j:Nat//j<=b.length/\BD (aE b) 0 (b.length-j) j=R}) (λj=>⟨[(1,.bp 1 [] 0),(4,.p (.int .i64) (j.1:Int))],[(1,.box 41 true [.p T3 tp,.p T3 ix,.p CQ a,.p L7 b,.p NT cs])]⟩) (λj=>b.length-j.1) ⟨0,Do _,s⟩ (AC [(1,.nm 1)] rfl rfl ?_ ?_) (λj=>?_)
 .first|exact eN|refine eM ?_
 .first|exact eN|refine eM ?_
 obtain⟨j,D,d⟩:=j;simp only;repeat'(first|exact trivial|apply eS rfl|apply AB|refine rX e ?_ ?_|refine rC ?_ ?_<;>intro c<;>try(cases c;done))
 .exact c
 .rw[Ce d (by exact eV) (As c),At c];exact fI e [.tmp 2]
 .omega
 .refine⟨⟨j+1,by exact eV,DN d (by exact eV) (At (by simpa using c))⟩,by simp only;omega,AC [(1,.nm 1)] rfl rfl ?_ ?_⟩
  .first|exact eN|refine eM ?_
  first|exact eN|refine eM ?_
 .exact g
 simp only[r]at *;rw[EA d (by exact eV),As dg];clear s d;refine AJ (ι:={l:Nat//l<=ol.length/\BD (fT a.length ol) 0 (ol.length-l) l=v}) (λl=>⟨[(1,.bp 1 [] 0),(6,.p CH ol),(7,.p (.int .i64) (l.1:Int))],[(1,.box 41 true [.p T3 tp,.p T3 ix,.p CQ a,.p L7 b,.p NT cs])]⟩) (λl=>ol.length-l.1) ⟨0,Do _,h⟩ (AC [(1,.nm 1)] rfl rfl ?_ ?_) (λl=>?_)
 .first|exact eN|refine eM ?_
 .first|exact eN|refine eM ?_
 obtain⟨l,E,d⟩:=l;simp only;repeat'(first|exact trivial|apply eS rfl|apply AB|refine rX e ?_ ?_|refine rC ?_ ?_<;>intro c<;>try(cases c;done))
 .exact⟨c,λ_=>c⟩
 .rw[Ce d (by exact eV) (At c),At dg];exact fI e [.tmp 2]
 .omega
 .refine⟨⟨l+1,by exact eV,DN d (by exact eV) (As O1)⟩,by simp only;omega,AC [(1,.nm 1)] rfl rfl ?_ ?_⟩
  .first|exact eN|refine eM ?_
  first|exact eN|refine eM ?_
 .exact g
 have n:=EA d (by exact eV);rw[n,As dg];have y:∀x∈f,0<=x/\x<(a.length:Int):=λx A=>kV (h.trans n) x (z x A);simp only[o]at *;clear d h;refine AJ (ι:={q:Nat//q<=f.length/\BD (A17 a f) 0 (f.length-q) q=H}) (λq=>⟨[(1,.bp 1 [] 0),(8,.p CH f),(9,.p (.int .i64) (q.1:Int))],[(1,.box 41 true [.p T3 tp,.p T3 ix,.p CQ a,.p L7 b,.p NT cs])]⟩) (λq=>f.length-q.1) ⟨0,Do _,w⟩ (AC [(1,.nm 1)] rfl rfl ?_ ?_) (λq=>?_)
 .first|exact eN|refine eM ?_
 .first|exact eN|refine eM ?_
 obtain⟨q,G,d⟩:=q;simp only;repeat'(first|exact trivial|apply eS rfl|apply AB|refine rX e ?_ ?_|refine rC ?_ ?_<;>intro c<;>try(cases c;done))
 .refine⟨c,y _ ?_⟩;exact AG f 0 (by exact eV)
 .rw[Ce d (by exact eV) (As (by rw[c];simp))];exact fI e [.tmp 2]
 .omega
 .refine⟨⟨q+1,by exact eV,DN d (by exact eV) (At c)⟩,by simp only;omega,AC [(1,.nm 1)] rfl rfl ?_ ?_⟩
  .first|exact eN|refine eM ?_
  first|exact eN|refine eM ?_
 rw[EA d (by exact eV)];exact fI e [.tmp 2]
end
section
attribute [local go_sem] Ih fsS fU KB IJ
def A19 (l:List Int) (i:Nat):Option Int:=if l.getD i 0=i then none else some 3
def YE (m:Cv):Int:=if GN m≠0 then GN m else if (vZ (Eh m)).length≠m.2.2.1.length then 3 else BD (A19 (vZ (Eh m))) 0 (vZ (Eh m)).length 0
def Po:AX:={ ins:=[kJ],pre:=λ(m,_)=>RQ m,out:=λ(m,_)=>[.p DD (YE m)] }
theorem wA:Ac Tryz.prog 26 Po:=by
 refine fK [0,1,2,3,4,5,9,18,22,30] Tryz.func26 Tryz.ntmps26 (AF v9 (AF A6x AI)) ?_;rintro w0 O0 ⟨m,u⟩ c-e;have e:RQ m:=e;have k:=YD e;have j:=v7 (Eh m) [];have f:YE m=if GN m≠0 then GN m else if (vZ (Eh m)).length≠m.2.2.1.length then 3 else BD (A19 (vZ (Eh m))) 0 (vZ (Eh m)).length 0:=rfl
 have d:(m.1,m.2.1,m.2.2.1,m.2.2.2.1,m.2.2.2.2)=m:=rfl;have h:(Eh m).foldl EW []=vZ (Eh m):=rfl;simp only[h,AAd]at j;simp only[Po,AM];repeat'(first|exact trivial|apply eS rfl|apply AB|refine rX c ?_ ?_|refine rC ?_ ?_<;>intro a<;>try(cases a;done))
 all_goals try simp only[d]at *
 .exact e
 .rw[f,At a];exact fI c [.tmp 2]
 .exact e
 .rename_i b;have b:GN m=0:=by simpa using b
  rw[f,As (by rw[b];simp),At (by exact eV)];exact fI c [.tmp 2]
 rename_i b;have b:GN m=0:=by simpa using b
 have hn:((vZ (Eh m)).length:Int)=(m.2.2.1.length:Int):=by simpa using a
 rw[f,As (by rw[b];simp),As O1];clear f;generalize vZ (Eh m)=l at *;generalize g:BD (A19 l) 0 l.length 0=S;refine AJ (ι:={i:Nat//i<=l.length/\BD (A19 l) 0 (l.length-i) i=S}) (λi=>⟨[(4,.p CH l),(5,.p (.int .i64) (i.1:Int))],[]⟩) (λi=>l.length-i.1) ⟨0,Do _,g⟩ (eW []) (λi=>?_)
 obtain⟨i,hi,d⟩:=i;simp only;repeat'(first|exact trivial|apply eS rfl|apply AB|refine rX c ?_ ?_|refine rC ?_ ?_<;>intro a<;>try(cases a;done))
 .exact a
 .rw[Ce d (by exact eV) (As a)];exact fI c [.tmp 2]
 .omega
 .exact⟨⟨i+1,by exact eV,DN d (by exact eV) (At (by simpa using a))⟩,by simp only;omega,eW []⟩
 rw[EA d (by exact eV)];exact fI c [.tmp 2]
end
def BA (b:List Int) (i:Nat):Bool:=(b.getD (i / 64) 0).toNat.testBit (i % 64)
def wB (x:Int):Prop:=0<=x/\x<18446744073709551616
theorem Ez {x:Int} (h:wB x):(BitVec.ofInt 64 x).toNat=x.toNat:=by
 rw[BitVec.toNat_ofInt];have h1:=h.1;have a:=h.2;rw[Int.emod_eq_of_lt h1 (by simpa using a)]
theorem OM {n:Nat} (h:n<18446744073709551616):IntKind.u64.wrap (n:Int)=n:=JC (by rw[JJ];omega)
theorem A1a {x:Int} (a:wB x) (b:wB y):CY .or .u64 x y=((x.toNat ||| y.toNat:Nat):Int):=by
 have h1:(BitVec.ofInt IntKind.u64.bits x ||| BitVec.ofInt IntKind.u64.bits y).toNat=x.toNat ||| y.toNat:=by
  rw[BitVec.toNat_or];show (BitVec.ofInt 64 x).toNat ||| (BitVec.ofInt 64 y).toNat=_
  rw[Ez a,Ez b]
 unfold CY;simp only;rw[h1];have e:(18446744073709551616:Nat)=2 ^ 64:=by decide
 refine OM ?_;rw[e];refine Nat.or_lt_two_pow ?_ ?_
 .have:=a.2;have:=a.1;omega
 have:=b.2;have:=b.1;omega
theorem HH {x:Int} (a:wB x) (b:wB y):CY .and .u64 x y=((x.toNat &&& y.toNat:Nat):Int):=by
 have h1:(BitVec.ofInt IntKind.u64.bits x &&& BitVec.ofInt IntKind.u64.bits y).toNat=x.toNat &&& y.toNat:=by
  rw[BitVec.toNat_and];show (BitVec.ofInt 64 x).toNat &&& (BitVec.ofInt 64 y).toNat=_;rw[Ez a,Ez b]
 unfold CY;simp only;rw[h1];refine OM (ACa AC6 ?_);have:=a.2;have:=a.1;omega
theorem Pp {x:Int}:CY .andNot .u64 x y=((BitVec.ofInt 64 x &&& ~~~BitVec.ofInt 64 y).toNat:Int):=by
 show IntKind.u64.wrap ((BitVec.ofInt 64 x &&& ~~~BitVec.ofInt 64 y).toNat:Int)=_;exact OM (BitVec.isLt _)
theorem Qp {x:Int} (d:wB x) (e:wB y) (h:CY .andNot .u64 x y=0) {r:Nat} (c:r<64) (b:x.toNat.testBit r=true):y.toNat.testBit r=true:=by
 rw[Pp]at h;have h1:(BitVec.ofInt 64 x &&& ~~~BitVec.ofInt 64 y).toNat=0:=by omega
 have a:(BitVec.ofInt 64 x &&& ~~~BitVec.ofInt 64 y).toNat.testBit r=false:=by rw[h1];exact Nat.zero_testBit r
 rw[ABj,BitVec.getLsbD_and,BitVec.getLsbD_not,<-ABj,<-ABj,Ez d,Ez e,b]at a;simpa[c] using a
theorem Qq {x:Int}:CY .andNot .u64 x x=0:=by
 rw[Pp];simp
theorem M7 {b:List Int}:∀ {n:Nat},∀k,CR b n<=k->k<n->b.getD k 0=0
 | 0,k,_,h=>by omega
 | n+1,k,h1,c=>by
  unfold CR at h1;split at h1
  .rename_i a;by_cases hk:k=n
   .rw[hk];exact a
   exact M7 k h1 O1
  omega
theorem OO (b:List Int) (k:Nat):(BK b).getD k 0=b.getD k 0:=by
 unfold BK;by_cases h:k<CR b b.length
 .simp[AS,AA7,h]
 have h1:(List.take (CR b b.length) b).getD k 0=0:=by
  rw[AS,AA7,As h];rfl
 rw[h1];by_cases a:k<b.length
 .exact(M7 k O1 a).symm
 rw[AS,oS O1];rfl
theorem M8 (b:List Int) (i:Nat):BA (BK b) i=BA b i:=by unfold BA;rw[OO]
def HI (b:List Int):Prop:=∀x∈b,wB x
theorem BG {b:List Int} (h:HI b) (k:Nat):wB (b.getD k 0):=by
 rw[AS];cases hh:b[k]? with
 | none=>exact⟨by simp,by simp⟩
 | some x=>exact h x (AAm hh)
theorem M9 {b:List Int} (h:HI b):HI (BK b):=λx a=>h x (AAs a)
theorem Gt (b:List Int) (k:Nat):FN b (k:Int)=b.getD k 0:=by
 unfold FN;split
 .simp
 rename_i h;rw[AS,oS O1];rfl
theorem Lt (op:BinOp) (a b:List Int) {n k:Nat} (h:k<n):(Fg op a b n).getD k 0=CY op .u64 (a.getD k 0) (b.getD k 0):=by
 unfold Fg;rw[AS,AAt,AB9 h];show CY op .u64 (a.getD k 0) (FN b (k:Int))=_;rw[Gt]
theorem YF (h:EL a b=true) (hk:k<a.length):CY .andNot .u64 (a.getD k 0) (b.getD k 0)=0:=by
 unfold EL Pi BK at h;have h1:(List.take (CR (Fg .andNot a b a.length) (Fg .andNot a b a.length).length) (Fg .andNot a b a.length)).length=0:=by
  have:=AA3.1 h;omega
 rw[On,D8]at h1;have d:=TY (Fg .andNot a b a.length) a.length;have c:=M7 (b:=Fg .andNot a b a.length) (n:=a.length) k O1 hk;rw[Lt _ _ _ hk]at c;exact c
theorem K3 (ha:HI a) (c:HI b) (h:EL a b=true) {i:Nat} (hi:BA a i=true):BA b i=true:=by
 by_cases hk:i / 64<a.length
 .exact Qp (BG ha _) (BG c _) (YF h hk) (ACz _ dg) hi
 exfalso;unfold BA at hi;rw[AS,oS O1]at hi;simp at hi
theorem Pq {b:List Int}:∀ {n:Nat},(∀k,k<n->b.getD k 0=0)->CR b n=0
 | 0,_=>rfl
 | n+1,h=>by
  unfold CR;rw[At (h n O1)];exact Pq λk hk=>h k O1
theorem aF (a:List Int):EL a a=true:=by
 unfold EL Pi BK;have h1:CR (Fg .andNot a a a.length) (Fg .andNot a a a.length).length=0:=by
  rw[D8];exact Pq λk hk=>by rw[Lt _ _ _ hk];exact Qq
 rw[h1];rfl
theorem aG (a:List Int):C2 a a=true:=by unfold C2;rw[aF];rfl
theorem A1b {b:List Int} (j:HI b) (l:b.length=64) {x:Int} (h0:0<=x) (h1:x<=4095) (i:Nat):BA (oP b x) i=(BA b i||decide (x=(i:Int))):=by
 have d:Int.tdiv x 64=x / 64:=AAW h0;have e:Int.tmod x 64=x % 64:=ABb h0;obtain⟨n,rfl⟩:∃n:Nat,x=(n:Int):=⟨x.toNat,by omega⟩;have hs:XR .u64 1 ((n:Int) % 64)=((2 ^ (n % 64):Nat):Int):=by
  unfold XR;have f:min ((n:Int) % 64).toNat IntKind.u64.bits=n % 64:=by
   have:((n:Int) % 64).toNat=n % 64:=by omega
   rw[this];have:IntKind.u64.bits=64:=rfl;omega
  rw[f,Int.one_mul];have:(2:Int) ^ (n % 64)=((2 ^ (n % 64):Nat):Int):=by simp
  rw[this];refine OM ?_;have a:(2:Nat) ^ (n % 64)<2 ^ 64:=Nat.pow_lt_pow_right dg (ACz _ dg);exact a
 have hu:wB (XR .u64 1 ((n:Int) % 64)):=by
  rw[hs];have a:(2:Nat) ^ (n % 64)<2 ^ 64:=Nat.pow_lt_pow_right dg (ACz _ dg);have g:(2:Nat) ^ 64=18446744073709551616:=by decide
  refine⟨AAq _,?_⟩;rw[g]at a;exact iN.2 a
 have hn:((n:Int) / 64).toNat=n / 64:=by omega
 unfold oP BA;rw[d,e,hn];by_cases c:i / 64=n / 64
 .have k:n / 64<b.length:=by omega
  rw[c];have:(b.set (n / 64) (CY .or .u64 (b.getD (n / 64) 0) (XR .u64 1 ((n:Int) % 64)))).getD (n / 64) 0=CY .or .u64 (b.getD (n / 64) 0) (XR .u64 1 ((n:Int) % 64)):=by
   simp[AS,k]
  rw[this,A1a (BG j _) hu,hs];simp only[iS,Nat.testBit_or,Nat.testBit_two_pow]
  congr 1
  rw[decide_eq_decide];omega
 have:(b.set (n / 64) (CY .or .u64 (b.getD (n / 64) 0) (XR .u64 1 ((n:Int) % 64)))).getD (i / 64) 0=b.getD (i / 64) 0:=by
  simp[AS,AAE,Ne.symm c]
 rw[this];have:decide ((n:Int)=(i:Int))=false:=by
  rw[TO];intro h;exact c O1
 rw[this,ABN]
theorem A1c {b:List Int} (c:HI b) (x:Int):HI (oP b x):=by
 intro y a;unfold oP at a;rcases AAN a with h|h
 .exact c y h
 rw[h];have:=Ld .u64 ((BitVec.ofInt IntKind.u64.bits (b.getD (x.tdiv 64).toNat 0) ||| BitVec.ofInt IntKind.u64.bits (XR .u64 1 (x.tmod 64))).toNat:Int);rw[JJ]at this;exact⟨this.1,by have:=this.2;show _<_;exact ACh this dg⟩
theorem A1d {l:List Int} (h:l.all okB=true) (i:Nat):BA (q9 l) i=decide ((i:Int)∈l)/\HI (q9 l):=by
 have key:∀(l b:List Int),l.all okB=true->HI b->b.length=64->BA (l.foldl oP b) i=(BA b i||decide ((i:Int)∈l))/\HI (l.foldl oP b):=by
  intro l;induction l with
  | nil=>intro b _ a _;simp[a]
  | cons x l m =>
   intro b c a d;rw[AB5,AT]at c;have e:=c.1;unfold okB at e;rw[aT,AAa,TO,TO]at e;obtain⟨f,g⟩:=m (oP b x) c.2 (A1c a x) (by simp[oP,d]);rw[OR];refine⟨?_,g⟩;rw[f,A1b a d O1 O1,Bool.or_assoc]
   congr 1
   rw[<-Bool.decide_or,decide_eq_decide,BY,eq_comm]
 have j:HI (List.replicate 64 (0:Int)):=by
  intro y k;rw[(List.mem_replicate.1 k).2];exact⟨by decide,by decide⟩
 have h1:=key l (List.replicate 64 0) h j sc;refine⟨?_,h1.2⟩;unfold q9;rw[h1.1];have:BA (List.replicate 64 (0:Int)) i=false:=by
  unfold BA;have:(List.replicate 64 (0:Int)).getD (i / 64) 0=0:=by
   rw[AS,ABo];split<;>rfl
  rw[this];simp
 rw[this,Bool.false_or]
theorem wC {low all:List ByteArray} {n:Nat}:((i:Int)∈M5 low all n)↔i<n/\AU low (all.getD i ByteArray.empty)=true:=by
 unfold M5;rw[IF];constructor
 .rintro⟨j,a,e⟩;have:j=i:=by omega
  subst this;rw[AAO,oN]at a;exact a
 rintro⟨h1,b⟩;exact⟨i,by rw[AAO,oN];exact⟨h1,b⟩,rfl⟩
theorem A1e {low all:List ByteArray} {n:Nat} (hn:n<=4096):(M5 low all n).all okB=true:=by
 rw[No];intro x a;unfold M5 at a;obtain⟨j,b,rfl⟩:=IF.1 a;rw[AAO,oN]at b;unfold okB;rw[aT,AAa,TO,TO];exact⟨by omega,by omega⟩
theorem B0 {d:List AH} {all:List ByteArray} (c:all.length<=4096) (s:ByteArray) (i:Nat):(BA (D9 d all s) i=true↔i<all.length/\AU (CX d s) (all.getD i ByteArray.empty)=true)/\HI (D9 d all s)/\(D9 d all s).length<=64:=by
 have h1:=A1e (low:=CX d s) (all:=all) c;have b:=A1d h1 i;have a:D9 d all s=BK (q9 (M5 (CX d s) all all.length)):=by
  unfold D9 ofF;rw[At h1]
 refine⟨?_,?_,?_⟩
 .rw[a,M8,b.1,IN,wC]
 .rw[a];exact M9 b.2
 rw[a];unfold BK;have:=OI (M5 (CX d s) all all.length);rw[On];omega
theorem Hs (d:List AH) {t:ByteArray} (h:AL s t=true):Aj d s=Aj d t:=by
 have key:∀(l:List AH) (k:Nat),Cj s k l=Cj t k l:=by
  intro l;induction l with
  | nil=>intro k;rfl
  | cons x l a =>
   intro k;simp only[Cj];have:AL x.1 s=AL x.1 t:=by grind [AL,BF,Bm]
   rw[this,a]
 exact key d 0
theorem Ax {α:Type} {l:List α} {d:α} (h:k<l.length):l.getD k d∈l:=by grind
theorem B7 {α:Type} {l:List α} (d:α) {x:α} (h:x∈l):∃k,k<l.length/\l.getD k d=x:=by
 obtain⟨k,hk,e⟩:=AAn.1 h;exact⟨k,hk,by rw[AS,An hk];exact e⟩
theorem Ht {d:List AH}:∀ {r:List AH} {k:Nat},M3 d k r=0->∀j,j<r.length->¬Aj d (r.getD j d0).1<((k+j:Nat):Int)/\BJ (r.getD j d0).1 false=true
 | [],_,_,j,a=>by simp at a
 | x :: r,k,h,j,a=>by
  simp only[M3]at h;split at h
  .cases h
  rename_i h1;split at h
  .cases h
  rename_i b;cases j with
  | zero=>exact⟨b,by simpa using h1⟩
  | succ j =>
   have:=Ht h j (by simpa using a);have e:k+(j+1)=k+1+j:=by omega
   rw[e];exact this
theorem OP (s:ByteArray):∀(l:List AH) (k j:Nat),j<l.length->AL (l.getD j d0).1 s=true->Cj s k l<=((k+j:Nat):Int)
 | [],_,j,h,_=>by simp at h
 | x :: l,k,j,h,e=>by
  simp only[Cj];split
  .omega
  rename_i h1;cases j with
  | zero=>exact absurd e h1
  | succ j =>
   have:=OP s l (k+1) j (by simpa using h) e;omega
theorem K4 {d:List AH} (h:CV d=0) {j:Nat} (b:j<d.length):Aj d (d.getD j d0).1=(j:Int):=by
 have h1:=(Ht h j b).1;have a:=OP (d.getD j d0).1 d 0 j b (CO _);rw[AAG]at h1 a;have a:Aj d (d.getD j d0).1<=(j:Int):=a;omega
theorem OQ {d:List AH} (h:CV d=0) {x y:AH} (a:x∈d) (b:y∈d) (e:AL x.1 y.1=true):x=y:=by
 obtain⟨i,hi,rfl⟩:=B7 d0 a;obtain⟨j,c,rfl⟩:=B7 d0 b;grind [K4,Hs]
theorem fV (d:List AH) (out:List ByteArray) (h:(HC d out).1=true):∃x∈d,x.1=(HC d out).2/\AU out x.1=false/\ID x out=true:=by
 have key:∀(l:List AH) (s:Bool×ByteArray),(∀x∈l,x∈d)->(s.1=true->∃x∈d,x.1=s.2/\AU out x.1=false/\ID x out=true)->(l.foldl (Hp out) s).1=true ->
   ∃x∈d,x.1=(l.foldl (Hp out) s).2/\AU out x.1=false/\ID x out=true:=by
  intro l;induction l with
  | nil=>intro s _ hs h;exact hs h
  | cons y l e =>
   intro s a hs h;rw[OR]at h ⊢;refine e _ (λx c=>a x (by simp[c])) (λb=>?_) h;unfold Hp at b ⊢;split
   .grind
   grind
 exact key d _ (λ_ h=>h) (λh=>by cases h) h
def PL (d:List AH) (o:List ByteArray):Prop:=∀j,j<o.length->∃x∈d,x.1=o.getD j ByteArray.empty/\AU (o.take j) x.1=false/\ID x (o.take j)=true
theorem PL.snoc {d:List AH} (h:PL d o) {x:AH} (i:x∈d) (h1:AU o x.1=false) (f:ID x o=true):PL d (o++[x.1]):=by
 intro j g;by_cases a:j<o.length
 .obtain⟨y,k,b,c,e⟩:=h j a;grind
 grind
theorem Tk {d:List AH}:∀ {n:Nat} {o:List ByteArray},PL d o->PL d (Hq d n o)
 | 0,_,h=>h
 | n+1,o,h=>by
  unfold Hq;split
  .rename_i b;obtain⟨x,c,e,h1,a⟩:=fV d o b;rw[<-e];exact Tk (h.snoc c h1 a)
  exact h
theorem WR (d:List AH):PL d (Bd d):=Tk λj a=>by simp at a
theorem PL.ok {d:List AH} (h:PL d o):X7 d o:=by
 refine⟨λs hs=>?_,?_⟩
 .obtain⟨j,a,rfl⟩:=B7 ByteArray.empty hs;obtain⟨x,b,e,-⟩:=h j a;rw[<-e];exact C9 b
 rw[mX];intro i j hi a f;obtain⟨x,b,e,h1,-⟩:=h j a;have c:=OE h1 o[i] (by rw[ABy];exact⟨i,by omega,rfl⟩);grind
theorem fW {n:Nat} {l:List Nat} (h:l.Nodup) (c:∀j∈l,j<n) (hn:n<=l.length) {k:Nat} (hk:k<n):k∈l:=by
 refine DO λb=>?_;have:=DM n (k :: l) (AAi.2 ⟨b,h⟩) (λj a=>by
  rcases BY.1 a with rfl|a
  .exact hk
  exact c j a)
 simp at this;omega
theorem fX {d:List AH} (f:d.length<=(Bd d).length) {x:AH} (h:x∈d):∃s∈Bd d,AL s x.1=true:=by
 have a:=(WR d).ok;have h1:=JU d a;have h0:=C9 h;have l:=C3 d x.1;have b:=fW (n:=d.length) h1 (λj c=>by
  obtain⟨s,hs,rfl⟩:=IF.1 c;have h1:=a.decl s hs;rcases C3 d s with g|⟨_,g,_⟩<;>omega) (by simpa using f) (k:=(Aj d x.1).toNat) O1
 obtain⟨s,hs,e⟩:=IF.1 b;refine⟨s,hs,?_⟩;rcases C3 d s with g|⟨_,_,i⟩
 .have:=a.decl s hs;omega
 grind [BF,Bm]
def FO (d:List AH) (s:ByteArray):Nat:=(Bd d).findIdx λx=>AL x s
theorem HJ (d:List AH) {t:ByteArray} (h:AL s t=true):FO d s=FO d t:=by grind [FO,AL,BF,Bm]
theorem JY {d:List AH} (hn:CV d=0) (o:d.length<=(Bd d).length) {x:AH} (g:x∈d) (hs:AU x.2.1 s=true):FO d s<FO d x.1:=by
 obtain⟨t,q,e⟩:=fX o g;have c:FO d x.1<(Bd d).length:=List.findIdx_lt_length_of_exists ⟨t,q,e⟩;have heq:AL ((Bd d)[FO d x.1]) x.1=true:=List.findIdx_getElem (w:=c);obtain⟨y,r,a,-,j⟩:=WR d (FO d x.1) c;rw[AS,An c]at a;have a:y.1=(Bd d)[FO d x.1]:=a;rw[<-a]at heq;have z:=OQ hn r g heq;subst z;obtain⟨u,hu,h⟩:=VK.1 hs;have k:AU ((Bd d).take (FO d y.1)) u=true:=No.1 j u hu;obtain⟨v,f,ev⟩:=VK.1 k;rw[ABy]at f;obtain⟨i,hi,rfl⟩:=f;have n:i<FO d y.1:=by omega
 refine ACa ?_ n;refine DO λm=>?_;have b:=List.not_of_lt_findIdx (p:=λx=>AL x s) (xs:=Bd d) (i:=i) (by unfold FO at m;omega);have l:AL ((Bd d)[i]) s=true:=BF ev h;try simp only at b
 rw[l]at b;exact absurd b sc
def Vb (d:List AH) (s x:ByteArray):Prop:=AL s x=true\/FO d s<FO d x
theorem oW {d:List AH} (hn:CV d=0) (f:d.length<=(Bd d).length) {c:ByteArray} (b:Vb d s c) (e:∀x∈o,Vb d s x) {x:AH} (g:x∈d):∀y∈Ef c o x,Vb d s y:=by
 intro y a;unfold Ef at a;split at a
 .rename_i h;rw[AT]at h;rcases IS.1 a with a|a
  .exact e y a
  have:y=x.1:=by simpa using a
  subst this;have h1:=JY hn f g h.1;right;rcases b with b|b
  .rw[HJ d b];exact h1
  omega
 exact e y a
theorem Tl {d:List AH} (hn:CV d=0) (e:d.length<=(Bd d).length) {s c:ByteArray} (b:Vb d s c):∀ {l:List AH} {o:List ByteArray},(∀x∈l,x∈d)->(∀x∈o,Vb d s x)->∀y∈l.foldl (Ef c) o,Vb d s y
 | [],_,_,a=>a
 | x :: l,o,f,a=>by
  rw[OR];exact Tl hn e b (λy g=>f y (by simp[g])) (oW hn e b a (f x sc))
theorem Qr {d:List AH} (hn:CV d=0) (b:d.length<=(Bd d).length) {s:ByteArray}:∀ {n i:Nat} {o:List ByteArray},(∀x∈o,Vb d s x)->∀y∈CW d n i o,Vb d s y
 | 0,_,_,a=>a
 | n+1,i,o,a=>by
  unfold CW;split
  .rename_i hi;exact Qr hn b (Tl hn b (a _ (Ax hi)) (λ_ h=>h) a)
  exact a
theorem wD {c:ByteArray} {x:AH} {y:ByteArray} (h:y∈o):y∈Ef c o x:=by grind [Ef]
theorem Lu {c:ByteArray} {y:ByteArray}:∀ {l:List AH} {o:List ByteArray},y∈o->y∈l.foldl (Ef c) o
 | [],_,h=>h
 | x :: l,o,h=>by rw[OR];exact Lu (wD h)
theorem JZ {d:List AH} {y:ByteArray}:∀ {n i:Nat} {o:List ByteArray},y∈o->y∈CW d n i o
 | 0,_,_,h=>h
 | n+1,i,o,h=>by
  unfold CW;split
  .exact JZ (Lu h)
  exact h
theorem FD {l:List ByteArray} (h:x∈DZ l s):x∈l\/x=s:=by grind [DZ]
theorem Ik {l:List ByteArray} (h:x∈l):x∈DZ l s:=by
 unfold DZ;split
 .exact h
 have a:x∈l.take (VL l s)\/x∈l.drop (VL l s):=IS.1 (by rw[ABc];exact h);grind
theorem K5 {l:List ByteArray}:AU (DZ l s) s=true:=by
 unfold DZ;grind [Ho,VL,AL,AU,CO]
theorem E0 {l:List ByteArray} (h:s∈l):AU l s=true:=VK.2 ⟨s,h,CO s⟩
theorem Gu {l:List ByteArray} (hs:∀x∈l,x∈m) (h:AU l s=true):AU m s=true:=by
 obtain⟨x,a,e⟩:=VK.1 h;exact VK.2 ⟨x,hs x a,e⟩
theorem Tm:∀ {l o:List ByteArray} {x:ByteArray},x∈l.foldl DZ o->x∈o\/x∈l
 | [],_,_,h=>.inl h
 | y :: l,o,x,h=>by
  rw[OR]at h;rcases Tm h with h|h
  .grind [FD]
  grind
theorem WT:∀ {l o:List ByteArray} {x:ByteArray},x∈o->x∈l.foldl DZ o
 | [],_,_,h=>h
 | y :: l,o,x,h=>by rw[OR];exact WT (Ik h)
theorem OT:∀ {l o:List ByteArray} {x:ByteArray},x∈l->AU (l.foldl DZ o) x=true
 | [],_,_,h=>by cases h
 | y :: l,o,x,h=>by
  rw[OR];rcases BY.1 h with rfl|h
  .grind [Gu,WT,K5]
  exact OT h
theorem NA {d:List AH} (h:0<=Aj d s):AU (CX d s) s=true:=by
 unfold CX;rw[As O1];exact OT (JZ sc)
theorem Tn {d:List AH} (hn:CV d=0) (c:d.length<=(Bd d).length) (h:AU (CX d s) x=true):Vb d s x:=by
 obtain⟨y,a,e⟩:=VK.1 h;have b:Vb d s y:=by
  unfold CX at a;split at a
  .cases a
  rcases Tm a with a|a
  .cases a
  refine Qr hn c (λz f=>?_) y a;have:z=s:=by simpa using f
  rw[this];exact .inl (CO s)
 rcases b with b|b
 .exact .inl (BF b e)
 rw[HJ d e]at b;exact .inr b
theorem DA {d:List AH} (h:s∈AN d):∃x∈d,x.1=s:=by
 have key:∀(l:List AH) (o:List ByteArray),s∈l.foldl (λo x=>DZ o x.1) o->s∈o\/∃x∈l,x.1=s:=by
  intro l;induction l with
  | nil=>intro o h;exact .inl h
  | cons x l a =>
   intro o h;rw[OR]at h;rcases a _ h with h|⟨y,b,e⟩
   .grind [FD]
   grind
 rcases key d [] h with h|h
 .cases h
 exact h
theorem NB {d:List AH} {x:AH} (h:x∈d):AU (AN d) x.1=true:=by
 have b:∀(l:List AH) (o:List ByteArray),∀y∈o,y∈l.foldl (λo x=>DZ o x.1) o:=by
  intro l;induction l with
  | nil=>intro o y h;exact h
  | cons x l a=>intro o y h;rw[OR];exact a _ y (Ik h)
 have key:∀(l:List AH) (o:List ByteArray),x∈l->AU (l.foldl (λo x=>DZ o x.1) o) x.1=true:=by
  intro l;induction l with
  | nil=>intro o h;cases h
  | cons y l a =>
   intro o h;rw[OR];rcases BY.1 h with rfl|h
   .grind [Gu,K5]
   exact a _ h
 exact key d [] h
theorem aH {d:List AH} (hn:CV d=0) (g:d.length<=(Bd d).length) (r:d.length<=256) {i j:Nat} (hi:i<(AN d).length) (f:j<(AN d).length)
  (h:C2 (D9 d (AN d) ((AN d).getD i ByteArray.empty)) (D9 d (AN d) ((AN d).getD j ByteArray.empty))=true):AL ((AN d).getD i ByteArray.empty) ((AN d).getD j ByteArray.empty)=true:=by
 have o:=Da d d.length;rw[oR]at o;have a:(AN d).length<=4096:=by omega
 generalize hs:(AN d).getD i ByteArray.empty=s at *;generalize b:(AN d).getD j ByteArray.empty=t at *;have p:0<=Aj d s:=by
  obtain⟨x,c,e⟩:=DA (s:=s) (by rw[<-hs];exact Ax hi);rw[<-e];exact C9 c
 have q:0<=Aj d t:=by
  obtain⟨x,c,e⟩:=DA (s:=t) (by rw[<-b];exact Ax f);rw[<-e];exact C9 c
 obtain⟨c1,k,-⟩:=B0 (d:=d) a s i;obtain⟨c2,l,-⟩:=B0 (d:=d) a t i;obtain⟨m,-,-⟩:=B0 (d:=d) a s j;obtain⟨n,-,-⟩:=B0 (d:=d) a t j;unfold C2 at h;rw[AT]at h;have b1:=Tn hn g (c2.1 (K3 k l h.1 (c1.2 ⟨hi,by rw[hs];exact NA p⟩))).2;have b2:=Tn hn g (m.1 (K3 l k h.2 (n.2 ⟨f,by rw[b];exact NA q⟩))).2;rw[hs]at b1;rw[b]at b2;rcases b1 with b1|b1
 .exact Bm b1
 rcases b2 with b2|b2
 .exact b2
 omega
section
attribute [local go_sem] X0 vF Ky KD KB
def kW (d:List AH) (all:List ByteArray) (codes:List (List Int)) (b:List Int):Nat->Nat->List ByteArray->ByteArray ⊕ List ByteArray
 | 0,_,l=>.inr l
 | n+1,i,l=>if C2 (codes.getD i []) b=true then .inl (all.getD i ByteArray.empty) else kW d all codes b n (i+1) (if RM b (i:Int)=true then l++[all.getD i ByteArray.empty] else l)
def WU (l:List ByteArray) (s:ByteArray) (i:Nat):ByteArray:=(if 0<(i:Int) then s++ByteArray.mk #[38] else s)++l.getD i ByteArray.empty
def aI (l:List ByteArray):ByteArray:=(List.range l.length).foldl (WU l) ByteArray.empty
def F8 (d:List AH) (all:List ByteArray) (codes:List (List Int)) (b:List Int):ByteArray :=
 match kW d all codes b all.length 0 [] with
 | .inl s=>s
 | .inr l=>aI (A0 d l)
theorem MR {d:List AH} {x:ByteArray}:∀ {l o:List ByteArray},x∈l.foldl (Eg d) o->x∈o\/x∈l
 | [],_,h=>.inl h
 | y :: l,o,h=>by
  rw[OR]at h;rcases MR h with h|h
  .unfold Eg at h;split at h
   .rcases FD h with h|h
    .exact .inl h
    exact .inr (by simp[h])
   exact .inl h
  exact .inr (by simp[h])
theorem Gg {d:List AH} {l:List ByteArray} {x:ByteArray} (h:x∈A0 d l):x∈l:=by
 unfold A0 OH at h;obtain⟨i,hi,rfl⟩:=IF.1 h;rw[AAO,oN]at hi;rcases MR (Ax (d:=ByteArray.empty) hi.1) with h|h
 .cases h
 exact h
theorem YG (d:List AH) (l:List ByteArray):(A0 d l).length<=l.length:=gO (Z7 _ _ _) (IE d l)
theorem fY {l:List ByteArray} (h:∀s∈l,s.size<=32) (k:Nat):(l.getD k ByteArray.empty).size<=32:=by
 rw[AS];cases hh:l[k]? with
 | none=>simp
 | some x=>exact h x (AAm hh)
def OU (l:List ByteArray) (n:Nat):ByteArray:=(List.range n).foldl (WU l) ByteArray.empty
theorem NC (l:List ByteArray) (n:Nat):OU l (n+1)=WU l (OU l n) n:=by
 unfold OU;rw[AAh,AB7];rfl
theorem Tp {l:List ByteArray} (h:∀s∈l,s.size<=32):∀n,(OU l n).size<=33*n
 | 0=>by simp[OU]
 | n+1=>by
  have h1:=Tp h n;have a:=fY h n;rw[NC];unfold WU;split
  .rw[ABe,ABe];have:(ByteArray.mk #[38]).size=1:=rfl;omega
  rw[ABe];omega
def YH:AX:={ ins:=[Ee,CQ,RL,BS],pre:=λ(d,all,codes,b,_)=>OD d/\List.length d<=256/\List.length all<=256/\List.length codes=List.length all/\(∀s∈(all:List ByteArray),s.size<=32)/\(∀x∈(codes:List (List Int)),x.length<=64)/\List.length b<=64,out:=λ(d,all,codes,b,_)=>[.p T9 (F8 d all codes b)] }
theorem oX:Ac Tryz.prog 115 YH:=by
 refine fK [0,1,2,3,8,9,10,11,12,16,24,31,45,49] Tryz.func115 Tryz.ntmps115 (AF oG (AF vG (AF Td AI))) ?_;rintro w0 O0 ⟨d,all,codes,b,u⟩ e-⟨hs,z,t,q,C,y,w⟩;have t:all.length<=256:=t;have q:codes.length=all.length:=q;simp only[YH,AM];repeat'(first|exact trivial|apply eS rfl|refine rX e ?_ ?_)
 refine AJ (ι:={x:Nat×List ByteArray//x.1<=all.length/\x.2.length<=x.1/\(∀s∈x.2,s.size<=32)/\kW d all codes b (all.length-x.1) x.1 x.2=kW d all codes b all.length 0 []}) (λx=>⟨[(0,.p Ee d),(1,.p CQ all),(2,.p RL codes),(3,.p BS b),(9,.sr 38 T9 0 x.1.2.length),(10,.p (.int .i64) (x.1.1:Int))],[(38,.arr 9 T9 x.1.2)]⟩) (λx=>all.length-x.1.1) ⟨(0,[]),by simp,by simp,by simp,rfl⟩ (eW [(38,.nil)]) (λx=>?_)
 obtain⟨⟨i,l⟩,hi,B,o,f⟩:=x;simp only at hi B o f;have r:i<all.length->kW d all codes b (all.length-i) i l=if C2 (codes.getD i []) b=true then .inl (all.getD i ByteArray.empty) else kW d all codes b (all.length-(i+1)) (i+1) (if RM b (i:Int)=true then l++[all.getD i ByteArray.empty] else l):=by
  intro h;rw[show all.length-i=(all.length-(i+1))+1 by omega];rfl
 simp only;repeat'(first|exact trivial|apply eS rfl|apply AB|refine rX e ?_ ?_|refine rC ?_ ?_<;>intro a<;>try(cases a;done))
 .exact⟨by rw[q];exact a,gO (Kz y i) dg,gO w dg⟩
 .assumption
 .have c:i<all.length:=by exact eV
  have j:F8 d all codes b=all.getD i ByteArray.empty:=by
   unfold F8;rw[<-f,r c,At a]
  exact fI e [.tmp 8] (by rw[j];exact eR)
 .have c:i<all.length:=by exact eV
  exact⟨iN.2 c,by simp only[AO];omega⟩
 .exact eV
 .have c:i<all.length:=by exact eV
  have hn:=r c;rw[As (by rw[‹C2 _ _=false›];simp),At a]at hn;refine⟨⟨(i+1,l++[all.getD i ByteArray.empty]),by simp only;omega,by simp only[If,nO];omega,?_,hn.symm.trans f⟩,by simp only;omega,AC [(38,.nm 38)] rfl rfl ?_ ?_⟩
  .intro s hs;rcases IS.1 hs with hs|hs
   .exact o s hs
   have:s=all.getD i ByteArray.empty:=by simpa using hs
   rw[this];exact fY C i
  .exact eN
  exact eN
 .exact eV
 .have c:i<all.length:=by exact eV
  have hn:=r c;rw[As (by rw[‹C2 _ _=false›];simp),As (by rw[a];simp)]at hn;exact⟨⟨(i+1,l),by simp only;omega,by simp only;omega,o,hn.symm.trans f⟩,by simp only;omega,eW [(38,.nm 38)]⟩
 have j:F8 d all codes b=aI (A0 d l):=by
  unfold F8;rw[<-f];have:all.length-i=0:=by exact eV
  rw[this];rfl
 refine C8 [38] ?_;repeat'(first|exact trivial|apply eS rfl|refine rX e ?_ ?_)
 .exact⟨hs,z,by omega⟩
 have v:∀s∈A0 d l,s.size<=32:=λs h=>o s (Gg h);have E:=YG d l;have A:aI (A0 d l)=OU (A0 d l) (A0 d l).length:=rfl;rw[A]at j;generalize A0 d l=m at *;refine AJ (ι:={k:Nat//k<=m.length}) (λk=>⟨[(9,.p CQ m),(11,.p T9 (OU m k.1)),(12,.p (.int .i64) (k.1:Int))],[]⟩) (λk=>m.length-k.1) ⟨0,Do _⟩ (AC [] rfl rfl ?_ ?_) (λk=>?_)
 .exact eN
 .refine eM ?_;rfl
 obtain⟨k,hk⟩:=k;have hk:k<=m.length:=hk;have D:=Tp v k;have n:=NC m k;have F:=fY v k;unfold WU at n;simp only;repeat'(first|exact trivial|apply eS rfl|apply AB|refine rX e ?_ ?_|refine rC ?_ ?_<;>intro a<;>try(cases a;done))
 .have h1:(ByteArray.mk #[38]).size=1:=rfl;rw[h1];simp only[AO];exact eV
 .refine⟨by assumption,?_⟩;have h1:(ByteArray.mk #[38]).size=1:=rfl;rw[ABe,h1];simp only[AO];exact eV
 .exact eV
 .have g:k<m.length:=by exact eV
  rw[At a]at n;refine⟨⟨k+1,g⟩,by simp only;omega,AC [] rfl rfl ?_ ?_⟩
  .exact eN
  simp only[n];exact eN
 .refine⟨by assumption,?_⟩;simp only[AO];exact eV
 .exact eV
 .have g:k<m.length:=by exact eV
  rw[As (AAS.2 a)]at n;refine⟨⟨k+1,g⟩,by simp only;omega,AC [] rfl rfl ?_ ?_⟩
  .exact eN
  simp only[n];exact eN
 have g:k=m.length:=by exact eV
 rw[<-g]at j;exact fI e [.tmp 8] (by rw[j];exact eR)
end
section
attribute [local go_sem] R1 OC vT YB YH YA
def E1 (x:AP) (out:List AP):Nat->Nat
 | 0=>0
 | n+1=>if FC x (out.getD n c0)=true then E1 x out n else n+1
def YI (out:List AP) (x:AP):List AP:=out.take (E1 x out out.length)++[x]++out.drop (E1 x out out.length)
def AR (d:List AH):List (List Int):=(AN d).map λs=>D9 d (AN d) s
def Fk (d:List AH) (all:List ByteArray) (codes:List (List Int)) (out:List AP) (b:List Int):List AP:=YI out (F8 d all codes b,b)
def Pr (d:List AH):List AP->List Int->List AP:=Fk d (AN d) (AR d)
theorem ND (d:List AH) (all:List ByteArray) (codes:List (List Int)):∀(l:List (List Int)) (o:List AP),(l.foldl (Fk d all codes) o).length=o.length+l.length
 | [],o=>by simp
 | b :: l,o=>by
  rw[OR,ND d all codes l];unfold Fk YI;simp only[If,On,AB3,NO,AAd];omega
theorem Tq {d:List AH} {all:List ByteArray} {codes:List (List Int)}:∀ {l:List (List Int)} {o:List AP},(∀c∈l,c.length<=64)->(∀y∈o,y.2.length<=64)->∀y∈l.foldl (Fk d all codes) o,y.2.length<=64
 | [],_,_,e=>e
 | b :: l,o,f,e=>by
  rw[OR];refine Tq (λc g=>f c (by simp[g])) (λy a=>?_);unfold Fk YI at a;simp only[IS,oF]at a;rcases a with (a|a)|a
  .exact e y (AAs a)
  .rw[a];exact f b sc
  exact e y (AB4 a)
theorem aJ (x:AP) (out:List AP):∀n,E1 x out n<=n
 | 0=>OS _
 | n+1=>by
  unfold E1;split
  .exact Nat.le_succ_of_le (aJ x out n)
  exact OS _
def AK (d:List AH):List AP:=(Ar (AR d)).foldl (Pr d) []
def B1 (d:List AH):List AP×Int :=
 if A3 d≠0 then ([],A3 d) else if 256<(Ar (AR d)).length then ([],7) else (AK d,0)
theorem fZ {b:Bool} (h:BJ s b=true):s.size<=32:=by
 unfold BJ at h;rw[AT]at h;have h1:=h.1;unfold M0 at h1;simp only[aT,AAa,TO]at h1;have:=h1.1.1.2;omega
theorem aK {d:List AH} (hn:CV d=0):∀s∈AN d,s.size<=32:=by
 intro s hs;obtain⟨x,b,rfl⟩:=DA hs;obtain⟨j,a,rfl⟩:=B7 d0 b;exact fZ (Ht hn j a).2
def Ja (d:List AH) (n:Nat):List (List Int):=((AN d).take n).map λs=>D9 d (AN d) s
theorem f4 {d:List AH} {n:Nat} (h:n<=(AN d).length):(Ja d n).length=n:=by simp[Ja,h]
theorem aL {d:List AH} {n:Nat} (h:n<(AN d).length):Ja d (n+1)=Ja d n++[D9 d (AN d) ((AN d).getD n ByteArray.empty)]:=by
 unfold Ja;rw[A8 _ ByteArray.empty h,AAH];rfl
theorem f5 (d:List AH):Ja d (AN d).length=AR d:=by simp[Ja,AR]
theorem f6 (d:List AH):(AR d).length=(AN d).length:=by simp[AR]
theorem NE {d:List AH} (h:d.length<=256):∀c∈AR d,c.length<=64:=by
 intro c a;unfold AR at a;obtain⟨s,-,rfl⟩:=IF.1 a;have b:=Da d d.length;rw[oR]at b;exact(B0 (d:=d) (all:=AN d) O1 s 0).2.2
theorem aM {i:Nat}:∀ {n k:Nat} {l:List (List Int)},(∀c∈l,c.length<=64)->∀c∈Fj i n k l,c.length<=64
 | 0,_,_,h=>h
 | n+1,k,l,h=>by
  unfold Fj;split
  .exact aM (aB h i k)
  exact h
theorem OV:∀ {n i:Nat} {l:List (List Int)},(∀c∈l,c.length<=64)->∀c∈HG n i l,c.length<=64
 | 0,_,_,h=>h
 | n+1,i,l,h=>by
  unfold HG;split
  .exact OV (aM h)
  exact h
theorem aN {out:List AP} {x y:AP}:y∈YI out x↔y=x\/y∈out:=by
 unfold YI;rw[IS,IS,oF];have h:=IS (a:=y) (s:=out.take (E1 x out out.length)) (t:=out.drop (E1 x out out.length));rw[ABc]at h;rw[h];constructor
 .rintro ((h|h)|h)
  .exact .inr (.inl h)
  .exact .inl h
  exact .inr (.inr h)
 rintro (h|h|h)
 .exact .inl (.inr h)
 .exact .inl (.inl h)
 exact .inr h
def Ps:AX:={ ins:=[Ee],pre:=λ_=>True,out:=λ(d,_)=>[.p Ic (B1 d).1,.p DD (B1 d).2] }
theorem OW:Ac Tryz.prog 65 Ps:=by
 refine fK [0,2,3,4,5,6,7,8,9,10,11,12,13,17,24,41,45,73] Tryz.func65 Tryz.ntmps65 (AF oM (AF WJ (AF A14 (AF oU (AF oX (AF oQ AI)))))) ?_;rintro w0 O0 ⟨d,u⟩ g - -;simp only[Ps,AM];repeat'(first|exact trivial|apply eS rfl|refine rX g ?_ ?_|refine rC ?_ ?_<;>intro a<;>try(cases a;done))
 .have h1:B1 d=([],A3 d):=by unfold B1;rw[At a]
  exact fI g [.tmp 2,.tmp 3] (by rw[h1];exact eR)
 .have i:A3 d=0:=by simpa using a
  obtain⟨-,E,-⟩:=Av i;exact gO E dg
 have i:A3 d=0:=by simpa using a
 obtain⟨M,s,-,hn,-⟩:=Av i;have F:=Da d d.length;rw[oR]at F;have N:=aK hn;refine AJ (ι:={n:Nat//n<=(AN d).length}) (λn=>⟨[(0,.p Ee d),(5,.p CQ (AN d)),(6,.sr 36 BS 0 (Ja d n.1).length),(7,.p (.int .i64) (n.1:Int))],[(36,.arr 111 BS (Ja d n.1))]⟩) (λn=>(AN d).length-n.1) ⟨0,Do _⟩ (AC [(36,.nil)] rfl rfl ?_ ?_) (λn=>?_)
 .refine eM ?_;rfl
 .refine eM ?_;rfl
 obtain⟨n,I⟩:=n;have Q:=f4 I;have hs:=λh=>aL (d:=d) (n:=n) h;simp only;repeat'(first|exact trivial|apply eS rfl|apply AB|refine rX g ?_ ?_|refine rC ?_ ?_<;>intro a<;>try(cases a;done))
 .refine⟨a,⟨s,by dsimp only[Ty.den]at *;omega⟩,?_⟩;simp only[AO];dsimp only[Ty.den]at *;omega
 .exact eV
 .have w:n<(AN d).length:=by exact eV
  have e:=hs w;refine⟨⟨n+1,by omega⟩,by simp only;omega,AC [(36,.nm 36)] rfl rfl ?_ ?_⟩
  .simp only[e];exact eN
  simp only[e];exact eN
 have w:n=(AN d).length:=by exact eV
 subst w;rw[f5];have H:=f6 d;have x:=NE s;have t:∀c∈Ar (AR d),c.length<=64:=OV x;refine C8 [36] ?_;repeat'(first|exact trivial|apply eS rfl|refine rX g ?_ ?_|refine rC ?_ ?_<;>intro a<;>try(cases a;done))
 .exact⟨by omega,x⟩
 .have h1:B1 d=([],7):=by
   unfold B1;rw[As (by rw[i];simp),At O1]
  exact fI g [.tmp 2,.tmp 3] (by rw[h1];exact eR)
 have D:B1 d=((Ar (AR d)).foldl (Fk d (AN d) (AR d)) [],0):=by
  unfold B1;rw[As (by rw[i];simp),As O1];rfl
 generalize Ar (AR d)=f at *;generalize AR d=codes at *;generalize AN d=all at *;refine AJ (ι:={k:Nat//k<=f.length}) (λk=>⟨[(0,.p Ee d),(5,.p CQ all),(6,.p RL codes),(8,.p RL f),(9,.sr 9 Xx 0 ((f.take k.1).foldl (Fk d all codes) []).length),(10,.p (.int .i64) (k.1:Int))],[(9,.arr 127 Xx ((f.take k.1).foldl (Fk d all codes) []))]⟩) (λk=>f.length-k.1) ⟨0,Do _⟩ (AC [(9,.nil)] rfl rfl ?_ ?_) (λk=>?_)
 .refine eM ?_;rfl
 .refine eM ?_;rfl
 obtain⟨k,hk⟩:=k;have C:=ND d all codes (f.take k) [];have O:(f.take k).length=k:=by rw[On];exact AC5 hk
 have J:=Tq (d:=d) (all:=all) (codes:=codes) (l:=f.take k) (o:=[]) (λc g=>t c (AAs g)) sc;have L:=λh:k<f.length=>EM (Fk d all codes) f [] [] h;rw[O]at C;simp only[AAd,AAG]at C;generalize B:(f.take k).foldl (Fk d all codes) []=out at *;simp only;repeat'(first|exact trivial|apply eS rfl|refine rX g ?_ ?_|refine rC ?_ ?_<;>intro a<;>try(cases a;done))
 .exact⟨a,⟨M,s,by omega,H,N,x,Kz t k⟩,a⟩
 .have v:k<f.length:=by exact eV
  have e:=L v;have G:=Kz t k;generalize f.getD k []=b at *;unfold Fk at e;generalize F8 d all codes b=nm at *;refine AJ (ι:={q:Nat//q<=out.length/\E1 (nm,b) out q=E1 (nm,b) out out.length}) (λq=>⟨[(0,.p Ee d),(5,.p CQ all),(6,.p RL codes),(8,.p RL f),(9,.sr 9 Xx 0 out.length),(10,.p (.int .i64) (k:Int)),(11,.bp 11 [] 0),(12,.p (.int .i64) (q.1:Int))],[(9,.arr 127 Xx out),(11,.box 127 true [.p T9 nm,.p BS b])]⟩) (λq=>q.1) ⟨out.length,OS _,rfl⟩ (eW [(9,.nm 9),(11,.nm 11)]) (λq=>?_)
  obtain⟨q,j,A⟩:=q;have j:q<=out.length:=j;simp only;repeat'(first|exact trivial|apply eS rfl|apply AB|refine rX g ?_ ?_|refine rC ?_ ?_<;>intro a<;>try(cases a;done))
  .refine⟨λh=>by omega,λh=>by exact eV,λh=>⟨gO G dg,gO (J _ (AG out c0 (k:=((q:Int)-1).toNat) O1)) dg⟩⟩
  .omega
  .obtain⟨P,z⟩:=a;obtain⟨q,rfl⟩:∃r,q=r+1:=⟨q-1,by omega⟩;have m:((q+1:Nat):Int)-1=(q:Int):=by omega
   refine⟨⟨q,by omega,?_⟩,AAT q,AC [(9,.nm 9),(11,.nm 11)] rfl rfl ?_ ?_⟩
   .rw[<-A];rw[m,iS]at z;show _=if FC (nm,b) (out.getD q c0)=true then E1 (nm,b) out q else q+1
    rw[At z]
   .exact eN
   refine eM ?_;show (q:Int)+1-1=q;omega
  .refine⟨AAe.2 j,?_⟩;rw[On];simp only[AO];omega
  .rw[On];simp only[AO];omega
  .refine⟨AAe.2 j,?_⟩;rw[On,AB3];simp only[AO];omega
  .omega
  have K:E1 (nm,b) out q=q:=by
   cases q with
   | zero=>rfl
   | succ q =>
    have m:((q+1:Nat):Int)-1=(q:Int):=by omega
    have:=a O1;rw[m,iS]at this;show (if FC (nm,b) (out.getD q c0)=true then E1 (nm,b) out q else q+1)=q+1;rw[As (by rw[this];simp)]
  unfold YI at e;rw[<-A,K]at e;refine⟨⟨k+1,by omega⟩,by simp only;omega,AC [(9,.nm 80)] rfl rfl ?_ ?_⟩
  .refine eM ?_;exact e.symm
  refine eM ?_;have y:=ABa List.length e;rw[If,If]at y;exact y.symm
 have v:k=f.length:=by exact eV
 rw[v,oR]at B;rw[B]at D;refine C8 [9] ?_;exact fI g [.tmp 2,.tmp 3] (by rw[D];exact eR)
end
theorem WV {d:List AH}:∀ {l:List (List Int)} {o:List AP} {y:AP},y∈l.foldl (Pr d) o↔y∈o\/∃b∈l,y=(F8 d (AN d) (AR d) b,b)
 | [],o,y=>by simp
 | b :: l,o,y=>by
  rw[OR,WV];unfold Pr Fk;rw[aN];simp only[BY];constructor
  .rintro ((h|h)|⟨c,a,e⟩)
   .exact .inr ⟨b,.inl rfl,h⟩
   .exact .inl h
   exact .inr ⟨c,.inr a,e⟩
  rintro (h|⟨c,rfl|a,e⟩)
  .exact .inl (.inr h)
  .exact .inl (.inl e)
  exact .inr ⟨c,a,e⟩
theorem DB {d:List AH} {y:AP}:y∈AK d↔∃b∈Ar (AR d),y=(F8 d (AN d) (AR d) b,b):=by
 unfold AK;rw[WV];simp
theorem HK (d:List AH):(AK d).length=(Ar (AR d)).length:=by
 have h:=ND d (AN d) (AR d) (Ar (AR d)) [];rw[AAd,AAG]at h;exact h
theorem wE {i k:Nat} {c:List Int} (h:c∈l):c∈Fi l i k:=by
 unfold Fi;split
 .exact IS.2 (.inl h)
 exact h
theorem aO {i:Nat} {c:List Int}:∀ {n k:Nat} {l:List (List Int)},c∈l->c∈Fj i n k l
 | 0,_,_,h=>h
 | n+1,k,l,h=>by
  unfold Fj;split
  .exact aO (wE h)
  exact h
theorem aP {c:List Int}:∀ {n i:Nat} {l:List (List Int)},c∈l->c∈HG n i l
 | 0,_,_,h=>h
 | n+1,i,l,h=>by
  unfold HG;split
  .exact aP (aO h)
  exact h
theorem Hu (d:List AH) {i:Nat} (h:i<(AN d).length):(AR d).getD i []=D9 d (AN d) ((AN d).getD i ByteArray.empty):=by
 unfold AR;simp[AS,h]
theorem kX {d:List AH} (hn:CV d=0) (f:d.length<=(Bd d).length) (c:d.length<=256) {j:Nat} (b:j<(AN d).length):∀(m i:Nat) (l:List ByteArray),i+m=(AN d).length->i<=j ->
  ∃s,kW d (AN d) (AR d) ((AR d).getD j []) m i l=.inl s/\AL s ((AN d).getD j ByteArray.empty)=true
 | 0,i,l,h,g=>by omega
 | m+1,i,l,h,g=>by
  unfold kW;split
  .rename_i a;refine⟨_,rfl,?_⟩;rw[Hu d O1,Hu d b]at a;exact aH hn f c O1 b a
  rename_i a;have k:i≠j:=by
   intro e;subst e;exact a (aG _)
  exact kX hn f c b m (i+1) _ O1 O1
theorem kY (s:ByteArray):∀(l:List AP) (k:Nat),JV s k l<((k+l.length:Nat):Int)
 | [],k=>by simp only[JV];omega
 | x :: l,k=>by
  simp only[JV];split
  .simp only[NO];omega
  have:=kY s l (k+1);simp only[NO];omega
theorem kZ (s:ByteArray):∀(l:List AP) (k:Nat) (x:AP),x∈l->AL x.1 s=true->0<=JV s k l
 | [],_,_,h,_=>by cases h
 | y :: l,k,x,h,e=>by
  simp only[JV];split
  .omega
  rename_i a;rcases BY.1 h with rfl|h
  .exact absurd e a
  exact kZ s l (k+1) x h e
theorem HL (l:List AP) (s:ByteArray):BE l s<(l.length:Int):=by
 have:=kY s l 0;rw[AAG]at this;exact this
theorem F9 {d:List AH} (h:A3 d=0) (hs:AU (AN d) s=true):0<=BE (AK d) s:=by
 obtain⟨-,b,-,hn,f⟩:=Av h;obtain⟨t,g,e⟩:=VK.1 hs;obtain⟨j,c,rfl⟩:=B7 ByteArray.empty g;obtain⟨u,hu,a⟩:=kX hn f b c (AN d).length 0 [] O1 O1;have i:(AR d).length=(AN d).length:=by simp[AR]
 refine kZ s (AK d) 0 (u,(AR d).getD j []) ?_ (BF a e);rw[DB];refine⟨(AR d).getD j [],aP (Ax O1),?_⟩;unfold F8;rw[hu]
theorem K6 {d:List AH} (h:A3 d=0) {x:AH} (a:x∈d):0<=BE (AK d) x.1:=F9 h (NB a)
theorem BU {d:List AH} (h:(B1 d).2=0):A3 d=0/\(Ar (AR d)).length<=256/\(B1 d).1=AK d:=by
 unfold B1 at h ⊢;split at h
 .rename_i h1;exact absurd h h1
 rename_i h1;split at h
 .cases h
 rename_i a;exact⟨DO h1,by omega,by rw[As h1,As a]⟩
theorem k5 {d:List AH} (h:A3 d=0):0<(AK d).length:=by
 obtain⟨-,-,a,-,-⟩:=Av h;cases d with
 | nil=>cases a
 | cons x d =>
  have:=K6 h (x:=x) sc;have b:=HL (AK (x :: d)) x.1;omega
section
attribute [local go_sem] kR
def A4B (l:List AP) (i k:Int) (m:Nat):Bool:=(m:Int)==i||(m:Int)==k||!Jw l k (m:Int)||!Jw l (m:Int) i
def oY (l:List AP) (i k:Int) (n:Nat):Bool:=(List.range n).all (A4B l i k)
def oZ (l:List AP) (i:Int) (k:Nat):Bool:=!((k:Int)==i||!Jw l (k:Int) i)&&oY l i (k:Int) l.length
def MS (l:List AP) (i:Int) (n:Nat):List Int:=((List.range n).filter λ(k:Nat)=>oZ l i k).map λ(k:Nat)=>(k:Int)
def WW (l:List AP) (i:Int):List Int:=MS l i l.length
theorem f7 (l:List AP) (i:Int) (n:Nat):MS l i (n+1)=MS l i n++if oZ l i n=true then [(n:Int)] else []:=by
 unfold MS;rw[AAh,ABs,AAH]
 congr 1
 rw[AAp,ABK];split<;>rfl
theorem o0 (l:List AP) (i:Int) (n:Nat):(MS l i n).length<=n:=by
 unfold MS;rw[dB];exact gO (AAZ _ _) sc
theorem o4 (l:List AP) (i k:Int) (n:Nat):oY l i k (n+1)=(oY l i k n&&A4B l i k n):=by
 unfold oY;rw[AAh,ABM];simp
def wF:AX:={ ins:=[Ic,T3],pre:=λ(l,i,_)=>((0:Int)<=i/\i<(List.length l:Int))/\List.length l<=256/\(∀x∈(l:List AP),x.2.length<=64),out:=λ(l,i,_)=>[.p CH (WW l i)] }
theorem A1f:Ac Tryz.prog 66 wF:=by
 refine fK [0,1,4,5,6,7,8,12,24,28,56] Tryz.func66 Tryz.ntmps66 (AF kS AI) ?_;rintro w0 O0 ⟨l,i,u⟩ c-⟨hi,g,o⟩;have g:l.length<=256:=g;have f:∀x∈(l:List AP),x.2.length<=100000:=λx h=>gO (o x h) dg;simp only[wF,AM];repeat'(first|exact trivial|apply eS rfl|refine rX c ?_ ?_)
 refine AJ (ι:={k:Nat//k<=l.length}) (λk=>⟨[(0,.p Ic l),(1,.p T3 i),(5,.sr 60 T3 0 (MS l i k.1).length),(6,.p (.int .i64) (k.1:Int))],[(60,.arr 3 T3 (MS l i k.1))]⟩) (λk=>l.length-k.1) ⟨0,Do _⟩ (AC [(60,.nil)] rfl rfl ?_ ?_) (λk=>?_)
 .refine eM ?_;rfl
 .refine eM ?_;rfl
 obtain⟨k,hk⟩:=k;have hk:k<=l.length:=hk;have q:=o0 l i k;have hs:=f7 l i k;simp only;repeat'(first|exact trivial|apply eS rfl|apply AB|refine rX c ?_ ?_|refine rC ?_ ?_<;>intro a<;>try(cases a;done))
 .intro h;exact⟨by assumption,hi,f⟩
 .exact eV
 .have e:k<l.length:=by exact eV
  have b:oZ l i k=false:=by
   unfold oZ;rw[AAI];left;rw[ABt,qY,AA3,aT];exact a
  rw[b,As sc,AAk]at hs;refine⟨⟨k+1,by omega⟩,by simp only;omega,AC [(60,.nm 60)] rfl rfl ?_ ?_⟩
  .simp only[hs];exact eN
  simp only[hs];exact eN
 .have e:k<l.length:=by exact eV
  have b:oZ l i k=oY l i (k:Int) l.length:=by
   unfold oZ;rw[show ((k:Int)==i||!Jw l (k:Int) i)=false by
    rw[AAa,AAP,ABt];exact a]
   rfl
  refine AJ (ι:={m:Nat//m<=l.length}) (λm=>⟨[(0,.p Ic l),(1,.p T3 i),(5,.sr 60 T3 0 (MS l i k).length),(6,.p (.int .i64) (k:Int)),(7,.p .bool (oY l i (k:Int) m.1)),(8,.p (.int .i64) (m.1:Int))],[(60,.arr 3 T3 (MS l i k))]⟩) (λm=>l.length-m.1) ⟨0,Do _⟩ (AC [(60,.nm 60)] rfl rfl ?_ ?_) (λm=>?_)
  .exact eN
  .refine eM ?_;rfl
  obtain⟨m,j⟩:=m;have j:m<=l.length:=j;have n:=o4 l i (k:Int) m;simp only;repeat'(first|exact trivial|apply eS rfl|apply AB|refine rX c ?_ ?_|refine rC ?_ ?_<;>intro a<;>try(cases a;done))
  .exact⟨λh=>⟨by assumption,a,f⟩,λh=>⟨a,hi,f⟩⟩
  .exact eV
  .have d:m<l.length:=by exact eV
   refine⟨⟨m+1,by omega⟩,by simp only;omega,AC [(60,.nm 60)] rfl rfl ?_ ?_⟩
   .exact eN
   simp only[n];unfold A4B;exact eN
  .simp only[AO];dsimp only[Ty.den]at *;omega
  .exact eV
  .have d:m=l.length:=by exact eV
   subst d;rw[b,At a]at hs;refine⟨⟨k+1,by omega⟩,by simp only;omega,AC [(60,.nm 60)] rfl rfl ?_ ?_⟩
   .simp only[hs];exact eN
   simp only[hs];exact eN
  .exact eV
  have d:m=l.length:=by exact eV
  subst d;rw[b,As (by rw[a];simp),AAk]at hs;refine⟨⟨k+1,by omega⟩,by simp only;omega,AC [(60,.nm 60)] rfl rfl ?_ ?_⟩
  .simp only[hs];exact eN
  simp only[hs];exact eN
 have e:k=l.length:=by exact eV
 subst e;refine C8 [60] ?_;exact fI c [.tmp 4] (by unfold WW;exact eR)
end
section
attribute [local go_sem] OC OA IC
abbrev FV:=ByteArray×ByteArray
abbrev f0V:FV:=(ByteArray.empty,ByteArray.empty)
def k6 (all:List ByteArray) (l:List FV):Nat->List FV->Int
 | _,[]=>0
 | k,x :: r=>if BJ x.1 true=false then 1 else if ((l.take k).any λy=>AL y.1 x.1)=true then 4 else if AU all x.2=false then 5 else k6 all l (k+1) r
def Tr (all:List ByteArray):List AH->Int
 | []=>0
 | x :: l=>if k6 all x.2.2 0 x.2.2≠0 then k6 all x.2.2 0 x.2.2 else Tr all l
def Jb (d:List AH):Int:=Tr (AN d) d
theorem wG (all:List ByteArray) (l:List FV) (h:k<l.length):k6 all l k (l.drop k)=if BJ (l.getD k f0V).1 true=false then 1 else if ((l.take k).any λy=>AL y.1 (l.getD k f0V).1)=true then 4 else if AU all (l.getD k f0V).2=false then 5 else k6 all l (k+1) (l.drop (k+1)):=by
 rw[OF h];have e:l.getD k f0V=l[k]:=by simp[AS,h]
 rw[e];rfl
theorem o5 (all:List ByteArray) (l:List AH) (h:k<l.length):Tr all (l.drop k)=if k6 all (l.getD k d0).2.2 0 (l.getD k d0).2.2≠0 then k6 all (l.getD k d0).2.2 0 (l.getD k d0).2.2 else Tr all (l.drop (k+1)):=by
 rw[OF h];have e:l.getD k d0=l[k]:=by simp[AS,h]
 rw[e];rfl
def f8:AX:={ ins:=[Ee],pre:=λ(d,_)=>List.length d<=256,out:=λ(d,_)=>[.p DD (Jb d)] }
theorem wH:Ac Tryz.prog 147 f8:=by
 refine fK [0,2,3,4,5,6,7,13,24,33,36,49,57] Tryz.func147 Tryz.ntmps147 (AF WJ (AF TX (AF F7 AI))) ?_;rintro w0 O0 ⟨d,u⟩ c ⟨⟨x,v⟩,-⟩ j;have j:d.length<=256:=j;simp only[f8,AM];repeat'(first|exact trivial|apply eS rfl|refine rX c ?_ ?_)
 .exact gO j dg
 have w:Jb d=Tr (AN d) d:=rfl;rw[w];generalize AN d=all at *;refine AJ (ι:={i:Nat//i<=d.length/\Tr all (d.drop i)=Tr all d}) (λi=>⟨[(0,.p Ee d),(3,.p CQ all),(4,.p (.int .i64) (i.1:Int))],[]⟩) (λi=>d.length-i.1) ⟨0,Do _,rfl⟩ (eW []) (λi=>?_)
 obtain⟨i,hi,hf⟩:=i;simp only;repeat'(first|exact trivial|apply eS rfl|refine rX c ?_ ?_|refine rC ?_ ?_<;>intro a<;>try(cases a;done))
 .exact a
 .have o:i<d.length:=by exact eV
  rw[o5 all d o]at hf;have A:(d.getD i d0).2.2.length<=AO:=(v _ (AG d d0 o)).2.2.1;have z:(List.getD d i (ByteArray.empty,[],[])).2.2=(d.getD i d0).2.2:=rfl;rw[z];generalize (d.getD i d0).2.2=l at *;simp only[AO]at A;refine AJ (ι:={k:Nat//k<=l.length/\k6 all l k (l.drop k)=k6 all l 0 l}) (λk=>⟨[(0,.p Ee d),(3,.p CQ all),(4,.p (.int .i64) (i:Int)),(5,.p T63 l),(6,.p (.int .i64) (k.1:Int))],[]⟩) (λk=>l.length-k.1) ⟨0,Do _,rfl⟩ (eW []) (λk=>?_)
  obtain⟨k,hk,b⟩:=k;have r:=λh:k<l.length=>wG all l h;simp only;repeat'(first|exact trivial|apply eS rfl|apply AB|refine rX c ?_ ?_|refine rC ?_ ?_<;>intro a<;>try(cases a;done))
  .exact a
  .have e:k<l.length:=by exact eV
   rw[r e,At a]at b;rw[<-b,At dg]at hf;exact fI c [.tmp 2] (by rw[<-hf];exact eR)
  .have e:k<l.length:=by exact eV
   have q:(k:Int)<(l.length:Int):=iN.2 e;rw[r e,As (by rw[a];simp)]at b;refine AJ (ι:={m:Nat//m<=k/\((l.take m).any λy=>AL y.1 (l.getD k f0V).1)=false}) (λm=>⟨[(0,.p Ee d),(3,.p CQ all),(4,.p (.int .i64) (i:Int)),(5,.p T63 l),(6,.p (.int .i64) (k:Int)),(7,.p (.int .i64) (m.1:Int))],[]⟩) (λm=>k-m.1) ⟨0,Do _,rfl⟩ (eW []) (λm=>?_)
   obtain⟨m,B,g⟩:=m;have s:=λh:m<l.length=>Lr l f0V (λy=>AL y.1 (l.getD k f0V).1) h;simp only;repeat'(first|exact trivial|apply eS rfl|apply AB|refine rX c ?_ ?_|refine rC ?_ ?_<;>intro a<;>try(cases a;done))
   .have h1:(m:Int)<(k:Int):=a;exact⟨by exact eV,q⟩
   .have f:m<k:=iN.1 (by assumption);have n:=s O1;have t:((l.take k).any λy=>AL y.1 (l.getD k f0V).1)=true:=by
     rw[VK];exact⟨l.getD m f0V,by
      rw[ABy];refine⟨m,by omega,?_⟩;simp[AS,show m<l.length by omega],a⟩
    rw[At t]at b;rw[<-b,At dg]at hf;exact fI c [.tmp 2] (by rw[<-hf];exact eR)
   .omega
   .have f:m<k:=iN.1 (by assumption);have n:=s O1;refine⟨⟨m+1,by omega,?_⟩,by simp only;omega,AC [] rfl rfl ?_ ?_⟩
    .rw[n,g];exact a
    .exact eN
    exact eN
   .exact q
   .have f:m=k:=by omega
    subst f;rw[As (by rw[g];simp),At a]at b;rw[<-b,At dg]at hf;exact fI c [.tmp 2] (by rw[<-hf];exact eR)
   .have:=x;simp only[AO]at this;omega
   have f:m=k:=by omega
   subst f;rw[As (by rw[g];simp),As (by rw[a];simp)]at b;exact⟨⟨m+1,by omega,b⟩,by simp only;omega,eW []⟩
  .omega
  have e:l.drop k=[]:=ON (AAe.1 a);rw[e]at b;rw[<-b,As (by simp[k6])]at hf;exact⟨⟨i+1,by omega,hf⟩,by simp only;omega,eW []⟩
 have e:d.drop i=[]:=ON (by exact eV);rw[e]at hf;exact fI c [.tmp 2] (by rw[<-hf];first|exact eR|refine N9 ?_;rfl)
end
section
attribute [local go_sem] X9 Xz Ky KD
def GT (s:ByteArray) (o:List ByteArray) (x:AH):List ByteArray:=if (Cu x s).2=true then DZ o x.1 else o
def Ep (d:List AH) (s:ByteArray):List ByteArray:=d.foldl (GT s) []
theorem f9 (s:ByteArray) (d:List AH) (k:Nat):(Ep (d.take k) s).length<=k:=by
 have key:∀(l:List AH) (o:List ByteArray),(l.foldl (GT s) o).length<=o.length+l.length:=by
  intro l;induction l with
  | nil=>intro o;simp
  | cons x l b =>
   intro o;have h1:=b (GT s o x);have a:(GT s o x).length<=o.length+1:=by
    unfold GT;split
    .exact Kw o x.1
    omega
   simp only[OR,NO];omega
 have h1:=key (d.take k) [];have a:=AAr k d;unfold Ep;simp only[AAd]at h1;omega
def DC (d:List AH) (s:ByteArray):ByteArray×Bool:=if (A0 d (Ep d s)).length=1 then ((A0 d (Ep d s)).getD 0 ByteArray.empty,true) else (ByteArray.empty,false)
def YJ:AX:={ ins:=[Ee,T9],pre:=λ(d,_,_)=>OD d/\List.length d<=256,out:=λ(d,s,_)=>[.p T9 (DC d s).1,.p .bool (DC d s).2] }
theorem aQ:Ac Tryz.prog 118 YJ:=by
 refine fK [0,1,4,5,6,7,9,10,14,26,39] Tryz.func118 Tryz.ntmps118 (AF Z9 (AF Ph (AF Td AI))) ?_;rintro w0 O0 ⟨d,s,u⟩ c-⟨l,f⟩;have f:d.length<=256:=f;simp only[YJ,AM];repeat'(first|exact trivial|apply eS rfl|refine rX c ?_ ?_)
 refine AJ (ι:={i:Nat//i<=d.length}) (λi=>⟨[(0,.p Ee d),(1,.p T9 s),(6,.p CQ (Ep (d.take i.1) s)),(7,.p (.int .i64) (i.1:Int))],[]⟩) (λi=>d.length-i.1) ⟨0,Do _⟩ (AC [] rfl rfl ?_ ?_) (λi=>?_)
 .exact eN
 .refine eM ?_;rfl
 obtain⟨i,hi⟩:=i;have hi:i<=d.length:=hi;have hn:=f9 s d i;have hs:=λh:i<d.length=>EM (GT s) d d0 [] h;have j:∀e,Ep e s=e.foldl (GT s) []:=λ_=>rfl;rw[<-j,<-j]at hs;unfold GT at hs;simp only;repeat'(first|exact trivial|apply eS rfl|apply AB|refine rX c ?_ ?_|refine rC ?_ ?_<;>intro a<;>try(cases a;done))
 .exact a
 .exact⟨by assumption,by omega⟩
 .exact eV
 .have b:i<d.length:=by exact eV
  have e:=hs b;rw[At a]at e;refine⟨⟨i+1,by omega⟩,by simp only;omega,AC [] rfl rfl ?_ ?_⟩
  .exact eN
  simp only[e];exact eN
 .exact eV
 .have b:i<d.length:=by exact eV
  have e:=hs b;rw[As (by rw[a];simp)]at e;refine⟨⟨i+1,by omega⟩,by simp only;omega,AC [] rfl rfl ?_ ?_⟩
  .exact eN
  simp only[e];exact eN
 .exact⟨l,f,by omega⟩
 .have b:d.take i=d:=By (by exact eV);rw[b]at a ⊢;have h1:DC d s=(ByteArray.empty,false):=by
   unfold DC;rw[As O1]
  exact fI c [.tmp 4,.tmp 5] (by rw[h1];first|exact eR|refine N9 ?_;first|rfl|exact⟨rfl,rfl⟩)
 .have g:((A0 d (Ep (d.take i) s)).length:Int)=1:=by simpa using a
  have k:(0:Int)<((A0 d (Ep (d.take i) s)).length:Int):=by rw[g];decide
  exact k
 have b:d.take i=d:=By (by exact eV);rw[b]at a ⊢;have g:((A0 d (Ep d s)).length:Int)=1:=by simpa using a
 have h1:DC d s=((A0 d (Ep d s)).getD 0 ByteArray.empty,true):=by
  unfold DC;rw[At O1]
 exact fI c [.tmp 4,.tmp 5] (by rw[h1];exact eR)
end
section
attribute [local go_sem] X9 R2 kR vH
def Il (l:List AP) (t:Int) (s:ByteArray) (o:List Int×Bool) (x:AH):List Int×Bool :=
 if (!(Cu x s).2||!Jw l (BE l x.1) t)=true then o else (Dz o.1 (l.getD (BE l (Cu x s).1).toNat c0).2,true)
def Eq (d:List AH) (l:List AP) (t:Int) (s:ByteArray):List Int×Bool:=d.foldl (Il l t s) ((l.getD 0 c0).2,false)
def gA (d:List AH) (l:List AP):Prop:=(∀x∈d,0<=BE l x.1)/\∀x∈d,∀y∈x.2.2,0<=BE l y.2
theorem aR (s:ByteArray):∀(l:List (ByteArray×ByteArray)),(Z8 s l).2=true->∃y∈l,y.2=(Z8 s l).1
 | [],h=>by cases h
 | x :: l,h=>by
  simp only[Z8]at h ⊢;split at h
  .rename_i h1;rw[At h1];exact⟨x,by simp,rfl⟩
  rename_i h1;rw[As h1];obtain⟨y,a,e⟩:=aR s l h;exact⟨y,by simp[a],e⟩
theorem gA.value {d:List AH} {l:List AP} (h:gA d l) {x:AH} (b:x∈d) (a:(Cu x s).2=true):0<=BE l (Cu x s).1:=by
 obtain⟨y,c,e⟩:=aR s x.2.2 a;have:=h.2 x b y c;rw[e]at this;exact this
theorem wI {l:List AP} (t:Int) (s:ByteArray) (x:AH) {o:List Int×Bool} (h:o.1.length<=64):(Il l t s o x).1.length<=64:=by
 unfold Il;split
 .exact h
 exact gO (aA _ _) h
theorem Ts {l:List AP} (t:Int) (s:ByteArray):∀(d:List AH) {o:List Int×Bool},o.1.length<=64->(d.foldl (Il l t s) o).1.length<=64
 | [],_,h=>h
 | x :: d,_,h=>by rw[OR];exact Ts t s d (wI t s x h)
theorem aU (s:ByteArray):∀(l:List AP) (k:Nat),JV s k l<((k+l.length:Nat):Int)
 | [],k=>by simp only[JV];omega
 | x :: l,k=>by
  simp only[JV];split
  .simp only[NO];omega
  have:=aU s l (k+1);simp only[NO];omega
theorem Qs (l:List AP) (s:ByteArray):BE l s<(l.length:Int):=by
 have:=aU s l 0;rw[AAG]at this;exact this
def A1h:AX:={ ins:=[Ee,Ic,T3,T9],pre:=λ(d,l,t,_,_)=>gA d l/\((0:Int)<=t/\t<(List.length l:Int))/\List.length l<=256/\(∀x∈(l:List AP),x.2.length<=64),out:=λ(d,l,t,s,_)=>[.p BS (Eq d l t s).1,.p .bool (Eq d l t s).2] }
theorem wJ:Ac Tryz.prog 109 A1h:=by
 refine fK [0,1,2,3,8,9,10,11,12,13,14,22,48] Tryz.func109 Tryz.ntmps109 (AF Z9 (AF WN (AF kS (AF vI AI)))) ?_;rintro w0 O0 ⟨d,l,t,s,u⟩ f ⟨⟨A,G⟩,-⟩ ⟨r,j,n,w⟩;have n:l.length<=256:=n;have F:∀x∈(l:List AP),x.2.length<=100000:=λx h=>gO (w x h) dg;have q:0<List.length l:=iN.1 (ACh j.1 j.2);simp only[AO]at A;simp only[A1h,AM];repeat'(first|exact trivial|apply eS rfl|refine rX f ?_ ?_)
 .exact iN.2 q
 have m:Eq d l t s=d.foldl (Il l t s) ((l.getD 0 c0).2,false):=rfl;have y:(l.getD 0 c0).2.length<=64:=w _ (AG l c0 q);have z:(List.getD l 0 (ByteArray.empty,[])).2=(l.getD 0 c0).2:=rfl;rw[z];generalize (l.getD 0 c0).2=c at *;refine AJ (ι:={i:Nat//i<=d.length}) (λi=>⟨[(0,.p Ee d),(1,.p Ic l),(2,.p T3 t),(3,.p T9 s),(10,.p .bool ((d.take i.1).foldl (Il l t s) (c,false)).2),(11,.p BS ((d.take i.1).foldl (Il l t s) (c,false)).1),(12,.p (.int .i64) (i.1:Int))],[]⟩) (λi=>d.length-i.1) ⟨0,Do _⟩ (AC [] rfl rfl ?_ ?_) (λi=>?_)
 .exact eN
 .refine eM ?_;exact⟨rfl,rfl⟩
 obtain⟨i,hi⟩:=i;have hi:i<=d.length:=hi;have B:=Ts (l:=l) t s (d.take i) (o:=(c,false)) y;have hs:=λh:i<d.length=>EM (Il l t s) d d0 (c,false) h;have E:=λh:i<d.length=>r.1 _ (AG d d0 h);have D:=λ(h:i<d.length) (g:(Cu (d.getD i d0) s).2=true)=>r.value (AG d d0 h) g;have k:∀o x,Il l t s o x=(if (!(Cu x s).2||!Jw l (BE l x.1) t)=true then o else (Dz o.1 (l.getD (BE l (Cu x s).1).toNat c0).2,true)):=λ_ _=>rfl;generalize v:(d.take i).foldl (Il l t s) (c,false)=o at *;simp only;repeat'(first|exact trivial|apply eS rfl|apply AB|refine rX f ?_ ?_|refine rC ?_ ?_<;>intro a<;>try(cases a;done))
 .exact a
 .have b:i<d.length:=iN.1 a;exact⟨λ_=>a,λ_=>⟨⟨E b,Qs _ _⟩,j,F⟩⟩
 .exact eV
 .have b:i<d.length:=iN.1 (by assumption);have e:=hs b;rw[k,At (by rw[qY,aT,aT];exact a)]at e;refine⟨⟨i+1,by omega⟩,by simp only;omega,AC [] rfl rfl ?_ ?_⟩
  .exact eN
  refine eM ?_;rw[e];exact⟨rfl,rfl⟩
 .have b:i<d.length:=iN.1 (by assumption);exact⟨⟨D b a.1,Qs _ _⟩,gO B dg⟩
 .exact eV
 .have b:i<d.length:=iN.1 (by assumption);have e:=hs b;have C:¬(!(Cu (d.getD i d0) s).2||!Jw l (BE l (d.getD i d0).1) t)=true:=by
   rw[qY,aT,aT];rintro (h|h)
   .rw[show (Cu (d.getD i d0) s).2=true from a.1]at h;cases h
   rw[show Jw l (BE l (d.getD i d0).1) t=true from a.2]at h;cases h
  rw[k,As C]at e;refine⟨⟨i+1,by omega⟩,by simp only;omega,AC [] rfl rfl ?_ ?_⟩
  .exact eN
  refine eM ?_;rw[e];exact⟨rfl,rfl⟩
 have b:d.take i=d:=By (AAe.1 a);rw[b]at v;rw[v]at m;exact fI f [.tmp 8,.tmp 9] (by rw[m];exact eR)
end
theorem Qt:∀ {l:List AH},Ku l=0->∀x∈l,x.2.1.length<=256/\x.2.2.length<=256
 | [],_,x,a=>by cases a
 | y :: l,h,x,a=>by
  simp only[Ku]at h;split at h
  .cases h
  rename_i h1;rcases BY.1 a with rfl|a
  .exact⟨by omega,by omega⟩
  exact Qt h x a
theorem Jc {d:List AH} (h:A3 d=0):∀x∈d,x.2.1.length<=256/\x.2.2.length<=256:=by
 have h1:EV d=0:=by
  unfold A3 at h;split at h
  .rename_i h1;exact absurd h h1
  rename_i h1;exact DO h1
 unfold EV at h1;split at h1
 .cases h1
 exact Qt h1
theorem NF {d:List AH} (h:A3 d=0):∀x∈AK d,x.2.length<=64:=by
 intro x e;obtain⟨-,a,-⟩:=Av h;obtain⟨b,c,rfl⟩:=DB.1 e;exact OV (NE a) b c
theorem aV {all:List ByteArray} {l:List FV}:∀ {r:List FV} {k:Nat},k6 all l k r=0->∀y∈r,AU all y.2=true
 | [],_,_,y,a=>by cases a
 | x :: r,k,h,y,a=>by
  simp only[k6]at h;split at h
  .cases h
  split at h
  .cases h
  split at h
  .cases h
  rename_i b;rcases BY.1 a with rfl|a
  .simpa using b
  exact aV h y a
theorem WX {all:List ByteArray}:∀ {l:List AH},Tr all l=0->∀x∈l,∀y∈x.2.2,AU all y.2=true
 | [],_,x,a=>by cases a
 | z :: l,h,x,a=>by
  simp only[Tr]at h;split at h
  .rename_i h1;exact absurd h h1
  rename_i h1;rcases BY.1 a with rfl|a
  .exact aV (DO h1)
  exact WX h x a
theorem OX {d:List AH} (h:A3 d=0) (b:Jb d=0):gA d (AK d) :=
 ⟨λx a=>K6 h a,λx a y c=>F9 h (WX b x a y c)⟩
section
attribute [local go_sem] Ps Tf f8 YJ A1h
def Jd (d:List AH) (l:List AP) (t:Nat) (s:ByteArray):Bool:=(Eq d l (t:Int) s).2&&((Eq d l (t:Int) s).1.length:Int)==0
def YK (d:List AH) (l:List AP) (f:List ByteArray) (t:Nat):Bool:=f.any (Jd d l t)
def HN (d:List AH) (l:List AP) (f:List ByteArray) (n:Nat):Bool:=(List.range n).any (YK d l f)
theorem aW (d:List AH) (l:List AP) (f:List ByteArray) (n:Nat):HN d l f (n+1)=(HN d l f n||YK d l f n):=by
 unfold HN;rw[AAh,ABL];simp
def Ah (d:List AH):Int :=
 if (B1 d).2≠0 then (B1 d).2 else if 64<(BC d).length then 7 else if Jb d≠0 then Jb d else
 if ((BC d).all λs=>(DC d s).2)=false then 10 else if HN d (B1 d).1 (BC d) (B1 d).1.length=true then 11 else 0
def R3:AX:={ ins:=[Ee],pre:=λ_=>True,out:=λ(d,_)=>[.p DD (Ah d)] }
theorem WY:Ac Tryz.prog 107 R3:=by
 refine fK [0,2,3,4,5,6,7,9,10,11,12,13,20,26,30,35,48,52,58,77] Tryz.func107 Tryz.ntmps107 (AF OW (AF Tg (AF wH (AF aQ (AF wJ AI))))) ?_;rintro w0 O0 ⟨d,u⟩ b - -;simp only[R3,AM];repeat'(first|exact trivial|apply eS rfl|refine rX b ?_ ?_|refine rC ?_ ?_<;>intro a<;>try(cases a;done))
 .have h1:Ah d=(B1 d).2:=by unfold Ah;rw[At a]
  exact fI b [.tmp 2] (by rw[h1];exact eR)
 .have c:(B1 d).2=0:=by simpa using a
  obtain⟨e,-,-⟩:=BU c;obtain⟨-,r,-⟩:=Av e;exact⟨r,λx L=>(Jc e x L).2⟩
 .have c:(B1 d).2=0:=by simpa using ‹((B1 d).2 != 0)=false›
  have h1:Ah d=7:=by
   unfold Ah;rw[As (by rw[c];simp),At O1]
  exact fI b [.tmp 2] (by rw[h1];exact eR)
 .have c:(B1 d).2=0:=by simpa using ‹((B1 d).2 != 0)=false›
  obtain⟨e,-,-⟩:=BU c;exact(Av e).2.1
 .have c:(B1 d).2=0:=by simpa using ‹((B1 d).2 != 0)=false›
  have h1:Ah d=Jb d:=by
   unfold Ah;rw[As (by rw[c];simp),As O1,At a]
  exact fI b [.tmp 2] (by rw[h1];exact eR)
 have c:(B1 d).2=0:=by simpa using ‹((B1 d).2 != 0)=false›
 have v:Jb d=0:=by simpa using a
 obtain⟨e,C,B⟩:=BU c;obtain⟨H,r,-⟩:=Av e;have E:=OX e v;have K:=NF e;have M:=k5 e;have D:(AK d).length<=256:=by rw[HK];exact C
 have g:Ah d=if ((BC d).all λs=>(DC d s).2)=false then 10 else if HN d (B1 d).1 (BC d) (B1 d).1.length=true then 11 else 0:=by
  unfold Ah;rw[As (by rw[c];simp),As O1,As (by rw[v];simp)]
 rw[B]at g ⊢;generalize AK d=l at *;generalize BC d=f at *;refine AJ (ι:={i:Nat//i<=f.length/\((f.take i).all λs=>(DC d s).2)=true}) (λi=>⟨[(0,.p Ee d),(3,.p Ic l),(5,.p CQ f),(7,.p (.int .i64) (i.1:Int))],[]⟩) (λi=>f.length-i.1) ⟨0,Do _,rfl⟩ (eW []) (λi=>?_)
 obtain⟨i,hi,n⟩:=i;have G:=λh:i<f.length=>Pk f ByteArray.empty (λs=>(DC d s).2) h;simp only;repeat'(first|exact trivial|apply eS rfl|apply AB|refine rX b ?_ ?_|refine rC ?_ ?_<;>intro a<;>try(cases a;done))
 .exact⟨a,H,r⟩
 .have j:i<f.length:=iN.1 (by assumption);have z:(f.all λs=>(DC d s).2)=false:=by
   rw[ABn];intro h;have:=No.1 h _ (AG f ByteArray.empty j);rw[show (DC d (f.getD i ByteArray.empty)).2=false from a]at this;cases this
  rw[At z]at g;exact fI b [.tmp 2] (by rw[g];exact eR)
 .omega
 .have j:i<f.length:=iN.1 (by assumption);refine⟨⟨i+1,j,?_⟩,by simp only;omega,AC [] rfl rfl ?_ ?_⟩
  .rw[G j,n];exact a
  .exact eN
  exact eN
 have j:f.take i=f:=By (AAe.1 a);rw[j]at n;rw[As (by rw[n];simp)]at g;refine AJ (ι:={t:Nat//t<=l.length/\HN d l f t=false}) (λt=>⟨[(0,.p Ee d),(3,.p Ic l),(5,.p CQ f),(10,.p (.int .i64) (t.1:Int))],[]⟩) (λt=>l.length-t.1) ⟨0,Do _,rfl⟩ (eW []) (λt=>?_)
 obtain⟨t,N,y⟩:=t;have J:=aW d l f t;simp only;repeat'(first|exact trivial|apply eS rfl|refine rX b ?_ ?_|refine rC ?_ ?_<;>intro a<;>try(cases a;done))
 .have w:t<l.length:=iN.1 a;refine AJ (ι:={k:Nat//k<=f.length/\(f.take k).any (Jd d l t)=false}) (λk=>⟨[(0,.p Ee d),(3,.p Ic l),(5,.p CQ f),(10,.p (.int .i64) (t:Int)),(11,.p (.int .i64) (k.1:Int))],[]⟩) (λk=>f.length-k.1) ⟨0,Do _,rfl⟩ (eW []) (λk=>?_)
  obtain⟨k,hk,o⟩:=k;have F:=λh:k<f.length=>Lr f ByteArray.empty (Jd d l t) h;simp only;repeat'(first|exact trivial|apply eS rfl|apply AB|refine rX b ?_ ?_|refine rC ?_ ?_<;>intro a<;>try(cases a;done))
  .exact⟨a,E,by assumption,D,K⟩
  .have m:k<f.length:=iN.1 (by assumption);have q:Jd d l t (f.getD k ByteArray.empty)=true:=by
    unfold Jd;rw[AT,AA3];exact a
   have A:HN d l f l.length=true:=by
    unfold HN;rw[VK];exact⟨t,oN.2 w,Ho f ByteArray.empty _ m q⟩
   rw[At A]at g;exact fI b [.tmp 2] (by rw[g];exact eR)
  .omega
  .have m:k<f.length:=iN.1 (by assumption);have q:Jd d l t (f.getD k ByteArray.empty)=false:=by
    rw[ABn];unfold Jd;intro h;rw[AT,AA3]at h;exact a h.1 h.2
   refine⟨⟨k+1,m,?_⟩,by simp only;omega,AC [] rfl rfl ?_ ?_⟩
   .rw[F m,o,q];rfl
   .exact eN
   exact eN
  .omega
  have m:f.take k=f:=By (AAe.1 a);rw[m]at o;refine⟨⟨t+1,w,?_⟩,by simp only;omega,AC [] rfl rfl ?_ ?_⟩
  .rw[J,y];exact o
  .exact eN
  exact eN
 have I:t=l.length:=by exact eV
 subst I;rw[As (by rw[y];simp)]at g;exact fI b [.tmp 2] (by rw[g];exact eR)
end
section
attribute [local go_sem] R3 Ps Tf YJ R2
abbrev Qu:=ByteArray×Int
theorem B5 {d:List AH} (h:Ah d=0):(B1 d).2=0/\(BC d).length<=64/\Jb d=0:=by
 unfold Ah at h;split at h
 .rename_i h1;exact absurd h h1
 rename_i h1;split at h
 .cases h
 rename_i b;split at h
 .rename_i a;exact absurd h a
 rename_i a;exact⟨DO h1,by omega,DO a⟩
def K7 (d:List AH) (s:ByteArray):Qu:=(s,BE (AK d) (DC d s).1)
def Cy (d:List AH):List Qu×Int:=if Ah d≠0 then ([],Ah d) else ((BC d).map (K7 d),0)
theorem Vc {α:Type} (f:α->X) (l:List α) (d:α) (h:k<l.length):(l.take (k+1)).map f=(l.take k).map f++[f (l.getD k d)]:=by
 rw[A8 l d h,AAH];rfl
theorem YL {α:Type} (f:α->X) (l:List α) (h:k<=l.length):((l.take k).map f).length=k:=by simp[h]
def Pt:AX:={ ins:=[Ee],pre:=λ_=>True,out:=λ(d,_)=>[.p fB (Cy d).1,.p DD (Cy d).2] }
theorem aX:Ac Tryz.prog 67 Pt:=by
 refine fK [0,2,3,4,5,7,8,9,10,15,27] Tryz.func67 Tryz.ntmps67 (AF WY (AF OW (AF Tg (AF aQ (AF WN AI))))) ?_;rintro w0 O0 ⟨d,u⟩ g - -;simp only[Pt,AM];repeat'(first|exact trivial|apply eS rfl|refine rX g ?_ ?_|refine rC ?_ ?_<;>intro a<;>try(cases a;done))
 .have h1:Cy d=([],Ah d):=by unfold Cy;rw[At a]
  exact fI g [.tmp 2,.tmp 3] (by rw[h1];exact eR)
 .have c:Ah d=0:=by simpa using a
  obtain⟨k,-,-⟩:=B5 c;obtain⟨b,-,-⟩:=BU k;exact⟨(Av b).2.1,λx r=>(Jc b x r).2⟩
 have c:Ah d=0:=by simpa using a
 obtain⟨k,s,-⟩:=B5 c;obtain⟨b,-,m⟩:=BU k;obtain⟨q,l,-⟩:=Av b;have o:Cy d=((BC d).map (K7 d),0):=by unfold Cy;rw[As (by rw[c];simp)]
 rw[m];generalize BC d=f at *;refine AJ (ι:={i:Nat//i<=f.length}) (λi=>⟨[(0,.p Ee d),(5,.p Ic (AK d)),(7,.p CQ f),(8,.sr 49 tU 0 ((f.take i.1).map (K7 d)).length),(9,.p (.int .i64) (i.1:Int))],[(49,.arr 172 tU ((f.take i.1).map (K7 d)))]⟩) (λi=>f.length-i.1) ⟨0,Do _⟩ (eW [(49,.nil)]) (λi=>?_)
 obtain⟨i,hi⟩:=i;have n:=YL (K7 d) f hi;have hs:=λh:i<f.length=>Vc (K7 d) f ByteArray.empty h;simp only;repeat'(first|exact trivial|apply eS rfl|apply AB|refine rX g ?_ ?_|refine rC ?_ ?_<;>intro a<;>try(cases a;done))
 .exact⟨a,q,l⟩
 .refine⟨a,?_⟩;rw[n];simp only[AO];omega
 .omega
 .have j:i<f.length:=iN.1 a;have e:=hs j;refine⟨⟨i+1,j⟩,by simp only;omega,AC [(49,.nm 49)] rfl rfl ?_ ?_⟩
  .simp only[e];refine eM ?_;rfl
  simp only[e];exact eN
 have j:f.take i=f:=By (AAe.1 a);rw[j];refine C8 [49] ?_;exact fI g [.tmp 2,.tmp 3] (by rw[o];exact eR)
end
section
attribute [local go_sem] R3 Ps Tf A1h fQ
def RR (d:List AH) (l:List AP) (f:List ByteArray) (t:Nat) (n:Nat):List (Int×Int) :=
 ((List.range n).filter λ(i:Nat)=>(Eq d l (t:Int) (f.getD i ByteArray.empty)).2).map λ(i:Nat)=>((i:Int),GM l (Eq d l (t:Int) (f.getD i ByteArray.empty)).1)
def Im (d:List AH) (l:List AP) (f:List ByteArray) (n:Nat):List (List (Int×Int)):=(List.range n).map λt=>RR d l f t f.length
def A1 (d:List AH):List (List (Int×Int))×Int:=if Ah d≠0 then ([],Ah d) else (Im d (AK d) (BC d) (AK d).length,0)
theorem WZ (d:List AH) (l:List AP) (f:List ByteArray) (t n:Nat):RR d l f t (n+1)=RR d l f t n++if (Eq d l (t:Int) (f.getD n ByteArray.empty)).2=true then [((n:Int),GM l (Eq d l (t:Int) (f.getD n ByteArray.empty)).1)] else []:=by
 unfold RR;rw[AAh,ABs,AAH]
 congr 1
 rw[AAp,ABK];split<;>rfl
theorem wK (d:List AH) (l:List AP) (f:List ByteArray) (t n:Nat):(RR d l f t n).length<=n:=by
 unfold RR;rw[dB];exact gO (AAZ _ _) sc
theorem gB (d:List AH) (l:List AP) (f:List ByteArray) (n:Nat):Im d l f (n+1)=Im d l f n++[RR d l f n f.length]:=by simp[Im,AAh]
theorem Wa (d:List AH) (l:List AP) (f:List ByteArray) (n:Nat):(Im d l f n).length=n:=by simp[Im]
theorem wL {d:List AH} {l:List AP} (h:∀x∈l,x.2.length<=64) (t:Int) (s:ByteArray):(Eq d l t s).1.length<=64:=by
 unfold Eq;refine Ts t s d ?_;rw[AS];cases hh:l[0]? with
 | none=>simp
 | some x=>exact h x (AAm hh)
def Tt:AX:={ ins:=[Ee],pre:=λ_=>True,out:=λ(d,_)=>[.p A0Y (A1 d).1,.p DD (A1 d).2] }
theorem gC:Ac Tryz.prog 64 Tt:=by
 refine fK [0,2,3,4,5,7,8,9,10,11,12,13,17,29,35,49] Tryz.func64 Tryz.ntmps64 (AF WY (AF OW (AF Tg (AF wJ (AF vR AI))))) ?_;rintro w0 O0 ⟨d,u⟩ e - -;simp only[Tt,AM];repeat'(first|exact trivial|apply eS rfl|refine rX e ?_ ?_|refine rC ?_ ?_<;>intro a<;>try(cases a;done))
 .have h1:A1 d=([],Ah d):=by unfold A1;rw[At a]
  exact fI e [.tmp 2,.tmp 3] (by rw[h1];exact eR)
 .have h:Ah d=0:=by simpa using a
  obtain⟨m,-,-⟩:=B5 h;obtain⟨b,-,-⟩:=BU m;exact⟨(Av b).2.1,λx z=>(Jc b x z).2⟩
 have h:Ah d=0:=by simpa using a
 obtain⟨m,B,o⟩:=B5 h;obtain⟨b,j,r⟩:=BU m;obtain⟨D,A,-⟩:=Av b;have y:A1 d=(Im d (AK d) (BC d) (AK d).length,0):=by unfold A1;rw[As (by rw[h];simp)]
 have w:=OX b o;have n:=NF b;have v:(AK d).length<=256:=by rw[HK];exact j
 rw[r];generalize AK d=l at *;generalize BC d=f at *;have q:=λt s=>wL (d:=d) n t s;refine AJ (ι:={t:Nat//t<=l.length}) (λt=>⟨[(0,.p Ee d),(5,.p Ic l),(7,.p CQ f),(8,.sr 61 Xw 0 (Im d l f t.1).length),(9,.p (.int .i64) (t.1:Int))],[(61,.arr 112 Xw (Im d l f t.1))]⟩) (λt=>l.length-t.1) ⟨0,Do _⟩ (AC [(61,.nil)] rfl rfl ?_ ?_) (λt=>?_)
 .refine eM ?_;rfl
 .refine eM ?_;rfl
 obtain⟨t,E⟩:=t;have j:=Wa d l f t;have hs:=gB d l f t;simp only;repeat'(first|exact trivial|apply eS rfl|refine rX e ?_ ?_|refine rC ?_ ?_<;>intro a<;>try(cases a;done))
 .refine AJ (ι:={i:Nat//i<=f.length}) (λi=>⟨[(0,.p Ee d),(5,.p Ic l),(7,.p CQ f),(8,.sr 61 Xw 0 (Im d l f t).length),(9,.p (.int .i64) (t:Int)),(10,.sr 57 tT 0 (RR d l f t i.1).length),(11,.p (.int .i64) (i.1:Int))],[(61,.arr 112 Xw (Im d l f t)),(57,.arr 149 tT (RR d l f t i.1))]⟩) (λi=>f.length-i.1) ⟨0,Do _⟩ (AC [(61,.nm 61),(57,.nil)] rfl rfl ?_ ?_) (λi=>?_)
  .refine eM ?_;rfl
  .refine eM ?_;rfl
  obtain⟨i,hi⟩:=i;have C:=wK d l f t i;have c:=WZ d l f t i;simp only;repeat'(first|exact trivial|apply eS rfl|apply AB|refine rX e ?_ ?_|refine rC ?_ ?_<;>intro a<;>try(cases a;done))
  .exact⟨a,w,by assumption,v,n⟩
  .refine⟨gO (q _ _) dg,?_⟩;simp only[AO];omega
  .omega
  .have g:i<f.length:=iN.1 (by assumption);rw[At a]at c;refine⟨⟨i+1,g⟩,by simp only;omega,AC [(61,.nm 61),(57,.nm 57)] rfl rfl ?_ ?_⟩
   .simp only[c];exact eN
   simp only[c];exact eN
  .omega
  .have g:i<f.length:=iN.1 (by assumption);rw[As (by rw[a];simp),AAk]at c;refine⟨⟨i+1,g⟩,by simp only;omega,AC [(61,.nm 61),(57,.nm 57)] rfl rfl ?_ ?_⟩
   .simp only[c];exact eN
   simp only[c];exact eN
  .rw[j];simp only[AO];omega
  .omega
  have k:t<l.length:=iN.1 (by assumption);have g:i=f.length:=by omega
  subst g;refine⟨⟨t+1,k⟩,by simp only;omega,AC [(61,.nm 61)] rfl rfl ?_ ?_⟩
  .simp only[hs];exact eN
  simp only[hs];exact eN
 have k:t=l.length:=by omega
 subst k;refine C8 [61] ?_;exact fI e [.tmp 2,.tmp 3] (by rw[y];exact eR)
end
section
attribute [local go_sem] KD
def Jx (l:List ByteArray) (n:Nat):List FV:=(List.range n).map λk=>(l.getD (2*k) ByteArray.empty,l.getD (2*k+1) ByteArray.empty)
theorem Tu (l:List ByteArray) (n:Nat):Jx l (n+1)=Jx l n++[(l.getD (2*n) ByteArray.empty,l.getD (2*n+1) ByteArray.empty)]:=by simp[Jx,AAh]
theorem Wb (l:List ByteArray) (n:Nat):(Jx l n).length=n:=by simp[Jx]
def YM (s:ByteArray):List ByteArray:=if AL s ByteArray.empty=true then [] else [s]
def FP (n s:ByteArray) (l:List ByteArray):AH:=(n,YM s,Jx l (l.length / 2))
def k7:AX:={ ins:=[T9,T9,CQ],pre:=λ(_,_,l,_)=>List.length l<=1000,out:=λ(n,s,l,_)=>[.p tV (FP n s l)] }
theorem k8:Ac Tryz.prog 68 k7:=by
 refine fK [0,1,2,6,7,8,12,20] Tryz.func68 Tryz.ntmps68 AI ?_;rintro w0 O0 ⟨n,s,l,u⟩ b-i;have i:l.length<=1000:=i;simp only[k7,AM];repeat'(first|exact trivial|apply eS rfl|apply AB|refine rX b ?_ ?_|refine rC ?_ ?_<;>intro a<;>try(cases a;done))
 .have f:=a;refine C8 [14] ?_;refine AJ (ι:={k:Nat//2*k<=l.length}) (λk=>⟨[(2,.p CQ l),(6,.bp 6 [] 0),(7,.bp 7 [] 0),(8,.p (.int .i64) ((2*k.1:Nat):Int))],[(6,.box 65 true [.p T9 ByteArray.empty,.raw (.slice none 0 0),.raw (.slice none 0 0)]),(7,.box 65 true [.p T9 n,.p CQ [s],.sr 36 fA 0 (Jx l k.1).length]),(36,.arr 196 fA (Jx l k.1))]⟩) (λk=>l.length-2*k.1) ⟨0,Do _⟩ (AC [(6,.nm 6),(7,.nm 7),(36,.nil)] rfl rfl ?_ ?_) (λk=>?_)
  .first|exact eN|refine eM ?_
   exact⟨rfl,rfl⟩
  .first|exact eN|refine eM ?_
  obtain⟨k,hk⟩:=k;have g:=Wb l k;have d:=Tu l k;simp only;repeat'(first|exact trivial|apply eS rfl|apply AB|refine rX b ?_ ?_|refine rC ?_ ?_<;>intro a<;>try(cases a;done))
  .exact eV
  .refine⟨by exact eV,⟨by exact eV,by exact eV⟩,⟨by exact eV,by exact eV⟩,?_⟩;rw[g];simp only[AO];exact eV
  .exact eV
  .have c:2*k+1<l.length:=by exact eV
   have e:((2*k:Nat):Int)+1=((2*k+1:Nat):Int):=by omega
   refine⟨⟨k+1,by omega⟩,by simp only;omega,AC [(6,.nm 6),(7,.nm 7),(36,.nm 36)] rfl rfl ?_ ?_⟩
   .simp only[d];first|exact eN|refine eM ?_
    rw[e];rfl
   simp only[d];first|exact eN|refine eM ?_
   show ((2*k:Nat):Int)+2=((2*(k+1):Nat):Int);omega
  have c:k=l.length / 2:=by exact eV
  refine C8 [36] ?_;have h:FP n s l=(n,[s],Jx l k):=by
   unfold FP YM;rw[<-c,As (by rw[show AL s ByteArray.empty=false from f];simp)]
  exact fI b [.cell 6 65] (by rw[h];exact eR)
 have f:=a;refine AJ (ι:={k:Nat//2*k<=l.length}) (λk=>⟨[(2,.p CQ l),(6,.bp 6 [] 0),(7,.bp 7 [] 0),(8,.p (.int .i64) ((2*k.1:Nat):Int))],[(6,.box 65 true [.p T9 ByteArray.empty,.raw (.slice none 0 0),.raw (.slice none 0 0)]),(7,.box 65 true [.p T9 n,.p CQ ([]:List ByteArray),.sr 36 fA 0 (Jx l k.1).length]),(36,.arr 196 fA (Jx l k.1))]⟩) (λk=>l.length-2*k.1) ⟨0,Do _⟩ (AC [(6,.nm 6),(7,.nm 7),(36,.nil)] rfl rfl ?_ ?_) (λk=>?_)
 .first|exact eN|refine eM ?_
  exact⟨rfl,rfl⟩
 .first|exact eN|refine eM ?_
 obtain⟨k,hk⟩:=k;have g:=Wb l k;have d:=Tu l k;simp only;repeat'(first|exact trivial|apply eS rfl|apply AB|refine rX b ?_ ?_|refine rC ?_ ?_<;>intro a<;>try(cases a;done))
 .exact eV
 .refine⟨by exact eV,⟨by exact eV,by exact eV⟩,⟨by exact eV,by exact eV⟩,?_⟩;rw[g];simp only[AO];exact eV
 .exact eV
 .have c:2*k+1<l.length:=by exact eV
  have e:((2*k:Nat):Int)+1=((2*k+1:Nat):Int):=by omega
  refine⟨⟨k+1,by omega⟩,by simp only;omega,AC [(6,.nm 6),(7,.nm 7),(36,.nm 36)] rfl rfl ?_ ?_⟩
  .simp only[d];first|exact eN|refine eM ?_
   rw[e];rfl
  simp only[d];first|exact eN|refine eM ?_
  show ((2*k:Nat):Int)+2=((2*(k+1):Nat):Int);omega
 have c:k=l.length / 2:=by exact eV
 refine C8 [36] ?_;have h:FP n s l=(n,([]:List ByteArray),Jx l k):=by
  unfold FP YM;rw[<-c,At (show AL s ByteArray.empty=true from f)]
 exact fI b [.cell 6 65] (by rw[h];exact eR)
end
section
attribute [local go_sem] k7 KD KB cs2 MQ JW IJ M6 cs7 cs8
def Bi:List AH:=[
 FP { data:=#[116,111,112] } { data:=#[] } [],
 FP { data:=#[108,105,115,116] } { data:=#[116,111,112] } [],
 FP { data:=#[99,111,110,115] } { data:=#[108,105,115,116] } [{ data:=#[70,73,82,83,84] },{ data:=#[116,111,112] },{ data:=#[82,69,83,84] },{ data:=#[108,105,115,116] }],
 FP { data:=#[110,117,108,108] } { data:=#[108,105,115,116] } [],
 FP { data:=#[100,108,105,115,116] } { data:=#[116,111,112] } [{ data:=#[76,73,83,84] },{ data:=#[108,105,115,116] },{ data:=#[76,65,83,84] },{ data:=#[108,105,115,116] }],
 FP { data:=#[105,110,100,101,120] } { data:=#[116,111,112] } [],
 FP { data:=#[104,97,110,100,108,101] } { data:=#[105,110,100,101,120] } [],
 FP { data:=#[101,118,101,110,116] } { data:=#[105,110,100,101,120] } [],
 FP { data:=#[101,110,116,105,116,121] } { data:=#[105,110,100,101,120] } [],
 FP { data:=#[114,101,108] } { data:=#[116,111,112] } [{ data:=#[76,65,66,69,76] },{ data:=#[104,97,110,100,108,101] }],
 FP { data:=#[113,101,113] } { data:=#[116,111,112] } [{ data:=#[72,73,71,72] },{ data:=#[104,97,110,100,108,101] },{ data:=#[76,79,87] },{ data:=#[104,97,110,100,108,101] }],
 FP { data:=#[115,101,109] } { data:=#[116,111,112] } [{ data:=#[84,79,80] },{ data:=#[104,97,110,100,108,101] },{ data:=#[73,78,68,69,88] },{ data:=#[105,110,100,101,120] },{ data:=#[82,69,76,83] },{ data:=#[100,108,105,115,116] },{ data:=#[67,79,78,83] },{ data:=#[100,108,105,115,116] }],
 FP { data:=#[115,105,103,110] } { data:=#[116,111,112] } [{ data:=#[83,69,77] },{ data:=#[115,101,109] },{ data:=#[65,82,71,83] },{ data:=#[108,105,115,116] }]]
def HO:AX:={ ins:=[],pre:=λ_=>True,out:=λ_=>[.p Ee Bi] }
theorem gD:Ac Tryz.prog 29 HO:=by
 refine fKP [0] [3,6,12,14,16,18,20] [] Tryz.func29 Tryz.ntmps29 (AF k8 AI) ?_;rintro w0 O0 u a - -;simp only[HO,AM];repeat'(first|exact trivial|apply eS rfl|refine rX a ?_ ?_)
 exact fI a [.tmp 0] (by unfold Bi;exact eR)
end
section
attribute [local go_sem] Tt Ps wF Pt
abbrev FE:=ByteArray×List Int×List Int×List (Int×Int)
abbrev AE:=List FE×List Qu
def Dx (l:List AP) (v:List (List (Int×Int))) (n:Nat):List FE:=(List.range n).map λi=>((l.getD i c0).1,(l.getD i c0).2,WW l (i:Int),v.getD i [])
theorem gE (l:List AP) (v:List (List (Int×Int))) (n:Nat):Dx l v (n+1)=Dx l v n++[((l.getD n c0).1,(l.getD n c0).2,WW l (n:Int),v.getD n [])]:=by simp[Dx,AAh]
theorem Io (l:List AP) (v:List (List (Int×Int))) (n:Nat):(Dx l v n).length=n:=by simp[Dx]
def Be (d:List AH):AE:=(Dx (AK d) (A1 d).1 (AK d).length,(Cy d).1)
def AW (d:List AH):AE×Int:=if (A1 d).2≠0 then (([],[]),(A1 d).2) else (Be d,0)
def FF:AX:={ ins:=[Ee],pre:=λ_=>True,out:=λ(d,_)=>[.p GL (AW d).1,.p DD (AW d).2] }
theorem Tv:Ac Tryz.prog 28 FF:=by
 refine fK [0,2,3,4,5,6,8,9,10,18,29] Tryz.func28 Tryz.ntmps28 (AF gC (AF OW (AF A1f (AF aX AI)))) ?_;rintro w0 O0 ⟨d,u⟩ b - -;simp only[FF,AM];repeat'(first|exact trivial|apply eS rfl|refine rX b ?_ ?_|refine rC ?_ ?_<;>intro a<;>try(cases a;done))
 .have h1:AW d=(([],[]),(A1 d).2):=by unfold AW;rw[At a]
  exact fI b [.cell 2 26,.tmp 3] (by rw[h1];exact eR)
 have c:(A1 d).2=0:=by simpa using a
 have f:Ah d=0:=by
  unfold A1 at c;split at c
  .rename_i h;exact absurd c h
  rename_i h;exact DO h
 obtain⟨t,x,w⟩:=B5 f;obtain⟨j,m,k⟩:=BU t;have g:AW d=(Be d,0):=by unfold AW;rw[As (by rw[c];simp)]
 have r:(A1 d).1.length=(AK d).length:=by
  unfold A1;rw[As (by rw[f];simp)];exact Wa _ _ _ _
 have s:=NF j;have o:(AK d).length<=256:=by rw[HK];exact m
 unfold Be at g;rw[k];generalize AK d=l at *;generalize (A1 d).1=v at *;refine AJ (ι:={n:Nat//n<=l.length}) (λn=>⟨[(0,.p Ee d),(2,.bp 2 [] 0),(4,.p A0Y v),(6,.p Ic l),(8,.bp 8 [] 0),(9,.p (.int .i64) (n.1:Int))],[(2,.box 26 true [.raw (.slice none 0 0),.raw (.slice none 0 0)]),(8,.box 26 true [.sr 53 fC 0 (Dx l v n.1).length,.raw (.slice none 0 0)]),(53,.arr 114 fC (Dx l v n.1))]⟩) (λn=>l.length-n.1) ⟨0,Do _⟩ (AC [(2,.nm 2),(8,.nm 8),(53,.nil)] rfl rfl ?_ ?_) (λn=>?_)
 .refine eM ?_;exact⟨rfl,rfl⟩
 .exact eN
 obtain⟨n,hn⟩:=n;have q:=Io l v n;have i:=gE l v n;simp only;repeat'(first|exact trivial|apply eS rfl|apply AB|refine rX b ?_ ?_|refine rC ?_ ?_<;>intro a<;>try(cases a;done))
 .refine⟨a,a,⟨a,o,s⟩,by rw[r];exact a,?_⟩;rw[q];simp only[AO];omega
 .omega
 .have e:n<l.length:=iN.1 a;refine⟨⟨n+1,e⟩,by simp only;omega,AC [(2,.nm 2),(8,.nm 8),(53,.nm 53)] rfl rfl ?_ ?_⟩
  .simp only[i];exact eN
  simp only[i];exact eN
 have e:n=l.length:=by omega
 subst e;refine C8 [53] ?_;exact fI b [.cell 2 26,.tmp 3] (by rw[g];exact eR)
end
section
def gF:AX:={ ins:=[BS,T3],pre:=λ(_,i,_)=>(0:Int)<=i,out:=λ(b,i,_)=>[.p Pf (FN b i)],lend:=true }
attribute [local go_sem] gF
theorem wM:Ac Tryz.prog 125 gF:=by
 refine fK [0,1,4,8] Tryz.func125 Tryz.ntmps125 AI ?_;rintro w0 O0 ⟨b,i,u⟩ c-hi;simp only[gF,AM];repeat'(first|exact trivial|apply eS rfl|refine rX c ?_ ?_|refine rC ?_ ?_<;>intro a<;>try(cases a;done))
 .exact⟨hi,a⟩
 .have h1:FN b i=b.getD i.toNat 0:=by unfold FN;rw[At a]
  exact fI c [.tmp 4] (by rw[h1];exact eR)
 have h1:FN b i=0:=by unfold FN;rw[As (AAS.2 a)]
 exact fI c [.tmp 4] (by rw[h1];exact eR)
def K8 (a b:List Int):Bool:=(List.range a.length).all λi=>CY .andNot .u64 (a.getD i 0) (FN b (i:Int))==0
def aY (a b:List Int) (n:Nat):Bool:=(List.range n).all λi=>CY .andNot .u64 (a.getD i 0) (FN b (i:Int))==0
theorem gG (a b:List Int) (n:Nat):aY a b (n+1)=(aY a b n&&CY .andNot .u64 (a.getD n 0) (FN b (n:Int))==0):=by
 unfold aY;rw[AAh,ABM];simp
def OY:AX:={ ins:=[BS,BS],pre:=λ_=>True,out:=λ(a,b,_)=>[.p .bool (K8 a b)],lend:=true }
attribute [local go_sem] OY
theorem Tw:Ac Tryz.prog 75 OY:=by
 refine fK [0,1,4,5,6,7,8,9,10,19] Tryz.func75 Tryz.ntmps75 (AF wM AI) ?_;rintro w0 O0 ⟨a,b,u⟩ e ⟨⟨g,-⟩,-⟩ -;simp only[AO]at g;simp only[OY,AM];repeat'(first|exact trivial|apply eS rfl|refine rX e ?_ ?_)
 have h:K8 a b=aY a b a.length:=rfl;refine AJ (ι:={n:Nat//n<=a.length/\aY a b n=true}) (λn=>⟨[(1,.p BS b),(7,.p BS a),(8,.p (.int .i64) (a.length:Int)),(9,.p (.int .i64) (n.1:Int))],[]⟩) (λn=>a.length-n.1) ⟨0,Do _,rfl⟩ (eW []) (λn=>?_)
 obtain⟨n,hn,f⟩:=n;have hs:=gG a b n;simp only;repeat'(first|exact trivial|apply eS rfl|apply AB|refine rX e ?_ ?_|refine rC ?_ ?_<;>intro d<;>try(cases d;done))
 .exact d
 .have c:n<a.length:=by exact eV
  have h1:K8 a b=false:=by
   unfold K8;rw[List.all_eq_false];exact⟨n,oN.2 c,by simpa using d⟩
  exact fI e [.tmp 4] (by rw[h1];exact eR)
 .exact eV
 .have c:n<a.length:=by exact eV
  refine⟨⟨n+1,c,?_⟩,by simp only;omega,AC [] rfl rfl ?_ ?_⟩
  .rw[hs,f];simpa using d
  .exact eN
  exact eN
 have c:n=a.length:=by exact eV
 subst c;exact fI e [.tmp 4] (by rw[h,f];exact eR)
abbrev Qv:FE:=(ByteArray.empty,[],[],[])
def Ad (h:AE) (a b:Int):Bool:=K8 (h.1.getD b.toNat Qv).2.1 (h.1.getD a.toNat Qv).2.1
def MT:AX:={ ins:=[GL,T3,T3],pre:=λ(h,a,b,_)=>((0:Int)<=a/\a<(List.length (h:AE).1:Int))/\((0:Int)<=b/\b<(List.length (h:AE).1:Int)),out:=λ(h,a,b,_)=>[.p .bool (Ad h a b)],lend:=true }
theorem OZ:Ac Tryz.prog 32 MT:=by
 refine fK [0,1,2,3,6] Tryz.func32 Tryz.ntmps32 (AF Tw AI) ?_;rintro w0 O0 ⟨⟨e,hf⟩,a,b,u⟩ c-⟨ha,d⟩;simp only[MT,AM];repeat'(first|exact trivial|apply eS rfl|refine rX c ?_ ?_)
 .exact⟨d,ha⟩
 exact fI c [.tmp 6] (by unfold Ad;exact eR)
end
section
attribute [local go_sem] OY
def Tx:AX:={ ins:=[BS],pre:=λ(b,_)=>List.length b<=100000,out:=λ(b,_)=>[.p BS (BK b)] }
attribute [local go_sem] Tx
theorem gH:Ac Tryz.prog 210 Tx:=by
 refine fK [0,2,3,15] Tryz.func210 Tryz.ntmps210 AI ?_;rintro w0 O0 ⟨b,u⟩ d-f;have f:b.length<=100000:=f;simp only[Tx,AM];repeat'(first|exact trivial|apply eS rfl|refine rX d ?_ ?_)
 refine AJ (ι:={n:Nat//n<=b.length/\CR b n=CR b b.length}) (λn=>⟨[(0,.p BS b),(3,.p (.int .i64) (n.1:Int))],[]⟩) (λn=>n.1) ⟨b.length,OS _,rfl⟩ (eW []) (λn=>?_)
 obtain⟨n,hn,g⟩:=n;simp only;repeat'(first|apply eS rfl|apply AB|refine rX d ?_ ?_|refine rC ?_ ?_<;>intro c<;>try(cases c;done))
 .constructor
  .exact eV
  intro h;refine⟨?_,?_⟩<;>exact eV
 .exact eV
 .obtain⟨h1,a⟩:=c;obtain⟨m,rfl⟩:∃m,n=m+1:=⟨n-1,by omega⟩;have e:(((m+1:Nat):Int)-1)=(m:Int):=by omega
  rw[e]at a;have a:b.getD m 0=0:=a;have j:CR b m=CR b b.length:=by
   rw[<-g];show _=if b.getD m 0=0 then CR b m else m+1
   rw[At a]
  refine⟨⟨m,by omega,j⟩,by simp,AC [] rfl rfl ?_ ?_⟩
  .exact eN
  simp only[e];exact eN
 .exact AAe.2 hn
 have i:CR b n=n:=by
  cases n with
  | zero=>rfl
  | succ m =>
   have e:(((m+1:Nat):Int)-1)=(m:Int):=by omega
   rw[e]at c;have a:=c O1;have a:¬b.getD m 0=0:=a;show (if b.getD m 0=0 then CR b m else m+1)=m+1;rw[As a]
 have h1:BK b=b.take n:=by unfold BK;rw[<-g,i]
 rw[<-h1];exact fI d [.tmp 2]
def GA (g:Nat->Int) (n i:Nat):List Int:=(List.range n).map λj=>if j<i then g j else 0
theorem Wc (g:Nat->Int) (n i:Nat):(GA g n i).length=n:=by simp[GA]
theorem gI (g:Nat->Int) (n:Nat):GA g n 0=List.replicate n 0:=by
 apply AAl
 .simp[GA]
 intro j h1 a;simp[GA]
theorem o6 (g:Nat->Int) (n i:Nat):(GA g n i).set i (g i)=GA g n (i+1):=by
 apply AAl
 .simp[GA]
 intro j h1 b;simp only[GA,List.getElem_set,ABC,ABJ];split
 .rename_i e;rw[At O1,e]
 rename_i e;by_cases a:j<i
 .rw[At a,At O1]
 rw[As a,As O1]
def YN (a b:List Int) (i:Nat):Int:=CY .and .u64 (a.getD i 0) (b.getD i 0)
def FG (a b:List Int):List Int:=BK (GA (YN a b) (min a.length b.length) (min a.length b.length))
def wN:AX:={ ins:=[BS,BS],pre:=λ(a,_,_)=>List.length a<=100000,out:=λ(a,b,_)=>[.p BS (FG a b)] }
attribute [local go_sem] wN
theorem A1i:Ac Tryz.prog 193 wN:=by
 refine fK [0,1,4,5,6,14,15,16] Tryz.func193 Tryz.ntmps193 (AF gH AI) ?_;rintro w0 O0 ⟨a,b,u⟩ d-ha;have ha:a.length<=100000:=ha;simp only[wN,AM];repeat'(first|exact trivial|apply eS rfl|refine rX d ?_ ?_)
 .split<;>simp only[AO]<;>dsimp only[Ty.den]at *<;>omega
 have h:Int.toNat (if ((List.length b:Nat):Int)<((List.length a:Nat):Int) then ((List.length b:Nat):Int) else ((List.length a:Nat):Int))=min (List.length a) (List.length b):=by split<;>omega
 rw[h];have j:FG a b=BK (GA (YN a b) (min a.length b.length) (min a.length b.length)):=rfl;have k:min a.length b.length<=a.length:=Nat.min_le_left _ _;have l:min a.length b.length<=b.length:=Nat.min_le_right _ _;generalize min a.length b.length=n at *;refine AJ (ι:={i:Nat//i<=n}) (λi=>⟨[(0,.p BS a),(1,.p BS b),(5,.sr 12 Pf 0 n),(14,.p (.int .i64) (n:Int)),(15,.p (.int .i64) (i.1:Int))],[(12,.arr 205 Pf (GA (YN a b) n i.1))]⟩) (λi=>n-i.1) ⟨0,Do _⟩ (AC [(12,.nm 12)] rfl rfl ?_ ?_) (λi=>?_)
 .refine eM ?_;rw[gI]
 .exact eN
 obtain⟨i,hi⟩:=i;have f:=Wc (YN a b) n i;simp only;repeat'(first|exact trivial|apply eS rfl|apply AB|refine rX d ?_ ?_|refine rC ?_ ?_<;>intro c<;>try(cases c;done))
 .have e:i<n:=iN.1 c;exact⟨by exact eV,by exact eV,c⟩
 .exact eV
 .have e:i<n:=iN.1 c;refine⟨⟨i+1,e⟩,by simp only;omega,AC [(12,.nm 12)] rfl rfl ?_ ?_⟩
  .simp only[<-o6];refine eM ?_;rfl
  exact eN
 have e:i=n:=by omega
 subst e;have g:(GA (YN a b) i i).take i=GA (YN a b) i i:=By (by rw[f];exact OS _);refine C8 [12] ?_;repeat'(first|apply eS rfl|refine rX d ?_ ?_)
 .rw[g,f];dsimp only[Ty.den]at *;omega
 rw[g];exact fI d [.tmp 4] (by rw[j];exact eR)
def Db (a b:List Int):Bool:=K8 a b&&K8 b a
def YO:AX:={ ins:=[BS,BS],pre:=λ_=>True,out:=λ(a,b,_)=>[.p .bool (Db a b)],lend:=true }
attribute [local go_sem] YO
theorem o7:Ac Tryz.prog 195 YO:=by
 refine fK [0,1,4] Tryz.func195 Tryz.ntmps195 (AF Tw AI) ?_;rintro w0 O0 ⟨a,b,u⟩ c - -;simp only[YO,AM];repeat'(first|exact trivial|apply eS rfl|refine rX c ?_ ?_)
 exact fI c [.tmp 4] (by unfold Db;exact eR)
def ER (c:List Int):Nat->List FE->Int
 | _,[]=>-1
 | k,t :: l=>if Db t.2.1 c=true then (k:Int) else ER c (k+1) l
theorem gJ (c:List Int) (l:List FE) (h:k<l.length):ER c k (l.drop k)=if Db (l.getD k Qv).2.1 c=true then (k:Int) else ER c (k+1) (l.drop (k+1)):=by
 rw[OF h];have e:l.getD k Qv=l[k]:=by simp[AS,h]
 rw[e];rfl
theorem wO (c:List Int) (t:FE):A7 Tryz.prog 194 [.p fC t,.bp 1 [] 0] [(1,.box 111 false [.p BS c])] [1] (λres b=>res=.p .bool (Db t.2.1 c)/\b=[(1,.box 111 false [.p BS c])]):=by
 refine JP [0,1,2,3] [] [] Tryz.func194 Tryz.ntmps194 (AF o7 AI) ?_;intro w0 K O0 ρ0 a d e;simp only[Am];repeat'(first|exact trivial|apply eS rfl|refine rX a ?_ ?_)
 refine Ev.ent (σ':=⟨[(3,.p .bool (Db t.2.1 c))],[(1,.box 111 false [.p BS c])]⟩) ?_ (AC [(1,.nm 1)] rfl rfl ?_ ?_)
 .exact fM a [.tmp 3] (.p .bool (Db t.2.1 c)) eT ⟨rfl,rfl⟩
 .exact eN
 exact eN
theorem o8 (l:List FE) (c:List Int) (i:l.length<=100000):A7 Tryz.prog 76 [.p Zu l,.clo 194 [1]] [(1,.box 111 false [.p BS c])] [1] (λres g=>res=.p T3 (ER c 0 l)/\g=[(1,.box 111 false [.p BS c])]):=by
 refine JP [0,1,4,5,7,8,9,16] [] [] Tryz.func76 Tryz.ntmps76 AI ?_;intro w0 K O0 ρ0 b j m;simp only[Am];repeat'(first|exact trivial|apply eS rfl|refine rX b ?_ ?_)
 refine AJ (ι:={k:Nat//k<=l.length/\ER c k (l.drop k)=ER c 0 l}) (λk=>⟨[(0,.p Zu l),(1,.clo 194 [1]),(7,.p (.int .i64) (l.length:Int)),(8,.p (.int .i64) (k.1:Int))],[(1,.box 111 false [.p BS c])]⟩) (λk=>l.length-k.1) ⟨0,Do _,rfl⟩ (eW [(1,.nm 1)]) (λk=>?_)
 obtain⟨k,hk,hf⟩:=k;have f:=λh:k<l.length=>gJ c l h;simp only;repeat'(first|exact trivial|apply eS rfl|refine rX b ?_ ?_|refine rC ?_ ?_<;>intro a<;>try(cases a;done))
 .have d:k<l.length:=iN.1 a;have e:=f d;refine cP 5 b ?_ ?_
  .exact a
  refine rM b (wO c (l.getD k Qv)) [(1,.nm 1)] [] ?_ ?_ ?_
  .exact eN
  .exact eN
  rintro _ _ ⟨rfl,rfl⟩;refine⟨[(1,.nm 1)],.p .bool (Db (l.getD k Qv).2.1 c),[(1,.box 111 false [.p BS c])],rfl,rfl,?_,?_,rfl,rfl,Fu ?_⟩
  .exact eN
  .exact eN
  repeat'(first|exact trivial|apply eS rfl|apply AB|refine rX b ?_ ?_|refine rC ?_ ?_<;>intro a<;>try(cases a;done))
  .have a:Db (l.getD k Qv).2.1 c=true:=a;rw[At a,hf]at e;refine Ev.ent (σ':=⟨[(4,.p (.int .i64) (k:Int))],[(1,.box 111 false [.p BS c])]⟩) ?_ (AC [(1,.nm 1)] rfl rfl ?_ ?_)
   .exact fM b [.tmp 4] (.p T3 (k:Int)) eT ⟨by rw[e],rfl⟩
   .exact eN
   exact eN
  .omega
  have a:Db (l.getD k Qv).2.1 c=false:=a;rw[As (by rw[a];simp)]at e;exact⟨⟨k+1,d,e.symm.trans hf⟩,by simp only;omega,eW [(1,.nm 1)]⟩
 have d:l.drop k=[]:=ON (AAe.1 a);rw[d]at hf;have hf:(-1:Int)=ER c 0 l:=hf;refine Ev.ent (σ':=⟨[(4,.p (.int .i64) (-1))],[(1,.box 111 false [.p BS c])]⟩) ?_ (AC [(1,.nm 1)] rfl rfl ?_ ?_)
 .exact fM b [.tmp 4] (.p T3 (-1)) eT ⟨by rw[hf],rfl⟩
 .exact eN
 exact eN
def BV (h:AE) (t:Int):List Int:=(h.1.getD t.toNat Qv).2.1
def Cb (h:AE) (a b:Int):Int×Bool :=
 if (FG (BV h a) (BV h b)).length=0 then (0,false) else if ER (FG (BV h a) (BV h b)) 0 h.1<0 then (0,false) else (ER (FG (BV h a) (BV h b)) 0 h.1,true)
def k9:AX:={ ins:=[GL,T3,T3],pre:=λ(h,a,b,_)=>((0:Int)<=a/\a<(List.length (h:AE).1:Int))/\((0:Int)<=b/\b<(List.length (h:AE).1:Int))/\List.length (h:AE).1<=100000/\(∀x∈(h:AE).1,x.2.1.length<=100000),out:=λ(h,a,b,_)=>[.p T3 (Cb h a b).1,.p .bool (Cb h a b).2],lend:=true }
theorem A1j:Ac Tryz.prog 179 k9:=by
 refine fK [0,1,2,3,6,7,8,9,25,31] Tryz.func179 Tryz.ntmps179 (AF A1i AI) ?_;rintro w0 O0 ⟨⟨d,hf⟩,a,b,u⟩ e-⟨ha,i,k,n⟩;simp only[k9,AM];refine Ev.ent (σ':=⟨[(0,.p GL (d,hf)),(1,.p T3 a),(2,.p T3 b)],[]⟩) ?_ (AC [] rfl rfl ?_ ?_)
 .repeat'(first|exact trivial|apply eS rfl|refine rX e ?_ ?_|refine rC ?_ ?_<;>intro f<;>try(cases f;done))
  .refine⟨ha,i,?_⟩;have h1:Int.toNat a<List.length d:=(ACx ha.1).2 ha.2;exact n _ (AG (d:List FE) Qv h1)
  .have l:Cb (d,hf) a b=(0,false):=by
    unfold Cb;rw[At (by unfold BV;exact Int.ofNat.inj f)]
   exact fI e [.tmp 6,.tmp 7] (by rw[l];exact eR)
  have j:∀c,c=FG (List.getD d (Int.toNat a) (ByteArray.empty,[],[],[])).2.1 (List.getD d (Int.toNat b) (ByteArray.empty,[],[],[])).2.1->c=FG (BV (d,hf) a) (BV (d,hf) b):=λc h=>h;have g:Cb (d,hf) a b=if ER (FG (BV (d,hf) a) (BV (d,hf) b)) 0 d<0 then (0,false) else (ER (FG (BV (d,hf) a) (BV (d,hf) b)) 0 d,true):=by
   unfold Cb;rw[As (λh=>f (by unfold BV at h;exact ABa Int.ofNat h))]
  generalize o:FG (List.getD d (Int.toNat a) (ByteArray.empty,[],[],[])).2.1 (List.getD d (Int.toNat b) (ByteArray.empty,[],[],[])).2.1=c at *;rw[<-j c rfl]at g;refine cP 3 e ?_ ?_
  .trivial
  refine rM e (o8 d c k) [(1,.nm 8)] [] ?_ ?_ ?_
  .exact eN
  .exact eN
  rintro _ _ ⟨rfl,rfl⟩;refine⟨[(8,.nm 1)],.p T3 (ER c 0 d),[(8,.box 111 false [.p BS c])],rfl,rfl,?_,?_,rfl,rfl,?_⟩
  .exact eN
  .exact eN
  generalize ER c 0 d=m at *;refine rL e ?_ ?_
  .trivial
  repeat'(first|exact trivial|apply eS rfl|refine rX e ?_ ?_|refine rC ?_ ?_<;>intro f<;>try(cases f;done))
  .rw[At f]at g;exact fI e [.tmp 6,.tmp 7] (by rw[g];exact eR)
  rw[As (AAS.2 f)]at g;exact fI e [.tmp 6,.tmp 7] (by rw[g];exact eR)
 .exact eN
 exact eN
end
theorem Tz (l:List (List Int)) (i k:Nat):l <+: Fi l i k:=by
 unfold Fi;split
 .exact ACd _ _
 exact AAU _
theorem T6 (i:Nat):∀(n k:Nat) (l:List (List Int)),l <+: Fj i n k l
 | 0,_,l=>AAU l
 | n+1,k,l=>by
  unfold Fj;split
  .exact(Tz l i k).trans (T6 i n (k+1) _)
  exact AAU l
theorem Oa:∀(n i:Nat) (l:List (List Int)),l <+: HG n i l
 | 0,_,l=>AAU l
 | n+1,i,l=>by
  unfold HG;split
  .exact(T6 i i 0 l).trans (Oa n (i+1) _)
  exact AAU l
theorem Ob {m:List (List Int)} (h:l <+: m) (hk:k<l.length):m.getD k []=l.getD k []:=by
 obtain⟨t,rfl⟩:=h;simp only[AS];rw[AA9 hk]
def Jy (l:List (List Int)) (q p:Nat):Prop:=Dz (l.getD q []) (l.getD p [])=[]\/Dz (l.getD q []) (l.getD p [])∈l
theorem Jy.pre {m:List (List Int)} (h:l <+: m) {q p:Nat} (c:q<l.length) (b:p<l.length) (a:Jy l q p):Jy m q p:=by
 unfold Jy at a ⊢;rw[Ob h c,Ob h b];rcases a with a|a
 .exact .inl a
 exact .inr (h.subset a)
theorem A1k {b:List Int} (h:fP l b=true):b∈l:=by
 obtain⟨x,a,e⟩:=VK.1 h;have:x=b:=by simpa[GS] using e
 rw[<-this];exact a
theorem gK {i k:Nat} (hi:i<l.length) (hk:k<l.length):Jy (Fi l i k) i k:=by
 have b:=Tz l i k;unfold Jy;rw[Ob b hi,Ob b hk];unfold Fi;split
 .right;simp
 rename_i a;rw[AT,IN,aT]at a;by_cases h0:0<((Dz (l.getD i []) (l.getD k [])).length:Int)
 .right;cases hh:fP l (Dz (l.getD i []) (l.getD k [])) with
  | true=>exact A1k hh
  | false=>exact absurd ⟨h0,hh⟩ a
 left;exact AA0 O1
theorem T7 {i:Nat}:∀ {n k:Nat} {l:List (List Int)},n+k=i->i<l.length->(Fj i n k l).length<=256->(∀p,p<k->Jy l i p)->∀p,p<i->Jy (Fj i n k l) i p
 | 0,k,l,hn,hi,a,h=>λp c=>h p O1
 | n+1,k,l,hn,hi,a,h=>by
  unfold Fj at a ⊢;split at a
  .rename_i b;rw[At b];have c:=Tz l i k;refine T7 O1 (AAu hi c.length_le) a λp d=>?_;by_cases e:p=k
   .subst e;exact gK hi O1
   exact(h p O1).pre c hi O1
  rename_i b;exact absurd (by omega:l.length<=256) b
theorem T8:∀ {n i:Nat} {l:List (List Int)},257<=n+i->(HG n i l).length<=256->i<=l.length->(∀q p,p<q->q<i->Jy l q p)->∀q p,p<q->q<(HG n i l).length->Jy (HG n i l) q p
 | 0,i,l,hn,a,g,h=>λq p c f=>by
  have k:l.length<=256:=a;omega
 | n+1,i,l,hn,a,g,h=>by
  unfold HG at a ⊢;split at a
  .rename_i b;rw[At b];have d:=T6 i i 0 l;have m:=d.length_le;have j:=(Oa n (i+1) (Fj i i 0 l)).length_le;refine T8 O1 a O1 λq p c f=>?_;by_cases e:q=i
   .subst e;exact T7 O1 b.1 O1 (λp d=>by omega) p c
   exact(h q p c O1).pre d O1 O1
  rename_i b;rw[As b];intro q p c f;exact h q p c (by
   refine DO λhh=>b ⟨by omega,a⟩)
theorem YP {c:List (List Int)} (a:(Ar c).length<=256):∀q p,p<q->q<(Ar c).length->Jy (Ar c) q p :=
 T8 O1 a (Do _) (λq p _ h=>by omega)
theorem wP (a b:List Int) (k:Nat):(Dz a b).getD k 0=if k<a.length then CY .and .u64 (a.getD k 0) (b.getD k 0) else 0:=by
 unfold Dz;rw[OO];split
 .rename_i h;exact Lt .and a b h
 rename_i h;rw[AS,oS (by rw[D8];omega)];rfl
theorem GB {b:List Int} (h:¬k<b.length):b.getD k 0=0:=by
 rw[AS,oS O1];rfl
theorem Oc (ha:HI a) (c:HI b) (i:Nat):BA (Dz a b) i=(BA a i&&BA b i):=by
 unfold BA;rw[wP];split
 .rw[HH (BG ha _) (BG c _),iS,Nat.testBit_and]
 rename_i h;rw[GB h];simp
theorem Od (ha:HI a) (d:HI b):HI (Dz a b):=by
 refine M9 λx c=>?_;unfold Fg at c;obtain⟨i,-,rfl⟩:=IF.1 c;rw[Gt,HH (BG ha _) (BG d _)];have h1:=BG ha i;have e:(a.getD i 0).toNat &&& (b.getD i 0).toNat<=(a.getD i 0).toNat:=AC6;have f:=h1.1;have g:=h1.2;exact⟨AAq _,by omega⟩
theorem Pu (b:List Int):∀n,CR b n=0\/b.getD (CR b n-1) 0≠0
 | 0=>.inl rfl
 | n+1=>by
  unfold CR;split
  .exact Pu b n
  rename_i h;right;simpa using h
theorem A1l {n:Nat} (h0:n≠0) (h1:n<18446744073709551616):∃r,r<64/\n.testBit r=true:=by
 refine DO λb=>h0 ?_;refine Nat.eq_of_testBit_eq λr=>?_;rw[Nat.zero_testBit];by_cases c:r<64
 .cases a:n.testBit r with
  | false=>rfl
  | true=>exact absurd ⟨r,c,a⟩ b
 have e:(18446744073709551616:Nat)=2 ^ 64:=by decide
 rw[e]at h1;exact Nat.testBit_lt_two_pow (AAu h1 (Nat.pow_le_pow_right dg O1))
theorem aZ {b:List Int} (a:HI b) (h:b.getD k 0≠0):∃i,BA b i=true:=by
 have hu:=BG a k;have h1:=hu.1;have d:=hu.2;obtain⟨r,e,c⟩:=A1l (n:=(b.getD k 0).toNat) O1 O1;refine⟨64*k+r,?_⟩;unfold BA;rw[show (64*k+r) / 64=k by omega,show (64*k+r) % 64=r by omega];exact c
theorem gL {b:List Int} (a:HI b) (h:BK b≠[]):∃i,BA b i=true:=by
 rcases Pu b b.length with h1|h1
 .exact absurd (by unfold BK;rw[h1];rfl) h
 exact aZ a h1
theorem Wd (ha:HI a) (c:HI b) (h:∀i,BA a i=true->BA b i=true) (k:Nat):CY .andNot .u64 (a.getD k 0) (b.getD k 0)=0:=by
 rw[Pp];have:(BitVec.ofInt 64 (a.getD k 0) &&& ~~~BitVec.ofInt 64 (b.getD k 0))=0#64:=by
  apply BitVec.eq_of_getLsbD_eq;intro r e;rw[BitVec.getLsbD_and,BitVec.getLsbD_not,<-ABj,<-ABj,Ez (BG ha k),Ez (BG c k)];have hk:=h (64*k+r);unfold BA at hk;rw[show (64*k+r) / 64=k by omega,show (64*k+r) % 64=r by omega]at hk;cases d:(a.getD k 0).toNat.testBit r with
  | false=>simp
  | true=>rw[hk d];simp
 rw[this];rfl
theorem Er (ha:HI a) (c:HI b):EL a b=true↔∀i,BA a i=true->BA b i=true:=by
 constructor
 .exact λh i hi=>K3 ha c h hi
 intro h;unfold EL Pi BK;have h1:CR (Fg .andNot a b a.length) (Fg .andNot a b a.length).length=0:=by
  rw[D8];exact Pq λk hk=>by rw[Lt _ _ _ hk];exact Wd ha c h k
 rw[h1];rfl
structure Hv (l:List (List Int)):Prop where
 wds:∀c∈l,HI c
 some:∀c∈l,∃i,BA c i=true
 wid:∀c∈l,c.length<=64
 meet:∀a∈l,∀b∈l,(∃i,BA a i=true/\BA b i=true)->∃t∈l,∀i,BA t i=(BA a i&&BA b i)
structure Bs (l:List (List Int)):Prop where
 wds:∀c∈l,HI c
 some:∀c∈l,∃i,BA c i=true
theorem Pv (h:¬k<l.length):l.getD k []=[]:=by
 rw[AS,oS O1];rfl
theorem Bs.get (h:Bs l) (k:Nat):HI (l.getD k []):=by
 by_cases hk:k<l.length
 .exact h.wds _ (Ax hk)
 rw[Pv hk];intro x a;cases a
theorem A1m (h:Bs l) (i k:Nat):Bs (Fi l i k):=by
 unfold Fi;split
 .rename_i b;rw[AT,IN]at b;refine⟨λc a=>?_,λc a=>?_⟩
  .rcases IS.1 a with a|a
   .exact h.wds c a
   have:c=Dz (l.getD i []) (l.getD k []):=by simpa using a
   rw[this];exact Od (h.get i) (h.get k)
  rcases IS.1 a with a|a
  .exact h.some c a
  have:c=Dz (l.getD i []) (l.getD k []):=by simpa using a
  rw[this];have g:Dz (l.getD i []) (l.getD k [])≠[]:=by
   intro e;rw[e]at b;exact absurd b.1 sc
  have m:HI (Fg .and (l.getD i []) (l.getD k []) (l.getD i []).length):=by
   intro x d;unfold Fg at d;obtain⟨j,-,rfl⟩:=IF.1 d;rw[Gt,HH (BG (h.get i) _) (BG (h.get k) _)];have h1:=BG (h.get i) j;have n:((l.getD i []).getD j 0).toNat &&& ((l.getD k []).getD j 0).toNat<=((l.getD i []).getD j 0).toNat:=AC6;have o:=h1.1;have p:=h1.2;exact⟨AAq _,by omega⟩
  obtain⟨j,f⟩:=gL m g;exact⟨j,by unfold Dz;rw[M8];exact f⟩
 exact h
theorem lA {i:Nat}:∀ {n k:Nat} {l:List (List Int)},Bs l->Bs (Fj i n k l)
 | 0,_,_,h=>h
 | n+1,k,l,h=>by
  unfold Fj;split
  .exact lA (A1m h i k)
  exact h
theorem lB:∀ {n i:Nat} {l:List (List Int)},Bs l->Bs (HG n i l)
 | 0,_,_,h=>h
 | n+1,i,l,h=>by
  unfold HG;split
  .exact lB (lA h)
  exact h
theorem o9 {d:List AH} (f:A3 d=0):Bs (AR d):=by
 obtain⟨-,l,-⟩:=Av f;have h:=Da d d.length;rw[oR]at h;have b:(AN d).length<=4096:=by omega
 refine⟨λc a=>?_,λc a=>?_⟩
 .unfold AR at a;obtain⟨s,-,rfl⟩:=IF.1 a;exact(B0 (d:=d) b s 0).2.1
 unfold AR at a;obtain⟨s,hs,rfl⟩:=IF.1 a;obtain⟨j,g,e⟩:=B7 ByteArray.empty hs;have i:0<=Aj d s:=by
  obtain⟨x,k,e⟩:=DA hs;rw[<-e];exact C9 k
 exact⟨j,(B0 (d:=d) b s j).1.2 ⟨g,by rw[e];exact NA i⟩⟩
theorem UA {d:List AH} (m:A3 d=0) (u:(Ar (AR d)).length<=256):Hv (Ar (AR d)):=by
 obtain⟨-,r,-⟩:=Av m;have g:Bs (Ar (AR d)):=lB (o9 m);have o:=YP u;refine⟨g.wds,g.some,OV (NE r),λa ha b s hi=>?_⟩;obtain⟨q,f,rfl⟩:=B7 [] ha;obtain⟨p,j,rfl⟩:=B7 [] s;have key:∀q p,q<(Ar (AR d)).length->p<(Ar (AR d)).length->Jy (Ar (AR d)) q p->(∃i,BA ((Ar (AR d)).getD q []) i=true/\BA ((Ar (AR d)).getD p []) i=true) ->
   ∃t∈Ar (AR d),∀i,BA t i=(BA ((Ar (AR d)).getD q []) i&&BA ((Ar (AR d)).getD p []) i):=by
  intro q p f j c hi;have n:=Oc (g.get q) (g.get p);rcases c with c|c
  .obtain⟨i,k,l⟩:=hi;have:=n i;rw[c,k,l]at this;unfold BA at this;simp at this
  exact⟨_,c,n⟩
 rcases ABQ p q with h|h|h
 .exact key q p f j (o q p h f) hi
 .subst h;exact⟨_,Ax f,λi=>by rw[Bool.and_self]⟩
 obtain⟨t,v,e⟩:=key p q j f (o p q h j) (by obtain⟨i,k,l⟩:=hi;exact⟨i,l,k⟩);exact⟨t,v,λi=>by rw[e i,Bool.and_comm]⟩
def GC (h:AE):Prop:=Hv (h.1.map λt=>t.2.1)/\h.1.length<=256
theorem GD (d:List AH):GC (AW d).1:=by
 unfold AW;split
 .exact⟨⟨λc h=>(by cases h),λc h=>(by cases h),λc h=>(by cases h),λc h=>(by cases h)⟩,by simp⟩
 rename_i g;have g:(A1 d).2=0:=DO g;have m:Ah d=0:=by
  unfold A1 at g;split at g
  .rename_i h;exact absurd g h
  rename_i h;exact DO h
 obtain⟨p,-,-⟩:=B5 m;obtain⟨l,k,-⟩:=BU p;have hf:=UA l k;have f:∀c,c∈((Be d).1.map λt=>t.2.1)↔c∈Ar (AR d):=by
  intro c;have e:((Be d).1.map λt=>t.2.1)=(AK d).map λx=>x.2:=by
   show ((Dx _ _ _).map λt=>t.2.1)=_;unfold Dx;rw[ABd];apply AAl
   .simp
   intro i h1 q;simp[AS,show i<(AK d).length by simpa using h1]
  rw[e];constructor
  .intro h;obtain⟨x,o,rfl⟩:=IF.1 h;obtain⟨b,j,rfl⟩:=DB.1 o;exact j
  intro h;exact IF.2 ⟨_,DB.2 ⟨c,h,rfl⟩,rfl⟩
 refine⟨⟨λc h=>hf.wds c ((f c).1 h),λc h=>hf.some c ((f c).1 h),λc h=>hf.wid c ((f c).1 h),λa ha b j hi=>?_⟩,?_⟩
 .obtain⟨t,n,e⟩:=hf.meet a ((f a).1 ha) b ((f b).1 j) hi;exact⟨t,(f t).2 n,e⟩
 show (Dx _ _ _).length<=256;rw[Io,HK];exact k
theorem CJ {h:AE} {t:Int} (a:0<=t) (b:t<(h.1.length:Int)):BV h t∈h.1.map λt=>t.2.1 :=
 IF.2 ⟨_,AG h.1 Qv (k:=t.toNat) O1,rfl⟩
theorem UB (ha:HI a) (c:HI b):K8 a b=true↔∀i,BA a i=true->BA b i=true:=by
 constructor
 .intro h i hi;by_cases hk:i / 64<a.length
  .have h1:=No.1 h (i / 64) (oN.2 hk);rw[AA3,Gt]at h1;exact Qp (BG ha _) (BG c _) h1 (ACz _ dg) hi
  exfalso;unfold BA at hi;rw[GB hk]at hi;simp at hi
 intro h;unfold K8;rw[No];intro k _;rw[AA3,Gt];exact Wd ha c h k
theorem wQ (ha:HI a) (c:HI b) (i:Nat):BA (FG a b) i=(BA a i&&BA b i):=by
 unfold FG;rw[M8];unfold BA;have:(GA (YN a b) (min a.length b.length) (min a.length b.length)).getD (i / 64) 0=CY .and .u64 (a.getD (i / 64) 0) (b.getD (i / 64) 0):=by
  by_cases h:i / 64<min a.length b.length
  .unfold GA;rw[AS,AAt,AB9 h];show (if i / 64<min a.length b.length then YN a b (i / 64) else 0)=_;rw[At h];rfl
  rw[GB (by rw[Wc];exact h),HH (BG ha _) (BG c _)];by_cases h1:i / 64<a.length
  .rw[GB (b:=b) O1];simp
  rw[GB (b:=a) h1];simp
 rw[this,HH (BG ha _) (BG c _),iS,Nat.testBit_and]
theorem wR (ha:HI a) (d:HI b):HI (FG a b):=by
 refine M9 λx c=>?_;unfold GA at c;obtain⟨j,-,rfl⟩:=IF.1 c;split
 .unfold YN;rw[HH (BG ha _) (BG d _)];have h1:=BG ha j;have e:(a.getD j 0).toNat &&& (b.getD j 0).toNat<=(a.getD j 0).toNat:=AC6;have f:=h1.1;have g:=h1.2;exact⟨AAq _,by omega⟩
 exact⟨by decide,by decide⟩
theorem UC (c:List Int):∀(l:List FE) (k:Nat),(ER c k l=-1/\∀t∈l,Db t.2.1 c=false)\/((k:Int)<=ER c k l/\ER c k l<(k:Int)+l.length/\Db (l.getD ((ER c k l).toNat-k) Qv).2.1 c=true)
 | [],k=>.inl ⟨rfl,λt a=>by cases a⟩
 | x :: l,k=>by
  simp only[ER];split
  .rename_i h;right;refine⟨by omega,by simp only[NO];omega,?_⟩;rw[show ((k:Int).toNat-k)=0 by omega];exact h
  rename_i h;have h:Db x.2.1 c=false:=by simpa using h
  rcases UC c l (k+1) with ⟨h1,b⟩|⟨h1,b,d⟩
  .left;refine⟨h1,λt a=>?_⟩;rcases BY.1 a with rfl|a
   .exact h
   exact b t a
  right;refine⟨by omega,by simp only[NO];omega,?_⟩;rw[show ((ER c (k+1) l).toNat-k)=((ER c (k+1) l).toNat-(k+1))+1 by omega];exact d
def wS (h:AE) (t:Int) (i:Nat):Bool:=BA (BV h t) i
theorem Bq {h:AE} (hk:GC h) {a b:Int} (c:0<=a) (d:a<(h.1.length:Int)) (e:0<=b) (b1:b<(h.1.length:Int)):Ad h a b=true↔∀i,wS h b i=true->wS h a i=true :=
 UB (hk.1.wds _ (CJ e b1)) (hk.1.wds _ (CJ c d))
theorem wT {h:AE} (hk:GC h) {a b:Int} (g:0<=a) (j:a<(h.1.length:Int)) (l:0<=b) (b1:b<(h.1.length:Int)) :
  ((Cb h a b).2=true->0<=(Cb h a b).1/\(Cb h a b).1<(h.1.length:Int)/\∀i,wS h (Cb h a b).1 i=(wS h a i&&wS h b i))/\((∃i,wS h a i=true/\wS h b i=true)->(Cb h a b).2=true):=by
 have s:=hk.1.wds _ (CJ g j);have u:=hk.1.wds _ (CJ l b1);have c:=wQ s u;have o:=wR s u;have heq:∀t∈h.1,Db t.2.1 (FG (BV h a) (BV h b))=true↔∀i,BA t.2.1 i=BA (FG (BV h a) (BV h b)) i:=by
  intro t d;have wt:=hk.1.wds t.2.1 (IF.2 ⟨t,d,rfl⟩);unfold Db;rw[AT,UB wt o,UB o wt];constructor
  .rintro⟨v,w⟩ i;rw[ABm];exact⟨v i,w i⟩
  intro e;exact⟨λi hi=>by rw[<-e i];exact hi,λi hi=>by rw[e i];exact hi⟩
 unfold Cb;by_cases f:(FG (BV h a) (BV h b)).length=0
 .rw[At f];refine⟨λe=>(by cases e),?_⟩;rintro⟨i,q,r⟩;exfalso;have:=c i;rw[AA0 f]at this;unfold wS at q r;rw[q,r]at this;unfold BA at this;simp at this
 rw[As f];rcases UC (FG (BV h a) (BV h b)) h.1 0 with ⟨h1,m⟩|⟨h1,m,n⟩
 .rw[At O1];refine⟨λe=>(by cases e),λhi=>?_⟩;exfalso;obtain⟨t,d,e⟩:=hk.1.meet _ (CJ g j) _ (CJ l b1) hi;obtain⟨x,p,rfl⟩:=IF.1 d;have:=(heq x p).2 (λi=>by rw[c i];exact e i);rw[m x p]at this;cases this
 have h1:0<=ER (FG (BV h a) (BV h b)) 0 h.1:=by omega
 rw[As O1];refine⟨λ_=>⟨h1,by simp only;omega,λi=>?_⟩,λ_=>rfl⟩;rw[Nat.sub_zero]at n;have y:=AG h.1 Qv (k:=(ER (FG (BV h a) (BV h b)) 0 h.1).toNat) O1;have:=(heq _ y).1 n i;rw[c i]at this;exact this
theorem K9 {h:AE} (hk:GC h) {a b:Int} (l:0<=a) (m:a<(h.1.length:Int)) (n:0<=b) (b1:b<(h.1.length:Int)) :
  ((Cb h a b).2=true->0<=(Cb h a b).1/\(Cb h a b).1<(h.1.length:Int)/\Ad h a (Cb h a b).1=true/\Ad h b (Cb h a b).1=true) /\
  ∀x,0<=x->x<(h.1.length:Int)->Ad h a x=true->Ad h b x=true->(Cb h a b).2=true/\Ad h (Cb h a b).1 x=true:=by
 obtain⟨r,u⟩:=wT hk l m n b1;refine⟨λe=>?_,λx g k s t=>?_⟩
 .obtain⟨c,d,f⟩:=r e;refine⟨c,d,(Bq hk l m c d).2 λi hi=>?_,(Bq hk n b1 c d).2 λi hi=>?_⟩
  .rw[f i,AT]at hi;exact hi.1
  rw[f i,AT]at hi;exact hi.2
 have o:=(Bq hk l m g k).1 s;have p:=(Bq hk n b1 g k).1 t;obtain⟨i,hi⟩:=hk.1.some _ (CJ g k);have e:=u ⟨i,o i hi,p i hi⟩;obtain⟨c,d,f⟩:=r e;refine⟨e,(Bq hk c d g k).2 λj q=>?_⟩;rw[f j,AT];exact⟨o j q,p j q⟩
def Nrm (c:List Int):Prop:=c.length=0\/c.getD (c.length-1) 0≠0
theorem NG (b:List Int):Nrm (BK b):=by
 unfold Nrm BK;have a:=TY b b.length;rw[On,AC5 a];rcases Pu b b.length with h|h
 .exact .inl h
 by_cases h0:CR b b.length=0
 .exact .inl h0
 right;rw[AS,List.getElem?_take_of_lt O1,<-AS];exact h
theorem A1n (ha:HI a) (g:HI b) (h:∀i,BA a i=BA b i) (k:Nat):a.getD k 0=b.getD k 0:=by
 have d:=BG ha k;have f:=BG g k;have l:=d.1;have m:=d.2;have o:=f.1;have p:=f.2;have e:(a.getD k 0).toNat=(b.getD k 0).toNat:=by
  refine Nat.eq_of_testBit_eq λr=>?_;by_cases j:r<64
  .have:=h (64*k+r);unfold BA at this;rw[show (64*k+r) / 64=k by omega,show (64*k+r) % 64=r by omega]at this;exact this
  have c:∀n:Nat,n<18446744073709551616->n.testBit r=false:=λn hn=>by
   have e:(18446744073709551616:Nat)=2 ^ 64:=by decide
   rw[e]at hn;exact Nat.testBit_lt_two_pow (AAu hn (Nat.pow_le_pow_right dg O1))
  rw[c _ O1,c _ O1]
 omega
theorem lC (d:∀k,a.getD k 0=b.getD k 0) (c:Nrm b):b.length<=a.length:=by
 rcases c with h|h
 .omega
 refine DO λe=>h ?_;rw[<-d];exact GB O1
theorem gM (ha:HI a) (e:HI b) (g:Nrm a) (j:Nrm b) (h:∀i,BA a i=BA b i):a=b:=by
 have c:=A1n ha e h;have f:a.length=b.length:=ABH (lC (λk=>(c k).symm) g) (lC c j);refine AAl f λi h1 d=>?_;have:=c i;simpa[AS,h1,d] using this
theorem a9 {α:Type} (l:List α) (x:α) (n:Nat):List.Perm (l.take n++[x]++l.drop n) (x :: l):=by
 have h:l.take n++[x]++l.drop n=l.take n++x :: l.drop n:=by simp
 rw[h];refine ACs.trans ?_;rw[ABc]
def lD (l:List ByteArray):Prop:=l.Pairwise λa b=>AL a b=false
theorem Hw {a b:ByteArray} (h:AL a b=false):AL b a=false:=by
 cases hh:AL b a with
 | false=>rfl
 | true=>rw[Bm hh]at h;cases h
theorem UD {l:List ByteArray} (h:lD l) (hs:∀x∈l,AL x s=false):lD (DZ l s):=by
 unfold DZ;split
 .exact h
 refine(List.Perm.pairwise_iff (λb=>Hw b) (a9 l s _)).2 ?_;exact AAf.2 ⟨λx a=>Hw (hs x a),h⟩
theorem UE {d:List AH} (hn:CV d=0):lD (AN d):=by
 have key:∀k,k<=d.length->lD (AN (d.take k))/\∀s∈AN (d.take k),∃i,i<k/\(d.getD i d0).1=s:=by
  intro k;induction k with
  | zero =>
   intro _;exact⟨.nil,λs hs=>by cases hs⟩
  | succ k c =>
   intro hk;obtain⟨h1,a⟩:=c O1;have e:AN (d.take (k+1))=DZ (AN (d.take k)) (d.getD k d0).1:=by
    have:d.take (k+1)=d.take k++[d.getD k d0]:=A8 d d0 O1;rw[this];unfold AN;rw[AB7];rfl
   rw[e];refine⟨UD h1 λx b=>?_,λs hs=>?_⟩
   .obtain⟨i,hi,rfl⟩:=a x b;cases hh:AL (d.getD i d0).1 (d.getD k d0).1 with
    | false=>rfl
    | true =>
     have g:=Hs d hh;rw[K4 hn (j:=i) O1,K4 hn (j:=k) O1]at g;omega
   rcases FD hs with hs|hs
   .obtain⟨i,hi,e⟩:=a s hs;exact⟨i,by omega,e⟩
   exact⟨k,by omega,hs.symm⟩
 have:=(key d.length (OS _)).1
 rwa [oR]at this
structure Nd (l:List (List Int)):Prop where
 nd:l.Nodup
 nrm:∀c∈l,Nrm c
theorem A1o {c:List Int} (h:Nd l) (b:c∉l) (hn:Nrm c):Nd (l++[c]):=by
 refine⟨?_,λx a=>?_⟩
 .rw[AAL];refine⟨h.nd,by simp,λx a y d e=>b ?_⟩;have:y=c:=by simpa using d
  rw[<-this,<-e];exact a
 rcases IS.1 a with a|a
 .exact h.nrm x a
 have:x=c:=by simpa using a
 rw[this];exact hn
theorem A1p (h:Nd l) (i k:Nat):Nd (Fi l i k):=by
 unfold Fi;split
 .rename_i a;rw[AT,aT]at a;refine A1o h (λb=>?_) (NG _);have:fP l (Dz (l.getD i []) (l.getD k []))=true:=VK.2 ⟨_,b,by unfold GS;exact ABf rfl⟩;rw[this]at a;cases a.2
 exact h
theorem lE {i:Nat}:∀ {n k:Nat} {l:List (List Int)},Nd l->Nd (Fj i n k l)
 | 0,_,_,h=>h
 | n+1,k,l,h=>by
  unfold Fj;split
  .exact lE (A1p h i k)
  exact h
theorem R4:∀ {n i:Nat} {l:List (List Int)},Nd l->Nd (HG n i l)
 | 0,_,_,h=>h
 | n+1,i,l,h=>by
  unfold HG;split
  .exact R4 (lE h)
  exact h
theorem Pw {d:List AH} (m:A3 d=0):Nd (AR d):=by
 obtain⟨-,l,-,hn,p⟩:=Av m;have q:=Da d d.length;rw[oR]at q;have hap:=UE hn;refine⟨?_,λc n=>?_⟩
 .unfold AR List.Nodup;rw[AAy,mX];intro i j hi a o e;have h1:=(mX.1 hap) i j hi a o;have g:∀k,(hk:k<(AN d).length)->(AN d).getD k ByteArray.empty=(AN d)[k]:=λk hk=>by simp[AS,hk]
  have f:=(B0 (d:=d) (all:=AN d) O1 (AN d)[j] 0).2.1;have b:=aH hn p l hi a (by
   rw[g i hi,g j a,e];unfold C2;have:=(Er f f).2 λ_ h=>h;rw[this];rfl)
  rw[g i hi,g j a,h1]at b;cases b
 obtain⟨s,hs,rfl⟩:=IF.1 n;unfold D9 ofF;split
 .exact NG _
 exact .inl rfl
theorem LA {d:List AH}:∀ {l:List (List Int)} {o:List AP},(o.map (·.2)++l).Nodup->((l.foldl (Pr d) o).map (·.2)).Nodup
 | [],o,h=>by simpa using h
 | b :: l,o,h=>by
  rw[OR];refine LA ?_;unfold Pr Fk YI;have c:=(a9 o (F8 d (AN d) (AR d) b,b) (E1 (F8 d (AN d) (AR d) b,b) o o.length)).map (λx:AP=>x.2);have e:List.Perm ((o.take (E1 (F8 d (AN d) (AR d) b,b) o o.length)++[(F8 d (AN d) (AR d) b,b)]++o.drop (E1 (F8 d (AN d) (AR d) b,b) o o.length)).map (λx:AP=>x.2)++l) (o.map (·.2)++b :: l) :=
   (c.append_right l).trans (ACs (a:=b)).symm
  exact e.nodup_iff.2 h
def IH (h:AE):Prop:=∀a b,0<=a->a<(h.1.length:Int)->0<=b->b<(h.1.length:Int)->Ad h a b=true->Ad h b a=true->a=b
theorem A4C {h:AE} (hk:GC h) (hn:Nd (h.1.map λt=>t.2.1)):IH h:=by
 intro a b c d f b1 h1 l;have n:=hk.1.wds _ (CJ c d);have o:=hk.1.wds _ (CJ f b1);have e:BV h a=BV h b:=gM n o (hn.nrm _ (CJ c d)) (hn.nrm _ (CJ f b1)) λi=>by
  rw[ABm];exact⟨(Bq hk f b1 c d).1 l i,(Bq hk c d f b1).1 h1 i⟩
 have j:=mX.1 hn.nd;have g:∀k:Int,0<=k->(hk:k<(h.1.length:Int))->BV h k=(h.1.map λt=>t.2.1)[k.toNat]'(by rw[dB];omega):=λk p q=>by
  unfold BV;simp[AS,show k.toNat<h.1.length by omega]
 rw[g a c d,g b f b1]at e;rcases Int.lt_trichotomy a b with m|heq|m
 .exact absurd e (j a.toNat b.toNat (by rw[dB];omega) (by rw[dB];omega) O1)
 .exact heq
 exact absurd e.symm (j b.toNat a.toNat (by rw[dB];omega) (by rw[dB];omega) O1)
theorem Qw (d:List AH):IH (AW d).1:=by
 refine A4C (GD d) ?_;unfold AW;split
 .exact⟨.nil,λc h=>(by cases h)⟩
 rename_i a;have a:(A1 d).2=0:=DO a;have g:Ah d=0:=by
  unfold A1 at a;split at a
  .rename_i h;exact absurd a h
  rename_i h;exact DO h
 obtain⟨m,-,-⟩:=B5 g;obtain⟨f,o,-⟩:=BU m;have hf:Nd (Ar (AR d)):=R4 (Pw f);have e:((Be d).1.map λt=>t.2.1)=(AK d).map λx=>x.2:=by
  show ((Dx _ _ _).map λt=>t.2.1)=_;unfold Dx;rw[ABd];apply AAl
  .simp
  intro i h1 n;simp[AS,show i<(AK d).length by simpa using h1]
 show Nd ((Be d).1.map λt=>t.2.1);rw[e];refine⟨LA (by simpa using hf.nd),λc k=>?_⟩;obtain⟨x,l,rfl⟩:=IF.1 k;obtain⟨b,j,rfl⟩:=DB.1 l;exact hf.nrm b j
section
attribute [local go_sem] k9
def Ei (f:Int):List (Int×Int)->Int×Bool
 | []=>(0,false)
 | x :: l=>if x.1=f then (x.2,true) else Ei f l
theorem gN (f:Int) (l:List (Int×Int)) (h:k<l.length):Ei f (l.drop k)=if (l.getD k (0,0)).1=f then ((l.getD k (0,0)).2,true) else Ei f (l.drop (k+1)):=by
 rw[OF h];have e:l.getD k (0,0)=l[k]:=by simp[AS,h]
 rw[e];rfl
def YQ (h:AE) (t:Int):List (Int×Int):=(h.1.getD t.toNat Qv).2.2.2
def Cc (h:AE) (t f:Int):Int×Bool:=Ei f (YQ h t)
def Qx:AX:={ ins:=[GL,T3,T3],pre:=λ(h,t,_,_)=>(0:Int)<=t/\t<(List.length (h:AE).1:Int),out:=λ(h,t,f,_)=>[.p T3 (Cc h t f).1,.p .bool (Cc h t f).2],lend:=true }
attribute [local go_sem] Qx
theorem A1q:Ac Tryz.prog 142 Qx:=by
 refine fK [0,1,2,3,6,7,9,15,16,17,18,26] Tryz.func142 Tryz.ntmps142 AI ?_;rintro w0 O0 ⟨⟨d,hf⟩,t,f,u⟩ a q ⟨j,m⟩;simp only[Qx,AM];refine Ev.ent (σ':=⟨[(0,.p GL (d,hf)),(1,.p T3 t),(2,.p T3 f)],[]⟩) ?_ (AC [] rfl rfl ?_ ?_)
 .repeat'(first|exact trivial|apply eS rfl|refine rX a ?_ ?_)
  .exact⟨j,m⟩
  have o:∀l,l=(List.getD d (Int.toNat t) (ByteArray.empty,[],[],[])).2.2.2->Cc (d,hf) t f=Ei f l:=λl e=>by rw[e];rfl
  have r:List.length (List.getD d (Int.toNat t) (ByteArray.empty,[],[],[])).2.2.2<=140737488355328:=(q.1.1.2 _ (AG (d:List FE) Qv ((ACx j).2 m))).2.2.2.1;generalize (List.getD d (Int.toNat t) (ByteArray.empty,[],[],[])).2.2.2=l at *;rw[o l rfl];refine AJ (ι:={k:Nat//k<=List.length l/\Ei f l=Ei f (l.drop k)}) (λk=>⟨[(2,.p T3 f),(15,.p Xw l),(16,.p (.int .i64) (List.length l:Int)),(17,.p (.int .i64) (k.1:Int))],[]⟩) (λk=>List.length l-k.1) ⟨0,Do _,rfl⟩ (eW []) (λk=>?_)
  obtain⟨k,hk,b⟩:=k;have i:=λh:k<List.length l=>gN f l h;simp only;repeat'(first|exact trivial|apply eS rfl|refine rX a ?_ ?_|refine rC ?_ ?_<;>intro c<;>try(cases c;done))
  .exact c
  .refine cP 5 a ?_ ?_
   .trivial
   refine A7n a ?_;refine rL a ?_ ?_
   .trivial
   repeat'(first|exact trivial|apply eS rfl|apply AB|refine rX a ?_ ?_|refine rC ?_ ?_<;>intro c<;>try(cases c;done))
   .have g:k<List.length l:=by exact eV
    rw[i g,At c]at b;exact fI a [.tmp 6,.tmp 7] (by rw[b];exact eR)
   .omega
   have g:k<List.length l:=by exact eV
   rw[i g,As c]at b;exact⟨⟨k+1,g,b⟩,by simp only;omega,eW []⟩
  have n:List.drop k (l:List (Int×Int))=[]:=ON (by exact eV);rw[n]at b;have b:Ei f l=(0,false):=b;exact fI a [.tmp 6,.tmp 7] (by rw[b];exact eR)
 .exact eN
 exact eN
abbrev Ds:=List Int×List Int
def Cw (h:AE) (s:Ds) (n t:Int):Option Ds :=
 if (Cb h (s.1.getD n.toNat 0) t).2=true then some (if (Cb h (s.1.getD n.toNat 0) t).1=s.1.getD n.toNat 0 then s else (s.1.set n.toNat (Cb h (s.1.getD n.toNat 0) t).1,s.2++[n])) else none
def Dd (h:AE) (s:Ds):List (Nat×Obj):=[(1,.box 163 true [.p GL h,.sr 2 T3 0 s.1.length,.p CH s.2]),(2,.arr 3 T3 s.1)]
theorem bA (h:AE) (hk:GC h) (s:Ds) {t:Int} (n0:0<=n) (n1:n<(s.1.length:Int)) (f:0<=s.1.getD n.toNat 0) (ty1:s.1.getD n.toNat 0<(h.1.length:Int)) (k:0<=t) (l:t<(h.1.length:Int)) (i:s.2.length<=1000000000) :
  A7 Tryz.prog 141 [.bp 1 [] 0,.p T3 n,.p T3 t] (Dd h s) [1]
  (λres d=>(Cw h s n t=none/\res=.p .bool false/\d=Dd h s)\/∃e,Cw h s n t=some e/\res=.p .bool true/\d=Dd h e):=by
 obtain⟨ty,w⟩:=s;simp only at n1 f ty1 i;have hh:h.1.length<=100000:=gO hk.2 O1;have g:∀x∈h.1,x.2.1.length<=100000:=λx j=>gO (hk.1.wid x.2.1 (IF.2 ⟨x,j,rfl⟩)) O1;refine JP [0,1,2,6,7,8,26,35] [] [] Tryz.func141 Tryz.ntmps141 (AF A1j AI) ?_;intro w0 K O0 ρ0 c o q;simp only[Dd,Am];repeat'(first|exact trivial|apply eS rfl|refine rX c ?_ ?_|refine rC ?_ ?_<;>intro b<;>try(cases b;done))
 .exact⟨⟨n0,n1⟩,⟨f,ty1⟩,⟨k,l⟩,hh,g⟩
 .have a:Cw h (ty,w) n t=none:=by unfold Cw;rw[As (by simp only;rw[b];simp)]
  refine Ev.ent (σ':=⟨[(6,.p .bool false)],Dd h (ty,w)⟩) ?_ (AC [(1,.nm 1),(2,.nm 2)] rfl rfl ?_ ?_)
  .exact fM c [.tmp 6] (.p .bool false) eT (.inl ⟨a,rfl,rfl⟩)
  .unfold Dd;exact eN
  exact eN
 .exact⟨n0,n1⟩
 .exact⟨n0,n1⟩
 .simp only[AO];omega
 .have a:Cw h (ty,w) n t=some (ty.set n.toNat (Cb h (ty.getD n.toNat 0) t).1,w++[n]):=by unfold Cw;rw[At (by assumption),As b]
  generalize (Cb h (ty.getD n.toNat 0) t).1=m at *;have r:(w++[n]).take (w.length+1)=w++[n]:=By sc;refine C8 [61] ?_;refine Ev.ent (σ':=⟨[(6,.p .bool true)],Dd h (ty.set n.toNat m,w++[n])⟩) ?_ (AC [(1,.nm 1),(2,.nm 2)] rfl rfl ?_ ?_)
  .exact fM c [.tmp 6] (.p .bool true) eT (.inr ⟨_,a,rfl,rfl⟩)
  .unfold Dd;simp only[AAc];exact eN
  exact eN
 have a:Cw h (ty,w) n t=some (ty,w):=by unfold Cw;rw[At (by assumption),At (by simpa using b)]
 refine Ev.ent (σ':=⟨[(6,.p .bool true)],Dd h (ty,w)⟩) ?_ (AC [(1,.nm 1),(2,.nm 2)] rfl rfl ?_ ?_)
 .exact fM c [.tmp 6] (.p .bool true) eT (.inr ⟨_,a,rfl,rfl⟩)
 .unfold Dd;exact eN
 exact eN
end
section
variable {α:Type}
structure SO (o:α->α->Int):Prop where
 anti:∀a b,o b a=- o a b
 trans:∀ {a b c},o a b<0->o b c<0->o a c<0
variable {o:α->α->Int} {d:α}
def bB (d:α) (l:List α) (i j:Nat):List α:=(l.set i (l.getD j d)).set j (l.getD i d)
theorem bC {l:List α} {i j:Nat} (hi:i<l.length) (c:j<l.length) (k:Nat):(bB d l i j).getD k d=if k=j then l.getD i d else if k=i then l.getD j d else l.getD k d:=by
 unfold bB;simp only[AS,AAE,AAc];by_cases a:j=k
 .rw[At a,At O1,At a.symm];rfl
 rw[As a,As (show ¬k=j by omega)];by_cases b:i=k
 .rw[At b,At O1,At b.symm];rfl
 rw[As b,As (show ¬k=i by omega)]
theorem pA {l:List α} {i j:Nat} (hi:i<l.length) (a:j<l.length):(bB d l i j).Perm l:=by
 have b:l.getD i d=l[i]:=by rw[AS,An hi];rfl
 have c:l.getD j d=l[j]:=by rw[AS,An a];rfl
 unfold bB;rw[b,c];exact List.set_set_perm hi a
structure We (d:α) (a b:Nat) (l r:List α):Prop where
 perm:r.Perm l
 out:∀k,k<a\/b<=k->r.getD k d=l.getD k d
 inn:∀i,a<=i->i<b->∃j,a<=j/\j<b/\r.getD i d=l.getD j d
theorem We.len {a b:Nat} {l r:List α} (h:We d a b l r):r.length=l.length:=h.perm.length_eq
theorem We.refl (a b:Nat) (l:List α):We d a b l l:=⟨List.Perm.refl _,λ_ _=>rfl,λi h1 c=>⟨i,h1,c,rfl⟩⟩
theorem We.trans {a b:Nat} {l r s:List α} (h:We d a b l r) (c:We d a b r s):We d a b l s:=⟨c.perm.trans h.perm,λk hk=>(c.out k hk).trans (h.out k hk),λi h1 g=>by
 obtain⟨j,m,n,e⟩:=c.inn i h1 g;obtain⟨k,o,p,f⟩:=h.inn j m n;exact⟨k,o,p,e.trans f⟩⟩
theorem We.mono {a b:Nat} {l r:List α} (h:We d a b l r) (ha:c<=a) (m:b<=f):We d c f l r:=⟨h.perm,λk hk=>h.out k O1,λi h1 g=>by
 by_cases hi:a<=i/\i<b
 .obtain⟨j,n,o,e⟩:=h.inn i hi.1 hi.2;exact⟨j,by omega,by omega,e⟩
 exact⟨i,h1,g,h.out i O1⟩⟩
theorem We.swap {a b:Nat} (l:List α) {i j:Nat} (g:a<=i) (h:i<b) (m:a<=j) (n:j<b) (q:b<=l.length):We d a b l (bB d l i j):=by
 have f:=bC (d:=d) (l:=l) (i:=i) (j:=j) O1 O1;refine⟨pA O1 O1,λk hk=>?_,λk o p=>?_⟩
 .rw[f k,As O1,As O1]
 rw[f k];by_cases c:k=j
 .rw[At c];exact⟨i,g,h,rfl⟩
 rw[As c];by_cases e:k=i
 .rw[At e];exact⟨j,m,n,rfl⟩
 rw[As e];exact⟨k,o,p,rfl⟩
def Dst (o:α->α->Int) (d:α) (l:List α):Prop:=∀i j,i<l.length->j<l.length->i≠j->o (l.getD i d) (l.getD j d)≠0
theorem lF (so:SO o) (l:List α):Dst o d l↔l.Pairwise λa b=>o a b≠0:=by
 have e:∀i (h:i<l.length),l.getD i d=l[i]:=λi h=>by rw[AS,An h];rfl
 rw[mX];constructor
 .intro h i j hi c f;have:=h i j hi c O1
  rwa [e i hi,e j c]at this
 intro h i j hi c f;rw[e i hi,e j c];rcases Nat.lt_or_gt_of_ne f with h1|h1
 .exact h i j hi c h1
 have g:=h j i c hi h1;rw[so.anti];omega
theorem Dst.perm (so:SO o) {l r:List α} (h:Dst o d l) (c:r.Perm l):Dst o d r:=by
 rw[lF so]at h ⊢;refine(c.symm.pairwise_iff ?_).1 h;intro a b e;rw[so.anti];omega
theorem Dst.lt (so:SO o) {l:List α} (h:Dst o d l) {i j:Nat} (hi:i<l.length) (b:j<l.length) (a:i≠j) (hn:¬o (l.getD i d) (l.getD j d)<0):o (l.getD j d) (l.getD i d)<0:=by
 have h1:=h i j hi b a;rw[so.anti];omega
def lG (o:α->α->Int) (d:α) (a b:Nat) (l:List α):Prop:=∀i j,a<=i->i<j->j<b->o (l.getD i d) (l.getD j d)<0
theorem A1r (a:Nat) (l:List α):lG o d a (a+1) l:=λi j h1 b c=>by omega
theorem Wf {a b:Nat} {l r:List α} (h:lG o d a b l) (e:∀k,a<=k->k<b->r.getD k d=l.getD k d):lG o d a b r:=λi j h1 f c=>by
 rw[e i h1 O1,e j O1 c];exact h i j h1 f c
def wU (o:α->α->Int) (d:α) (a i j:Nat) (m:List α):Prop:=(∀x y,a<=x->x<y->y<=i->x≠j->y≠j->o (m.getD x d) (m.getD y d)<0)/\∀y,j<y->y<=i->o (m.getD j d) (m.getD y d)<0
theorem gP {a:Nat} {m:List α} (h:lG o d a i m):wU o d a i i m:=⟨λx y h0 h1 b c e=>h x y h0 h1 O1,λy h1 b=>by omega⟩
theorem wV (so:SO o) {a j:Nat} {m:List α} (h:wU o d a i j m) (k:a<=j) (l:j<=i) (b:j=a\/o (m.getD (j-1) d) (m.getD j d)<0):lG o d a (i+1) m:=by
 intro x y h0 h1 g;by_cases c:x=j
 .subst c;exact h.2 y h1 O1
 by_cases e:y=j
 .subst e;rcases b with b|b
  .omega
  by_cases f:x=y-1
  .subst f;exact b
  exact so.trans (h.1 x (y-1) h0 O1 O1 c O1) b
 exact h.1 x y h0 h1 O1 c e
theorem pB {a j:Nat} {m:List α} (h:wU o d a i j m) (h0:a<j) (q:j<=i) (hi:i<m.length) (p:o (m.getD j d) (m.getD (j-1) d)<0):wU o d a i (j-1) (bB d m j (j-1)):=by
 have f:=bC (d:=d) (l:=m) (i:=j) (j:=j-1) O1 O1;refine⟨λx y g h1 e k n=>?_,λy h1 e=>?_⟩
 .rw[f x,f y,As k,As n];by_cases c:x=j
  .subst c;rw[At rfl,As O1];exact h.1 (x-1) y O1 O1 e O1 O1
  rw[As c];by_cases b:y=j
  .rw[At b];exact h.1 x (j-1) g O1 O1 c O1
  rw[As b];exact h.1 x y g h1 e c b
 rw[f (j-1),f y,At rfl,As O1];by_cases b:y=j
 .rw[At b];exact p
 rw[As b];exact h.2 y O1 e
structure PtE (o:α->α->Int) (d:α) (a b p:Nat) (m:List α):Prop where
 l:a<=p
 r:p<b
 lo:∀x,a<=x->x<p->o (m.getD x d) (m.getD p d)<0
 hi:∀x,p<x->x<b->o (m.getD p d) (m.getD x d)<0
structure wW (o:α->α->Int) (d:α) (a0 b0 a b:Nat) (m:List α):Prop where
 s1:lG o d a0 a m
 s2:lG o d b b0 m
 c1:∀x y,a0<=x->x<a->a<=y->y<b0->o (m.getD x d) (m.getD y d)<0
 c2:∀x y,a0<=x->x<b->b<=y->y<b0->o (m.getD x d) (m.getD y d)<0
 ab:a0<=a/\a<=b/\b<=b0
theorem wW.pin {n p a b:Nat} {m r:List α} (h:wW o d n p a b m) (g:We d a b m r):wW o d n p a b r:=by
 obtain⟨A,C,B⟩:=h.ab;have key:∀(P:α->Prop) (lo hi:Nat),lo<=a->b<=hi->(∀y,lo<=y->y<hi->P (m.getD y d))->∀y,lo<=y->y<hi->P (r.getD y d):=λP lo hi h1 q s y c f=>by
  obtain⟨j,t,u,e⟩:=(g.mono h1 q).inn y c f;rw[e];exact s j t u
 refine⟨Wf h.s1 λk v w=>g.out k O1,Wf h.s2 λk v w=>g.out k O1,λx y i l c f=>?_,λx y i l c f=>?_,h.ab⟩
 .rw[g.out x O1];exact key (λz=>o (m.getD x d) z<0) a p (OS _) B (λy c f=>h.c1 x y i l c f) y c f
 rw[g.out y O1];exact key (λz=>o z (m.getD y d)<0) n b A (OS _) (λx i l=>h.c2 x y i l c f) x i l
theorem wW.done {g k a b:Nat} {m:List α} (h:wW o d g k a b m) (hs:lG o d a b m):lG o d g k m:=by
 obtain⟨n,p,q⟩:=h.ab;intro i j h1 c e;by_cases hi:i<a
 .by_cases f:j<a
  .exact h.s1 i j h1 c f
  exact h.c1 i j h1 hi O1 e
 by_cases f:j<b
 .exact hs i j O1 c f
 by_cases l:i<b
 .exact h.c2 i j h1 l O1 e
 exact h.s2 i j O1 c e
theorem wW.left (so:SO o) {f g a b p:Nat} {m:List α} (h:wW o d f g a b m) (c:PtE o d a b p m) (hs:lG o d a p m):wW o d f g (p+1) b m:=by
 obtain⟨A,B,C⟩:=h.ab;have w:=c.l;have z:=c.r;refine⟨λi j h1 k v=>?_,h.s2,λx y q D E s=>?_,h.c2,by omega⟩
 .by_cases hi:i<a
  .by_cases e:j<a
   .exact h.s1 i j h1 k e
   exact h.c1 i j h1 hi O1 O1
  by_cases e:j=p
  .rw[e];exact c.lo i O1 O1
  exact hs i j O1 k O1
 by_cases t:x<a
 .exact h.c1 x y q t O1 s
 by_cases n:y<b
 .by_cases u:x=p
  .rw[u];exact c.hi y O1 n
  exact so.trans (c.lo x O1 O1) (c.hi y O1 n)
 exact h.c2 x y q O1 O1 s
theorem wW.right (so:SO o) {n a b p:Nat} {m:List α} (h:wW o d k n a b m) (c:PtE o d a b p m) (hs:lG o d (p+1) b m):wW o d k n a p m:=by
 obtain⟨C,D,E⟩:=h.ab;have A:=c.l;have B:=c.r;refine⟨h.s1,λi j h1 q s=>?_,λx y e f u g=>h.c1 x y e f u g,λx y e f u g=>?_,by omega⟩
 .by_cases t:j<b
  .by_cases hi:i=p
   .rw[hi];exact c.hi j O1 t
   exact hs i j O1 q t
  by_cases v:i<b
  .exact h.c2 i j O1 v O1 s
  exact h.s2 i j O1 q s
 by_cases z:y<b
 .by_cases w:x<a
  .exact h.c1 x y e w O1 g
  by_cases hyp:y=p
  .rw[hyp];exact c.lo x O1 f
  exact so.trans (c.lo x O1 f) (c.hi y O1 z)
 exact h.c2 x y e O1 O1 g
def Bf (o:α->α->Int) (d:α) (a b:Nat) (m:List α):Prop:=a=0\/∀y,a<=y->y<b->o (m.getD (a-1) d) (m.getD y d)<0
theorem Bf.pin {a b:Nat} {m r:List α} (h:Bf o d a b m) (c:We d a b m r):Bf o d a b r:=by
 rcases h with h|h
 .exact .inl h
 by_cases h0:a=0
 .exact .inl h0
 right;intro y i k;rw[c.out (a-1) O1];obtain⟨j,f,g,e⟩:=c.inn y i k;rw[e];exact h j f g
theorem Bf.sub {a b:Nat} {m:List α} (h:Bf o d a b m) (f:c<=b):Bf o d a c m:=h.imp id λh y e g=>h y e O1
end
section
def gQ:AX:={ ins:=[T3],pre:=λ_=>True,out:=λ_=>[.p .bool false] }
attribute [local go_sem] gQ
def Oe (a b:Int):Int:=if a<b then -1 else if b<a then 1 else 0
def GE:AX:={ ins:=[T3,T3],pre:=λ_=>True,out:=λ(a,b,_)=>[.p T3 (Oe a b)] }
attribute [local go_sem] GE
def HP:AX:={ ins:=[DR,DR],pre:=λ_=>True,out:=λ(a,b,_)=>[.p T3 (Oe (Prod.fst a) (Prod.fst b))] }
attribute [local go_sem] HP
theorem wX:Ac Tryz.prog 192 gQ:=by
 refine fK [0,2] Tryz.func192 Tryz.ntmps192 AI ?_;rintro w0 O0 ⟨x,u⟩ a - -;simp only[gQ,AM];repeat'(first|exact trivial|apply eS rfl|refine rX a ?_ ?_)
 exact fI a [.tmp 2]
theorem Vd:Ac Tryz.prog 178 GE:=by
 refine fK [0,1,4,5,6,11,12,13,16,19] Tryz.func178 Tryz.ntmps178 (AF wX AI) ?_;rintro w0 O0 ⟨a,b,u⟩ c - -;simp only[GE,AM];repeat'(first|exact trivial|apply eS rfl|refine rX c ?_ ?_|refine rC ?_ ?_<;>intro d<;>try(cases d;done))
 .have e:Oe a b=-1:=At d;exact fI c [.tmp 4] (by rw[e];exact eR)
 .have e:Oe a b=1:=by unfold Oe;rw[As O1,At d]
  exact fI c [.tmp 4] (by rw[e];exact eR)
 have e:Oe a b=0:=by unfold Oe;rw[As O1,As O1]
 exact fI c [.tmp 4] (by rw[e];exact eR)
theorem Je:Ac Tryz.prog 140 HP:=by
 refine fK [0,1,2,3,4] Tryz.func140 Tryz.ntmps140 (AF Vd AI) ?_;rintro w0 O0 ⟨a,b,u⟩ c - -;simp only[HP,AM];repeat'(first|exact trivial|apply eS rfl|refine rX c ?_ ?_)
 exact fI c [.tmp 4]
def Og (l:List (Int×Int)):Prop:=∀i,i+1<l.length->(l.getD i (0,0)).1<(l.getD (i+1) (0,0)).1
end
section
attribute [local go_sem] HP
def Px (a b:Int×Int):Int:=Oe a.1 b.1
theorem lH:SO Px:=⟨λa b=>by unfold Px Oe;(repeat' split)<;>omega,λ{a b c} h1 d=>by
 unfold Px Oe at *
 (repeat' split at h1)<;>(repeat' split at d)<;>(repeat' split)<;>omega⟩
theorem A1s (l:List (Int×Int)) (N:l.length<=100000) (z:Dst Px (0,0) l) (a b:Nat) (I:a<=100000) (J:b<=l.length):A7 Tryz.prog 200 [.sr 1000000 DR 0 l.length,.p T3 (a:Int),.p T3 (b:Int),.fn 140] [(1000000,.arr 59 DR l)] [1000000] (λres G=>res=.raw (.tuple #[])/\∃r,G=[(1000000,.arr 59 DR r)]/\We (0,0) a b l r/\lG Px (0,0) a b r):=by
 refine JP [0,1,2,3,8,9,14,34] [] [] Tryz.func200 Tryz.ntmps200 (AF Je AI) ?_;intro w0 K O0 ρ0 d P Q;simp only[Am];repeat'(first|exact trivial|apply eS rfl|apply AB|refine rX d ?_ ?_|refine rC ?_ ?_<;>intro e<;>try(cases e;done))
 .omega
 refine AJ (ι:={s:Nat×List (Int×Int)//a+1<=s.1/\(s.1=a+1\/s.1<=b)/\We (0,0) a b l s.2/\lG Px (0,0) a s.1 s.2}) (λs=>⟨[(0,.sr 1000000 DR 0 l.length),(1,.p T3 (a:Int)),(2,.p T3 (b:Int)),(3,.fn 140),(8,.p (.int .i64) (s.1.1:Int))],[(1000000,.arr 59 DR s.1.2)]⟩) (λs=>b-s.1.1) ⟨(a+1,l),OS _,.inl rfl,We.refl a b l,A1r a l⟩ (AC [(1000000,.nm 1000000)] rfl rfl ?_ ?_) (λs=>?_)
 .first|exact eN|refine eM ?_
 .first|exact eN|refine eM ?_
 obtain⟨⟨i,m⟩,C,D,n,hs⟩:=s;simp only at C D n hs ⊢;have O:=n.len;repeat'(first|exact trivial|apply eS rfl|apply AB|refine rX d ?_ ?_|refine rC ?_ ?_<;>intro e<;>try(cases e;done))
 .have E:i<b:=by exact eV
  refine AJ (ι:={t:Nat×List (Int×Int)//a<=t.1/\t.1<=i/\We (0,0) a b l t.2/\wU Px (0,0) a i t.1 t.2}) (λt=>⟨[(0,.sr 1000000 DR 0 l.length),(1,.p T3 (a:Int)),(2,.p T3 (b:Int)),(3,.fn 140),(8,.p (.int .i64) (i:Int)),(9,.p (.int .i64) (t.1.1:Int))],[(1000000,.arr 59 DR t.1.2)]⟩) (λt=>t.1.1) ⟨(i,m),by omega,OS i,n,gP hs⟩ (AC [(1000000,.nm 1000000)] rfl rfl ?_ ?_) (λt=>?_)
  .first|exact eN|refine eM ?_
  .first|exact eN|refine eM ?_
  obtain⟨⟨j,c⟩,ha,u,g,q⟩:=t;simp only at ha u g q ⊢;have L:=g.len;have A:=z.perm lH g.perm;repeat'(first|exact trivial|apply eS rfl|apply AB|refine rX d ?_ ?_)
  .dsimp only[Ty.den]at *;exact⟨λ_=>by omega,λ_=>⟨by omega,by omega⟩,λ_=>⟨by omega,by omega⟩⟩
  have o:a<j->((j:Int)-1).toNat=j-1:=λ_=>by omega
  refine Sq (by simp only[go_sem,Nat.reduceEqDiff,reduceCtorEq,Nat.reduceAdd,Nat.reduceSub,Nat.reduceMul,Nat.reduceLeDiff,Nat.reduceLT,Int.reduceLE,Int.reduceToNat,Int.reduceNeg,↓reduceIte];rfl) ?_ ?_
  .intro f;simp only[AT,IN]at f;have k:a<j:=by omega
   have v:Px (c.getD j (0,0)) (c.getD ((j:Int)-1).toNat (0,0))<0:=f.2;rw[o k]at v;have F:bB (0,0) c j (j-1)=(c.set j (c.getD (j-1) (0,0))).set (j-1) (c.getD j (0,0)):=rfl;repeat'(first|exact trivial|apply eS rfl|apply AB|refine rP d ?_ ?_|fail)
   (refine Mu drawsAny d 16 [([0,1,5,6,7,8,9,10,11,12,13,14],15)] [2,3,4] (by kernel_rfl) (mxA ?_ ?_);(next=>exact eU);refine mxL d [] ?_ ?_;(next=>exact eU);refine mxE d ?_ ?_ ?_;(next=>exact eU);(next=>exact eU))
   rw[o k];repeat'(first|exact trivial|apply eS rfl|apply AB|refine rX d ?_ ?_|refine rC ?_ ?_<;>intro e<;>try(cases e;done))
   .dsimp only[Ty.den]at *;omega
   refine⟨⟨(j-1,bB (0,0) c j (j-1)),by simp only;omega,by simp only;omega,g.trans (We.swap c O1 O1 O1 O1 O1),pB q k u O1 v⟩,by simp only;omega,AC [(1000000,.nm 1000000)] rfl rfl ?_ ?_⟩
   .simp only;rw[F];first|exact eN|refine eM ?_
   simp only;rw[show ((j-1:Nat):Int)=(j:Int)-1 by omega];first|exact eN|refine eM ?_
  intro f;have B:j=a\/Px (c.getD (j-1) (0,0)) (c.getD j (0,0))<0:=by
   by_cases k:j=a
   .exact .inl k
   right;simp only[AAI,TO]at f;rw[o O1]at f;rcases f with h|h
   .omega
   exact A.lt lH O1 O1 O1 h
  repeat'(first|exact trivial|apply eS rfl|apply AB|refine rX d ?_ ?_|refine rC ?_ ?_<;>intro e<;>try(cases e;done))
  .exact eV
  refine⟨⟨(i+1,c),by simp only;omega,.inr E,g,wV lH q ha u B⟩,by simp only;omega,AC [(1000000,.nm 1000000)] rfl rfl ?_ ?_⟩
  .first|exact eN|refine eM ?_
  first|exact eN|refine eM ?_
 have M:b<=i:=by exact eV
 exact fM d [] (.raw (.tuple #[])) rfl ⟨rfl,m,rfl,n,λx y h1 w H=>hs x y h1 w O1⟩
end
def RS (x:Int×Int) (s:List (Int×Int)):Nat->Nat
 | 0=>0
 | n+1=>if x.1<(s.getD n (0,0)).1 then RS x s n else n+1
def RT (s:List (Int×Int)) (x:Int×Int):List (Int×Int):=s.take (RS x s s.length)++[x]++s.drop (RS x s s.length)
def BL (l:List (Int×Int)):List (Int×Int):=l.foldl RT []
theorem YR (x:Int×Int) (s:List (Int×Int)):∀n,RS x s n<=n
 | 0=>OS _
 | n+1=>by
  unfold RS;have:=YR x s n;split<;>omega
theorem wY (s:List (Int×Int)) (x:Int×Int):(RT s x).length=s.length+1:=by
 have:=YR x s s.length;simp[RT];omega
theorem Oh (l:List (Int×Int)) (x:Int×Int):BL (l++[x])=RT (BL l) x:=by simp[BL]
theorem LB:∀(l s:List (Int×Int)),(l.foldl RT s).length=s.length+l.length
 | [],s=>by simp
 | x :: l,s=>by simp[LB l,wY];omega
theorem EB (l:List (Int×Int)):(BL l).length=l.length:=by simp[BL,LB]
abbrev AD:=Int×List (Int×Int)
def Jf (f:List AD):Nat->List Int×List Int->Int->List Int×List Int
 | 0,s,_=>s
 | k+1,s,n=>(BL (f.getD n.toNat (0,[])).2).foldl (λs a=>if s.1.getD a.2.toNat 0<0 then Jf f k s a.2 else s) (s.1.set n.toNat (s.2.length:Int),s.2++[n])
def Aa (f:List AD):Prop:=f.length<=100000/\∀x∈f,x.2.length<=100000/\∀a∈x.2,0<=a.2/\a.2<(f.length:Int)
theorem pC (s:List (Int×Int)) (x:Int×Int):(RT s x).Perm (x :: s):=by
 unfold RT;refine(List.perm_append_comm.append_right _).trans ?_;simp
theorem Jz:∀(l s:List (Int×Int)),(l.foldl RT s).Perm (l++s)
 | [],s=>List.Perm.refl _
 | x :: l,s=>by
  refine(Jz l (RT s x)).trans ?_;refine(List.Perm.append_left l (pC s x)).trans ?_;exact ACs
theorem FH (l:List (Int×Int)):(BL l).Perm l:=by
 have:=Jz l [];simpa[BL] using this
def LC (f:List AD) (k:Nat) (s:List Int×List Int) (a:Int×Int):List Int×List Int:=if s.1.getD a.2.toNat 0<0 then Jf f k s a.2 else s
theorem LD (f:List AD) (k:Nat) (s:List Int×List Int) (n:Int):Jf f (k+1) s n=(BL (f.getD n.toNat (0,[])).2).foldl (LC f k) (s.1.set n.toNat (s.2.length:Int),s.2++[n]):=rfl
theorem Wg {α:Type} (g:X->α->X) (l:List α) (d:α) (t:X) {i:Nat} (hi:i<l.length):(l.take (i+1)).foldl g t=g ((l.take i).foldl g t) (l.getD i d):=by
 rw[A8 l d hi,AB7];rfl
def Qy (f:List AD) (root:Int):List Int×List Int:=Jf f f.length (List.replicate f.length (-1),[]) root
def A6y (num:List Int) (a:Int×Int):Int×Int:=(a.1,num.getD a.2.toNat 0)
def wZ (f:List AD) (num:List Int) (n:Int):AD:=((f.getD n.toNat (0,[])).1,(BL (f.getD n.toNat (0,[])).2).map (A6y num))
def UF (f:List AD) (root:Int):List AD:=(Qy f root).2.map (wZ f (Qy f root).1)
theorem w3 {α b:Type} (g:α->b) (h:b->α) (L:List α) (d:α) (hk:k<L.length) (u:α->α):((L.take k).map u++L.drop k).set k (u (L.getD k d))=(L.take (k+1)).map u++L.drop (k+1)/\((L.take k).map u++L.drop k).getD k d=L.getD k d:=by
 have h1:((L.take k).map u).length=k:=by simp;omega
 have a:L.drop k=L.getD k d :: L.drop (k+1):=by
  rw[OF hk,AS,An hk];rfl
 constructor
 .rw[A8 L d hk,ABW _ _ O1,h1,AAY,a];simp
 rw[AS,AA4 O1,h1,AAY,a];rfl
def EH (f:List AD):Nat->List Int->Int->List Int
 | 0,o,_=>o
 | k+1,o,n=>(f.getD n.toNat (0,[])).2.foldl (λo a=>if a.2∈o then o else EH f k o a.2) (o++[n])
def A2 (f:List AD) (k:Nat) (o:List Int) (a:Int×Int):List Int:=if a.2∈o then o else EH f k o a.2
theorem CS (f:List AD) (k:Nat) (o:List Int) (n:Int):EH f (k+1) o n=(f.getD n.toNat (0,[])).2.foldl (A2 f k) (o++[n]):=rfl
structure Lv (f:List AD) (o:List Int):Prop where
 nd:o.Nodup
 rng:∀x∈o,0<=x/\x<(f.length:Int)
theorem Lv.len {f:List AD} {o:List Int} (h:Lv f o):o.length<=f.length:=by
 have h1:(o.map Int.toNat).Nodup:=by
  rw[List.Nodup,AAy];refine h.nd.imp_of_mem λ{a b} ha c g e=>g ?_;have:=h.rng a ha;have:=h.rng b c;omega
 have:=DM f.length (o.map Int.toNat) h1 (λj d=>by
  obtain⟨x,i,rfl⟩:=IF.1 d;have:=h.rng x i;omega)
 simpa using this
theorem Lv.snoc {f:List AD} {o:List Int} (h:Lv f o) (h0:0<=n) (h1:n<f.length) (hn:n∉o):Lv f (o++[n]):=by
 refine⟨?_,λx c=>?_⟩
 .rw[AAL];refine⟨h.nd,by simp,λa ha b d=>?_⟩;grind
 rcases IS.1 c with c|c
 .exact h.rng x c
 grind
theorem HQ {f:List AD} {k:Nat} (j:∀(o:List Int) (n:Int),Lv f o->0<=n->n<f.length->n∉o->Lv f (EH f k o n)/\o <+: EH f k o n) :
  ∀(l:List (Int×Int)) (o:List Int),(∀a∈l,0<=a.2/\a.2<(f.length:Int))->Lv f o->Lv f (l.foldl (A2 f k) o)/\o <+: l.foldl (A2 f k) o
 | [],o,_,h=>⟨h,AAU _⟩
 | a :: l,o,i,h=>by
  simp only[OR];have c:Lv f (A2 f k o a)/\o <+: A2 f k o a:=by grind [A2]
  obtain⟨d,e⟩:=HQ j l _ (λb g=>i b (by simp[g])) c.1;exact⟨d,c.2.trans e⟩
theorem CK {f:List AD} (hf:Aa f) {a:Int×Int} (ha:a∈(f.getD n.toNat (0,[])).2):0<=a.2/\a.2<f.length:=by
 by_cases h:n.toNat<f.length
 .have b:f.getD n.toNat (0,[])∈f:=by
   rw[AS,An h];exact AAo h
  exact(hf.2 _ b).2 a ha
 grind
theorem Fl {f:List AD} (hf:Aa f):∀(k:Nat) (o:List Int) (n:Int),Lv f o->0<=n->n<f.length->n∉o->Lv f (EH f k o n)/\o <+: EH f k o n
 | 0,o,n,h,_,_,_=>⟨h,AAU _⟩
 | k+1,o,n,h,h0,h1,d=>by
  obtain⟨b,c⟩:=HQ (Fl hf k) _ _ (λa ha=>CK hf ha) (h.snoc h0 h1 d);rw[CS];exact⟨b,(ACd o [n]).trans c⟩
theorem NH {f:List AD} (hf:Aa f):∀(k:Nat) (o:List Int) (n:Int),Lv f o->0<=n->n<f.length->n∉o->f.length-o.length<=k ->
  n∈EH f k o n/\∀x∈EH f k o n,x∈o\/∀a∈(f.getD x.toNat (0,[])).2,a.2∈EH f k o n
 | 0,o,n,h,h0,h1,i,hk=>by
  have:=(h.snoc h0 h1 i).len;grind
 | k+1,o,n,h,h0,h1,i,hk=>by
  have key:∀(l:List (Int×Int)) (t:List Int),(∀a∈l,0<=a.2/\a.2<(f.length:Int))->Lv f t->f.length-t.length<=k ->
    (∀a∈l,a.2∈l.foldl (A2 f k) t)/\∀x∈l.foldl (A2 f k) t,x∈t\/∀a∈(f.getD x.toNat (0,[])).2,a.2∈l.foldl (A2 f k) t:=by
   intro l;induction l with
   | nil=>exact λt _ _ _=>⟨λa ha=>(by cases ha),λx m=>.inl m⟩
   | cons a l v =>
    intro t j r s;simp only[OR];have u:Lv f (A2 f k t a)/\t <+: A2 f k t a/\a.2∈A2 f k t a/\∀x∈A2 f k t a,x∈t\/∀b∈(f.getD x.toNat (0,[])).2,b.2∈A2 f k t a:=by
     unfold A2;split
     .grind
     rename_i hn;have q:=j a sc;obtain⟨c,d⟩:=Fl hf k t a.2 r q.1 q.2 hn;obtain⟨e,p⟩:=NH hf k t a.2 r q.1 q.2 hn s;exact⟨c,d,e,p⟩
    obtain⟨c,d,e,p⟩:=u;have w:=d.length_le;obtain⟨y,z⟩:=v (A2 f k t a) (λb g=>j b (by simp[g])) c O1;obtain⟨_,A⟩:=HQ (Fl hf k) l (A2 f k t a) (λb g=>j b (by simp[g])) c;refine⟨λb g=>?_,λx m=>?_⟩
    .grind
    grind
  have hs:=h.snoc h0 h1 i;obtain⟨c,d⟩:=key (f.getD n.toNat (0,[])).2 (o++[n]) (λa ha=>CK hf ha) hs (by simp only[If,nO];omega);obtain⟨_,e⟩:=HQ (Fl hf k) (f.getD n.toNat (0,[])).2 (o++[n]) (λa ha=>CK hf ha) hs;rw[CS];refine⟨e.subset sc,λx m=>?_⟩;grind
def Es (o:List Int) (x:Int):Int:=if x∈o then (o.idxOf x:Int) else 0
def L8 (o:List Int) (a:Int×Int):Int×Int:=(a.1,Es o a.2)
def Ip (f:List AD) (o:List Int) (n:Int):AD:=((f.getD n.toNat (0,[])).1,(f.getD n.toNat (0,[])).2.map (L8 o))
def AQ (f:List AD) (root:Int):List AD:=(EH f f.length [] root).map (Ip f (EH f f.length [] root))
def gR (f:List AD):Prop:=∀x∈f,Og x.2/\x.2.length<=200
theorem gS {f:List AD} (hf:gR f) (n:Int):Og (f.getD n.toNat (0,[])).2/\(f.getD n.toNat (0,[])).2.length<=200:=by
 by_cases h:n.toNat<f.length
 .have a:f.getD n.toNat (0,[])∈f:=by
   rw[AS,An h];exact AAo h
  exact hf _ a
 rw[AS,oS O1];exact⟨λi hi=>by simp at hi,by simp⟩
theorem Hx {l:List (Int×Int)} (h:Og l):BL l=l:=by
 have key:∀i,i<=l.length->BL (l.take i)=l.take i:=by
  intro i;induction i with
  | zero=>intro _;rfl
  | succ i d =>
   intro hi;rw[A8 l (0,0) O1,Oh,d O1];have b:(l.take i).length=i:=by rw[On];omega
   have c:RS (l.getD i (0,0)) (l.take i) (l.take i).length=(l.take i).length:=by
    rw[b];cases i with
    | zero=>rfl
    | succ i =>
     have h1:=h i O1;have a:(l.take (i+1)).getD i (0,0)=l.getD i (0,0):=by grind
     simp only[RS];rw[a,As O1]
   unfold RT;rw[c,oR,ACt,AAk]
 have:=key l.length (OS _)
 rwa [oR]at this
structure J0 (f:List AD) (num o:List Int):Prop where
 len:num.length=f.length
 get:∀j,j<f.length->num.getD j 0=if (j:Int)∈o then (o.idxOf (j:Int):Int) else -1
theorem J0.neg {f:List AD} {num o:List Int} (h:J0 f num o) (h0:0<=n) (h1:n<f.length):num.getD n.toNat 0<0↔n∉o:=by
 have:=h.get n.toNat O1;grind
theorem pD {o:List Int} (h:n∉o):(o++[n]).idxOf n=o.length:=by rw[List.idxOf_append,As h];simp
theorem J0.snoc {f:List AD} {num o:List Int} (h:J0 f num o) (h0:0<=n) (h1:n<f.length) (hn:n∉o):J0 f (num.set n.toNat (o.length:Int)) (o++[n]):=by
 refine⟨by simpa using h.len,λj a=>?_⟩;have c:j<num.length:=by rw[h.len];exact a
 by_cases e:j=n.toNat
 .grind
 have en:¬(j:Int)=n:=by omega
 simp only[AS];rw[List.getElem?_set_ne (λb=>e b.symm)];have:=h.get j a;grind
theorem UG {f:List AD} (hf:Aa f) (hs:gR f):∀(k:Nat) (s:List Int×List Int) (n:Int),J0 f s.1 s.2->Lv f s.2->0<=n->n<f.length->n∉s.2->(Jf f k s n).2=EH f k s.2 n/\J0 f (Jf f k s n).1 (Jf f k s n).2
 | 0,s,n,h,_,_,_,_=>⟨rfl,h⟩
 | k+1,s,n,h,u,h0,h1,i=>by
  have key:∀(l:List (Int×Int)) (t:List Int×List Int),(∀a∈l,0<=a.2/\a.2<(f.length:Int))->J0 f t.1 t.2->Lv f t.2->(l.foldl (LC f k) t).2=l.foldl (A2 f k) t.2/\J0 f (l.foldl (LC f k) t).1 (l.foldl (LC f k) t).2:=by
   intro l;induction l with
   | nil=>exact λt _ e _=>⟨rfl,e⟩
   | cons a l y =>
    intro t j e m;simp only[OR];have q:=j a sc;have v:=e.neg q.1 q.2;have w:(LC f k t a).2=A2 f k t.2 a/\J0 f (LC f k t a).1 (LC f k t a).2/\Lv f (LC f k t a).2:=by
     unfold LC A2;by_cases d:a.2∈t.2
     .grind
     rw[As d,At (by rw[v];exact d)];obtain⟨c,g⟩:=UG hf hs k t a.2 e m q.1 q.2 d;exact⟨c,g,by rw[c];exact(Fl hf k t.2 a.2 m q.1 q.2 d).1⟩
    obtain⟨c,g,p⟩:=w;obtain⟨o,x⟩:=y (LC f k t a) (λb r=>j b (by simp[r])) g p;rw[c]at o;exact⟨o,x⟩
  rw[LD,CS,Hx (gS hs n).1];exact key _ (s.1.set n.toNat (s.2.length:Int),s.2++[n]) (λa ha=>CK hf ha) (h.snoc h0 h1 i) (u.snoc h0 h1 i)
theorem UH {f:List AD} (hf:Aa f) (hs:gR f) {root:Int} (h0:0<=root) (h1:root<f.length):UF f root=AQ f root:=by
 have i:J0 f (List.replicate f.length (-1)) []:=⟨by simp,λj h=>by simp[AS,ABo,h]⟩;have d:Lv f []:=⟨by simp,λx g=>by cases g⟩;obtain⟨c,b⟩:=UG hf hs f.length (List.replicate f.length (-1),[]) root i d h0 h1 sc;have c:(Qy f root).2=EH f f.length [] root:=c;have b:J0 f (Qy f root).1 (Qy f root).2:=b;have k:=(NH hf f.length [] root d h0 h1 sc sc).2;have l:=(Fl hf f.length [] root d h0 h1 sc).1;unfold UF AQ;rw[c]at b ⊢;generalize EH f f.length [] root=o at *;refine AAb λx g=>?_;unfold wZ Ip;rw[Hx (gS hs x).1];refine ABa _ (AAb λa ha=>?_);unfold A6y L8 Es;have e:a.2∈o:=by grind
 have m:=CK hf ha;have:=b.get a.2.toNat O1;rw[show ((a.2.toNat:Nat):Int)=a.2 by omega]at this;rw[this,At e,At e]
def rA (o:List Int):List (Int×Int):=(List.range o.length).map λi=>(o.getD i 0,(i:Int))
theorem bD (o:List Int) (n:Int):rA (o++[n])=rA o++[(n,(o.length:Int))]:=by
 unfold rA;rw[If,nO,AAh,AAH]
 congr 1
 .refine AAb λi hi=>?_;grind
 simp[AS]
theorem pE (k:Int) (a b:List (Int×Int)):BO T3 T3 k (a++b)=(BO T3 T3 k a).or (BO T3 T3 k b):=by
 induction a with
 | nil=>rfl
 | cons x a c =>
  simp only[To,BO];split
  .rfl
  exact c
theorem Fv {α:Type} {p:List α->Prop} (h0:p []) (h1:∀l a,p l->p (l++[a])) (l:List α):p l:=by
 have:∀n (l:List α),l.length=n->p l:=by
  intro n;induction n with
  | zero=>intro l b;rw[List.length_eq_zero_iff.1 b];exact h0
  | succ n d =>
   intro l b;have c:l≠[]:=by intro e;subst e;simp at b
   rw[<-List.dropLast_concat_getLast c];exact h1 _ _ (d _ (by simp[b]))
 exact this _ l rfl
theorem Py (o:List Int) (x:Int):BO T3 T3 x (rA o)=if x∈o then some (o.idxOf x:Int) else none:=by
 induction o using Fv with
 | h0=>rfl
 | h1 o n a =>
  rw[bD,pE,a];by_cases b:x∈o
  .grind
  grind [pD,BO,Gn]
theorem pF (k v:Int) (l:List (Int×Int)) (h:BO T3 T3 k l=none):Em T3 T3 k v l=l++[(k,v)]:=by
 induction l with
 | nil=>rfl
 | cons x l a =>
  simp only[BO]at h;simp only[Em,To];split at h
  .cases h
  grind
theorem w4 {o:List Int} (hn:n∉o):Em T3 T3 n (o.length:Int) (rA o)=rA (o++[n]):=by grind [pF,Py,bD]
theorem A1t (o:List Int) (x:Int):(BO T3 T3 x (rA o)).getD 0=Es o x:=by grind [Py,Es]
theorem UI (o:List Int) (x:Int):(BO T3 T3 x (rA o)).isSome=decide (x∈o):=by
 rw[Py];split<;>simp[*]
def bE (l:List (Int×Int)):Prop:=l.Pairwise λa b=>a.1≠b.1
def LtA (l:List (Int×Int)):Prop:=l.Pairwise λa b=>a.1<b.1
theorem Wh (x:Int×Int) (s:List (Int×Int)):∀n,(∀j,RS x s n<=j->j<n->x.1<(s.getD j (0,0)).1)/\(RS x s n=0\/¬x.1<(s.getD (RS x s n-1) (0,0)).1)
 | 0=>⟨λj h1 a=>by omega,.inl rfl⟩
 | n+1=>by
  obtain⟨h1,a⟩:=Wh x s n;unfold RS;split
  .rename_i h;refine⟨λj b c=>?_,a⟩;by_cases e:j=n
   .rw[e];exact h
   exact h1 j b O1
  rename_i h;exact⟨λj b c=>by omega,.inr (by simpa using h)⟩
theorem A1u {s:List (Int×Int)} (hs:LtA s) {x:Int×Int} (m:∀a∈s,a.1≠x.1):LtA (RT s x):=by
 obtain⟨h1,c⟩:=Wh x s s.length;have n:=YR x s s.length;unfold RT;generalize RS x s s.length=p at *;have d:=hs;unfold LtA at d;rw[<-ABc p s,ABi]at d;have j:∀i (h:i<s.length),s.getD i (0,0)=s[i]:=λi h=>by rw[AS,An h];rfl
 have l:∀a∈s.take p,a.1<x.1:=by
  intro a ha;rcases c with c|c
  .subst c;simp at ha
  obtain⟨i,hi,rfl⟩:=AAn.1 ha;rw[On]at hi;rw[List.getElem_take];by_cases q:p=0
  .omega
  have g:p-1<s.length:=by omega
  rw[j (p-1) g]at c;have o:=m s[p-1] (AAo g);by_cases e:i=p-1
  .subst e;omega
  have:=(mX.1 hs) i (p-1) O1 g O1;omega
 have k:∀a∈s.drop p,x.1<a.1:=by
  intro a ha;obtain⟨i,hi,rfl⟩:=AAn.1 ha;rw[AB3]at hi;rw[List.getElem_drop,<-j (p+i) O1];exact h1 (p+i) O1 O1
 unfold LtA;rw[AA5,ABi];refine⟨d.1,?_,λa ha b f=>?_⟩
 .rw[ABu,AAf];exact⟨k,d.2.1⟩
 rcases BY.1 (by simpa using f:b∈x :: s.drop p) with rfl|f
 .exact l a ha
 exact d.2.2 a ha b f
theorem Jg {l:List (Int×Int)} (h:bE l):LtA (BL l):=by
 induction l using Fv with
 | h0=>exact List.Pairwise.nil
 | h1 l a d =>
  unfold bE at h;rw[ABi]at h;rw[Oh];exact A1u (d h.1) λb c=>h.2.2 b ((FH l).mem_iff.1 c) a sc
theorem pG {l:List (Int×Int)} (d:r.Perm l) (h1:LtA r) (c:LtA l):r=l :=
 List.Perm.eq_of_pairwise (le:=λa b:Int×Int=>a.1<b.1) (λa b _ _ e f=>by omega) h1 c d
theorem lI {l:List (Int×Int)} (h:LtA l):Og l:=by
 intro i hi;have a:∀i (h:i<l.length),l.getD i (0,0)=l[i]:=λi h=>by rw[AS,An h];rfl
 rw[a i O1,a (i+1) hi];exact(mX.1 h) i (i+1) O1 hi O1
theorem A4D {l:List (Int×Int)} (h:bE l):Dst Px (0,0) l:=by
 rw[lF lH];refine h.imp λ{a b} g e=>g ?_;unfold Px Oe at e;split at e
 .omega
 split at e<;>omega
theorem gT {l:List (Int×Int)} (h:bE l) (c:r.Perm l) (hs:lG Px (0,0) 0 l.length r):r=BL l:=by
 refine pG (c.trans (FH l).symm) (mX.2 λi j hi b d=>?_) (Jg h);have a:∀i (h:i<r.length),r.getD i (0,0)=r[i]:=λi h=>by rw[AS,An h];rfl
 have:=hs i j (Do _) d (by rw[<-c.length_eq];exact b);rw[a i hi,a j b]at this;unfold Px Oe at this;split at this
 .assumption
 split at this<;>omega
theorem LE {l:List (Int×Int)} (h:bE l):BL (BL l)=BL l:=Hx (lI (Jg h))
def SS (l:List (Int×Int)):Prop:=l.length<=200/\(l.length<=12\/Og l)
def NdF (f:List AD):Prop:=∀x∈f,bE x.2/\SS x.2
def DE (f:List AD):List AD:=f.map λx=>(x.1,BL x.2)
theorem EC (f:List AD):(DE f).length=f.length:=dB _
theorem Oi (f:List AD) (n:Nat):(DE f).getD n (0,[])=((f.getD n (0,[])).1,BL (f.getD n (0,[])).2):=by
 unfold DE;simp only[AS,AAt];cases f[n]?<;>rfl
theorem Lw {f:List AD} (h:Aa f):Aa (DE f):=by
 refine⟨by rw[EC];exact h.1,λx d=>?_⟩;obtain⟨y,e,rfl⟩:=IF.1 d;obtain⟨b,c⟩:=h.2 y e;refine⟨by simp only[EB];exact b,λa ha=>?_⟩;rw[EC];exact c a ((FH _).mem_iff.1 ha)
theorem w5 {f:List AD} (h:NdF f):gR (DE f):=by
 intro x c;obtain⟨y,d,rfl⟩:=IF.1 c;obtain⟨a,b⟩:=h y d;exact⟨lI (Jg a),by simp only[EB];exact b.1⟩
theorem lJ {f:List AD} (hf:NdF f) (n:Int):bE (f.getD n.toNat (0,[])).2/\SS (f.getD n.toNat (0,[])).2:=by
 by_cases h:n.toNat<f.length
 .have a:f.getD n.toNat (0,[])∈f:=by
   rw[AS,An h];exact AAo h
  exact hf _ a
 rw[AS,oS O1];exact⟨List.Pairwise.nil,by simp,.inl sc⟩
theorem Qz {f:List AD} (h:NdF f):∀(k:Nat) (s:List Int×List Int) (n:Int),Jf (DE f) k s n=Jf f k s n
 | 0,_,_=>rfl
 | k+1,s,n=>by
  rw[LD,LD,Oi];simp only;rw[LE (lJ h n).1];refine ABa (λg=>List.foldl g _ _) ?_;funext s a;unfold LC;rw[Qz h k s a.2]
theorem pH {f:List AD} (h:NdF f) (r:Int):UF (DE f) r=UF f r:=by
 have a:Qy (DE f) r=Qy f r:=by
  unfold Qy;rw[EC,Qz h]
 unfold UF;rw[a];refine AAb λn _=>?_;unfold wZ;rw[Oi];simp only;rw[LE (lJ h n).1]
theorem Q0 {f:List AD} (hf:Aa f) (hn:NdF f) {root:Int} (h0:0<=root) (h1:root<f.length):UF f root=AQ (DE f) root:=by
 rw[<-pH hn];exact UH (Lw hf) (w5 hn) h0 (by rw[EC];exact h1)
section
attribute [local go_sem] HP
theorem w6 {l:List (Int×Int)} (h:Og l) {i j:Nat} (c:i<j) (a:j<l.length):(l.getD i (0,0)).1<(l.getD j (0,0)).1:=by
 induction j with
 | zero=>omega
 | succ j b =>
  have h1:=h j a;by_cases e:i=j
  .rw[e];exact h1
  exact Int.lt_trans (b O1 O1) h1
theorem gU {x:Int} (h:y<x) (a:Oe x y<0):False:=by
 unfold Oe at a
 (repeat' split at a)<;>omega
def Fm (l:List (Int×Int)) (s:Nat):List (Nat×Obj):=[(1000000,.arr 59 DR l),(70,.box 3 false [.p T3 (s:Int)])]
theorem UJ (l:List (Int×Int)) (so:Og l) (a b s:Nat) (ab:a<b) (f:b<l.length) (hs:s<=1000):A7 Tryz.prog 217 [.sr 1000000 DR 0 l.length,.p T3 (a:Int),.p T3 (b:Int),.bp 70 [] 0,.fn 140] (Fm l s) [1000000,70] (λres g=>res=.tup [.p T3 (a:Int),.p T3 (b:Int)]/\g=Fm l s):=by
 refine JP [0,1,2,3,4,10,11,22] [] [] Tryz.func217 Tryz.ntmps217 (AF Je AI) ?_;intro w0 K O0 ρ0 d i j;simp only[Am,Fm];have h:a<l.length:=by omega
 have e:=w6 so ab f;repeat'(first|exact trivial|apply eS rfl|apply AB|refine rX d ?_ ?_|refine rC ?_ ?_<;>intro c<;>try(cases c;done))
 .exact eU
 .exact(gU e c).elim
 .exact(gU e c).elim
 exact fM d [.tmp 10,.tmp 11] (.tup [.p T3 (a:Int),.p T3 (b:Int)]) eT ⟨rfl,rfl⟩
theorem YS (l:List (Int×Int)) (so:Og l) (a b c s:Nat) (ab:a<b) (f:b<c) (cl:c<l.length) (hs:s<=900):A7 Tryz.prog 216 [.sr 1000000 DR 0 l.length,.p T3 (a:Int),.p T3 (b:Int),.p T3 (c:Int),.bp 70 [] 0,.fn 140] (Fm l s) [1000000,70] (λres g=>res=.p T3 (b:Int)/\g=Fm l s):=by
 refine JP [0,1,2,3,4,5,12] [] [] Tryz.func216 Tryz.ntmps216 AI ?_;intro w0 K O0 ρ0 d h i;simp only[Am,Fm];repeat'(first|exact trivial|apply eS rfl|apply AB|refine rX d ?_ ?_|refine rC ?_ ?_<;>intro e<;>try(cases e;done))
 refine cP 5 d ?_ ?_
 .trivial
 refine rM d (UJ l so a b s ab O1 O1) [(1000000,.nm 1000000),(70,.nm 70)] [] ?_ ?_ ?_
 .first|exact eN|refine eM ?_
 .simp only[Fm];first|exact eN|refine eM ?_
 rintro _ _ ⟨rfl,rfl⟩;refine⟨[(1000000,.nm 1000000),(70,.nm 70)],.tup [.p T3 (a:Int),.p T3 (b:Int)],[(1000000,.arr 59 DR l),(70,.box 3 false [.p T3 (s:Int)])],rfl,rfl,?_,?_,rfl,rfl,?_⟩
 .simp only[Fm];first|exact eN|refine eM ?_
 .first|exact eN|refine eM ?_
 refine rL d ?_ ?_
 .trivial
 repeat'(first|exact trivial|apply eS rfl|apply AB|refine rX d ?_ ?_|refine rC ?_ ?_<;>intro e<;>try(cases e;done))
 refine cP 5 d ?_ ?_
 .trivial
 refine rM d (UJ l so b c s f cl O1) [(1000000,.nm 1000000),(70,.nm 70)] [] ?_ ?_ ?_
 .first|exact eN|refine eM ?_
 .simp only[Fm];first|exact eN|refine eM ?_
 rintro _ _ ⟨rfl,rfl⟩;refine⟨[(1000000,.nm 1000000),(70,.nm 70)],.tup [.p T3 (b:Int),.p T3 (c:Int)],[(1000000,.arr 59 DR l),(70,.box 3 false [.p T3 (s:Int)])],rfl,rfl,?_,?_,rfl,rfl,?_⟩
 .simp only[Fm];first|exact eN|refine eM ?_
 .first|exact eN|refine eM ?_
 refine rL d ?_ ?_
 .trivial
 repeat'(first|exact trivial|apply eS rfl|apply AB|refine rX d ?_ ?_|refine rC ?_ ?_<;>intro e<;>try(cases e;done))
 refine cP 5 d ?_ ?_
 .trivial
 refine rM d (UJ l so a b s ab O1 O1) [(1000000,.nm 1000000),(70,.nm 70)] [] ?_ ?_ ?_
 .first|exact eN|refine eM ?_
 .simp only[Fm];first|exact eN|refine eM ?_
 rintro _ _ ⟨rfl,rfl⟩;refine⟨[(1000000,.nm 1000000),(70,.nm 70)],.tup [.p T3 (a:Int),.p T3 (b:Int)],[(1000000,.arr 59 DR l),(70,.box 3 false [.p T3 (s:Int)])],rfl,rfl,?_,?_,rfl,rfl,?_⟩
 .simp only[Fm];first|exact eN|refine eM ?_
 .first|exact eN|refine eM ?_
 refine rL d ?_ ?_
 .trivial
 repeat'(first|exact trivial|apply eS rfl|apply AB|refine rX d ?_ ?_|refine rC ?_ ?_<;>intro e<;>try(cases e;done))
 exact fM d [.tmp 12] (.p T3 (b:Int)) eT ⟨rfl,rfl⟩
theorem YT (l:List (Int×Int)) (so:Og l) (b s:Nat) (f:1<=b) (d:b+1<l.length) (g:l.length<=100000) (hs:s<=900):A7 Tryz.prog 215 [.sr 1000000 DR 0 l.length,.p T3 (b:Int),.bp 70 [] 0,.fn 140] (Fm l s) [1000000,70] (λres e=>res=.p T3 (b:Int)/\e=Fm l s):=by
 refine JP [0,1,2,3,8] [] [] Tryz.func215 Tryz.ntmps215 AI ?_;intro w0 K O0 ρ0 a h i;simp only[Am,Fm];have key:=YS l so (b-1) b (b+1) s O1 O1 d hs;rw[show ((b-1:Nat):Int)=(b:Int)-1 by omega,show ((b+1:Nat):Int)=(b:Int)+1 by omega]at key;repeat'(first|exact trivial|apply eS rfl|apply AB|refine rX a ?_ ?_|refine rC ?_ ?_<;>intro c<;>try(cases c;done))
 refine cP 8 a ?_ ?_
 .exact eU
 refine rM a (key) [(1000000,.nm 1000000),(70,.nm 70)] [] ?_ ?_ ?_
 .first|exact eN|refine eM ?_
 .simp only[Fm];first|exact eN|refine eM ?_
 rintro _ _ ⟨rfl,rfl⟩;refine⟨[(1000000,.nm 1000000),(70,.nm 70)],.p T3 (b:Int),[(1000000,.arr 59 DR l),(70,.box 3 false [.p T3 (s:Int)])],rfl,rfl,?_,?_,rfl,rfl,?_⟩
 .simp only[Fm];first|exact eN|refine eM ?_
 .first|exact eN|refine eM ?_
 refine rL a ?_ ?_
 .trivial
 repeat'(first|exact trivial|apply eS rfl|apply AB|refine rX a ?_ ?_|refine rC ?_ ?_<;>intro c<;>try(cases c;done))
 exact fM a [.tmp 8] (.p T3 (b:Int)) eT ⟨rfl,rfl⟩
theorem A1v (l:List (Int×Int)) (d:l.length<=100000) (so:Og l) (a b:Nat) (i:a+13<=b) (k:b<=l.length):A7 Tryz.prog 203 [.sr 1000000 DR 0 l.length,.p T3 (a:Int),.p T3 (b:Int),.fn 140] [(1000000,.arr 59 DR l)] [1000000] (λres h=>(∃j:Nat,res=.tup [.p T3 (j:Int),.p T3 (1:Int)])/\h=[(1000000,.arr 59 DR l)]):=by
 refine JP [0,1,2,3,8,9,10,11,12,13,14,34,36,55,57,60] [] [] Tryz.func203 Tryz.ntmps203 AI ?_;intro w0 K O0 ρ0 c m n;simp only[Am];obtain⟨t,g⟩:∃t,t=(b-a) / 4:=⟨_,rfl⟩;have et:((b:Int)-(a:Int)).tdiv 4=(t:Int):=by
  rw[AAW O1];omega
 have o:4*t<=b-a:=by omega
 have q:3<=t:=by omega
 clear g
 (apply eS rfl;refine rX c ?_ ?_;(next=>first|exact trivial|exact eU))
 (apply eS rfl;refine rX c ?_ ?_;(next=>first|exact trivial|exact eU))
 (apply eS rfl;refine rX c ?_ ?_;(next=>first|exact trivial|exact eU))
 (apply eS rfl;refine rX c ?_ ?_;(next=>first|exact trivial|exact eU|(rw[et];refine⟨⟨by decide,?_⟩,?_,?_⟩<;>omega)))
 (apply eS rfl;refine rX c ?_ ?_;(next=>first|exact trivial|exact eU|(rw[et];refine⟨⟨by decide,?_⟩,?_,?_⟩<;>omega)))
 (apply eS rfl;refine rX c ?_ ?_;(next=>first|exact trivial|exact eU|(rw[et];refine⟨⟨by decide,?_⟩,?_,?_⟩<;>omega)))
 rw[et,show (a:Int)+(t:Int)*1=((a+t:Nat):Int) by omega,show (a:Int)+(t:Int)*2=((a+t*2:Nat):Int) by omega,show (a:Int)+(t:Int)*3=((a+t*3:Nat):Int) by omega];refine Sn ?_;refine A0E (ι:=Unit) (λ_=>⟨[(11,.bp 11 [] 0),(13,.p T3 ((a+t*2:Nat):Int))],[(1000000,.arr 59 DR l),(11,.box 3 false [.p T3 (0:Int)])]⟩) ?_ (λx=>?_)
 .repeat'(first|exact trivial|apply eS rfl|apply AB|refine rX c ?_ ?_)
  refine rC ?_ ?_<;>intro e
  .repeat'(first|exact trivial|apply eS rfl|apply AB|refine rX c ?_ ?_)
   refine rC (λf=>?_) (λf=>?_)
   .repeat'(first|exact trivial|apply eS rfl|apply AB|refine rP c ?_ ?_|fail)
    refine cP 3 c ?_ ?_
    .trivial
    refine rM c (YT l so (a+t) 0 O1 O1 d O1) [(1000000,.nm 1000000),(70,.nm 11)] [] ?_ ?_ ?_
    .first|exact eN|refine eM ?_
    .simp only[Fm];first|exact eN|refine eM ?_
    rintro _ _ ⟨rfl,rfl⟩;refine⟨[(1000000,.nm 1000000),(11,.nm 70)],.p T3 ((a+t:Nat):Int),[(1000000,.arr 59 DR l),(11,.box 3 false [.p T3 (0:Int)])],rfl,rfl,?_,?_,rfl,rfl,?_⟩
    .simp only[Fm];first|exact eN|refine eM ?_
    .first|exact eN|refine eM ?_
    refine rL c ?_ ?_
    .trivial
    repeat'(first|exact trivial|apply eS rfl|apply AB|refine rX c ?_ ?_)
    refine cP 3 c ?_ ?_
    .trivial
    refine rM c (YT l so (a+t*2) 0 O1 O1 d O1) [(1000000,.nm 1000000),(70,.nm 11)] [] ?_ ?_ ?_
    .first|exact eN|refine eM ?_
    .simp only[Fm];first|exact eN|refine eM ?_
    rintro _ _ ⟨rfl,rfl⟩;refine⟨[(1000000,.nm 1000000),(11,.nm 70)],.p T3 ((a+t*2:Nat):Int),[(1000000,.arr 59 DR l),(11,.box 3 false [.p T3 (0:Int)])],rfl,rfl,?_,?_,rfl,rfl,?_⟩
    .simp only[Fm];first|exact eN|refine eM ?_
    .first|exact eN|refine eM ?_
    refine rL c ?_ ?_
    .trivial
    repeat'(first|exact trivial|apply eS rfl|apply AB|refine rX c ?_ ?_)
    refine cP 3 c ?_ ?_
    .trivial
    refine rM c (YT l so (a+t*3) 0 O1 O1 d O1) [(1000000,.nm 1000000),(70,.nm 11)] [] ?_ ?_ ?_
    .first|exact eN|refine eM ?_
    .simp only[Fm];first|exact eN|refine eM ?_
    rintro _ _ ⟨rfl,rfl⟩;refine⟨[(1000000,.nm 1000000),(11,.nm 70)],.p T3 ((a+t*3:Nat):Int),[(1000000,.arr 59 DR l),(11,.box 3 false [.p T3 (0:Int)])],rfl,rfl,?_,?_,rfl,rfl,?_⟩
    .simp only[Fm];first|exact eN|refine eM ?_
    .first|exact eN|refine eM ?_
    refine rL c ?_ ?_
    .trivial
    repeat'(first|exact trivial|apply eS rfl|apply AB|refine rX c ?_ ?_)
    refine cP 5 c ?_ ?_
    .trivial
    refine rM c (YS l so (a+t) (a+t*2) (a+t*3) 0 O1 O1 O1 O1) [(1000000,.nm 1000000),(70,.nm 11)] [] ?_ ?_ ?_
    .first|exact eN|refine eM ?_
    .simp only[Fm];first|exact eN|refine eM ?_
    rintro _ _ ⟨rfl,rfl⟩;refine⟨[(1000000,.nm 1000000),(11,.nm 70)],.p T3 ((a+t*2:Nat):Int),[(1000000,.arr 59 DR l),(11,.box 3 false [.p T3 (0:Int)])],rfl,rfl,?_,?_,rfl,rfl,?_⟩
    .simp only[Fm];first|exact eN|refine eM ?_
    .first|exact eN|refine eM ?_
    refine rL c ?_ ?_
    .trivial
    repeat'(first|exact trivial|apply eS rfl|apply AB|refine rX c ?_ ?_)
    refine⟨(),AC [(1000000,.nm 1000000),(11,.nm 11)] rfl rfl ?_ ?_⟩
    .first|exact eN|refine eM ?_
    first|exact eN|refine eM ?_
   repeat'(first|exact trivial|apply eS rfl|apply AB|refine rP c ?_ ?_|fail)
   refine cP 5 c ?_ ?_
   .trivial
   refine rM c (YS l so (a+t) (a+t*2) (a+t*3) 0 O1 O1 O1 O1) [(1000000,.nm 1000000),(70,.nm 11)] [] ?_ ?_ ?_
   .first|exact eN|refine eM ?_
   .simp only[Fm];first|exact eN|refine eM ?_
   rintro _ _ ⟨rfl,rfl⟩;refine⟨[(1000000,.nm 1000000),(11,.nm 70)],.p T3 ((a+t*2:Nat):Int),[(1000000,.arr 59 DR l),(11,.box 3 false [.p T3 (0:Int)])],rfl,rfl,?_,?_,rfl,rfl,?_⟩
   .simp only[Fm];first|exact eN|refine eM ?_
   .first|exact eN|refine eM ?_
   refine rL c ?_ ?_
   .trivial
   repeat'(first|exact trivial|apply eS rfl|apply AB|refine rX c ?_ ?_)
   refine⟨(),AC [(1000000,.nm 1000000),(11,.nm 11)] rfl rfl ?_ ?_⟩
   .first|exact eN|refine eM ?_
   first|exact eN|refine eM ?_
  exfalso;omega
 repeat'(first|exact trivial|apply eS rfl|apply AB|refine rX c ?_ ?_|refine rC ?_ ?_<;>intro e<;>try(cases e;done))
 refine Ev.ent (σ':=⟨[(8,.p T3 ((a+t*2:Nat):Int)),(9,.p T3 (1:Int))],[(1000000,.arr 59 DR l)]⟩) ?_ (AC [(1000000,.nm 1000000)] rfl rfl ?_ ?_)
 .exact fM c [.tmp 8,.tmp 9] (.tup [.p T3 ((a+t*2:Nat):Int),.p T3 (1:Int)]) eT ⟨⟨_,rfl⟩,rfl⟩
 .first|exact eN|refine eM ?_
 first|exact eN|refine eM ?_
theorem A1w (l:List (Int×Int)) (q:l.length<=100000) (so:Og l) (n0:0<l.length):A7 Tryz.prog 205 [.sr 1000000 DR 0 l.length,.p T3 (0:Int),.p T3 (l.length:Int),.fn 140] [(1000000,.arr 59 DR l)] [1000000] (λres n=>res=.p .bool true/\n=[(1000000,.arr 59 DR l)]):=by
 refine JP [0,1,2,3,8,9,10,11,12,16,36,41,45,65,69,84,104,109,124] [] [] Tryz.func205 Tryz.ntmps205 (AF Je AI) ?_;intro w0 K O0 ρ0 a r t;simp only[Am];repeat'(first|exact trivial|apply eS rfl|apply AB|refine rX a ?_ ?_|refine rC ?_ ?_<;>intro c<;>try(cases c;done))
 .exact eU
 refine AJ (ι:=Unit) (λs=>⟨[(0,.sr 1000000 DR 0 l.length),(1,.p T3 (0:Int)),(2,.p T3 (l.length:Int)),(3,.fn 140),(9,.p (.int .i64) (1:Int)),(10,.p (.int .i64) (0:Int))],[(1000000,.arr 59 DR l)]⟩) (λs=>0) () (AC [(1000000,.nm 1000000)] rfl rfl ?_ ?_) (λs=>?_)
 .first|exact eN|refine eM ?_
 .first|exact eN|refine eM ?_
  rfl
 repeat'(first|exact trivial|apply eS rfl|apply AB|refine rX a ?_ ?_)
 refine rC ?_ ?_<;>intro c
 .repeat'(first|exact trivial|apply eS rfl|apply AB|refine rX a ?_ ?_)
  refine AJ (ι:={k:Nat//1<=k/\k<=l.length}) (λs=>⟨[(0,.sr 1000000 DR 0 l.length),(1,.p T3 (0:Int)),(2,.p T3 (l.length:Int)),(3,.fn 140),(9,.p (.int .i64) (s.1:Int)),(10,.p (.int .i64) (0:Int))],[(1000000,.arr 59 DR l)]⟩) (λs=>l.length-s.1) ⟨1,OS _,n0⟩ (AC [(1000000,.nm 1000000)] rfl rfl ?_ ?_) (λs=>?_)
  .first|exact eN|refine eM ?_
  .first|exact eN|refine eM ?_
   rfl
  obtain⟨k,e,f⟩:=s;simp only at e f ⊢;have d:((k:Int)-1).toNat=k-1:=by omega
  repeat'(first|exact trivial|apply eS rfl|apply AB|refine rX a ?_ ?_)
  .dsimp only[Ty.den];exact⟨λ_=>by omega,λ_=>by omega,λ_=>by omega⟩
  refine Sq (by simp only[go_sem,Nat.reduceEqDiff,reduceCtorEq,Nat.reduceAdd,Nat.reduceSub,Nat.reduceMul,Nat.reduceLeDiff,Nat.reduceLT,Int.reduceLE,Int.reduceToNat,Int.reduceNeg,↓reduceIte];rfl) ?_ ?_
  .intro b;simp only[AT,IN,aT,TO]at b;obtain⟨h1,o⟩:=b;repeat'(first|exact trivial|apply eS rfl|apply AB|refine rX a ?_ ?_)
   .exact eU
   refine⟨⟨k+1,by omega,by omega⟩,by simp only;omega,AC [(1000000,.nm 1000000)] rfl rfl ?_ ?_⟩
   .first|exact eN|refine eM ?_
   first|exact eN|refine eM ?_
  intro b;rw[d]at b;have g:k=l.length:=by
   refine DO λhn=>?_;have m:=w6 so (i:=k-1) (j:=k) O1 O1;simp only[AAI,TO,ABt,IN]at b;rcases b with h|h
   .omega
   exact gU m h
  subst g;clear b;repeat'(first|exact trivial|apply eS rfl|apply AB|refine rX a ?_ ?_|refine rC ?_ ?_<;>intro c<;>try(cases c;done))
  exact fM a [.tmp 8] (.p .bool true) eT ⟨rfl,rfl⟩
 exfalso;simp at c
theorem A1x (l:List (Int×Int)) (u:l.length<=200) (nd:bE l) (so:l.length<=12\/Og l) (c:Int) (m:13<=l.length->c≠0):A7 Tryz.prog 190 [.sr 1000000 DR 0 l.length,.p T3 (0:Int),.p T3 (l.length:Int),.p T3 c,.fn 140] [(1000000,.arr 59 DR l)] [1000000] (λres t=>res=.raw (.tuple #[])/\t=[(1000000,.arr 59 DR (BL l))]):=by
 refine JP [0,1,2,3,4,10,11,12,13,14,15,16,17,18,19,20,25,32,39,56,75,80,97,125] [] [] Tryz.func190 Tryz.ntmps190 AI ?_;intro w0 K O0 ρ0 a v w;simp only[Am];repeat'(first|exact trivial|apply eS rfl|apply AB|refine rX a ?_ ?_)
 refine AJ (ι:=Unit) (λs=>⟨[(0,.sr 1000000 DR 0 l.length),(1,.p T3 (0:Int)),(2,.p T3 (l.length:Int)),(3,.p T3 c),(4,.fn 140),(10,.p .bool true),(11,.p .bool true)],[(1000000,.arr 59 DR l)]⟩) (λs=>0) () (AC [(1000000,.nm 1000000)] rfl rfl ?_ ?_) (λs=>?_)
 .first|exact eN|refine eM ?_
 .first|exact eN|refine eM ?_
 repeat'(first|exact trivial|apply eS rfl|apply AB|refine rX a ?_ ?_)
 .exact eU
 refine rC ?_ ?_<;>intro b
 .have key:=A1s l O1 (A4D nd) 0 l.length O1 (OS _);rw[show ((0:Nat):Int)=0 from rfl]at key;repeat'(first|exact trivial|apply eS rfl|apply AB|refine rX a ?_ ?_)
  refine cP 4 a ?_ ?_
  .trivial
  refine rM a (key) [(1000000,.nm 1000000)] [] ?_ ?_ ?_
  .first|exact eN|refine eM ?_
  .first|exact eN|refine eM ?_
  rintro _ _ ⟨rfl,r,rfl,n,o⟩;have h:=gT nd n.perm o;subst h;have x:=EB l;refine⟨[(1000000,.nm 1000000)],.raw (.tuple #[]),[(1000000,.arr 59 DR (BL l))],rfl,rfl,?_,?_,rfl,rfl,Fu ?_⟩
  .first|exact eN|refine eM ?_
  .first|exact eN|refine eM ?_
  repeat'(first|exact trivial|apply eS rfl|apply AB|refine rX a ?_ ?_|refine rC ?_ ?_<;>intro b<;>try(cases b;done))
  exact fM a [] (.raw (.tuple #[])) rfl ⟨rfl,rfl⟩
 have i:13<=l.length:=by omega
 have hs:Og l:=so.resolve_left O1;have k:=m i;rw[Hx hs];repeat'(first|exact trivial|apply eS rfl|apply AB|refine rX a ?_ ?_)
 refine rC (λd=>?_) (λd=>?_)
 .exact absurd d k
 have key:=A1v l O1 hs 0 l.length O1 (OS _);rw[show ((0:Nat):Int)=0 from rfl]at key;have q:=A1w l O1 hs O1;repeat'(first|exact trivial|apply eS rfl|apply AB|refine rX a ?_ ?_)
 refine rC (λe=>?_) (λe=>?_)
 .cases e
 repeat'(first|exact trivial|apply eS rfl|apply AB|refine rX a ?_ ?_)
 refine cP 4 a ?_ ?_
 .trivial
 refine rM a (key) [(1000000,.nm 1000000)] [] ?_ ?_ ?_
 .first|exact eN|refine eM ?_
 .first|exact eN|refine eM ?_
 rintro _ _ ⟨⟨j,rfl⟩,rfl⟩;refine⟨[(1000000,.nm 1000000)],.tup [.p T3 (j:Int),.p T3 (1:Int)],[(1000000,.arr 59 DR l)],rfl,rfl,?_,?_,rfl,rfl,?_⟩
 .first|exact eN|refine eM ?_
 .first|exact eN|refine eM ?_
 refine rL a ?_ ?_
 .trivial
 repeat'(first|exact trivial|apply eS rfl|apply AB|refine rX a ?_ ?_)
 refine rC (λf=>?_) (λf=>?_)
 .exact absurd f dg
 repeat'(first|exact trivial|apply eS rfl|apply AB|refine rX a ?_ ?_)
 refine rC (λg=>?_) (λg=>?_)
 .repeat'(first|exact trivial|apply eS rfl|apply AB|refine rX a ?_ ?_)
  refine cP 4 a ?_ ?_
  .trivial
  refine rM a (q) [(1000000,.nm 1000000)] [] ?_ ?_ ?_
  .first|exact eN|refine eM ?_
  .first|exact eN|refine eM ?_
  rintro _ _ ⟨rfl,rfl⟩;refine⟨[(1000000,.nm 1000000)],.p .bool true,[(1000000,.arr 59 DR l)],rfl,rfl,?_,?_,rfl,rfl,Fu ?_⟩
  .first|exact eN|refine eM ?_
  .first|exact eN|refine eM ?_
  repeat'(first|exact trivial|apply eS rfl|apply AB|refine rX a ?_ ?_|refine rC ?_ ?_<;>intro b<;>try(cases b;done))
  exact fM a [] (.raw (.tuple #[])) rfl ⟨rfl,rfl⟩
 exact absurd g dg
end
theorem bF {L:Go.Loop} (h1:L.state=.ready) (a:L.pending=none):{ { L with state:=.busy } with state:=.ready,pending:=none }=L:=by
 cases L;simp_all
theorem Wi (l:List (Int×Int)):A7 Tryz.prog 139 [.p VY l] [] [] (λres b=>res=.clo 177 [1]/\b=[(1,.box 55 false [.p VY l])]):=by
 refine JP [0,1,2] [] [] Tryz.func139 Tryz.ntmps139 AI ?_;intro w0 K O0 ρ0 a c d;simp only[Am];repeat'(first|exact trivial|apply eS rfl|refine rX a ?_ ?_)
 exact fM a [.tmp 2] (.clo 177 [1]) eT ⟨rfl,rfl⟩
def CB (l:List (Int×Int)) (L:Go.Loop) (a:Array Value) (i:Nat):List (Nat×Obj):=[(1,.box 55 false [.p VY l]),(101,.loop L),(102,.frame a [(2,.bp 2 [] 0),(6,.clo 177 [1])]),(2,.box 55 false [.sr 7 DR 0 i]),(7,.arr 59 DR (l.take i))]
theorem gV (l:List (Int×Int)) (g:l.length<=100000) (L:Go.Loop) (b:Array Value) (f:∀i,i<l.length->V9 Tryz.prog 101 [.p DR (l.getD i (0,0))] (CB l L b i) [1,101,102,2] (λres e=>res=.p .bool true/\e=CB l L b (i+1))) :
  A7 Tryz.prog 177 [.yl 101,.bp 1 [] 0] (CB l L b 0) [1,101,102,2] (λres e=>res=.raw (.tuple #[])/\e=CB l L b l.length):=by
 refine JP [0,1,4,5,6,7,8,14] [] [] Tryz.func177 Tryz.ntmps177 AI ?_;intro w0 K O0 ρ0 a h j;simp only[Am,CB];repeat'(first|exact trivial|apply eS rfl|refine rX a ?_ ?_)
 refine AJ (ι:={i:Nat//i<=l.length}) (λi=>⟨[(0,.yl 101),(1,.bp 1 [] 0),(5,.p VY l),(6,.p (.int .i64) (l.length:Int)),(7,.p (.int .i64) (i.1:Int))],CB l L b i.1⟩) (λi=>l.length-i.1) ⟨0,by omega⟩ (AC [(1,.nm 1),(101,.nm 101),(102,.nm 102),(2,.nm 2),(7,.nm 7)] rfl rfl ?_ ?_) (λi=>?_)
 .simp only[CB];exact eN
 .exact eN
 obtain⟨i,hi⟩:=i;simp only[CB];repeat'(first|exact trivial|apply eS rfl|refine rX a ?_ ?_|refine rC ?_ ?_<;>intro c<;>try(cases c;done))
 .exact eV
 .have d:i<l.length:=by exact eV
  refine cP 2 a ?_ ?_
  .trivial
  refine rY 101 101 a (f i d) [(1,.nm 1),(101,.nm 101),(102,.nm 102),(2,.nm 2),(7,.nm 7)] [7] ?_ ?_ ?_
  .exact eN
  .simp only[CB];exact eN
  rintro _ _ ⟨rfl,rfl⟩;refine⟨[(1,.nm 1),(101,.nm 101),(102,.nm 102),(2,.nm 2),(7,.nm 7)],.p .bool true,CB l L b (i+1),rfl,rfl,?_,?_,rfl,rfl,?_⟩
  .simp only[CB];exact eN
  .exact eN
  simp only[CB];refine F5 [0,1,5,6,7,14] a (by simp only[go_sem,Nat.reduceEqDiff,reduceCtorEq,Nat.reduceAdd,Nat.reduceSub,Nat.reduceMul,Nat.reduceLeDiff,Nat.reduceLT,Int.reduceLE,Int.reduceToNat,Int.reduceNeg,↓reduceIte];rfl) ?_ ?_
  .trivial
  repeat'(first|apply eS rfl|apply AB|refine rX a ?_ ?_|refine rC ?_ ?_<;>intro c<;>try(cases c;done))
  .exact eV
  refine⟨⟨i+1,by omega⟩,by simp only;omega,AC [(1,.nm 1),(101,.nm 101),(102,.nm 102),(2,.nm 2),(7,.nm 7)] rfl rfl ?_ ?_⟩
  .simp only[CB];exact eN
  exact eN
 have d:i=l.length:=by exact eV
 subst d;refine fM a [] (.raw (.tuple #[])) rfl ⟨rfl,?_⟩;simp only[CB,oR]
theorem YU (l:List (Int×Int)) (n:l.length<=100000):A7 Tryz.prog 189 [.raw (.slice none 0 0),.clo 177 [1]] [(1,.box 55 false [.p VY l])] [] (λres q=>res=.sr 7 DR 0 l.length/\q=[(7,.arr 59 DR l)]):=by
 refine fKR [0,1,2,4,5,6,7] [] [] Tryz.func189 Tryz.ntmps189 AI ?_;intro w0 K O0 ρ0 a t u;simp only[Am];repeat'(first|exact trivial|apply eS rfl|refine rX a ?_ ?_)
 refine Zp a rfl rfl (by simp only[go_sem,Nat.reduceEqDiff,reduceCtorEq,Nat.reduceAdd,Nat.reduceSub,Nat.reduceMul,Nat.reduceLeDiff,Nat.reduceLT,Int.reduceLE,Int.reduceToNat,Int.reduceNeg,↓reduceIte];rfl) 101 103 102 rfl rfl rfl rfl ?_;intro L c d f g h j k o;refine⟨_,CB l L c 0,[1,101,102,2],_,[(1,.nm 1),(101,.nm 101),(102,.nm 102),(2,.nm 2),(7,.nil)],[],gV l n L c ?_,rfl,rfl,?_,?_,rfl,?_⟩
 .intro i hi;refine Zn (fr:=102) rfl rfl d h j k g o rfl (by kernel_rfl) sc rfl rfl (by kernel_rfl) (by kernel_rfl) (tyTab_ok [] [0,1,2,4,5,6,7]) AI ?_;intro y r s z x a v w m;simp only[CB,HA];repeat'(first|exact trivial|apply AB|refine rX a ?_ ?_)
  refine⟨rfl,?_⟩;repeat'(first|apply eS rfl|refine rX a ?_ ?_)
  .simp only[AO];omega
  have e:List.take i (List.take i l)++[((l.getD i (0,0)).1,(l.getD i (0,0)).2)]=l.take (i+1):=by
   rw[A8 l (0,0) hi,By (Nat.le_of_eq (by rw[On];omega):(l.take i).length<=i)]
  refine Ev.ent (σ':=⟨[],[(1,.box 55 false [.p VY l]),(101,.loop { L with state:=.busy }),(102,.frame c [(2,.bp 2 [] 0),(6,.clo 177 [1])]),(2,.box 55 false [.sr 7 DR 0 (i+1)]),(7,.arr 59 DR (l.take (i+1)))]⟩) ?_ (AC [(1,.nm 1),(101,.nm 101),(102,.nm 102),(2,.nm 2),(7,.nm 7)] rfl rfl ?_ ?_)
  .refine WA a (yn:=101) rfl rfl sc m ⟨rfl,?_⟩;simp only[CB,go_sem,Nat.reduceEqDiff,reduceCtorEq,Nat.reduceAdd,Nat.reduceSub,Nat.reduceMul,Nat.reduceLeDiff,Nat.reduceLT,Int.reduceLE,Int.reduceToNat,Int.reduceNeg,↓reduceIte,bF d f]
  .refine eM ?_;exact e
  exact eN
 .simp only[BX];exact eN
 .simp only[BX,CB];exact eN
 rintro _ _ ⟨rfl,rfl⟩;refine⟨[(1,.nm 1),(101,.nm 101),(102,.nm 102),(2,.nm 2),(7,.nm 7)],CB l L c l.length,L,rfl,rfl,?_,rfl,rfl,rfl,by rw[d];rfl,?_⟩
 .simp only[CB];exact eN
 intro b;rw[f];simp only[EvJ,CB,BX,go_sem,Nat.reduceEqDiff,reduceCtorEq,Nat.reduceAdd,Nat.reduceSub,Nat.reduceMul,Nat.reduceLeDiff,Nat.reduceLT,Int.reduceLE,Int.reduceToNat,Int.reduceNeg,↓reduceIte];replace a:=Pe (dn:=103) (b:=b) a;repeat'(first|exact trivial|apply eS rfl|refine rX a ?_ ?_)
 refine Ev.ent (σ':=⟨[(4,.sr 7 DR 0 l.length)],[(7,.arr 59 DR l),(103,.dfr)]⟩) ?_ (AC [(7,.nm 7),(103,.nm 103)] rfl rfl ?_ ?_)
 .exact TN a [.tmp 4] rfl (.inl rfl) rfl rfl (.sr 7 DR 0 l.length) eT ⟨rfl,by simp only[go_sem,Nat.reduceEqDiff,reduceCtorEq,Nat.reduceAdd,Nat.reduceSub,Nat.reduceMul,Nat.reduceLeDiff,Nat.reduceLT,Int.reduceLE,Int.reduceToNat,Int.reduceNeg,↓reduceIte]⟩
 .exact eN
 exact eN
theorem gW (l:List (Int×Int)) (b:l.length<=100000):A7 Tryz.prog 175 [.clo 177 [1]] [(1,.box 55 false [.p VY l])] [] (λres c=>res=.sr 7 DR 0 l.length/\c=[(7,.arr 59 DR l)]):=by
 refine JP [0,2] [] [] Tryz.func175 Tryz.ntmps175 AI ?_;intro w0 K O0 ρ0 a d e;simp only[Am];repeat'(first|exact trivial|apply eS rfl|refine rX a ?_ ?_)
 refine cP 1 a ?_ ?_
 .trivial
 refine rM a (YU l b) [(1,.nm 1)] [1] ?_ ?_ ?_
 .exact eN
 .exact eN
 rintro _ _ ⟨rfl,rfl⟩;refine⟨[(7,.nm 7)],.sr 7 DR 0 l.length,[(7,.arr 59 DR l)],rfl,rfl,?_,?_,rfl,rfl,?_⟩
 .exact eN
 .exact eN
 refine F5 [2] a (by simp only[go_sem,Nat.reduceEqDiff,reduceCtorEq,Nat.reduceAdd,Nat.reduceSub,Nat.reduceMul,Nat.reduceLeDiff,Nat.reduceLT,Int.reduceLE,Int.reduceToNat,Int.reduceNeg,↓reduceIte];rfl) ?_ ?_
 .trivial
 repeat' apply eS rfl
 exact fM a [.tmp 2] (.sr 7 DR 0 l.length) eT ⟨rfl,rfl⟩
theorem w7 (x:Int) (h0:0<=x) (h1:x<256):A7 Tryz.prog 209 [.p (.int .u64) x] [] [] (λres g=>(∃n:Int,res=.p T3 n/\(13<=x->n≠0))/\g=[]):=by
 refine JP [0,2,4,8,14] [] [] Tryz.func209 Tryz.ntmps209 AI ?_;intro w0 K O0 ρ0 a i j;simp only[Am];repeat'(first|exact trivial|apply eS rfl|refine rX a ?_ ?_|refine rC ?_ ?_<;>intro b<;>try(cases b;done))
 all_goals first|(exfalso;omega)|skip
 refine Kn [0,2] a rfl (by simp only[go_sem,Nat.reduceEqDiff,reduceCtorEq,Nat.reduceAdd,Nat.reduceSub,Nat.reduceMul,Nat.reduceLeDiff,Nat.reduceLT,Int.reduceLE,Int.reduceToNat,Int.reduceNeg,↓reduceIte,ByteArray.size,List.size_toArray,AO];rfl) ?_ ?_
 .have hu:∀u:UInt8,((u.toNat:Nat):Int)<=255:=λu=>by have:=u.toNat_lt;omega
  refine⟨⟨h0,by omega⟩,⟨h0,?_⟩,⟨?_,?_⟩,?_,?_⟩
  .have c:x<((256:Nat):Int):=h1;exact c
  .exact AB6 dg (AAq _)
  .exact AB6 (hu _) dg
  .rw[Int.zero_add];exact AB6 dg (AAq _)
  rw[Int.zero_add];exact AB6 (hu _) dg
 repeat' apply eS rfl
 refine fM a [.tmp 2] (.p T3 _) (by simp only[Qg,nS,PY,V1,IV,JF,H7,go_sem,Nat.reduceEqDiff,reduceCtorEq,Nat.reduceAdd,Nat.reduceSub,Nat.reduceMul,Nat.reduceLeDiff,Nat.reduceLT,Int.reduceLE,Int.reduceToNat,Int.reduceNeg,↓reduceIte];rfl) ⟨⟨_,rfl,λh=>?_⟩,rfl⟩;rw[Int.zero_add];intro e;replace e:=Int.ofNat.inj e;have d:x.toNat<256:=by omega
 have f:13<=x.toNat:=by omega
 generalize x.toNat=k at *;clear b;exact absurd e (by
  clear e;revert f;revert d;revert k;decide)
theorem A4E (x:Int) (h0:0<=x) (h1:x<256):A7 Tryz.prog 191 [.p (.int .u64) x] [] [] (λres d=>(∃n:Int,res=.p T3 n/\(13<=x->n≠0))/\d=[]):=by
 refine JP [0,2] [] [] Tryz.func191 Tryz.ntmps191 AI ?_;intro w0 K O0 ρ0 a e f;simp only[Am];repeat'(first|exact trivial|apply eS rfl|refine rX a ?_ ?_|refine rC ?_ ?_<;>intro b<;>try(cases b;done))
 refine cP 1 a ?_ ?_
 .trivial
 refine rM a (w7 x h0 h1) [] [] ?_ ?_ ?_
 .exact eN
 .exact eN
 rintro _ _ ⟨⟨n,rfl,c⟩,rfl⟩;refine⟨[],.p T3 n,[],rfl,rfl,?_,?_,rfl,rfl,?_⟩
 .exact eN
 .exact eN
 refine F5 [2] a (by simp only[go_sem,Nat.reduceEqDiff,reduceCtorEq,Nat.reduceAdd,Nat.reduceSub,Nat.reduceMul,Nat.reduceLeDiff,Nat.reduceLT,Int.reduceLE,Int.reduceToNat,Int.reduceNeg,↓reduceIte];rfl) ?_ ?_
 .trivial
 repeat' apply eS rfl
 exact fM a [.tmp 2] (.p T3 n) eT ⟨⟨_,rfl,c⟩,rfl⟩
theorem bG (l:List (Int×Int)) (b:SS l) (hs:bE l):A7 Tryz.prog 176 [.sr 1000000 DR 0 l.length,.fn 140] [(1000000,.arr 59 DR l)] [1000000] (λres e=>res=.raw (.tuple #[])/\e=[(1000000,.arr 59 DR (BL l))]):=by
 have f:=b.1;refine JP [0,1,4] [] [] Tryz.func176 Tryz.ntmps176 AI ?_;intro w0 K O0 ρ0 a g h;simp only[Am];repeat'(first|exact trivial|apply eS rfl|refine rX a ?_ ?_)
 refine cP 4 a ?_ ?_
 .exact eV
 refine rM a (A4E (l.length:Int) O1 O1) [] [] ?_ ?_ ?_
 .exact eN
 .exact eN
 rintro _ _ ⟨⟨n,rfl,d⟩,rfl⟩;refine⟨[],.p T3 n,[],rfl,rfl,?_,?_,rfl,rfl,?_⟩
 .exact eN
 .exact eN
 have key:=A1x l b.1 hs b.2 n λq=>d O1;refine N3 a 1 (by simp only[go_sem,Nat.reduceEqDiff,reduceCtorEq,Nat.reduceAdd,Nat.reduceSub,Nat.reduceMul,Nat.reduceLeDiff,Nat.reduceLT,Int.reduceLE,Int.reduceToNat,Int.reduceNeg,↓reduceIte];rfl) ?_ ?_
 .trivial
 refine rM a (key) [(1000000,.nm 1000000)] [] ?_ ?_ ?_
 .exact eN
 .exact eN
 rintro _ _ ⟨rfl,rfl⟩;have i:=EB l;refine⟨[(1000000,.nm 1000000)],.raw (.tuple #[]),[(1000000,.arr 59 DR (BL l))],rfl,rfl,?_,?_,rfl,rfl,Fu ?_⟩
 .exact eN
 .exact eN
 repeat'(first|exact trivial|apply eS rfl|apply AB|refine rX a ?_ ?_|refine rC ?_ ?_<;>intro c<;>try(cases c;done))
 exact fM a [] (.raw (.tuple #[])) rfl ⟨rfl,rfl⟩
theorem MU (l:List (Int×Int)) (b:SS l) (hs:bE l):A7 Tryz.prog 138 [.clo 177 [1],.fn 140] [(1,.box 55 false [.p VY l])] [] (λres c=>res=.sr 7 DR 0 l.length/\c=[(7,.arr 59 DR (BL l))]):=by
 have g:=EB l;have d:=b.1;refine JP [0,1,4,5] [] [] Tryz.func138 Tryz.ntmps138 AI ?_;intro w0 K O0 ρ0 a e f;simp only[Am];repeat'(first|exact trivial|apply eS rfl|refine rX a ?_ ?_)
 refine cP 1 a ?_ ?_
 .trivial
 refine rM a (gW l O1) [(1,.nm 1)] [1] ?_ ?_ ?_
 .exact eN
 .exact eN
 rintro _ _ ⟨rfl,rfl⟩;refine⟨[(1000000,.nm 7)],.sr 1000000 DR 0 l.length,[(1000000,.arr 59 DR l)],rfl,rfl,?_,?_,rfl,rfl,?_⟩
 .exact eN
 .exact eN
 refine F5 [1,5] a (by simp only[go_sem,Nat.reduceEqDiff,reduceCtorEq,Nat.reduceAdd,Nat.reduceSub,Nat.reduceMul,Nat.reduceLeDiff,Nat.reduceLT,Int.reduceLE,Int.reduceToNat,Int.reduceNeg,↓reduceIte];rfl) ?_ ?_
 .trivial
 repeat' apply eS rfl
 refine cP 2 a ?_ ?_
 .trivial
 refine rM a (bG l b hs) [(1000000,.nm 1000000)] [] ?_ ?_ ?_
 .exact eN
 .exact eN
 rintro _ _ ⟨rfl,rfl⟩;refine⟨[(1000000,.nm 1000000)],.raw (.tuple #[]),[(1000000,.arr 59 DR (BL l))],rfl,rfl,?_,?_,rfl,rfl,Fu ?_⟩
 .exact eN
 .exact eN
 repeat'(first|exact trivial|apply eS rfl|refine rX a ?_ ?_)
 refine Ev.ent (σ':=⟨[(4,.sr 7 DR 0 l.length)],[(7,.arr 59 DR (BL l))]⟩) ?_ (AC [(7,.nm 1000000)] rfl rfl ?_ ?_)
 .exact fM a [.tmp 4] (.sr 7 DR 0 l.length) eT ⟨rfl,rfl⟩
 .exact eN
 exact eN
def J1 (f:List AD) (o:List Int):List (Nat×Obj):=[(1,.box 101 false [.sr 5 T3 0 o.length]),(2,.box 79 false [.mp 6]),(3,.box 34 true [.p VZ f]),(4,.box 176 false [.clo 137 [1,2,3,4]]),(5,.arr 3 T3 o),(6,.mapo T3 T3 (rA o))]
theorem A6z {f:List AD} {o:List Int} (h:Lv f o):Lv (DE f) o:=⟨h.nd,λx a=>by rw[EC];exact h.rng x a⟩
theorem A38 {f:List AD} {o:List Int} (h:Lv (DE f) o):Lv f o:=⟨h.nd,λx a=>by have:=h.rng x a;rwa [EC]at this⟩
theorem pI (f:List AD) (hf:Aa f) (hs:NdF f):∀(k:Nat) (o:List Int) (n:Int),Lv f o->0<=n->n<f.length->n∉o->f.length-o.length<=k ->
  A7 Tryz.prog 137 [.p T3 n,.bp 1 [] 0,.bp 2 [] 0,.bp 3 [] 0,.bp 4 [] 0] (J1 f o) [1,2,3,4,6] (λres Q=>res=.raw (.tuple #[])/\Q=J1 f (EH (DE f) k o n)):=by
 intro k;induction k with
 | zero =>
  intro o n h0 h1 B C R;have:=(h0.snoc h1 B C).len;simp only[If,nO]at this;omega
 | succ k P =>
  intro o n E u v w hk;have t:=E.snoc u v w;have I:=t.len;simp only[If,nO]at I;have S:=hf.1;refine JP [0,1,2,3,4,7,9,25,26,27,28,39] [] [] Tryz.func137 Tryz.ntmps137 AI ?_;intro w0 K O0 ρ0 b U V;simp only[J1,Am];repeat'(first|exact trivial|apply eS rfl|refine rX b ?_ ?_)
  .simp only[AO];omega
  rw[w4 w];obtain⟨O,A⟩:=lJ hs n;have T:=A.1;have s:=λa (ha:a∈BL (f.getD n.toNat (0,[])).2)=>CK hf ((FH _).mem_iff.1 ha);have G:EH (DE f) (k+1) o n=(BL (f.getD n.toNat (0,[])).2).foldl (A2 (DE f) k) (o++[n]):=by rw[CS,Oi]
  have F:=A6z (f:=f) t;refine cP 6 b ?_ ?_
  .exact⟨u,v⟩
  generalize (f.getD n.toNat (0,[])).2=g at *;refine rM b (Wi g) [] [] ?_ ?_ ?_
  .exact eN
  .exact eN
  rintro _ _ ⟨rfl,rfl⟩;refine⟨[(50,.nm 1)],.clo 177 [50],[(50,.box 55 false [.p VY g])],rfl,rfl,?_,?_,rfl,rfl,?_⟩
  .exact eN
  .exact eN
  refine rM b (MU g A O) [(1,.nm 50)] [50] ?_ ?_ ?_
  .exact eN
  .exact eN
  rintro _ _ ⟨rfl,rfl⟩;have D:=EB g;rw[<-D];generalize BL g=L at *;refine⟨[(51,.nm 7)],.sr 51 DR 0 L.length,[(51,.arr 59 DR L)],rfl,rfl,?_,?_,rfl,rfl,?_⟩
  .exact eN
  .exact eN
  refine F5 [0,1,2,3,4,25,26,27] b (by simp only[go_sem,Nat.reduceEqDiff,reduceCtorEq,Nat.reduceAdd,Nat.reduceSub,Nat.reduceMul,Nat.reduceLeDiff,Nat.reduceLT,Int.reduceLE,Int.reduceToNat,Int.reduceNeg,↓reduceIte];rfl) ?_ ?_
  .trivial
  have N:∀i,Lv (DE f) ((L.take i).foldl (A2 (DE f) k) (o++[n]))/\o++[n] <+: (L.take i).foldl (A2 (DE f) k) (o++[n]):=λi=>HQ (Fl (Lw hf) k) _ _ (λa ha=>by rw[EC];exact s a (AAs ha)) F;generalize J:o++[n]=q at *;have M:q.length=o.length+1:=by rw[<-J];simp
  rw[<-M];repeat' apply eS rfl
  refine AJ (ι:={i:Nat//i<=L.length}) (λi=>⟨[(0,.p T3 n),(1,.bp 1 [] 0),(2,.bp 2 [] 0),(3,.bp 3 [] 0),(4,.bp 4 [] 0),(25,.p VY L),(26,.p (.int .i64) (L.length:Int)),(27,.p (.int .i64) (i.1:Int))],J1 f ((L.take i.1).foldl (A2 (DE f) k) q)⟩) (λi=>L.length-i.1) ⟨0,by omega⟩ (A7l [51] (AC [(1,.nm 1),(2,.nm 2),(3,.nm 3),(4,.nm 4),(5,.nm 5),(6,.nm 6)] rfl rfl ?_ ?_)) (λi=>?_)
  .simp only[J1,AAJ,List.foldl_nil];exact eN
  .exact eN
  obtain⟨i,hi⟩:=i;obtain⟨j,y⟩:=N i;replace j:=A38 j;have r:=λ(h:i<L.length)=>Wg (A2 (DE f) k) L (0,0) q h;have H:=y.length_le;generalize x:(L.take i).foldl (A2 (DE f) k) q=c at j y r H;simp only[J1];repeat'(first|exact trivial|apply eS rfl|apply AB|refine rX b ?_ ?_|refine rC ?_ ?_<;>intro d<;>try(cases d;done))
  .exact eV
  .have l:i<L.length:=by exact eV
   have z:=s _ (AG L (0,0) l);have m:(L.getD i (0,0)).2∉c:=by rw[UI]at d;simpa using d
   refine cP 3 b ?_ ?_
   .trivial
   refine rM b (P c (L.getD i (0,0)).2 j z.1 z.2 m O1) [(1,.nm 1),(2,.nm 2),(3,.nm 3),(4,.nm 4),(5,.nm 5),(6,.nm 6)] [5] ?_ ?_ ?_
   .exact eN
   .simp only[J1];exact eN
   rintro _ _ ⟨rfl,rfl⟩;refine⟨[(1,.nm 1),(2,.nm 2),(3,.nm 3),(4,.nm 4),(5,.nm 5),(6,.nm 6)],.raw (.tuple #[]),J1 f (EH (DE f) k c (L.getD i (0,0)).2),rfl,rfl,?_,?_,rfl,rfl,Fu ?_⟩
   .simp only[J1];exact eN
   .exact eN
   simp only[J1];repeat'(first|apply eS rfl|apply AB|refine rX b ?_ ?_)
   .exact eV
   have e:A2 (DE f) k c (L.getD i (0,0))=EH (DE f) k c (L.getD i (0,0)).2:=As m;refine⟨⟨i+1,by omega⟩,by simp only;omega,AC [(1,.nm 1),(2,.nm 2),(3,.nm 3),(4,.nm 4),(5,.nm 5),(6,.nm 6)] rfl rfl ?_ ?_⟩
   .simp only[r l,e];exact eN
   exact eN
  .exact eV
  .have l:i<L.length:=by exact eV
   have m:(L.getD i (0,0)).2∈c:=by rw[UI]at d;simpa using d
   have e:A2 (DE f) k c (L.getD i (0,0))=c:=At m;refine⟨⟨i+1,by omega⟩,by simp only;omega,AC [(1,.nm 1),(2,.nm 2),(3,.nm 3),(4,.nm 4),(5,.nm 5),(6,.nm 6)] rfl rfl ?_ ?_⟩
   .simp only[r l,e];exact eN
   exact eN
  have hk:L.take i=L:=By (by exact eV);rw[hk]at x;rw[G,x];exact fM b [] (.raw (.tuple #[])) rfl ⟨rfl,rfl⟩
section
theorem pJ {α a:Type} (g:α->a) (o:List α) (d:α) (z:a) {i:Nat} (h:i<o.length):((o.take i).map g++List.replicate (o.length-i) z).set i (g (o.getD i d))=(o.take (i+1)).map g++List.replicate (o.length-(i+1)) z:=by
 obtain⟨m,c⟩:∃m,o.length-i=m+1:=⟨o.length-i-1,by omega⟩;have e:o.length-(i+1)=m:=by omega
 have b:((o.take i).map g).length=i:=by rw[dB,On];omega
 rw[c,e,ABW _ _ O1,b,AAY,List.replicate_succ,ACc,A8 o d h,AAH];simp
def R5:AX:={ ins:=[MM,T3],pre:=λ(f,n,_)=>Aa f/\NdF f/\0<=n/\n<(List.length f:Int),out:=λ(f,n,_)=>[.p MM (AQ (DE f) n)] }
attribute [local go_sem] R5
theorem pK:Ac Tryz.prog 92 R5:=by
 refine fK [0,1,2,4,5,6,7,8,9,10,11,12,22,23,24,25,38,39,40] Tryz.func92 Tryz.ntmps92 AI ?_;rintro w0 O0 ⟨f,root,u⟩ a-⟨hf,hs,r,s⟩;simp only[R5,AM];have z:=hf.1;have l:Lv f []:=⟨by simp,λx D=>by cases D⟩;obtain⟨g,I⟩:=Fl (Lw hf) f.length [] root (A6z l) r (by rw[EC];exact s) sc;replace g:=A38 g;have w:AQ (DE f) root=(EH (DE f) f.length [] root).map (Ip (DE f) (EH (DE f) f.length [] root)):=by unfold AQ;rw[EC]
 rw[w];repeat'(first|exact trivial|apply eS rfl|apply AB|refine rX a ?_ ?_|refine rC ?_ ?_<;>intro c<;>try(cases c;done))
 refine cP 2 a ?_ ?_
 .trivial
 refine rM a (pI f hf hs (List.length f) [] root l r s sc sc) [(1,.nm 6),(2,.nm 5),(3,.nm 2),(4,.nm 7),(5,.nil),(6,.nm 13)] [] ?_ ?_ ?_
 .exact eN
 .simp only[J1];refine eM ?_;rfl
 rintro _ _ ⟨rfl,rfl⟩;refine⟨[(6,.nm 1),(5,.nm 2),(2,.nm 3),(7,.nm 4),(101,.nm 5),(13,.nm 6)],.raw (.tuple #[]),[(6,.box 101 false [.sr 101 T3 0 (EH (DE f) (List.length f) [] root).length]),(5,.box 79 false [.mp 13]),(2,.box 34 true [.p VZ f]),(7,.box 176 false [.clo 137 [6,5,2,7]]),(101,.arr 3 T3 (EH (DE f) (List.length f) [] root)),(13,.mapo T3 T3 (rA (EH (DE f) (List.length f) [] root)))],rfl,rfl,?_,?_,rfl,rfl,Fu ?_⟩
 .simp only[J1];exact eN
 .exact eN
 generalize EH (DE f) (List.length f) [] root=o at *;have H:=g.len;repeat'(first|exact trivial|apply eS rfl|apply AB|refine rX a ?_ ?_|refine rC ?_ ?_<;>intro c<;>try(cases c;done))
 .simp only[AO];omega
 refine AJ (ι:={i:Nat//i<=o.length}) (λi=>⟨[(2,.bp 2 [] 0),(4,.bp 4 [] 0),(5,.bp 5 [] 0),(8,.bp 8 [] 0),(22,.sr 101 T3 0 o.length),(23,.p (.int .i64) (o.length:Int)),(24,.p (.int .i64) (i.1:Int))],[(8,.box 34 true [.sr 20 dC 0 o.length]),(20,.arr 57 dC ((o.take i.1).map (Ip (DE f) o)++List.replicate (o.length-i.1) (0,[]))),(5,.box 79 false [.mp 13]),(2,.box 34 true [.p VZ f]),(101,.arr 3 T3 o),(13,.mapo T3 T3 (rA o)),(4,.box 34 true [.raw (.slice none 0 0)])]⟩) (λi=>o.length-i.1) ⟨0,by omega⟩ (eW [(8,.nm 8),(20,.nm 20),(5,.nm 5),(2,.nm 2),(101,.nm 101),(13,.nm 13),(4,.nm 4)]) (λi=>?_)
 obtain⟨i,hi⟩:=i;repeat'(first|exact trivial|apply eS rfl|apply AB|refine rX a ?_ ?_|refine rC ?_ ?_<;>intro c<;>try(cases c;done))
 .exact eV
 .have m:i<o.length:=by exact eV
  have hn:=g.rng _ (AG o 0 m);have q:Ip (DE f) o (o.getD i 0)=((f.getD (o.getD i 0).toNat (0,[])).1,(BL (f.getD (o.getD i 0).toNat (0,[])).2).map (L8 o)):=by unfold Ip;rw[Oi]
  obtain⟨t,j⟩:=lJ hs (o.getD i 0);have B:=j.1;refine cP 6 a ?_ ?_
  .exact hn
  have G:List.length f<=100000:=z;generalize C:o.getD i 0=n at *;generalize A:f.getD n.toNat (0,[])=x at *;obtain⟨J,d⟩:=x;simp only at t j B q;refine rM a (Wi d) [] [] ?_ ?_ ?_
  .exact eN
  .exact eN
  rintro _ _ ⟨rfl,rfl⟩;refine⟨[(50,.nm 1)],.clo 177 [50],[(50,.box 55 false [.p VY d])],rfl,rfl,?_,?_,rfl,rfl,?_⟩
  .exact eN
  .exact eN
  refine rM a (MU d j t) [(1,.nm 50)] [50] ?_ ?_ ?_
  .exact eN
  .exact eN
  rintro _ _ ⟨rfl,rfl⟩;have v:=EB d;rw[<-v];generalize F:BL d=L at *;refine⟨[(51,.nm 7)],.sr 51 DR 0 L.length,[(51,.arr 59 DR L)],rfl,rfl,?_,?_,rfl,rfl,?_⟩
  .exact eN
  .exact eN
  refine F5 [2,4,5,8,9,10,11,22,23,24] a (by simp only[go_sem,Nat.reduceEqDiff,reduceCtorEq,Nat.reduceAdd,Nat.reduceSub,Nat.reduceMul,Nat.reduceLeDiff,Nat.reduceLT,Int.reduceLE,Int.reduceToNat,Int.reduceNeg,↓reduceIte];rfl) ?_ ?_
  .trivial
  repeat'(first|exact trivial|apply eS rfl|apply AB|refine rX a ?_ ?_|refine rC ?_ ?_<;>intro c<;>try(cases c;done))
  refine AJ (ι:={k:Nat//k<=L.length}) (λk=>⟨[(2,.bp 2 [] 0),(4,.bp 4 [] 0),(5,.bp 5 [] 0),(8,.bp 8 [] 0),(9,.p (.int .i64) (i:Int)),(10,.p T3 n),(11,.sr 51 DR 0 L.length),(22,.sr 101 T3 0 o.length),(23,.p (.int .i64) (o.length:Int)),(24,.p (.int .i64) (i:Int)),(38,.p (.int .i64) (L.length:Int)),(39,.p (.int .i64) (k.1:Int))],[(51,.arr 59 DR ((L.take k.1).map (L8 o)++L.drop k.1)),(8,.box 34 true [.sr 20 dC 0 o.length]),(20,.arr 57 dC ((o.take i).map (Ip (DE f) o)++List.replicate (o.length-i) (0,[]))),(5,.box 79 false [.mp 13]),(2,.box 34 true [.p VZ f]),(101,.arr 3 T3 o),(13,.mapo T3 T3 (rA o)),(4,.box 34 true [.raw (.slice none 0 0)])]⟩) (λk=>L.length-k.1) ⟨0,by omega⟩ (eW [(51,.nm 51),(8,.nm 8),(20,.nm 20),(5,.nm 5),(2,.nm 2),(101,.nm 101),(13,.nm 13),(4,.nm 4)]) (λk=>?_)
  obtain⟨k,hk⟩:=k;repeat'(first|exact trivial|apply eS rfl|apply AB|refine rX a ?_ ?_|refine rC ?_ ?_<;>intro c<;>try(cases c;done))
  .exact eV
  .exact eV
  .have h:k<L.length:=by exact eV
   have e:=w3 (L8 o) (λb=>b) L (0,0) h (L8 o);refine⟨⟨k+1,by omega⟩,by simp only;omega,AC [(51,.nm 51),(8,.nm 8),(20,.nm 20),(5,.nm 5),(2,.nm 2),(101,.nm 101),(13,.nm 13),(4,.nm 4)] rfl rfl ?_ ?_⟩
   .refine eM ?_;rw[e.2];rw[<-e.1];unfold L8;rw[<-A1t]
   exact eN
  .exact⟨hn,by exact eV⟩
  .exact eV
  have h:L.take k=L:=By (by exact eV);have y:L.drop k=[]:=ON (by exact eV);refine⟨⟨i+1,by omega⟩,by simp only;omega,AC [(8,.nm 8),(20,.nm 20),(5,.nm 5),(2,.nm 2),(101,.nm 101),(13,.nm 13),(4,.nm 4)] rfl rfl ?_ ?_⟩
  .refine eM ?_;rw[h,y,AAk];have e:=pJ (Ip (DE f) o) o 0 (0,[]) m;rw[C,q]at e;rw[<-e,A,By (by simp:(L.map (L8 o)).length<=L.length)]
  exact eN
 have hk:o.take i=o:=By (by exact eV);have E:o.length-i=0:=by exact eV
 rw[hk,E];exact fI a [.cell 4 34] (by simp only[List.replicate_zero,AAk];first|exact eR|refine N9 ?_;exact By (by rw[dB];exact eV))
end
def GU (n:Int) (seen:List (Int×Int)):List (Int×Int)->Int
 | []=>0
 | x :: r=>if x.1<0\/x.2<0\/n<=x.2 then 2 else if (seen.any λy=>y.1==x.1)=true then 4 else GU n (seen++[x]) r
def Oj (l:List (Int×Int)) (n:Int):Int:=GU n [] l
theorem gX (n:Int) (l:List (Int×Int)) (h:k<l.length):GU n (l.take k) (l.drop k)=if (l.getD k (0,0)).1<0\/(l.getD k (0,0)).2<0\/n<=(l.getD k (0,0)).2 then 2 else if ((l.take k).any λy=>y.1==(l.getD k (0,0)).1)=true then 4 else GU n (l.take (k+1)) (l.drop (k+1)):=by
 rw[A8 l (0,0) h,OF h,AS,An h];rfl
def A7z (n:Int×List (Int×Int)):List Int:=n.1 :: (n.2.length:Int) :: n.2.flatMap λa=>[a.1,a.2]
def bH (f:List (Int×List (Int×Int))):List Int:=(f.length:Int) :: f.flatMap A7z
def A6A:List Int->List Int->Int
 | x :: xs,y :: ys=>if x<y then -1 else if y<x then 1 else A6A xs ys
 | _,_=>0
def w8 (a b:List (Int×List (Int×Int))):Int:=A6A (bH a) (bH b)
def gY (f:List (Int×List (Int×Int))):Prop:=f.length<=100000/\∀n∈f,n.2.length<=100000
def J2 (m:Int):List (Int×List (Int×Int))->Int
 | []=>0
 | n :: r=>if n.1<0 then 2 else if Oj n.2 m≠0 then Oj n.2 m else J2 m r
def FQ (f:List (Int×List (Int×Int))):Int:=if f.length=0 then 1 else if 4096<f.length then 7 else J2 f.length f
theorem UK (m:Int) (l:List (Int×List (Int×Int))) (h:k<l.length):J2 m (l.drop k)=if (l.getD k (0,[])).1<0 then 2 else if Oj (l.getD k (0,[])).2 m≠0 then Oj (l.getD k (0,[])).2 m else J2 m (l.drop (k+1)):=by
 rw[OF h,AS,An h];rfl
end Go.Proofs.YtglkoagnnnpimaaGreatDoor.Fw
