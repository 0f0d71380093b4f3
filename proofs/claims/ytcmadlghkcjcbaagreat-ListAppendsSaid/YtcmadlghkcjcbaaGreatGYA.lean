/- Contracts of functions and plain laws. -/
import Derived.Test.YtcmadlghkcjcbaaGreatGZJ
import Derived.Test.YtcmadlghkcjcbaaGreatGZI
set_option linter.unusedVariables false
set_option linter.unusedSimpArgs false
namespace Go.Proofs.YtcmadlghkcjcbaaGreat.Fw
attribute [local irreducible] Ev
attribute [local go_sem] tA AM List.toList_toArray B5 evG evK YW K1 L1 I5 Ho Ga TQ Lz CY Dp Pn DL DB frz wZ HL DY BB Gh Bj AV.frz AV.frzs AV.drp AV.drps AV.names AV.namess aq HN Lo Lp Va KW Bo B9 LP E8 KZ E9 Kb Ka Kd YU TG H8 ND Gj Ey YV UW qUn LQ Jt Od F2 EY Ke Lr FE Vc C2 FF F3 UX Ju Pl F4 Pk TJ UY OB Kg Ls DZ DD F7 EZ JS Dl F5 Dm FG G7 DL C9 Rf UV Rk Hi KY KX Lq Pm TM OC Oi Og Lv Vd Oh Lw fG TP TN AV.trn AV.trns Eh C1 Obj.trn LY oD DW D7 DV FH Ct F6 Aq lk Iz Hd JQ bin wY aW w6 Vb zf1 zfs pfs AV.cells CS LO Rj Lu TL Cj Pj Ty.cell1 KV FX EX G5 N2 FD Lk OA Ri G4 Hh Oc VY YT N1 Lj fD m9 VZ I0 DA H7 RV.flat Ty.flat Ty.size St.add upd del Bh Value.oneCell' Ln Ty.dflt KT Uv Jz U1 List.take_succ_cons List.take_zero List.length_cons tE tF U0 MJ QH J1 NU A5m Hp P6 P7 P8 P9 Vx Vy QA Ko bQ Option.map_some Option.map_none Option.bind_some Option.getD_some Option.getD_none Option.isNone_none Option.isNone_some Bool.and_true Bool.true_and Bool.and_false Bool.false_and Bool.not_true Bool.not_false if_true if_false List.length_cons List.length_nil and_true true_and and_self List.all_cons List.all_nil List.append_nil List.nil_append List.cons_append List.getElem?_cons_zero List.getElem?_cons_succ List.getElem?_nil List.map_cons List.map_nil List.set_cons_zero List.set_cons_succ List.isEmpty_nil List.isEmpty_cons decide_true decide_false beq_self_eq_true bne_self_eq_false Nat.zero_add Nat.add_zero Nat.sub_zero Int.toNat_natCast Int.toNat_zero Int.toNat_one List.take_length List.length_append List.length_singleton true_or or_true or_self false_or or_false Ty.agg.injEq Ty.slice.injEq Ty.prod.injEq Ty.int.injEq Option.some.injEq beq_iff_eq NR evMG evMQ opM Jb OH CE LX HP Ti LV Ja Kp NQ MF Rv QE Rw V1 QD Ux Uy NP Ad Ap Op.operands Call.operands List.filterMap_cons List.filterMap_nil List.append_eq Bool.cond_false_right Bool.cond_true_left cond_true cond_false implies_true decide_eq_true_eq beq_true beq_false Bool.or_true Bool.or_false Bool.true_or Bool.false_or Option.isSome_some Array.empty_append List.append_toArray Gi Po F8 I1 fF TK G6 Hu Ht Jv JR Lt Oe aX w5 Iv inB Lx G2 Hj Ly Ax tJ List.drop_zero Dr I8 gK Cf ML Cc AV.fgt AV.fgts Obj.fgt Az Ao Ad Dc Jc BS IE List.any_cons List.any_nil tL n4 gL n5 N5 Ub qs List.flatMap_cons List.flatMap_nil List.cons_append tn gT II List.take_succ_cons List.drop_succ_cons gX HQ BD A1r R4 CJ Ca Ah GD MA B2 GC Ea JY Kn HO JZ
attribute [local go_sem] ty1 ty2 ty3 ty4 ty5 ty9 A82 A83 A84 A85 A86 A87 A88 A89 A8a A8b A8c A8d A8e A8f A8g A8h A8i A8j A8k A8l A8m A8n A8o A1y A1z A1A A1B A1C A1D A1E A1F A1G A1H A1I A1J A1K A1L A1M A1N A1O A1P A1Q A1R A1S A1T A1U A1V A1W A1X A1Y A1Z A20 A21
set_option maxRecDepth 100000
set_option maxHeartbeats 4000000
variable {k j i X:Nat} {o m:List ByteArray} {a b:List Int} {s x:ByteArray} {l r:List (Int×Int)} {c W:List (List Int)} {n y:Int} {f:List (Int×List (Int×Int))} {Z Y:Type} {V:Int×Int}
section
def Jg (a b c:Int):Bool:=decide (a<=c)&&decide (c<=b)
def oM:Ab:={ ins:=[.int .u8],pre:=λ_=>True,out:=λ(c,_)=>[.p .bool (Jg 48 57 c)] }
attribute [local go_sem] oM
def oO:Ab:={ ins:=[.int .u8],pre:=λ_=>True,out:=λ(c,_)=>[.p .bool (Jg 65 90 c)] }
attribute [local go_sem] oO
def oP:Ab:={ ins:=[.int .u8],pre:=λ_=>True,out:=λ(c,_)=>[.p .bool (Jg 97 122 c)] }
attribute [local go_sem] oP
theorem iB:Ac Tryz.prog 158 oM:=by
 refine fK [0,2] Tryz.func158 Tryz.ntmps158 AI ?_;rintro w0 O0 ⟨c,u⟩ a - -;simp only[oM,AM];repeat'(first|exact trivial|apply eS rfl|refine rX a ?_ ?_)
 exact fI a [.tmp 2] (by unfold Jg;exact eR)
theorem A27:Ac Tryz.prog 170 oO:=by
 refine fK [0,2] Tryz.func170 Tryz.ntmps170 AI ?_;rintro w0 O0 ⟨c,u⟩ a - -;simp only[oO,AM];repeat'(first|exact trivial|apply eS rfl|refine rX a ?_ ?_)
 exact fI a [.tmp 2] (by unfold Jg;exact eR)
theorem A28:Ac Tryz.prog 171 oP:=by
 refine fK [0,2] Tryz.func171 Tryz.ntmps171 AI ?_;rintro w0 O0 ⟨c,u⟩ a - -;simp only[oP,AM];repeat'(first|exact trivial|apply eS rfl|refine rX a ?_ ?_)
 exact fI a [.tmp 2] (by unfold Jg;exact eR)
def WW (c:Int) (a:Bool):Bool:=Jg 48 57 c||c==45||a&&Jg 65 90 c||!a&&Jg 97 122 c
def A29:Ab:={ ins:=[.int .u8,.bool],pre:=λ_=>True,out:=λ(c,b,_)=>[.p .bool (WW c b)] }
attribute [local go_sem] A29
theorem A5x:Ac Tryz.prog 159 A29:=by
 refine fK [0,1,4] Tryz.func159 Tryz.ntmps159 (AF iB (AF A27 (AF A28 AI))) ?_;rintro w0 O0 ⟨c,b,u⟩ a - -;simp only[A29,AM];repeat'(first|exact trivial|apply eS rfl|refine rX a ?_ ?_)
 exact fI a [.tmp 4] (by unfold WW;exact eR)
abbrev chr (s:ByteArray) (i:Nat):Int:=((s.data.getD i 0).toNat:Int)
def R7 (s:ByteArray):Bool:=decide ((s.size:Int)<1)||decide (32<(s.size:Int))||Jg 48 57 (chr s 0)||chr s 0==45
def FB (s:ByteArray) (a:Bool):Bool:=!R7 s&&(List.range s.size).all λi=>WW (chr s i) a
def oQ:Ab:={ ins:=[T9,.bool],pre:=λ_=>True,out:=λ(s,b,_)=>[.p .bool (FB s b)] }
attribute [local go_sem] oQ
theorem iC:Ac Tryz.prog 153 oQ:=by
 refine fK [0,1,4,5,23,27,35] Tryz.func153 Tryz.ntmps153 (AF iB (AF A5x AI)) ?_;rintro w0 O0 ⟨s,b,u⟩ d - -;simp only[oQ,AM];repeat'(first|exact trivial|apply eS rfl|refine rX d ?_ ?_|refine rC ?_ ?_<;>intro a<;>try(cases a;done))
 .constructor
  .intro h;simp only[RQ,AAo,RT]at h;have:1<=(s.size:Int):=by omega
   exact this
  intro h;simp only[RQ,AAo,RT]at h;have:1<=(s.size:Int):=by omega
  exact this
 .have h1:R7 s=true:=by
   unfold R7 chr;simp only[TB,ON,TE];exact a
  have c:FB s b=false:=by unfold FB;rw[h1];rfl
  exact fI d [.tmp 4] (by rw[c];exact eR)
 have h1:R7 s=false:=by
  unfold R7 chr;simp only[AAo,RT,AAW];exact⟨⟨⟨by omega,by omega⟩,a.1.2⟩,a.2⟩
 have g:s.size<=32:=by omega
 refine AJ (ι:={k:Nat//k<=s.size/\((List.range k).all λi=>WW (chr s i) b)=true}) (λk=>⟨[(0,.p T9 s),(1,.p .bool b),(5,.p (.int .i64) (k.1:Int))],[]⟩) (λk=>s.size-k.1) ⟨0,by simp⟩ (eW []) (λk=>?_)
 obtain⟨k,hk,f⟩:=k;repeat'(first|exact trivial|apply eS rfl|apply AB|refine rX d ?_ ?_|refine rC ?_ ?_<;>intro a<;>try(cases a;done))
 .exact a
 .have e:k<s.size:=by omega
  have c:FB s b=false:=by
   unfold FB;rw[ABG];refine .inr (ABg.2 λh=>?_);have:=Of.1 h k (Ra.2 e);rw[show WW (chr s k) b=false from a]at this;cases this
  exact fI d [.tmp 4] (by rw[c];exact eR)
 .omega
 .have e:k<s.size:=by omega
  refine⟨⟨k+1,by omega,?_⟩,by simp only;omega,AD [] rfl rfl ?_ ?_⟩
  .rw[S9,ABV,f];rw[ACM,ABi,List.all_nil,Bool.and_true];exact a
  .exact eN
  exact eN
 have e:k=s.size:=by omega
 subst e;have c:FB s b=true:=by unfold FB;rw[h1,f];rfl
 exact fI d [.tmp 4] (by rw[c];exact eR)
def A2a:Ab:={ ins:=[T9],pre:=λ_=>True,out:=λ(s,_)=>[.p .bool (FB s false)] }
def WX:Ab:={ ins:=[T9],pre:=λ_=>True,out:=λ(s,_)=>[.p .bool (FB s true)] }
theorem A5y:Ac Tryz.prog 140 A2a:=by
 refine fK [0,2] Tryz.func140 Tryz.ntmps140 (AF iC AI) ?_;rintro w0 O0 ⟨s,u⟩ a - -;simp only[A2a,AM];repeat'(first|exact trivial|apply eS rfl|refine rX a ?_ ?_)
 exact fI a [.tmp 2]
theorem oT:Ac Tryz.prog 138 WX:=by
 refine fK [0,2] Tryz.func138 Tryz.ntmps138 (AF iC AI) ?_;rintro w0 O0 ⟨s,u⟩ a - -;simp only[WX,AM];repeat'(first|exact trivial|apply eS rfl|refine rX a ?_ ?_)
 exact fI a [.tmp 2]
end
section
theorem NY {α:Type} (l:List α) (d:α) (p:α->Bool) (h:k<l.length):(l.take (k+1)).any p=((l.take k).any p||p (l.getD k d)):=by
 rw[Af l d h,ABU];simp
theorem JA {α:Type} (l:List α) (d:α) (p:α->Bool) (h:k<l.length) (a:p (l.getD k d)=true):l.any p=true :=
 Re.2 ⟨_,AE l d h,a⟩
def Ai (l:List ByteArray) (s:ByteArray):Bool:=l.any λx=>Ae x s
def Jh:Ab:={ ins:=[GY,T9],pre:=λ_=>True,out:=λ(l,n,_)=>[.p .bool (Ai l n)],lend:=true }
attribute [local go_sem] Jh
theorem HC:Ac Tryz.prog 118 Jh:=by
 refine fK [0,1,4,5,9,17] Tryz.func118 Tryz.ntmps118 AI ?_;rintro w0 O0 ⟨l,n,u⟩ a ⟨⟨hl,-⟩,-⟩ -;simp only[AQ]at hl;simp only[Jh,AM];repeat'(first|exact trivial|apply eS rfl|refine rX a ?_ ?_)
 refine AJ (ι:={k:Nat//k<=l.length/\(l.take k).any (λx=>Ae x n)=false}) (λk=>⟨[(0,.p GY l),(1,.p T9 n),(5,.p (.int .i64) (k.1:Int))],[]⟩) (λk=>l.length-k.1) ⟨0,by simp⟩ (eW []) (λk=>?_)
 obtain⟨k,hk,c⟩:=k;repeat'(first|exact trivial|apply eS rfl|apply AB|refine rX a ?_ ?_|refine rC ?_ ?_<;>intro b<;>try(cases b;done))
 .exact eV
 .have d:k<l.length:=by exact eV
  have h1:Ai l n=true:=JA l ByteArray.empty _ d b;exact fI a [.tmp 4] (by rw[h1];exact eR)
 .exact eV
 .have d:k<l.length:=by exact eV
  refine⟨⟨k+1,by exact eV,?_⟩,by simp only;exact eV,AD [] rfl rfl ?_ ?_⟩
  .rw[NY l ByteArray.empty _ d,c];exact b
  .exact eN
  exact eN
 have hk:l.take k=l:=As (by exact eV);rw[hk]at c;have h1:Ai l n=false:=c;exact fI a [.tmp 4] (by rw[h1];exact eR)
def YQ (l:List ByteArray) (s:ByteArray):Nat:=(l.takeWhile λx=>Cn x s).length
theorem oU {α:Type} (p:α->Bool) (d:α):∀(l:List α) (k:Nat),k<=(l.takeWhile p).length->((k<l.length/\p (l.getD k d)=true)↔k+1<=(l.takeWhile p).length)
 | [],k,h=>by simp
 | x :: l,k,h=>by
  by_cases hx:p x=true
  .rw[List.takeWhile_cons,BY hx]at h ⊢;cases k with
   | zero=>simp[hx]
   | succ k =>
    have:=oU p d l k (by simpa using h);simpa using this
  rw[List.takeWhile_cons,At hx]at h ⊢;have hk:k=0:=by simpa using h
  subst hk;simp[hx]
theorem A7c {α:Type} (p:α->Bool) (l:List α):(l.takeWhile p).length<=l.length:=(List.takeWhile_sublist p).length_le
def Ds (l:List ByteArray) (s:ByteArray):List ByteArray :=
 if (decide (YQ l s<l.length)&&Ae (l.getD (YQ l s) ByteArray.empty) s)=true then l else l.take (YQ l s)++[s]++l.drop (YQ l s)
def b8:Ab:={ ins:=[GY,T9],pre:=λ(l,_,_)=>List.length l<=100000,out:=λ(l,n,_)=>[.p GY (Ds l n)] }
attribute [local go_sem] b8
theorem R8:Ac Tryz.prog 108 b8:=by
 refine fK [0,1,4,5,6,18,32] Tryz.func108 Tryz.ntmps108 AI ?_;rintro w0 O0 ⟨l,n,u⟩ c-hl;have hl:l.length<=100000:=hl;simp only[b8,AM];repeat'(first|exact trivial|apply eS rfl|refine rX c ?_ ?_)
 refine AJ (ι:={k:Nat//k<=YQ l n}) (λk=>⟨[(0,.p GY l),(1,.p T9 n),(5,.raw (.slice none 0 0)),(6,.p (.int .i64) (k.1:Int))],[]⟩) (λk=>l.length-k.1) ⟨0,by simp⟩ (eW []) (λk=>?_)
 obtain⟨k,hk⟩:=k;have d:=A7c (λx=>Cn x n) l;have i:=oU (λx=>Cn x n) ByteArray.empty l k hk;simp only;repeat'(first|exact trivial|apply eS rfl|apply AB|refine rX c ?_ ?_|refine rC ?_ ?_<;>intro a<;>try(cases a;done))
 .exact λh=>h
 .have h1:k<l.length/\Cn (l.getD k ByteArray.empty) n=true:=⟨by exact eV,a.2⟩;exact eV
 .have h1:k<l.length/\Cn (l.getD k ByteArray.empty) n=true:=⟨by exact eV,a.2⟩;exact⟨⟨k+1,i.1 h1⟩,by simp only;omega,eW []⟩
 .exact λh=>h
 .rename_i f;have g:k=YQ l n:=by
   refine ABk hk (Nat.le_of_not_lt λh=>?_);have:=i.2 h;rw[f (IF.2 this.1)]at this;cases this.2
  have e:Ds l n=l:=by
   unfold Ds;rw[<-g,BY];rw[An,ON];exact⟨IF.1 a.1,a.2⟩
  exact fI c [.tmp 4] (by rw[e];exact eR)
 .have j:=TF k l;have b:k<=l.length:=RF hk d;simp only[AQ];exact⟨RM.2 b,by dsimp only[Ty.den]at *;omega⟩
 .have j:=TF k l;have b:k<=l.length:=RF hk d;simp only[AQ];dsimp only[Ty.den]at *;omega
 .have j:=TF k l;have b:k<=l.length:=RF hk d;have o:(l.drop k).length<=l.length:=by rw[aS];omega
  simp only[AQ];exact⟨RM.2 b,by dsimp only[Ty.den]at *;omega⟩
 rename_i f;have g:k=YQ l n:=by
  refine ABk hk (Nat.le_of_not_lt λh=>?_);have:=i.2 h;rw[f (IF.2 this.1)]at this;cases this.2
 have e:Ds l n=l.take k++[n]++l.drop k:=by
  unfold Ds;rw[<-g,At];rw[An,ON];intro h;rw[a (IF.2 h.1)]at h;cases h.2
 have b:k<=l.length:=RF hk d;have m:(l.take k).length+1+(l.drop k).length=(l.take k++[n]++l.drop k).length:=by simp only[By,GO]
 rw[m,<-e];refine FK [38] ?_;exact fI c [.tmp 4]
end
section
def Gb (b:List Int) (i:Int):Int:=if i<b.length then b.getD i.toNat 0 else 0
def iD:Ab:={ ins:=[ER,T3],pre:=λ(_,i,_)=>(0:Int)<=i,out:=λ(b,i,_)=>[.p R6 (Gb b i)],lend:=true }
attribute [local go_sem] iD
theorem t9:Ac Tryz.prog 139 iD:=by
 refine fK [0,1,4,8] Tryz.func139 Tryz.ntmps139 AI ?_;rintro w0 O0 ⟨b,i,u⟩ c-hi;simp only[iD,AM];repeat'(first|exact trivial|apply eS rfl|refine rX c ?_ ?_|refine rC ?_ ?_<;>intro a<;>try(cases a;done))
 .exact⟨hi,a⟩
 .have h1:Gb b i=b.getD i.toNat 0:=by unfold Gb;rw[BY a]
  exact fI c [.tmp 4] (by rw[h1];exact eR)
 have h1:Gb b i=0:=by unfold Gb;rw[At (AB1.2 a)]
 exact fI c [.tmp 4] (by rw[h1];exact eR)
def Cw (b:List Int):Nat->Nat
 | 0=>0
 | n+1=>if b.getD n 0=0 then Cw b n else n+1
def BO (b:List Int):List Int:=b.take (Cw b b.length)
theorem WY (b:List Int):∀n,Cw b n<=n
 | 0=>IN _
 | n+1=>by
  unfold Cw;split
  .exact Nat.le_succ_of_le (WY b n)
  exact IN _
def Kv:Ab:={ ins:=[ER],pre:=λ(b,_)=>List.length b<=100000,out:=λ(b,_)=>[.p ER (BO b)] }
attribute [local go_sem] Kv
theorem NZ:Ac Tryz.prog 111 Kv:=by
 refine fK [0,2,3,15] Tryz.func111 Tryz.ntmps111 AI ?_;rintro w0 O0 ⟨b,u⟩ d-hb;have hb:b.length<=100000:=hb;simp only[Kv,AM];repeat'(first|exact trivial|apply eS rfl|refine rX d ?_ ?_)
 refine AJ (ι:={n:Nat//n<=b.length/\Cw b n=Cw b b.length}) (λn=>⟨[(0,.p ER b),(3,.p (.int .i64) (n.1:Int))],[]⟩) (λn=>n.1) ⟨b.length,IN _,rfl⟩ (eW []) (λn=>?_)
 obtain⟨n,hn,f⟩:=n;simp only;repeat'(first|apply eS rfl|apply AB|refine rX d ?_ ?_|refine rC ?_ ?_<;>intro c<;>try(cases c;done))
 .constructor
  .exact eV
  intro h;refine⟨?_,?_⟩<;>exact eV
 .exact eV
 .obtain⟨h1,a⟩:=c;obtain⟨m,rfl⟩:∃m,n=m+1:=⟨n-1,by omega⟩;have e:(((m+1:Nat):Int)-1)=(m:Int):=by omega
  rw[e]at a;have a:b.getD m 0=0:=a;have i:Cw b m=Cw b b.length:=by
   rw[<-f];show _=if b.getD m 0=0 then Cw b m else m+1
   rw[BY a]
  refine⟨⟨m,by omega,i⟩,by simp,AD [] rfl rfl ?_ ?_⟩
  .exact eN
  simp only[e];exact eN
 .have j:=TF n b;simp only[AQ];exact⟨RM.2 hn,by dsimp only[Ty.den]at *;omega⟩
 have g:Cw b n=n:=by
  cases n with
  | zero=>rfl
  | succ m =>
   have e:(((m+1:Nat):Int)-1)=(m:Int):=by omega
   rw[e]at c;have a:=c O1;have a:¬b.getD m 0=0:=a;show (if b.getD m 0=0 then Cw b m else m+1)=m+1;rw[At a]
 have h1:BO b=b.take n:=by unfold BO;rw[<-f,g]
 rw[<-h1];refine FK [18] ?_;exact fI d [.tmp 2]
end
section
attribute [local go_sem] iD Kv
def A2b (w:Int) (r:Int):Bool:=Co .and .u64 (fE .u64 w r) 1==1
def WZ (b:List Int) (i:Int):Bool:=if (decide (i<0)||decide ((b.length:Int)<=i.tdiv 64))=true then false else A2b (b.getD (i.tdiv 64).toNat 0) (i.tmod 64)
def A2c:Ab:={ ins:=[ER,T3],pre:=λ_=>True,out:=λ(b,i,_)=>[.p .bool (WZ b i)],lend:=true }
theorem A8q {w:Int} (h0:0<=w) (r:Int):0<=fE .u64 w r/\fE .u64 w r<=w:=by
 unfold fE;have a:(0:Int)<2 ^ (min r.toNat IntKind.u64.bits):=Int.pow_pos dc;rw[Int.fdiv_eq_ediv_of_nonneg _ (ACD a)];exact⟨Int.ediv_nonneg h0 (ACD a),Int.ediv_le_self _ h0⟩
theorem A2d:Ac Tryz.prog 122 A2c:=by
 refine fK [0,1,4,13] Tryz.func122 Tryz.ntmps122 AI ?_;rintro w0 O0 ⟨b,i,u⟩ d ⟨⟨m,k⟩,e,-⟩ -;have e:KS .i64 i:=e;rw[QA]at e;have j:0<=i->Int.tdiv i 64=i / 64/\Int.tmod i 64=i % 64:=λh=>⟨ABd h,ABz h⟩;simp only[A2c,AM];repeat'(first|exact trivial|apply eS rfl|refine rX d ?_ ?_|refine rC ?_ ?_<;>intro c<;>try(cases c;done))
 .intro h;have h0:0<=i:=by simpa using h
  obtain⟨a,g⟩:=j h0;rw[a];refine⟨by decide,?_,?_⟩<;>exact eV
 .have h1:WZ b i=false:=by
   unfold WZ;rw[BY];rw[TB,ON,ON];exact c
  exact fI d [.tmp 4] (by rw[h1];exact eR)
 .obtain⟨h0,l⟩:=c;obtain⟨a,g⟩:=j h0;rw[a]at l;have f:KS .u64 (b.getD (i / 64).toNat 0):=k _ (AE b 0 (by exact eV));rw[Ko]at f;have hs:=A8q f.1 (i % 64);rw[a,g];refine⟨⟨by decide,by exact eV,by exact eV⟩,⟨by exact eV,by exact eV⟩,⟨by decide,by exact eV,by exact eV⟩,⟨by exact eV,by exact eV⟩,by exact eV,hs.1,AB5 hs.2 f.2⟩
 have h1:WZ b i=A2b (b.getD (i.tdiv 64).toNat 0) (i.tmod 64):=by
  unfold WZ;rw[At];rw[TB,ON,ON];rintro (h|h)<;>omega
 exact fI d [.tmp 4] (by rw[h1];unfold A2b;exact eR)
end
section
attribute [local go_sem] iD Kv
def Gq (op:BinOp) (a b:List Int) (n:Nat):List Int:=(List.range n).map λi=>Co op .u64 (a.getD i 0) (Gb b (i:Int))
theorem Ek (op:BinOp) (a b:List Int) (n:Nat):(Gq op a b n).length=n:=by simp[Gq]
theorem ZK (op:BinOp) (a b:List Int) (n:Nat):Gq op a b (n+1)=Gq op a b n++[Co op .u64 (a.getD n 0) (Gb b (n:Int))]:=by simp[Gq,S9]
def GE (a b:List Int):List Int:=BO (Gq .and a b a.length)
def A2e:Ab:={ ins:=[ER,ER],pre:=λ(a,_,_)=>List.length a<=100000,out:=λ(a,b,_)=>[.p ER (GE a b)] }
theorem oV:Ac Tryz.prog 110 A2e:=by
 refine fK [0,1,4,5,6,10] Tryz.func110 Tryz.ntmps110 (AF t9 (AF NZ AI)) ?_;rintro w0 O0 ⟨a,b,u⟩ c-ha;have ha:a.length<=100000:=ha;simp only[A2e,AM];repeat'(first|exact trivial|apply eS rfl|refine rX c ?_ ?_)
 refine AJ (ι:={n:Nat//n<=a.length}) (λn=>⟨[(0,.p ER a),(1,.p ER b),(5,.sr 23 R6 0 n.1),(6,.p (.int .i64) (n.1:Int))],[(23,.arr 185 R6 (Gq .and a b n.1))]⟩) (λn=>a.length-n.1) ⟨0,OF _⟩ (AD [(23,.nil)] rfl rfl ?_ ?_) (λn=>?_)
 .refine eM ?_;rfl
 .exact eN
 obtain⟨n,hn⟩:=n;have f:=Ek .and a b n;have hs:=ZK .and a b n;simp only;repeat'(first|exact trivial|apply eS rfl|apply AB|refine rX c ?_ ?_|refine rC ?_ ?_<;>intro d<;>try(cases d;done))
 .refine⟨d,?_⟩;simp only[AQ];dsimp only[Ty.den]at *;omega
 .exact eV
 .have e:n<a.length:=by exact eV
  refine⟨⟨n+1,by omega⟩,by simp only;omega,AD [(23,.nm 23)] rfl rfl ?_ ?_⟩
  .simp only[hs];refine eM ?_;rw[As (by rw[f];exact IN _)]
  exact eN
 have e:n=a.length:=by exact eV
 subst e;refine FK [23] ?_;have ht:(Gq .and a b a.length).take a.length=Gq .and a b a.length:=As (by rw[Ek];exact IN _);repeat'(first|apply eS rfl|refine rX c ?_ ?_)
 .rw[ht,Ek];exact ha
 rw[ht];exact fI c [.tmp 4] (by unfold GE;exact eR)
def R9 (a b:List Int):List Int:=BO (Gq .andNot a b a.length)
def oW:Ab:={ ins:=[ER,ER],pre:=λ(a,_,_)=>List.length a<=100000,out:=λ(a,b,_)=>[.p ER (R9 a b)] }
attribute [local go_sem] oW
theorem A2f:Ac Tryz.prog 146 oW:=by
 refine fK [0,1,4,5,6,10] Tryz.func146 Tryz.ntmps146 (AF t9 (AF NZ AI)) ?_;rintro w0 O0 ⟨a,b,u⟩ c-ha;have ha:a.length<=100000:=ha;simp only[oW,AM];repeat'(first|exact trivial|apply eS rfl|refine rX c ?_ ?_)
 refine AJ (ι:={n:Nat//n<=a.length}) (λn=>⟨[(0,.p ER a),(1,.p ER b),(5,.sr 23 R6 0 n.1),(6,.p (.int .i64) (n.1:Int))],[(23,.arr 185 R6 (Gq .andNot a b n.1))]⟩) (λn=>a.length-n.1) ⟨0,OF _⟩ (AD [(23,.nil)] rfl rfl ?_ ?_) (λn=>?_)
 .refine eM ?_;rfl
 .exact eN
 obtain⟨n,hn⟩:=n;have f:=Ek .andNot a b n;have hs:=ZK .andNot a b n;simp only;repeat'(first|exact trivial|apply eS rfl|apply AB|refine rX c ?_ ?_|refine rC ?_ ?_<;>intro d<;>try(cases d;done))
 .refine⟨d,?_⟩;simp only[AQ];dsimp only[Ty.den]at *;omega
 .exact eV
 .have e:n<a.length:=by exact eV
  refine⟨⟨n+1,by omega⟩,by simp only;omega,AD [(23,.nm 23)] rfl rfl ?_ ?_⟩
  .simp only[hs];refine eM ?_;rw[As (by rw[f];exact IN _)]
  exact eN
 have e:n=a.length:=by exact eV
 subst e;refine FK [23] ?_;have ht:(Gq .andNot a b a.length).take a.length=Gq .andNot a b a.length:=As (by rw[Ek];exact IN _);repeat'(first|apply eS rfl|refine rX c ?_ ?_)
 .rw[ht,Ek];exact ha
 rw[ht];exact fI c [.tmp 4] (by unfold R9;exact eR)
def E1 (a b:List Int):Bool:=((R9 a b).length:Int)==0
def QM:Ab:={ ins:=[ER,ER],pre:=λ(a,_,_)=>List.length a<=100000,out:=λ(a,b,_)=>[.p .bool (E1 a b)],lend:=true }
attribute [local go_sem] QM
theorem SA:Ac Tryz.prog 125 QM:=by
 refine fK [0,1,4] Tryz.func125 Tryz.ntmps125 (AF A2f AI) ?_;rintro w0 O0 ⟨a,b,u⟩ c-ha;have ha:a.length<=100000:=ha;simp only[QM,AM];repeat'(first|exact trivial|apply eS rfl|refine rX c ?_ ?_)
 .exact ha
 exact fI c [.tmp 4] (by unfold E1;exact eR)
def GF (a b:List Int):Bool:=E1 a b&&E1 b a
def b9:Ab:={ ins:=[ER,ER],pre:=λ(a,b,_)=>List.length a<=100000/\List.length b<=100000,out:=λ(a,b,_)=>[.p .bool (GF a b)],lend:=true }
theorem yG:Ac Tryz.prog 121 b9:=by
 refine fK [0,1,4] Tryz.func121 Tryz.ntmps121 (AF SA AI) ?_;rintro w0 O0 ⟨a,b,u⟩ c-⟨ha,hb⟩;simp only[b9,AM];repeat'(first|exact trivial|apply eS rfl|refine rX c ?_ ?_)
 .exact⟨ha,λ_=>hb⟩
 exact fI c [.tmp 4] (by unfold GF;exact eR)
end
section
attribute [local go_sem] A2c
def IJ (a b:List Int):Bool:=decide (a=b)
def Wa:Ab:={ ins:=[ER,ER],pre:=λ_=>True,out:=λ(a,b,_)=>[.p .bool (IJ a b)],lend:=true }
theorem cA:Ac Tryz.prog 112 Wa:=by
 refine fK [0,1,4,5,10,14,25] Tryz.func112 Tryz.ntmps112 AI ?_;rintro w0 O0 ⟨a,b,u⟩ d ⟨⟨ha,-⟩,-⟩ -;simp only[AQ]at ha;simp only[Wa,AM];repeat'(first|exact trivial|apply eS rfl|refine rX d ?_ ?_|refine rC ?_ ?_<;>intro c<;>try(cases c;done))
 .have h1:IJ a b=false:=by
   unfold IJ;rw[RT];rintro rfl;exact c rfl
  exact fI d [.tmp 4] (by rw[h1];exact eR)
 have f:a.length=b.length:=by
  have:(a.length:Int)=(b.length:Int):=by simpa using c
  exact Int.ofNat_inj.1 this
 refine AJ (ι:={k:Nat//k<=a.length/\a.take k=b.take k}) (λk=>⟨[(0,.p ER a),(1,.p ER b),(5,.p (.int .i64) (k.1:Int))],[]⟩) (λk=>a.length-k.1) ⟨0,OF _,rfl⟩ (eW []) (λk=>?_)
 obtain⟨k,hk,hf⟩:=k;simp only;repeat'(first|exact trivial|apply eS rfl|apply AB|refine rX d ?_ ?_|refine rC ?_ ?_<;>intro c<;>try(cases c;done))
 .exact⟨c,by rw[<-f];exact c⟩
 .have e:k<a.length:=by exact eV
  have h1:IJ a b=false:=by
   unfold IJ;rw[RT];rintro rfl;exact c rfl
  exact fI d [.tmp 4] (by rw[h1];exact eR)
 .exact eV
 .have e:k<a.length:=by exact eV
  have g:a.getD k 0=b.getD k 0:=by simpa using c
  refine⟨⟨k+1,by omega,?_⟩,by simp only;omega,AD [] rfl rfl ?_ ?_⟩
  .rw[Af a 0 e,Af b 0 O1,hf];rw[show a.getD k 0=b.getD k 0 from g]
  .exact eN
  exact eN
 have e:k=a.length:=by exact eV
 subst e;rw[RK,f,RK]at hf;have h1:IJ a b=true:=by unfold IJ;rw[hf];simp
 exact fI d [.tmp 4] (by rw[h1];exact eR)
end
section
attribute [local go_sem] A2c
def OO (b:List Int) (n:Nat):List Int:=((List.range n).filter λ(i:Nat)=>WZ b (i:Int)).map λ(i:Nat)=>(i:Int)
def IK (b:List Int):List Int:=OO b (64*b.length)
theorem oX (b:List Int) (n:Nat):OO b (n+1)=OO b n++if WZ b (n:Int)=true then [(n:Int)] else []:=by
 unfold OO;rw[S9,ABr,RY]
 congr 1
 rw[oR,AC8];split<;>rfl
theorem yH (b:List Int) (n:Nat):(OO b n).length<=n:=by
 unfold OO;rw[No];exact RF (AAx _ _) sc
def A2g:Ab:={ ins:=[ER],pre:=λ(b,_)=>List.length b<=100000,out:=λ(b,_)=>[.p D6 (IK b)] }
attribute [local go_sem] A2g
theorem A5z:Ac Tryz.prog 145 A2g:=by
 refine fK [0,2,3,4,9,14] Tryz.func145 Tryz.ntmps145 (AF A2d AI) ?_;rintro w0 O0 ⟨b,u⟩ c-hb;have hb:b.length<=100000:=hb;simp only[A2g,AM];repeat'(first|exact trivial|apply eS rfl|refine rX c ?_ ?_)
 refine AJ (ι:={n:Nat//n<=64*b.length}) (λn=>⟨[(0,.p ER b),(3,.sr 18 T3 0 (OO b n.1).length),(4,.p (.int .i64) (n.1:Int))],[(18,.arr 3 T3 (OO b n.1))]⟩) (λn=>64*b.length-n.1) ⟨0,OF _⟩ (AD [(18,.nil)] rfl rfl ?_ ?_) (λn=>?_)
 .refine eM ?_;rfl
 .refine eM ?_;rfl
 obtain⟨n,hn⟩:=n;have e:=yH b n;have hs:=oX b n;simp only;repeat'(first|exact trivial|apply eS rfl|apply AB|refine rX c ?_ ?_|refine rC ?_ ?_<;>intro a<;>try(cases a;done))
 .exact eV
 .rw[a,BY rfl]at hs;simp only[AQ];dsimp only[Ty.den]at *;omega
 .exact eV
 .have d:n<64*b.length:=by exact eV
  rw[a,BY rfl]at hs;refine⟨⟨n+1,by omega⟩,by simp only;omega,AD [(18,.nm 18)] rfl rfl ?_ ?_⟩
  .simp only[hs];exact eN
  simp only[hs];exact eN
 .exact eV
 .have d:n<64*b.length:=by exact eV
  rw[a,At sc,S6]at hs;refine⟨⟨n+1,by omega⟩,by simp only;omega,AD [(18,.nm 18)] rfl rfl ?_ ?_⟩
  .simp only[hs];exact eN
  simp only[hs];exact eN
 have d:n=64*b.length:=by exact eV
 subst d;refine FK [18] ?_;exact fI c [.tmp 2] (by unfold IK;exact eR)
def oY:Ab:={ ins:=[ER],pre:=λ(b,_)=>List.length b<=100000,out:=λ(b,_)=>[.p T3 ((IK b).length:Int)],lend:=true }
theorem A2h:Ac Tryz.prog 124 oY:=by
 refine fK [0,2] Tryz.func124 Tryz.ntmps124 (AF A5z AI) ?_;rintro w0 O0 ⟨b,u⟩ a-hb;simp only[oY,AM];repeat'(first|exact trivial|apply eS rfl|refine rX a ?_ ?_)
 .exact hb
 exact fI a [.tmp 2]
end
section
attribute [local go_sem] Jh A2a
abbrev AK:=ByteArray×List ByteArray×List (ByteArray×ByteArray)
abbrev d0:AK:=(ByteArray.empty,[],[])
def Cy (s:ByteArray):Nat->List AK->Int
 | _,[]=>-1
 | k,x :: l=>if Ae x.1 s=true then (k:Int) else Cy s (k+1) l
def BJ (l:List AK) (s:ByteArray):Int:=Cy s 0 l
theorem Ts (s:ByteArray) (l:List AK) (h:k<l.length):Cy s k (l.drop k)=if Ae (l.getD k d0).1 s=true then (k:Int) else Cy s (k+1) (l.drop (k+1)):=by
 rw[Is h];have e:l.getD k d0=l[k]:=by simp[AS,h]
 rw[e];rfl
def O5:Ab:={ ins:=[FU,T9],pre:=λ_=>True,out:=λ(l,s,_)=>[.p T3 (BJ l s)] }
attribute [local go_sem] O5
theorem MQ:Ac Tryz.prog 141 O5:=by
 refine fK [0,1,4,5,9,18] Tryz.func141 Tryz.ntmps141 AI ?_;rintro w0 O0 ⟨l,s,u⟩ c ⟨⟨hl,-⟩,-⟩ -;simp only[AQ]at hl;simp only[O5,AM];repeat'(first|exact trivial|apply eS rfl|refine rX c ?_ ?_)
 refine AJ (ι:={k:Nat//k<=l.length/\Cy s k (l.drop k)=BJ l s}) (λk=>⟨[(0,.p FU l),(1,.p T9 s),(5,.p (.int .i64) (k.1:Int))],[]⟩) (λk=>l.length-k.1) ⟨0,OF _,rfl⟩ (eW []) (λk=>?_)
 obtain⟨k,hk,hf⟩:=k;simp only;repeat'(first|exact trivial|apply eS rfl|apply AB|refine rX c ?_ ?_|refine rC ?_ ?_<;>intro b<;>try(cases b;done))
 .exact b
 .have a:k<l.length:=by exact eV
  rw[Ts s l a,BY b]at hf;exact fI c [.tmp 4] (by rw[<-hf];exact eR)
 .exact eV
 .have a:k<l.length:=by exact eV
  rw[Ts s l a,At (by rw[b];simp)]at hf;exact⟨⟨k+1,by omega,hf⟩,by simp only;omega,eW []⟩
 have a:l.drop k=[]:=OR (by exact eV);rw[a]at hf;exact fI c [.tmp 4] (by rw[<-hf];first|exact eR|refine Tp ?_;rfl)
def MR:List AK->Int
 | []=>0
 | x :: l=>if 256<x.2.1.length\/256<x.2.2.length then 7 else MR l
def FC (l:List AK):Int:=if 256<l.length then 7 else MR l
theorem Tt (l:List AK) (h:k<l.length):MR (l.drop k)=if 256<(l.getD k d0).2.1.length\/256<(l.getD k d0).2.2.length then 7 else MR (l.drop (k+1)):=by
 rw[Is h];have e:l.getD k d0=l[k]:=by simp[AS,h]
 rw[e];rfl
def cB:Ab:={ ins:=[FU],pre:=λ_=>True,out:=λ(l,_)=>[.p HB (FC l)] }
attribute [local go_sem] cB
theorem A2i:Ac Tryz.prog 113 cB:=by
 refine fK [0,2,3,6,10,28] Tryz.func113 Tryz.ntmps113 AI ?_;rintro w0 O0 ⟨l,u⟩ b ⟨⟨hl,-⟩,-⟩ -;simp only[AQ]at hl;simp only[cB,AM];repeat'(first|exact trivial|apply eS rfl|refine rX b ?_ ?_|refine rC ?_ ?_<;>intro a<;>try(cases a;done))
 .have h1:FC l=7:=by unfold FC;rw[BY (by exact eV)]
  exact fI b [.tmp 2] (by rw[h1];exact eR)
 have h1:FC l=MR l:=by unfold FC;rw[At (by exact eV)]
 refine AJ (ι:={k:Nat//k<=l.length/\MR (l.drop k)=FC l}) (λk=>⟨[(0,.p FU l),(3,.p (.int .i64) (k.1:Int))],[]⟩) (λk=>l.length-k.1) ⟨0,OF _,h1.symm⟩ (eW []) (λk=>?_)
 obtain⟨k,hk,hf⟩:=k;simp only;repeat'(first|exact trivial|apply eS rfl|apply AB|refine rX b ?_ ?_|refine rC ?_ ?_<;>intro a<;>try(cases a;done))
 .exact⟨a,λ_=>a⟩
 .have c:k<l.length:=by exact eV
  rw[Tt l c,BY (by
   rcases a with h|h
   .exact .inl (IF.1 h)
   exact .inr (IF.1 h))]at hf
  exact fI b [.tmp 2] (by rw[<-hf];exact eR)
 .exact eV
 .have c:k<l.length:=by exact eV
  rw[Tt l c,At (by
   rintro (h|h)
   .have:=RM.1 a.1;exact absurd h (Nat.not_lt.2 this)
   have:=RM.1 a.2;exact absurd h (Nat.not_lt.2 this))]at hf
  exact⟨⟨k+1,by omega,hf⟩,by simp only;omega,eW []⟩
 have c:l.drop k=[]:=OR (by exact eV);rw[c]at hf;exact fI b [.tmp 2] (by rw[<-hf];first|exact eR|refine Tp ?_;rfl)
theorem J5 {α:Type} (l:List α) (d:α) (p:α->Bool) (h:k<l.length):(l.take (k+1)).all p=((l.take k).all p&&p (l.getD k d)):=by
 rw[Af l d h,ABV];simp
def Ji (x:AK) (done:List ByteArray):Bool:=x.2.1.all λs=>Ai done s
def cC:Ab:={ ins:=[T95,GY],pre:=λ_=>True,out:=λ(x,l,_)=>[.p .bool (Ji x l)],lend:=true }
attribute [local go_sem] cC
theorem A2j:Ac Tryz.prog 142 cC:=by
 refine fK [0,1,2,4,5,10,20] Tryz.func142 Tryz.ntmps142 (AF HC AI) ?_;rintro w0 O0 ⟨⟨nm,sup,d⟩,l,u⟩ c ⟨⟨-,⟨e,-⟩,-⟩,-⟩ -;simp only[AQ]at e;simp only[cC,AM];repeat'(first|exact trivial|apply eS rfl|refine rX c ?_ ?_)
 refine AJ (ι:={k:Nat//k<=sup.length/\(sup.take k).all (λs=>Ai l s)=true}) (λk=>⟨[(1,.p GY l),(2,.bp 2 [] 0),(5,.p (.int .i64) (k.1:Int))],[(2,.box 95 true [.p T9 nm,.p GY sup,.p T93 d])]⟩) (λk=>sup.length-k.1) ⟨0,by simp⟩ (eW [(2,.nm 2)]) (λk=>?_)
 obtain⟨k,hk,hf⟩:=k;simp only;repeat'(first|exact trivial|apply eS rfl|apply AB|refine rX c ?_ ?_|refine rC ?_ ?_<;>intro b<;>try(cases b;done))
 .exact b
 .have a:k<sup.length:=by exact eV
  have h1:Ji (nm,sup,d) l=false:=by
   unfold Ji;refine ABg.2 λh=>?_;have:=Of.1 h _ (AE sup ByteArray.empty a);rw[b]at this;cases this
  exact fI c [.tmp 4] (by rw[h1];exact eR)
 .have:=e;exact eV
 .have a:k<sup.length:=by exact eV
  refine⟨⟨k+1,by omega,?_⟩,by simp only;omega,AD [(2,.nm 2)] rfl rfl ?_ ?_⟩
  .rw[J5 sup ByteArray.empty _ a,hf];exact b
  .exact eN
  exact eN
 have a:sup.take k=sup:=As (by exact eV);rw[a]at hf;have h1:Ji (nm,sup,d) l=true:=hf;exact fI c [.tmp 4] (by rw[h1];exact eR)
def O6 (d:List AK):Nat->List AK->Int
 | _,[]=>0
 | k,x :: l=>if FB x.1 false=false then 1 else if BJ d x.1<(k:Int) then 4 else O6 d (k+1) l
def Dt (d:List AK):Int:=O6 d 0 d
theorem MS (d l:List AK) (h:k<l.length):O6 d k (l.drop k)=if FB (l.getD k d0).1 false=false then 1 else if BJ d (l.getD k d0).1<(k:Int) then 4 else O6 d (k+1) (l.drop (k+1)):=by
 rw[Is h];have e:l.getD k d0=l[k]:=by simp[AS,h]
 rw[e];rfl
def cD:Ab:={ ins:=[FU],pre:=λ_=>True,out:=λ(l,_)=>[.p HB (Dt l)] }
attribute [local go_sem] cD
theorem A2k:Ac Tryz.prog 114 cD:=by
 refine fK [0,2,3,7,16,25] Tryz.func114 Tryz.ntmps114 (AF A5y (AF MQ AI)) ?_;rintro w0 O0 ⟨l,u⟩ c ⟨⟨hl,-⟩,-⟩ -;simp only[AQ]at hl;simp only[cD,AM];repeat'(first|exact trivial|apply eS rfl|refine rX c ?_ ?_)
 refine AJ (ι:={k:Nat//k<=l.length/\O6 l k (l.drop k)=Dt l}) (λk=>⟨[(0,.p FU l),(3,.p (.int .i64) (k.1:Int))],[]⟩) (λk=>l.length-k.1) ⟨0,OF _,rfl⟩ (eW []) (λk=>?_)
 obtain⟨k,hk,hf⟩:=k;simp only;repeat'(first|exact trivial|apply eS rfl|apply AB|refine rX c ?_ ?_|refine rC ?_ ?_<;>intro b<;>try(cases b;done))
 .exact b
 .have a:k<l.length:=by exact eV
  rw[MS l l a,BY b]at hf;exact fI c [.tmp 2] (by rw[<-hf];exact eR)
 .assumption
 .rename_i d;have a:k<l.length:=by exact eV
  rw[MS l l a,At (by rw[d];simp),BY b]at hf;exact fI c [.tmp 2] (by rw[<-hf];exact eR)
 .exact eV
 .rename_i d;have a:k<l.length:=by exact eV
  rw[MS l l a,At (by rw[d];simp),At (AB1.2 b)]at hf;exact⟨⟨k+1,by omega,hf⟩,by simp only;omega,eW []⟩
 have a:l.drop k=[]:=OR (by exact eV);rw[a]at hf;exact fI c [.tmp 2] (by rw[<-hf];first|exact eR|refine Tp ?_;rfl)
def Uf (d:List AK) (l:List ByteArray):Nat->List ByteArray->Int
 | _,[]=>0
 | k,x :: r=>if BJ d x<0 then 5 else if Ai (l.take k) x=true then 4 else Uf d l (k+1) r
def Kw (d:List AK):List AK->Int
 | []=>0
 | x :: l=>if Uf d x.2.1 0 x.2.1≠0 then Uf d x.2.1 0 x.2.1 else Kw d l
def Kx (d:List AK):Int:=Kw d d
theorem SB (d:List AK) (l:List ByteArray) (h:k<l.length):Uf d l k (l.drop k)=if BJ d (l.getD k ByteArray.empty)<0 then 5 else if Ai (l.take k) (l.getD k ByteArray.empty)=true then 4 else Uf d l (k+1) (l.drop (k+1)):=by
 rw[Is h];have e:l.getD k ByteArray.empty=l[k]:=by simp[AS,h]
 rw[e];rfl
theorem cE (d l:List AK) (h:k<l.length):Kw d (l.drop k)=if Uf d (l.getD k d0).2.1 0 (l.getD k d0).2.1≠0 then Uf d (l.getD k d0).2.1 0 (l.getD k d0).2.1 else Kw d (l.drop (k+1)):=by
 rw[Is h];have e:l.getD k d0=l[k]:=by simp[AS,h]
 rw[e];rfl
def U6:Ab:={ ins:=[FU],pre:=λ_=>True,out:=λ(l,_)=>[.p HB (Kx l)] }
attribute [local go_sem] U6
theorem yI:Ac Tryz.prog 115 U6:=by
 refine fK [0,2,3,4,5,9,20,29,37] Tryz.func115 Tryz.ntmps115 (AF HC (AF MQ AI)) ?_;rintro w0 O0 ⟨l,u⟩ d ⟨⟨hl,g⟩,-⟩ -;simp only[AQ]at hl;simp only[U6,AM];repeat'(first|exact trivial|apply eS rfl|refine rX d ?_ ?_)
 refine AJ (ι:={i:Nat//i<=l.length/\Kw l (l.drop i)=Kx l}) (λi=>⟨[(0,.p FU l),(3,.p (.int .i64) (i.1:Int))],[]⟩) (λi=>l.length-i.1) ⟨0,OF _,rfl⟩ (eW []) (λi=>?_)
 obtain⟨i,hi,hf⟩:=i;simp only;repeat'(first|exact trivial|apply eS rfl|refine rX d ?_ ?_|refine rC ?_ ?_<;>intro b<;>try(cases b;done))
 .exact b
 .have f:i<l.length:=by exact eV
  have hm:=g _ (AE l d0 f);have h:(l.getD i d0).2.1.length<=AQ:=hm.2.1.1;simp only[AQ]at h;rw[cE l l f]at hf;generalize (l.getD i d0).2.1=sup at *;refine AJ (ι:={k:Nat//k<=sup.length/\Uf l sup k (sup.drop k)=Uf l sup 0 sup}) (λk=>⟨[(0,.p FU l),(3,.p (.int .i64) (i:Int)),(4,.p GY sup),(5,.p (.int .i64) (k.1:Int))],[]⟩) (λk=>sup.length-k.1) ⟨0,OF _,rfl⟩ (eW []) (λk=>?_)
  obtain⟨k,hk,c⟩:=k;simp only;repeat'(first|exact trivial|apply eS rfl|apply AB|refine rX d ?_ ?_|refine rC ?_ ?_<;>intro b<;>try(cases b;done))
  .exact b
  .have a:k<sup.length:=by exact eV
   rw[SB l sup a,BY b]at c;rw[<-c,BY dc]at hf;exact fI d [.tmp 2] (by rw[<-hf];exact eR)
  .exact eV
  .rename_i e;have a:k<sup.length:=by exact eV
   rw[SB l sup a,At (AB1.2 e),BY b]at c;rw[<-c,BY dc]at hf;exact fI d [.tmp 2] (by rw[<-hf];exact eR)
  .exact eV
  .rename_i e;have a:k<sup.length:=by exact eV
   rw[SB l sup a,At (AB1.2 e),At (by rw[b];simp)]at c;exact⟨⟨k+1,by omega,c⟩,by simp only;omega,eW []⟩
  .exact eV
  have a:sup.drop k=[]:=OR (by exact eV);rw[a]at c;rw[<-c,At (by simp[Uf])]at hf;exact⟨⟨i+1,by omega,hf⟩,by simp only;omega,eW []⟩
 have a:l.drop i=[]:=OR (by exact eV);rw[a]at hf;exact fI d [.tmp 2] (by rw[<-hf];first|exact eR|refine Tp ?_;rfl)
end
section
attribute [local go_sem] O5 cC Jh b8
theorem E2 {α:Type} (g:Y->α->Y) (l:List α) (d:α) (t:Y) {i:Nat} (hi:i<l.length):(l.take (i+1)).foldl g t=g ((l.take i).foldl g t) (l.getD i d):=by
 rw[Af l d hi,ABe];rfl
theorem MT (l:List ByteArray) (s:ByteArray):(Ds l s).length<=l.length+1:=by
 unfold Ds;split
 .omega
 have:=A7c (λx=>Cn x s) l;have a:YQ l s<=l.length:=this;simp only[By,On,aS,GO];omega
def AZ (l:List AK):List ByteArray:=l.foldl (λo x=>Ds o x.1) []
theorem FZ (l:List AK) (k:Nat):(AZ (l.take k)).length<=k:=by
 have key:∀(l:List AK) (o:List ByteArray),(l.foldl (λo x=>Ds o x.1) o).length<=o.length+l.length:=by
  intro l;induction l with
  | nil=>intro o;simp
  | cons x l b =>
   intro o;have h1:=b (Ds o x.1);have a:=MT o x.1;simp only[RJ,NO];omega
 have h1:=key (l.take k) [];have a:=TF k l;unfold AZ;simp only[nO]at h1;omega
def QN:Ab:={ ins:=[FU],pre:=λ(l,_)=>List.length l<=100000,out:=λ(l,_)=>[.p GY (AZ l)] }
attribute [local go_sem] QN
theorem ZL:Ac Tryz.prog 75 QN:=by
 refine fK [0,2,3,4,8] Tryz.func75 Tryz.ntmps75 (AF R8 AI) ?_;rintro w0 O0 ⟨l,u⟩ a-hl;have hl:l.length<=100000:=hl;simp only[QN,AM];repeat'(first|exact trivial|apply eS rfl|refine rX a ?_ ?_)
 refine AJ (ι:={k:Nat//k<=l.length}) (λk=>⟨[(0,.p FU l),(3,.p GY (AZ (l.take k.1))),(4,.p (.int .i64) (k.1:Int))],[]⟩) (λk=>l.length-k.1) ⟨0,OF _⟩ (AD [] rfl rfl ?_ ?_) (λk=>?_)
 .exact eN
 .refine eM ?_;rfl
 obtain⟨k,hk⟩:=k;have hn:=FZ l k;have hs:=λh:k<l.length=>E2 (λ(o:List ByteArray) (x:AK)=>Ds o x.1) l d0 [] h;simp only;repeat'(first|exact trivial|apply eS rfl|apply AB|refine rX a ?_ ?_|refine rC ?_ ?_<;>intro c<;>try(cases c;done))
 .exact⟨c,by omega⟩
 .exact eV
 .have b:k<l.length:=by exact eV
  have e:=hs b;refine⟨⟨k+1,by omega⟩,by simp only;omega,AD [] rfl rfl ?_ ?_⟩
  .exact eN
  simp only;have e:AZ (l.take (k+1))=Ds (AZ (l.take k)) (l.getD k d0).1:=e;rw[e];exact eN
 have b:l.take k=l:=As (by exact eV);rw[b];exact fI a [.tmp 2]
def JB (out:List ByteArray) (s:Bool×ByteArray) (x:AK):Bool×ByteArray :=
 if (Ai out x.1||!Ji x out)=true then s else (true,if (!s.1||Cn x.1 s.2)=true then x.1 else s.2)
def IL (d:List AK) (out:List ByteArray):Bool×ByteArray:=d.foldl (JB out) (false,ByteArray.empty)
def JD (d:List AK):Nat->List ByteArray->List ByteArray
 | 0,out=>out
 | n+1,out=>if (IL d out).1=true then JD d n (out++[(IL d out).2]) else out
def Bl (d:List AK):List ByteArray:=JD d d.length []
def IM (d:List AK) (out:List ByteArray):Nat:=d.countP λx=>!Ai out x.1
theorem Fa (s:ByteArray):Ae s s=true:=by unfold Ae;simp
theorem O7 (out:List ByteArray) (s x:ByteArray):Ai (out++[s]) x=(Ai out x||Ae s x):=by
 unfold Ai;simp[ABU]
theorem yJ (d:List AK) (out:List ByteArray) (h:(IL d out).1=true):∃x∈d,x.1=(IL d out).2/\Ai out x.1=false:=by
 have key:∀(l:List AK) (s:Bool×ByteArray),(∀x∈l,x∈d)->(s.1=true->∃x∈d,x.1=s.2/\Ai out x.1=false)->(l.foldl (JB out) s).1=true ->
   ∃x∈d,x.1=(l.foldl (JB out) s).2/\Ai out x.1=false:=by
  intro l;induction l with
  | nil=>intro s _ hs h;exact hs h
  | cons y l e =>
   intro s hl hs h;rw[RJ]at h ⊢;refine e _ (λx hx=>hl x (by simp[hx])) (λb=>?_) h;unfold JB at b ⊢;split
   .rename_i a;rw[BY a]at b;exact hs b
   rename_i a;simp only;have hy:Ai out y.1=false:=by
    cases hh:Ai out y.1 with
    | false=>rfl
    | true=>rw[hh]at a;simp at a
   split
   .exact⟨y,hl y sc,rfl,hy⟩
   rename_i c;have:s.1=true:=by
    cases hh:s.1 with
    | true=>rfl
    | false=>rw[hh]at c;simp at c
   exact hs this
 exact key d _ (λ_ h=>h) (λh=>by cases h) h
theorem iE {d:List AK} {out:List ByteArray} (h:(IL d out).1=true):IM d (out++[(IL d out).2])<IM d out:=by
 obtain⟨x,hx,h1,b⟩:=yJ d out h;generalize (IL d out).2=s at *;unfold IM;have key:∀l:List AK,(l.countP λy=>!Ai (out++[s]) y.1)<=l.countP λy=>!Ai out y.1:=by
  intro l;refine List.countP_mono_left λy _ hy=>?_;rw[O7]at hy;cases hh:Ai out y.1 with
  | false=>rfl
  | true=>rw[hh]at hy;simp at hy
 obtain⟨l1,l2,rfl⟩:=List.append_of_mem hx;rw[ACB,ACB,ABC,ABC];have c:=key l1;have e:=key l2;have a:Ai (out++[s]) x.1=true:=by rw[O7,h1,Fa,Bool.or_true]
 rw[a,b];simp only[ACN,ACG,AAF];simp only[oF,AAV];omega
def cF:Ab:={ ins:=[FU],pre:=λ(l,_)=>List.length l<=100000,out:=λ(l,_)=>[.p GY (Bl l)] }
theorem yK:Ac Tryz.prog 116 cF:=by
 refine fK [0,2,3,4,5,6,7,11,29,40,46] Tryz.func116 Tryz.ntmps116 (AF HC (AF A2j AI)) ?_;rintro w0 O0 ⟨d,u⟩ j-hd;have hd:d.length<=100000:=hd;simp only[cF,AM];repeat'(first|exact trivial|apply eS rfl|refine rX j ?_ ?_)
 refine AJ (ι:={x:Nat×List ByteArray×Bool//x.1+x.2.1.length<=d.length/\(x.2.2=true->IM d x.2.1<=x.1/\JD d x.1 x.2.1=Bl d)/\(x.2.2=false->x.2.1=Bl d)}) (λx=>⟨[(0,.p FU d),(3,.sr 50 T9 0 x.1.2.1.length),(4,.p .bool x.1.2.2)],[(50,.arr 9 T9 x.1.2.1)]⟩) (λx=>(if x.1.2.2=true then x.1.1+1 else 0)) ⟨(d.length,[],true),by simp,λ_=>⟨List.countP_le_length,rfl⟩,λh=>by cases h⟩ (eW [(50,.nil)]) (λx=>?_)
 obtain⟨⟨n,out,C⟩,r,s,t⟩:=x;simp only at r s t;simp only;repeat'(first|exact trivial|apply eS rfl|refine rX j ?_ ?_|refine rC ?_ ?_<;>intro a<;>try(cases a;done))
 .subst a;obtain⟨hu,v⟩:=s rfl;have B:({ data:=#[] }:ByteArray).size<=AQ:=by decide
  rw[BY B];refine AJ (ι:={y:Nat×Bool×ByteArray//y.1<=d.length/\(d.take y.1).foldl (JB out) (false,ByteArray.empty)=y.2}) (λy=>⟨[(0,.p FU d),(3,.sr 50 T9 0 out.length),(4,.p .bool y.1.2.1),(5,.p T9 y.1.2.2),(6,.p (.int .i64) (y.1.1:Int))],[(50,.arr 9 T9 out)]⟩) (λy=>d.length-y.1.1) ⟨(0,false,ByteArray.empty),by simp,rfl⟩ (AD [(50,.nm 50)] rfl rfl ?_ ?_) (λy=>?_)
  .exact eN
  .refine eM ?_;rfl
  obtain⟨⟨k,w,b⟩,hk,c⟩:=y;simp only at hk c;have q:∀h:k<d.length,(d.take (k+1)).foldl (JB out) (false,ByteArray.empty)=JB out (w,b) (d.getD k d0):=λh=>by
   rw[E2 (JB out) d d0 _ h,c]
  simp only;repeat'(first|exact trivial|apply eS rfl|apply AB|refine rX j ?_ ?_|refine rC ?_ ?_<;>intro a<;>try(cases a;done))
  .exact⟨a,λ_=>a⟩
  .exact eV
  .have g:k<d.length:=by exact eV
   refine⟨⟨(k+1,w,b),by simp only;omega,?_⟩,by simp only;omega,AD [(50,.nm 50)] rfl rfl ?_ ?_⟩
   .simp only;rw[q g];unfold JB;rw[BY];rw[TB,RQ];exact a
   .exact eN
   exact eN
  .exact λ_=>by assumption
  .assumption
  .exact eV
  .rename_i f;have g:k<d.length:=by exact eV
   refine⟨⟨(k+1,true,(d.getD k d0).1),by simp only;omega,?_⟩,by simp only;omega,AD [(50,.nm 50)] rfl rfl ?_ ?_⟩
   .simp only;rw[q g];unfold JB;rw[At (by rw[f.1,f.2];simp),BY (by rw[TB,RQ];exact a)]
   .exact eN
   exact eN
  .exact eV
  .rename_i f;have g:k<d.length:=by exact eV
   refine⟨⟨(k+1,true,b),by simp only;omega,?_⟩,by simp only;omega,AD [(50,.nm 50)] rfl rfl ?_ ?_⟩
   .simp only;rw[q g];unfold JB;rw[At (by rw[f.1,f.2];simp),At (by rw[TB,RQ];rintro (h|h)<;>simp_all)]
   .exact eN
   exact eN
  .simp only[AQ];dsimp only[Ty.den]at *;omega
  .subst a;have l:d.take k=d:=As (by exact eV);rw[l]at c;have i:IL d out=(true,b):=c;have m:=iE (d:=d) (out:=out) (by rw[i]);rw[i]at m;obtain⟨e,rfl⟩:∃e,n=e+1:=⟨n-1,by omega⟩;have o:JD d e (out++[b])=Bl d:=by
    rw[<-v];show _=if (IL d out).1=true then JD d e (out++[(IL d out).2]) else out
    rw[i,BY rfl]
   have m:IM d (out++[b])<IM d out:=m;have A:IM d (out++[b])<=e:=by omega
   exact⟨⟨(e,out++[b],true),by simp only[By,GO];omega,λ_=>⟨A,o⟩,λh=>by cases h⟩,by simp,eW [(50,.nm 50)]⟩
  subst a;have l:d.take k=d:=As (by exact eV);rw[l]at c;have i:IL d out=(false,b):=c;have o:out=Bl d:=by
   rw[<-v];cases n with
   | zero=>rfl
   | succ n =>
    show _=if (IL d out).1=true then JD d n (out++[(IL d out).2]) else out
    rw[i,At sc]
  exact⟨⟨(n,out,false),r,(λh=>by cases h),λ_=>o⟩,by simp,eW [(50,.nm 50)]⟩
 subst a;have z:=t rfl;rw[z];refine FK [50] ?_;exact fI j [.tmp 2]
end
section
attribute [local go_sem] cB cD U6 cF
def X1 (d:List AK):Nat:=d.countP λx=>x.2.1.length==0
theorem iG (d:List AK) (h:k<d.length):X1 (d.take (k+1))=X1 (d.take k)+if ((d.getD k d0).2.1.length==0)=true then 1 else 0:=by
 unfold X1;rw[Af d d0 h,ACB,ABC,List.countP_nil];omega
theorem yL (d:List AK):X1 d<=d.length:=List.countP_le_length
def BV (d:List AK):Int :=
 if FC d≠0 then FC d else if Dt d≠0 then Dt d else if Kx d≠0 then Kx d else if X1 d≠1 then 1 else if (Bl d).length<d.length then 6 else 0
theorem Tu {d:List AK} (h:FC d=0):d.length<=256:=by
 unfold FC at h;split at h
 .cases h
 omega
def U7:Ab:={ ins:=[FU],pre:=λ_=>True,out:=λ(l,_)=>[.p HB (BV l)] }
attribute [local go_sem] U7
theorem yM:Ac Tryz.prog 74 U7:=by
 refine fK [0,2,3,4,5,6,7,11,16,21,26,35,39,45] Tryz.func74 Tryz.ntmps74 (AF A2i (AF A2k (AF yI (AF yK AI)))) ?_;rintro w0 O0 ⟨d,u⟩ c - -;simp only[U7,AM];repeat'(first|exact trivial|apply eS rfl|refine rX c ?_ ?_|refine rC ?_ ?_<;>intro a<;>try(cases a;done))
 .have h1:BV d=FC d:=by unfold BV;rw[BY a]
  exact fI c [.tmp 2] (by rw[h1];exact eR)
 .rename_i hs;have hs:FC d=0:=by simpa using hs
  have h1:BV d=Dt d:=by unfold BV;rw[At (by rw[hs];simp),BY a]
  exact fI c [.tmp 2] (by rw[h1];exact eR)
 .rename_i hs hn;have hs:FC d=0:=by simpa using hs
  have hn:Dt d=0:=by simpa using hn
  have h1:BV d=Kx d:=by unfold BV;rw[At (by rw[hs];simp),At (by rw[hn];simp),BY a]
  exact fI c [.tmp 2] (by rw[h1];exact eR)
 rename_i hs hn;have hs:FC d=0:=by simpa using hs
 have hn:Dt d=0:=by simpa using hn
 have hu:Kx d=0:=by simpa using a
 have hd:=Tu hs;have h1:BV d=if X1 d≠1 then 1 else if (Bl d).length<d.length then 6 else 0:=by
  unfold BV;rw[At (by rw[hs];simp),At (by rw[hn];simp),At (by rw[hu];simp)]
 refine AJ (ι:={k:Nat//k<=d.length}) (λk=>⟨[(0,.p FU d),(6,.p (.int .i64) (X1 (d.take k.1):Int)),(7,.p (.int .i64) (k.1:Int))],[]⟩) (λk=>d.length-k.1) ⟨0,OF _⟩ (AD [] rfl rfl ?_ ?_) (λk=>?_)
 .exact eN
 .refine eM ?_;rfl
 obtain⟨k,hk⟩:=k;have i:=yL (d.take k);have j:=TF k d;have g:=λh:k<d.length=>iG d h;simp only;repeat'(first|exact trivial|apply eS rfl|apply AB|refine rX c ?_ ?_|refine rC ?_ ?_<;>intro a<;>try(cases a;done))
 .exact a
 .exact eV
 .exact eV
 .have b:k<d.length:=by exact eV
  have e:=g b;rw[BY (by rw[TE];exact Int.ofNat_eq_zero.1 a)]at e;refine⟨⟨k+1,by omega⟩,by simp only;omega,AD [] rfl rfl ?_ ?_⟩
  .exact eN
  simp only[e];exact eN
 .exact eV
 .have b:k<d.length:=by exact eV
  have e:=g b;rw[At (by rw[TE];exact λh=>a (Int.ofNat_eq_zero.2 h))]at e;refine⟨⟨k+1,by omega⟩,by simp only;omega,AD [] rfl rfl ?_ ?_⟩
  .exact eN
  simp only[e];exact eN
 .have b:d.take k=d:=As (by exact eV);rw[b]at a;rw[BY (λh=>a (by rw[h];rfl))]at h1;exact fI c [.tmp 2] (by rw[h1];exact eR)
 .show d.length<=100000;omega
 .rename_i f;have b:d.take k=d:=As (by exact eV);rw[b]at f;have f:(X1 d:Int)=1:=by simpa using f
  rw[At O1,BY (IF.1 a)]at h1;exact fI c [.tmp 2] (by rw[h1];exact eR)
 rename_i f;have b:d.take k=d:=As (by exact eV);rw[b]at f;have f:(X1 d:Int)=1:=by simpa using f
 rw[At O1,At (λh=>absurd (RM.1 a) (Nat.not_le.2 h))]at h1;exact fI c [.tmp 2] (by rw[h1];exact eR)
end
section
attribute [local go_sem] O5 Jh b8
def MU (o:List ByteArray) (s:ByteArray):List ByteArray:=if Ai o s=true then o else o++[s]
def MV (d:List AK) (s:ByteArray):List ByteArray:=(d.getD (BJ d s).toNat d0).2.1
def Ky (d:List AK):Nat->Nat->List ByteArray->List ByteArray
 | 0,_,o=>o
 | n+1,i,o=>if i<o.length then Ky d n (i+1) ((MV d (o.getD i ByteArray.empty)).foldl MU o) else o
def MW (l:List ByteArray):List ByteArray:=l.foldl Ds []
theorem ZM (l:List ByteArray):(MW l).length<=l.length:=by
 have key:∀(l o:List ByteArray),(l.foldl Ds o).length<=o.length+l.length:=by
  intro l;induction l with
  | nil=>intro o;simp
  | cons x l a =>
   intro o;have h1:=a (Ds o x);have b:=MT o x;simp only[RJ,NO];omega
 have:=key l [];simpa[MW] using this
def O8 (d:List AK) (s:ByteArray):List ByteArray:=if BJ d s<0 then [] else MW (Ky d d.length 0 [s])
def Wb (d:List AK):Prop:=∀x∈d,∀s∈x.2.1,0<=BJ d s
theorem ZN (s:ByteArray):∀(l:List AK) (k:Nat),Cy s k l=-1\/((k:Int)<=Cy s k l/\Cy s k l<(k:Int)+l.length/\Ae (l.getD ((Cy s k l).toNat-k) d0).1 s=true)
 | [],_=>.inl rfl
 | x :: l,k=>by
  simp only[Cy];split
  .rename_i h;right;refine⟨by omega,by simp only[NO];omega,?_⟩;have:((k:Int).toNat-k)=0:=by omega
   rw[this];exact h
  rcases ZN s l (k+1) with h|⟨h1,b,a⟩
  .exact .inl h
  right;refine⟨by omega,by simp only[NO];omega,?_⟩;have:((Cy s (k+1) l).toNat-k)=((Cy s (k+1) l).toNat-(k+1))+1:=by omega
  rw[this];exact a
theorem Di (d:List AK) (s:ByteArray):BJ d s<0\/(0<=BJ d s/\BJ d s<(d.length:Int)/\Ae (d.getD (BJ d s).toNat d0).1 s=true):=by
 rcases ZN s d 0 with h|⟨h1,a,b⟩
 .left;show Cy s 0 d<0;omega
 have a:BJ d s<((0:Nat):Int)+d.length:=a;exact .inr ⟨h1,by omega,b⟩
theorem J6 {a b:ByteArray}:Ae a b=true↔a.toList=b.toList:=by unfold Ae;simp
theorem Fb {a b:ByteArray} (h:Ae a b=true):Ae b a=true:=J6.2 (J6.1 h).symm
theorem DF {a b c:ByteArray} (h:Ae a b=true) (g:Ae b c=true):Ae a c=true:=J6.2 ((J6.1 h).trans (J6.1 g))
structure fA (d:List AK) (o:List ByteArray):Prop where
 decl:∀s∈o,0<=BJ d s
 nd:o.Pairwise λa b=>Ae a b=false
theorem Kz (d:List AK):∀ {o:List ByteArray},fA d o->(o.map λs=>(BJ d s).toNat).Nodup
 | [],_=>by simp
 | s :: o,h=>by
  rw[Rd,iS];have b:=S8.1 h.nd;refine⟨λhm=>?_,Kz d ⟨λx hx=>h.decl x (by simp[hx]),b.2⟩⟩;obtain⟨x,hx,e⟩:=Do.1 hm;have h1:=h.decl s sc;have f:=h.decl x (by simp[hx]);rcases Di d s with g|⟨_,_,c⟩
  .omega
  rcases Di d x with g|⟨_,_,a⟩
  .omega
  rw[e]at a;have:=b.1 x hx;rw[DF (Fb c) a]at this;cases this
theorem fA.len {d:List AK} (h:fA d o):o.length<=d.length:=by
 have:=EI d.length (o.map λs=>(BJ d s).toNat) (Kz d h) (λj a=>by
  obtain⟨s,hs,rfl⟩:=Do.1 a;have h1:=h.decl s hs;rcases Di d s with g|⟨_,g,_⟩<;>omega)
 simpa using this
theorem QO (h:Ai o s=false):∀x∈o,Ae x s=false:=λx hx=>by
 cases hh:Ae x s with
 | false=>rfl
 | true=>exact absurd h (by rw[show Ai o s=true from Re.2 ⟨x,hx,hh⟩];simp)
theorem uA {d:List AK} (h:fA d o) (hs:0<=BJ d s):fA d (MU o s):=by
 unfold MU;split
 .exact h
 rename_i c;have c:Ai o s=false:=by simpa using c
 refine⟨λx hx=>?_,?_⟩
 .rcases Fg.1 hx with hx|hx
  .exact h.decl x hx
  have:x=s:=by simpa using hx
  rw[this];exact hs
 rw[AB2];refine⟨h.nd,by simp,λa ha b hb=>?_⟩;have:b=s:=by simpa using hb
 rw[this];exact QO c a ha
theorem iH {d:List AK}:∀ {l o:List ByteArray},(∀s∈l,0<=BJ d s)->fA d o->fA d (l.foldl MU o)/\o.length<=(l.foldl MU o).length
 | [],o,_,h=>⟨h,IN _⟩
 | s :: l,o,hl,h=>by
  obtain⟨a,b⟩:=iH (l:=l) (λx hx=>hl x (by simp[hx])) (uA h (hl s sc));refine⟨a,RF ?_ b⟩;unfold MU;split<;>simp
theorem iI {d:List AK} (hd:Wb d) (s:ByteArray):∀x∈MV d s,0<=BJ d x:=by
 intro x hx;unfold MV at hx;by_cases h:(BJ d s).toNat<d.length
 .exact hd _ (AE d d0 h) x hx
 rw[AS,RP O1]at hx;cases hx
def oZ:Ab:={ ins:=[FU,T9],pre:=λ(d,_,_)=>Wb d/\List.length d<=256,out:=λ(d,s,_)=>[.p GY (O8 d s)] }
theorem A2l:Ac Tryz.prog 144 oZ:=by
 refine fK [0,1,4,5,6,7,8,9,10,14,20,36,45,56] Tryz.func144 Tryz.ntmps144 (AF MQ (AF HC (AF R8 AI))) ?_;rintro w0 O0 ⟨d,s,u⟩ b ⟨⟨N,D⟩,-⟩ ⟨L,hd⟩;have hd:d.length<=256:=hd;simp only[oZ,AM];repeat'(first|exact trivial|apply eS rfl|refine rX b ?_ ?_|refine rC ?_ ?_<;>intro a<;>try(cases a;done))
 .have h1:O8 d s=[]:=by unfold O8;rw[BY a]
  exact fI b [.tmp 4] (by rw[h1];exact eR)
 have h1:O8 d s=MW (Ky d d.length 0 [s]):=by unfold O8;rw[At (AB1.2 a)]
 have C:fA d [s]:=⟨λx hx=>by
  have:x=s:=by simpa using hx
  rw[this];exact a,by simp⟩
 refine AJ (ι:={x:Nat×List ByteArray//x.1<=x.2.length/\fA d x.2/\Ky d (d.length-x.1) x.1 x.2=Ky d d.length 0 [s]}) (λx=>⟨[(0,.p FU d),(1,.p T9 s),(5,.sr 16 T9 0 x.1.2.length),(6,.p (.int .i64) (x.1.1:Int))],[(16,.arr 9 T9 x.1.2)]⟩) (λx=>d.length-x.1.1) ⟨(0,[s]),by simp,C,rfl⟩ (eW [(16,.nm 16)]) (λx=>?_)
 obtain⟨⟨i,o⟩,hi,c,t⟩:=x;simp only at hi c t;have R:=c.len;simp only;repeat'(first|exact trivial|apply eS rfl|refine rX b ?_ ?_|refine rC ?_ ?_<;>intro a<;>try(cases a;done))
 .have q:i<o.length:=by exact eV
  have y:=c.decl _ (AE o ByteArray.empty q);refine⟨a,y,?_⟩;rcases Di d (o.getD i ByteArray.empty) with g|⟨_,g,_⟩
  .omega
  exact g
 .have q:i<o.length:=by exact eV
  have y:=c.decl _ (AE o ByteArray.empty q);have H:=iI L (o.getD i ByteArray.empty);have z:Ky d (d.length-(i+1)) (i+1) ((MV d (o.getD i ByteArray.empty)).foldl MU o)=Ky d d.length 0 [s]:=by
   rw[<-t];obtain⟨m,hm⟩:∃m,d.length-i=m+1:=⟨d.length-i-1,by omega⟩;have E:d.length-(i+1)=m:=by omega
   rw[hm,E];show _=if i<o.length then Ky d m (i+1) ((MV d (o.getD i ByteArray.empty)).foldl MU o) else o
   rw[BY q]
  have J:(MV d (o.getD i ByteArray.empty)).length<=AQ:=by
   rcases Di d (o.getD i ByteArray.empty) with g|⟨_,g,_⟩
   .omega
   exact(D _ (AE d d0 (k:=(BJ d (o.getD i ByteArray.empty)).toNat) O1)).2.1.1
  have K:(List.getD d (BJ d (o.getD i ByteArray.empty)).toNat (ByteArray.empty,[],[])).2.1=MV d (o.getD i ByteArray.empty):=rfl;rw[K];generalize MV d (o.getD i ByteArray.empty)=sup at *;simp only[AQ]at J;refine AJ (ι:={k:Nat//k<=sup.length}) (λk=>⟨[(0,.p FU d),(1,.p T9 s),(5,.sr 16 T9 0 ((sup.take k.1).foldl MU o).length),(6,.p (.int .i64) (i:Int)),(7,.p GY sup),(8,.p (.int .i64) (k.1:Int))],[(16,.arr 9 T9 ((sup.take k.1).foldl MU o))]⟩) (λk=>sup.length-k.1) ⟨0,OF _⟩ (AD [(16,.nm 16)] rfl rfl ?_ ?_) (λk=>?_)
  .refine eM ?_;rfl
  .refine eM ?_;rfl
  obtain⟨k,hk⟩:=k;have w:=iH (l:=sup.take k) (o:=o) (λx hx=>H x (TO hx)) c;have P:=w.1.len;have B:=λh:k<sup.length=>E2 MU sup ByteArray.empty o h;simp only;generalize A:(sup.take k).foldl MU o=n at *;repeat'(first|exact trivial|apply eS rfl|apply AB|refine rX b ?_ ?_|refine rC ?_ ?_<;>intro a<;>try(cases a;done))
  .exact a
  .refine⟨by exact eV,?_⟩;simp only[AQ];dsimp only[Ty.den]at *;omega
  .exact eV
  .have f:k<sup.length:=by exact eV
   have e:=B f;have r:MU n (sup.getD k ByteArray.empty)=n++[sup.getD k ByteArray.empty]:=by unfold MU;rw[At (by rw[a];simp)]
   rw[r]at e;refine⟨⟨k+1,by omega⟩,by simp only;omega,AD [(16,.nm 16)] rfl rfl ?_ ?_⟩
   .simp only[e];exact eN
   simp only[e];exact eN
  .exact eV
  .have f:k<sup.length:=by exact eV
   have e:=B f;have r:MU n (sup.getD k ByteArray.empty)=n:=by unfold MU;rw[BY a]
   rw[r]at e;refine⟨⟨k+1,by omega⟩,by simp only;omega,AD [(16,.nm 16)] rfl rfl ?_ ?_⟩
   .simp only[e];exact eN
   simp only[e];exact eN
  .exact eV
  have f:sup.take k=sup:=As (by exact eV);rw[f]at A;rw[A]at z;have G:=w.1;have Q:=w.2;exact⟨⟨(i+1,n),by simp only;omega,G,z⟩,by simp only;omega,eW [(16,.nm 16)]⟩
 have F:o=Ky d d.length 0 [s]:=by
  rw[<-t];cases hm:d.length-i with
  | zero=>rfl
  | succ m =>
   show _=if i<o.length then _ else o
   rw[At (by exact eV)]
 rw[<-F]at h1;refine AJ (ι:={j:Nat//j<=o.length}) (λj=>⟨[(0,.p FU d),(5,.sr 16 T9 0 o.length),(9,.p GY ((o.take j.1).foldl Ds [])),(10,.p (.int .i64) (j.1:Int))],[(16,.arr 9 T9 o)]⟩) (λj=>o.length-j.1) ⟨0,OF _⟩ (AD [(16,.nm 16)] rfl rfl ?_ ?_) (λj=>?_)
 .exact eN
 .refine eM ?_;rfl
 obtain⟨j,O⟩:=j;have I:=λh:j<o.length=>E2 Ds o ByteArray.empty [] h;simp only;repeat'(first|exact trivial|apply eS rfl|apply AB|refine rX b ?_ ?_|refine rC ?_ ?_<;>intro a<;>try(cases a;done))
 .refine⟨a,?_⟩;have:=ZM (o.take j);have M:=TF j o;unfold MW at this;dsimp only[Ty.den]at *;omega
 .exact eV
 .have v:j<o.length:=by exact eV
  have e:=I v;refine⟨⟨j+1,by omega⟩,by simp only;omega,AD [(16,.nm 16)] rfl rfl ?_ ?_⟩
  .exact eN
  simp only[e];exact eN
 have v:o.take j=o:=As (by exact eV);rw[v];exact fI b [.tmp 4] (by rw[h1];unfold MW;exact eR)
end
section
attribute [local go_sem] O5 Jh b8
def F0 (s:ByteArray) (o:List ByteArray) (x:AK):List ByteArray:=if (Ai x.2.1 s&&!Ai o x.1)=true then o++[x.1] else o
def Du (d:List AK):Nat->Nat->List ByteArray->List ByteArray
 | 0,_,o=>o
 | n+1,i,o=>if i<o.length then Du d n (i+1) (d.foldl (F0 (o.getD i ByteArray.empty)) o) else o
def Dv (d:List AK) (s:ByteArray):List ByteArray:=if BJ d s<0 then [] else MW (Du d d.length 0 [s])
theorem Wc (s:ByteArray):∀(l:List AK) (k:Nat) (x:AK),x∈l->Ae x.1 s=true->0<=Cy s k l
 | y :: l,k,x,hx,h=>by
  simp only[Cy];split
  .omega
  rename_i a;rcases DO.1 hx with rfl|hx
  .exact absurd h a
  exact Wc s l (k+1) x hx h
theorem Fc {d:List AK} {x:AK} (hx:x∈d):0<=BJ d x.1:=Wc x.1 d 0 x hx (Fa _)
theorem A5A {d:List AK} (h:fA d o) (s:ByteArray) {x:AK} (hx:x∈d):fA d (F0 s o x):=by
 unfold F0;split
 .rename_i a;rw[An,RQ]at a;have:=uA h (Fc hx);unfold MU at this
  rwa [At (by rw[a.2];simp)]at this
 exact h
theorem Wd {d:List AK} (s:ByteArray):∀ {l:List AK} {o:List ByteArray},(∀x∈l,x∈d)->fA d o->fA d (l.foldl (F0 s) o)/\o.length<=(l.foldl (F0 s) o).length
 | [],o,_,h=>⟨h,IN _⟩
 | x :: l,o,hl,h=>by
  obtain⟨a,b⟩:=Wd s (l:=l) (λy hy=>hl y (by simp[hy])) (A5A h s (hl x sc));refine⟨a,RF ?_ b⟩;unfold F0;split<;>simp
theorem SC (s:ByteArray) {i:Nat}:∀ {l:List AK} {o:List ByteArray},i<o.length->(l.foldl (F0 s) o).getD i ByteArray.empty=o.getD i ByteArray.empty
 | [],_,_=>rfl
 | x :: l,o,h=>by
  have a:i<(F0 s o x).length/\(F0 s o x).getD i ByteArray.empty=o.getD i ByteArray.empty:=by
   unfold F0;split
   .refine⟨by rw[By];omega,?_⟩;simp only[AS];rw[RU h]
   exact⟨h,rfl⟩
  rw[RJ,SC s a.1,a.2]
def cH:Ab:={ ins:=[FU,T9],pre:=λ(d,_,_)=>List.length d<=256,out:=λ(d,s,_)=>[.p GY (Dv d s)] }
attribute [local go_sem] cH
theorem A2m:Ac Tryz.prog 117 cH:=by
 refine fK [0,1,4,5,6,7,8,9,13,19,25,47,59] Tryz.func117 Tryz.ntmps117 (AF MQ (AF HC (AF R8 AI))) ?_;rintro w0 O0 ⟨d,s,u⟩ b-hd;have hd:d.length<=256:=hd;simp only[cH,AM];repeat'(first|exact trivial|apply eS rfl|refine rX b ?_ ?_|refine rC ?_ ?_<;>intro a<;>try(cases a;done))
 .have h1:Dv d s=[]:=by unfold Dv;rw[BY a]
  exact fI b [.tmp 4] (by rw[h1];exact eR)
 have h1:Dv d s=MW (Du d d.length 0 [s]):=by unfold Dv;rw[At (AB1.2 a)]
 have C:fA d [s]:=⟨λx hx=>by
  have:x=s:=by simpa using hx
  rw[this];exact a,by simp⟩
 refine AJ (ι:={x:Nat×List ByteArray//x.1<=x.2.length/\fA d x.2/\Du d (d.length-x.1) x.1 x.2=Du d d.length 0 [s]}) (λx=>⟨[(0,.p FU d),(5,.sr 15 T9 0 x.1.2.length),(6,.p (.int .i64) (x.1.1:Int))],[(15,.arr 9 T9 x.1.2)]⟩) (λx=>d.length-x.1.1) ⟨(0,[s]),by simp,C,rfl⟩ (eW [(15,.nm 15)]) (λx=>?_)
 obtain⟨⟨i,o⟩,hi,q,r⟩:=x;simp only at hi q r;have L:=q.len;simp only;repeat'(first|exact trivial|apply eS rfl|refine rX b ?_ ?_|refine rC ?_ ?_<;>intro a<;>try(cases a;done))
 .have w:i<o.length:=by exact eV
  have y:Du d (d.length-(i+1)) (i+1) (d.foldl (F0 (o.getD i ByteArray.empty)) o)=Du d d.length 0 [s]:=by
   rw[<-r];obtain⟨m,hm⟩:∃m,d.length-i=m+1:=⟨d.length-i-1,by omega⟩;have D:d.length-(i+1)=m:=by omega
   rw[hm,D];show _=if i<o.length then Du d m (i+1) (d.foldl (F0 (o.getD i ByteArray.empty)) o) else o
   rw[BY w]
  refine AJ (ι:={k:Nat//k<=d.length}) (λk=>⟨[(0,.p FU d),(5,.sr 15 T9 0 ((d.take k.1).foldl (F0 (o.getD i ByteArray.empty)) o).length),(6,.p (.int .i64) (i:Int)),(7,.p (.int .i64) (k.1:Int))],[(15,.arr 9 T9 ((d.take k.1).foldl (F0 (o.getD i ByteArray.empty)) o))]⟩) (λk=>d.length-k.1) ⟨0,OF _⟩ (AD [(15,.nm 15)] rfl rfl ?_ ?_) (λk=>?_)
  .refine eM ?_;rfl
  .refine eM ?_;rfl
  obtain⟨k,hk⟩:=k;have g:=Wd (o.getD i ByteArray.empty) (l:=d.take k) (o:=o) (λx hx=>TO hx) q;have J:=g.1.len;have B:=λh:k<d.length=>E2 (F0 (o.getD i ByteArray.empty)) d d0 o h;have A:((d.take k).foldl (F0 (o.getD i ByteArray.empty)) o).getD i ByteArray.empty=o.getD i ByteArray.empty:=SC _ w;simp only;generalize z:(d.take k).foldl (F0 (o.getD i ByteArray.empty)) o=f at *;repeat'(first|exact trivial|apply eS rfl|apply AB|refine rX b ?_ ?_|refine rC ?_ ?_<;>intro a<;>try(cases a;done))
  .have hl:=g.2;refine⟨a,?_,λ_=>a⟩;dsimp only[Ty.den]at *;omega
  .refine⟨by assumption,?_⟩;simp only[AQ];dsimp only[Ty.den]at *;omega
  .exact eV
  .have c:k<d.length:=by exact eV
   have e:=B c;rw[A]at a;have n:F0 (o.getD i ByteArray.empty) f (d.getD k d0)=f++[(d.getD k d0).1]:=by
    unfold F0;rw[BY (by rw[An,RQ];exact a)]
   rw[n]at e;refine⟨⟨k+1,by omega⟩,by simp only;omega,AD [(15,.nm 15)] rfl rfl ?_ ?_⟩
   .simp only[e];exact eN
   simp only[e];exact eN
  .exact eV
  .have c:k<d.length:=by exact eV
   have e:=B c;rw[A]at a;have n:F0 (o.getD i ByteArray.empty) f (d.getD k d0)=f:=by
    unfold F0;rw[At];rw[An,RQ];rintro⟨h1,v⟩;rw[a h1]at v;cases v
   rw[n]at e;refine⟨⟨k+1,by omega⟩,by simp only;omega,AD [(15,.nm 15)] rfl rfl ?_ ?_⟩
   .simp only[e];exact eN
   simp only[e];exact eN
  .exact eV
  have c:d.take k=d:=As (by exact eV);rw[c]at z;rw[z]at y;have F:=g.1;have K:=g.2;exact⟨⟨(i+1,f),by simp only;omega,F,y⟩,by simp only;omega,eW [(15,.nm 15)]⟩
 have E:o=Du d d.length 0 [s]:=by
  rw[<-r];cases hm:d.length-i with
  | zero=>rfl
  | succ m =>
   show _=if i<o.length then _ else o
   rw[At (by exact eV)]
 rw[<-E]at h1;refine AJ (ι:={j:Nat//j<=o.length}) (λj=>⟨[(0,.p FU d),(5,.sr 15 T9 0 o.length),(8,.p GY ((o.take j.1).foldl Ds [])),(9,.p (.int .i64) (j.1:Int))],[(15,.arr 9 T9 o)]⟩) (λj=>o.length-j.1) ⟨0,OF _⟩ (AD [(15,.nm 15)] rfl rfl ?_ ?_) (λj=>?_)
 .exact eN
 .refine eM ?_;rfl
 obtain⟨j,I⟩:=j;have G:=λh:j<o.length=>E2 Ds o ByteArray.empty [] h;simp only;repeat'(first|exact trivial|apply eS rfl|apply AB|refine rX b ?_ ?_|refine rC ?_ ?_<;>intro a<;>try(cases a;done))
 .refine⟨a,?_⟩;have:=ZM (o.take j);have H:=TF j o;unfold MW at this;dsimp only[Ty.den]at *;omega
 .exact eV
 .have t:j<o.length:=by exact eV
  have e:=G t;refine⟨⟨j+1,by omega⟩,by simp only;omega,AD [(15,.nm 15)] rfl rfl ?_ ?_⟩
  .exact eN
  simp only[e];exact eN
 have t:o.take j=o:=As (by exact eV);rw[t];exact fI b [.tmp 4] (by rw[h1];unfold MW;exact eR)
end
section
attribute [local go_sem] O5 b8 oZ Jh
def LZ (d:List AK) (o:List ByteArray) (x:ByteArray):List ByteArray:=if 0<=BJ d x then Ds o x else o
def Cr (d:List AK) (l:List ByteArray):List ByteArray:=l.foldl (LZ d) []
theorem Jj (d:List AK) (l:List ByteArray):(Cr d l).length<=l.length:=by
 have key:∀(l o:List ByteArray),(l.foldl (LZ d) o).length<=o.length+l.length:=by
  intro l;induction l with
  | nil=>intro o;simp
  | cons x l a =>
   intro o;have h1:=a (LZ d o x);have b:(LZ d o x).length<=o.length+1:=by
    unfold LZ;split
    .exact MT o x
    omega
   simp only[RJ,NO];omega
 have:=key l [];simpa[Cr] using this
def SD:Ab:={ ins:=[FU,GY],pre:=λ(_,l,_)=>List.length l<=100000,out:=λ(d,l,_)=>[.p GY (Cr d l)] }
attribute [local go_sem] SD
theorem iJ:Ac Tryz.prog 143 SD:=by
 refine fK [0,1,4,5,6,10,19] Tryz.func143 Tryz.ntmps143 (AF MQ (AF R8 AI)) ?_;rintro w0 O0 ⟨d,l,u⟩ c-hl;have hl:l.length<=100000:=hl;simp only[SD,AM];repeat'(first|exact trivial|apply eS rfl|refine rX c ?_ ?_)
 refine AJ (ι:={k:Nat//k<=l.length}) (λk=>⟨[(0,.p FU d),(1,.p GY l),(5,.p GY (Cr d (l.take k.1))),(6,.p (.int .i64) (k.1:Int))],[]⟩) (λk=>l.length-k.1) ⟨0,OF _⟩ (AD [] rfl rfl ?_ ?_) (λk=>?_)
 .exact eN
 .refine eM ?_;rfl
 obtain⟨k,hk⟩:=k;have hn:=Jj d (l.take k);have f:=TF k l;have hs:=λh:k<l.length=>E2 (LZ d) l ByteArray.empty [] h;simp only;repeat'(first|exact trivial|apply eS rfl|apply AB|refine rX c ?_ ?_|refine rC ?_ ?_<;>intro b<;>try(cases b;done))
 .exact b
 .exact⟨by assumption,by omega⟩
 .exact eV
 .have a:k<l.length:=by exact eV
  have e:Cr d (l.take (k+1))=LZ d (Cr d (l.take k)) (l.getD k ByteArray.empty):=hs a;unfold LZ at e;rw[BY b]at e;refine⟨⟨k+1,by omega⟩,by simp only;omega,AD [] rfl rfl ?_ ?_⟩
  .exact eN
  simp only[e];exact eN
 .exact eV
 .have a:k<l.length:=by exact eV
  have e:Cr d (l.take (k+1))=LZ d (Cr d (l.take k)) (l.getD k ByteArray.empty):=hs a;unfold LZ at e;rw[At (ACp.2 b)]at e;refine⟨⟨k+1,by omega⟩,by simp only;omega,AD [] rfl rfl ?_ ?_⟩
  .exact eN
  simp only[e];exact eN
 have a:l.take k=l:=As (by exact eV);rw[a];exact fI c [.tmp 4]
def A2n (d:List AK) (all:List ByteArray) (i:Nat) (k:Nat):Bool:=(k:Int)==(i:Int)||!Ai (O8 d (all.getD i ByteArray.empty)) (all.getD k ByteArray.empty)
def ZO (d:List AK) (all:List ByteArray) (i n:Nat):Bool:=(List.range n).all (A2n d all i)
def Ug (d:List AK) (all:List ByteArray) (n:Nat):List ByteArray:=((List.range n).filter λi=>ZO d all i all.length).map λi=>all.getD i ByteArray.empty
def CL (d:List AK) (l:List ByteArray):List ByteArray:=Ug d (Cr d l) (Cr d l).length
theorem yN (d:List AK) (all:List ByteArray) (n:Nat):Ug d all (n+1)=Ug d all n++if ZO d all n all.length=true then [all.getD n ByteArray.empty] else []:=by
 unfold Ug;rw[S9,ABr,RY]
 congr 1
 rw[oR,AC8];split<;>rfl
theorem iK (d:List AK) (all:List ByteArray) (n:Nat):(Ug d all n).length<=n:=by
 unfold Ug;rw[No];exact RF (AAx _ _) sc
theorem o4 (d:List AK) (all:List ByteArray) (i n:Nat):ZO d all i (n+1)=(ZO d all i n&&A2n d all i n):=by
 unfold ZO;rw[S9,ABV];simp
def MX:Ab:={ ins:=[FU,GY],pre:=λ(d,l,_)=>Wb d/\List.length d<=256/\List.length l<=100000,out:=λ(d,l,_)=>[.p GY (CL d l)] }
attribute [local go_sem] MX
theorem We:Ac Tryz.prog 123 MX:=by
 refine fK [0,1,4,5,6,7,8,9,10,17,29,47] Tryz.func123 Tryz.ntmps123 (AF iJ (AF A2l (AF HC AI))) ?_;rintro w0 O0 ⟨d,l,u⟩ c-⟨j,hd,hl⟩;have hd:d.length<=256:=hd;have hl:l.length<=100000:=hl;have h:CL d l=Ug d (Cr d l) (Cr d l).length:=rfl;have m:=Jj d l;simp only[MX,AM];repeat'(first|exact trivial|apply eS rfl|refine rX c ?_ ?_)
 .exact hl
 rw[h];generalize Cr d l=all at *;refine AJ (ι:={i:Nat//i<=all.length}) (λi=>⟨[(0,.p FU d),(5,.sr 54 T9 0 (Ug d all i.1).length),(6,.p GY all),(7,.p (.int .i64) (i.1:Int))],[(54,.arr 9 T9 (Ug d all i.1))]⟩) (λi=>all.length-i.1) ⟨0,OF _⟩ (AD [(54,.nil)] rfl rfl ?_ ?_) (λi=>?_)
 .refine eM ?_;rfl
 .refine eM ?_;rfl
 obtain⟨i,hi⟩:=i;have n:=iK d all i;have b:=yN d all i;simp only;repeat'(first|exact trivial|apply eS rfl|refine rX c ?_ ?_|refine rC ?_ ?_<;>intro a<;>try(cases a;done))
 .exact⟨a,j,hd⟩
 .have f:i<all.length:=by exact eV
  refine AJ (ι:={k:Nat//k<=all.length}) (λk=>⟨[(0,.p FU d),(5,.sr 54 T9 0 (Ug d all i).length),(6,.p GY all),(7,.p (.int .i64) (i:Int)),(8,.p GY (O8 d (all.getD i ByteArray.empty))),(9,.p .bool (ZO d all i k.1)),(10,.p (.int .i64) (k.1:Int))],[(54,.arr 9 T9 (Ug d all i))]⟩) (λk=>all.length-k.1) ⟨0,OF _⟩ (AD [(54,.nm 54)] rfl rfl ?_ ?_) (λk=>?_)
  .exact eN
  .refine eM ?_;rfl
  obtain⟨k,hk⟩:=k;have g:=o4 d all i k;simp only;repeat'(first|exact trivial|apply eS rfl|apply AB|refine rX c ?_ ?_|refine rC ?_ ?_<;>intro a<;>try(cases a;done))
  .exact λ_=>a
  .exact eV
  .have e:k<all.length:=by exact eV
   refine⟨⟨k+1,by omega⟩,by simp only;omega,AD [(54,.nm 54)] rfl rfl ?_ ?_⟩
   .exact eN
   simp only[g];unfold A2n;exact eN
  .refine⟨by assumption,?_⟩;simp only[AQ];omega
  .exact eV
  .have e:k=all.length:=by exact eV
   subst e;rw[a,BY rfl]at b;refine⟨⟨i+1,by omega⟩,by simp only;omega,AD [(54,.nm 54)] rfl rfl ?_ ?_⟩
   .simp only[b];exact eN
   simp only[b];exact eN
  .exact eV
  have e:k=all.length:=by exact eV
  subst e;rw[a,At sc,S6]at b;refine⟨⟨i+1,by omega⟩,by simp only;omega,AD [(54,.nm 54)] rfl rfl ?_ ?_⟩
  .simp only[b];exact eN
  simp only[b];exact eN
 have f:i=all.length:=by exact eV
 subst f;refine FK [54] ?_;exact fI c [.tmp 4]
end
section
attribute [local go_sem] Kv
def yO (b:List Int) (x:Int):List Int:=b.set (x.tdiv 64).toNat (Co .or .u64 (b.getD (x.tdiv 64).toNat 0) (aV .u64 1 (x.tmod 64)))
def ofL (l:List Int):List Int:=l.foldl yO (List.replicate 64 0)
def okB (x:Int):Bool:=!(decide (x<0)||decide (4095<x))
def ofF (l:List Int):List Int×Int:=if l.all okB=true then (BO (ofL l),0) else ([],2)
theorem QP (l:List Int):(ofL l).length=64:=by
 have key:∀(l b:List Int),(l.foldl yO b).length=b.length:=by
  intro l;induction l with
  | nil=>intro b;rfl
  | cons x l a =>
   intro b;rw[RJ,a];simp[yO]
 unfold ofL;rw[key];simp
def ofS:Ab:={ ins:=[D6],pre:=λ_=>True,out:=λ(l,_)=>[.p ER (ofF l).1,.p HB (ofF l).2] }
theorem AA2:Ac Tryz.prog 119 ofS:=by
 refine fK [0,2,3,4,5,10,24] Tryz.func119 Tryz.ntmps119 (AF NZ AI) ?_;rintro w0 O0 ⟨l,u⟩ c ⟨⟨hl,-⟩,-⟩ -;simp only[AQ]at hl;simp only[ofS,AM];repeat'(first|exact trivial|apply eS rfl|refine rX c ?_ ?_)
 .simp only[AQ];omega
 refine AJ (ι:={k:Nat//k<=l.length/\(l.take k).all okB=true}) (λk=>⟨[(0,.p D6 l),(4,.sr 6 R6 0 (ofL (l.take k.1)).length),(5,.p (.int .i64) (k.1:Int))],[(6,.arr 185 R6 (ofL (l.take k.1)))]⟩) (λk=>l.length-k.1) ⟨0,OF _,rfl⟩ (AD [(6,.nm 6)] rfl rfl ?_ ?_) (λk=>?_)
 .refine eM ?_;rfl
 .refine eM ?_;rfl
 obtain⟨k,hk,hf⟩:=k;have g:=QP (l.take k);have hs:∀h:k<l.length,ofL (l.take (k+1))=yO (ofL (l.take k)) (l.getD k 0):=λh=>E2 yO l 0 _ h;simp only;repeat'(first|exact trivial|apply eS rfl|apply AB|refine rX c ?_ ?_|refine rC ?_ ?_<;>intro a<;>try(cases a;done))
 .exact⟨a,λ_=>a⟩
 .have b:k<l.length:=by exact eV
  have h1:ofF l=([],2):=by
   unfold ofF;rw[At];intro h;have:=Of.1 h _ (AE l 0 b);unfold okB at this;rw[RQ,AAo,RT,RT]at this;rcases a with h|h
   .exact this.1 h
   exact this.2 h
  exact fI c [.tmp 2,.tmp 3] (by rw[h1];exact eR)
 .obtain⟨h0,h1⟩:=a;have d:Int.tdiv (l.getD k 0) 64=l.getD k 0 / 64:=ABd h0;have f:Int.tmod (l.getD k 0) 64=l.getD k 0 % 64:=ABz h0;rw[d,f,g];refine⟨?_,⟨by decide,?_,?_⟩,?_,⟨by decide,?_,?_⟩,⟨?_,?_⟩,?_,⟨by decide,?_,?_⟩,⟨?_,?_⟩,?_,?_,?_⟩<;>exact eV
 .exact eV
 .have b:k<l.length:=by exact eV
  have e:=hs b;refine⟨⟨k+1,by omega,?_⟩,by simp only;omega,AD [(6,.nm 6)] rfl rfl ?_ ?_⟩
  .rw[J5 l 0 _ b,hf,ACM];unfold okB;rw[RQ,AAo,RT,RT];exact⟨AB1.2 a.1,AB1.2 a.2⟩
  .simp only[e];refine eM ?_;rfl
  simp only[e];refine eM ?_;rw[<-e,QP,QP]
 have b:l.take k=l:=As (by exact eV);rw[b]at hf ⊢;have h1:ofF l=(BO (ofL l),0):=by unfold ofF;rw[BY hf]
 have i:=QP l;refine FK [6] ?_;repeat'(first|apply eS rfl|refine rX c ?_ ?_)
 .rw[i];decide
 exact fI c [.tmp 2,.tmp 3] (by rw[h1];exact eR)
end
section
attribute [local go_sem] Wa QM
def o5 (l:List (List Int)) (b:List Int):Bool:=l.any λx=>IJ x b
def A8r:Ab:={ ins:=[Ue,ER],pre:=λ_=>True,out:=λ(l,b,_)=>[.p .bool (o5 l b)],lend:=true }
theorem A8s:Ac Tryz.prog 120 A8r:=by
 refine fK [0,1,4,5,9,17] Tryz.func120 Tryz.ntmps120 (AF cA AI) ?_;rintro w0 O0 ⟨l,n,u⟩ a ⟨⟨hl,-⟩,-⟩ -;simp only[AQ]at hl;simp only[A8r,AM];repeat'(first|exact trivial|apply eS rfl|refine rX a ?_ ?_)
 refine AJ (ι:={k:Nat//k<=l.length/\(l.take k).any (λx=>IJ x n)=false}) (λk=>⟨[(0,.p Ue l),(1,.p ER n),(5,.p (.int .i64) (k.1:Int))],[]⟩) (λk=>l.length-k.1) ⟨0,by simp⟩ (eW []) (λk=>?_)
 obtain⟨k,hk,c⟩:=k;repeat'(first|exact trivial|apply eS rfl|apply AB|refine rX a ?_ ?_|refine rC ?_ ?_<;>intro b<;>try(cases b;done))
 .exact eV
 .have d:k<l.length:=by exact eV
  have h1:o5 l n=true:=JA l [] _ d b;exact fI a [.tmp 4] (by rw[h1];exact eR)
 .exact eV
 .have d:k<l.length:=by exact eV
  refine⟨⟨k+1,by exact eV,?_⟩,by simp only;exact eV,AD [] rfl rfl ?_ ?_⟩
  .rw[NY l [] _ d,c];exact b
  .exact eN
  exact eN
 have hk:l.take k=l:=As (by exact eV);rw[hk]at c;have h1:o5 l n=false:=c;exact fI a [.tmp 4] (by rw[h1];exact eR)
abbrev AW:=ByteArray×List Int
abbrev c0:AW:=(ByteArray.empty,[])
def OP (l:List AW) (i j:Int):Bool:=E1 (l.getD j.toNat c0).2 (l.getD i.toNat c0).2
def uB:Ab:={ ins:=[ZG,T3,T3],pre:=λ(l,i,j,_)=>((0:Int)<=i/\i<(List.length l:Int))/\((0:Int)<=j/\j<(List.length l:Int))/\(∀x∈(l:List AW),x.2.length<=100000),out:=λ(l,i,j,_)=>[.p .bool (OP l i j)],lend:=true }
theorem uC:Ac Tryz.prog 80 uB:=by
 refine fK [0,1,2,6] Tryz.func80 Tryz.ntmps80 (AF SA AI) ?_;rintro w0 O0 ⟨l,i,j,u⟩ a-⟨hi,b,hx⟩;simp only[uB,AM];repeat'(first|exact trivial|apply eS rfl|refine rX a ?_ ?_)
 .exact⟨b,hi,hx _ (AE (l:List AW) c0 (by exact eV))⟩
 exact fI a [.tmp 6] (by unfold OP;exact eR)
end
section
attribute [local go_sem] Wa
def SE (s:ByteArray):Nat->List AW->Int
 | _,[]=>-1
 | k,x :: l=>if Ae x.1 s=true then (k:Int) else SE s (k+1) l
def DX (l:List AW) (s:ByteArray):Int:=SE s 0 l
theorem ZP (s:ByteArray) (l:List AW) (h:k<l.length):SE s k (l.drop k)=if Ae (l.getD k c0).1 s=true then (k:Int) else SE s (k+1) (l.drop (k+1)):=by
 rw[Is h];have e:l.getD k c0=l[k]:=by simp[AS,h]
 rw[e];rfl
def U8:Ab:={ ins:=[ZG,T9],pre:=λ_=>True,out:=λ(l,s,_)=>[.p T3 (DX l s)],lend:=true }
theorem ZQ:Ac Tryz.prog 82 U8:=by
 refine fK [0,1,4,5,9,18] Tryz.func82 Tryz.ntmps82 AI ?_;rintro w0 O0 ⟨l,s,u⟩ c ⟨⟨hl,-⟩,-⟩ -;simp only[AQ]at hl;simp only[U8,AM];repeat'(first|exact trivial|apply eS rfl|refine rX c ?_ ?_)
 refine AJ (ι:={k:Nat//k<=l.length/\SE s k (l.drop k)=DX l s}) (λk=>⟨[(0,.p ZG l),(1,.p T9 s),(5,.p (.int .i64) (k.1:Int))],[]⟩) (λk=>l.length-k.1) ⟨0,OF _,rfl⟩ (eW []) (λk=>?_)
 obtain⟨k,hk,hf⟩:=k;simp only;repeat'(first|exact trivial|apply eS rfl|apply AB|refine rX c ?_ ?_|refine rC ?_ ?_<;>intro b<;>try(cases b;done))
 .exact b
 .have a:k<l.length:=by exact eV
  rw[ZP s l a,BY b]at hf;exact fI c [.tmp 4] (by rw[<-hf];exact eR)
 .exact eV
 .have a:k<l.length:=by exact eV
  rw[ZP s l a,At (by rw[b];simp)]at hf;exact⟨⟨k+1,by omega,hf⟩,by simp only;omega,eW []⟩
 have a:l.drop k=[]:=OR (by exact eV);rw[a]at hf;exact fI c [.tmp 4] (by rw[<-hf];first|exact eR|refine Tp ?_;rfl)
end
section
attribute [local go_sem] Wa Kv
def Wf (s:List Int):Nat->List AW->Int
 | _,[]=>-1
 | k,x :: l=>if IJ x.2 s=true then (k:Int) else Wf s (k+1) l
def cI (l:List AW) (b:List Int):Int:=Wf (BO b) 0 l
theorem Wg (s:List Int) (l:List AW) (h:k<l.length):Wf s k (l.drop k)=if IJ (l.getD k c0).2 s=true then (k:Int) else Wf s (k+1) (l.drop (k+1)):=by
 rw[Is h];have e:l.getD k c0=l[k]:=by simp[AS,h]
 rw[e];rfl
def o6:Ab:={ ins:=[ZG,ER],pre:=λ(_,b,_)=>List.length b<=100000,out:=λ(l,b,_)=>[.p T3 (cI l b)],lend:=true }
theorem A2o:Ac Tryz.prog 73 o6:=by
 refine fK [0,1,4,5,6,12,21] Tryz.func73 Tryz.ntmps73 (AF NZ (AF cA AI)) ?_;rintro w0 O0 ⟨l,b,u⟩ d ⟨⟨hl,-⟩,-⟩ hb;simp only[AQ]at hl;simp only[o6,AM];repeat'(first|exact trivial|apply eS rfl|refine rX d ?_ ?_)
 .exact hb
 have e:cI l b=Wf (BO b) 0 l:=rfl;rw[e];generalize BO b=s at *;refine AJ (ι:={k:Nat//k<=l.length/\Wf s k (l.drop k)=Wf s 0 l}) (λk=>⟨[(0,.p ZG l),(5,.p ER s),(6,.p (.int .i64) (k.1:Int))],[]⟩) (λk=>l.length-k.1) ⟨0,OF _,rfl⟩ (eW []) (λk=>?_)
 obtain⟨k,hk,hf⟩:=k;simp only;repeat'(first|exact trivial|apply eS rfl|apply AB|refine rX d ?_ ?_|refine rC ?_ ?_<;>intro c<;>try(cases c;done))
 .exact c
 .have a:k<l.length:=by exact eV
  rw[Wg s l a,BY c]at hf;exact fI d [.tmp 4] (by rw[<-hf];exact eR)
 .exact eV
 .have a:k<l.length:=by exact eV
  rw[Wg s l a,At (by rw[c];simp)]at hf;exact⟨⟨k+1,by omega,hf⟩,by simp only;omega,eW []⟩
 have a:l.drop k=[]:=OR (by exact eV);rw[a]at hf;exact fI d [.tmp 4] (by rw[<-hf];first|exact eR|refine Tp ?_;rfl)
end
section
attribute [local go_sem] Wa
def iL (s:ByteArray):List (ByteArray×ByteArray)->ByteArray×Bool
 | []=>(ByteArray.empty,false)
 | x :: l=>if Ae x.1 s=true then (x.2,true) else iL s l
def Gr (x:AK) (s:ByteArray):ByteArray×Bool:=iL s x.2.2
theorem ZR (s:ByteArray) (l:List (ByteArray×ByteArray)) (h:k<l.length):iL s (l.drop k)=if Ae (l.getD k (ByteArray.empty,ByteArray.empty)).1 s=true then ((l.getD k (ByteArray.empty,ByteArray.empty)).2,true) else iL s (l.drop (k+1)):=by
 rw[Is h];have e:l.getD k (ByteArray.empty,ByteArray.empty)=l[k]:=by simp[AS,h]
 rw[e];rfl
def cJ:Ab:={ ins:=[T95,T9],pre:=λ_=>True,out:=λ(x,s,_)=>[.p T9 (Gr x s).1,.p .bool (Gr x s).2],lend:=true }
theorem iM:Ac Tryz.prog 109 cJ:=by
 refine fK [0,1,2,4,5,6,11,21] Tryz.func109 Tryz.ntmps109 AI ?_;rintro w0 O0 ⟨⟨nm,sup,a⟩,s,u⟩ d ⟨⟨-,-,f,-⟩,-⟩ -;simp only[AQ]at f;simp only[cJ,AM];repeat'(first|exact trivial|apply eS rfl|refine rX d ?_ ?_)
 have e:({ data:=#[] }:ByteArray).size<=AQ:=by decide
 rw[BY e];refine AJ (ι:={k:Nat//k<=a.length/\iL s (a.drop k)=Gr (nm,sup,a) s}) (λk=>⟨[(1,.p T9 s),(2,.bp 2 [] 0),(6,.p (.int .i64) (k.1:Int))],[(2,.box 95 true [.p T9 nm,.p GY sup,.p T93 a])]⟩) (λk=>a.length-k.1) ⟨0,OF _,rfl⟩ (eW [(2,.nm 2)]) (λk=>?_)
 obtain⟨k,hk,hf⟩:=k;simp only;repeat'(first|exact trivial|apply eS rfl|apply AB|refine rX d ?_ ?_|refine rC ?_ ?_<;>intro c<;>try(cases c;done))
 .exact c
 .assumption
 .have b:k<a.length:=by exact eV
  rw[ZR s a b,BY c]at hf;exact fI d [.tmp 4,.tmp 5] (by rw[<-hf];exact eR)
 .exact eV
 .have b:k<a.length:=by exact eV
  rw[ZR s a b,At (by rw[c];simp)]at hf;exact⟨⟨k+1,by omega,hf⟩,by simp only;omega,eW [(2,.nm 2)]⟩
 have b:a.drop k=[]:=OR (by exact eV);rw[b]at hf;rw[BY e];exact fI d [.tmp 4,.tmp 5] (by rw[<-hf];first|exact eR|refine Tp ?_;exact⟨rfl,rfl⟩)
end
section
attribute [local go_sem] oY
def GG (a b:AW):Bool:=decide (((IK b.2).length:Int)<((IK a.2).length:Int))||((IK a.2).length:Int)==((IK b.2).length:Int)&&Cn a.1 b.1
def cK:Ab:={ ins:=[T85,T85],pre:=λ(a,b,_)=>List.length (a:AW).2<=100000/\List.length (b:AW).2<=100000,out:=λ(a,b,_)=>[.p .bool (GG a b)],lend:=true }
theorem yP:Ac Tryz.prog 79 cK:=by
 refine fK [0,1,2,3,4,5,6] Tryz.func79 Tryz.ntmps79 (AF A2h AI) ?_;rintro w0 O0 ⟨⟨b,ac⟩,⟨d,c⟩,u⟩ a-⟨ha,hb⟩;simp only[cK,AM];repeat'(first|exact trivial|apply eS rfl|refine rX a ?_ ?_)
 .exact ha
 .exact hb
 exact fI a [.tmp 4] (by unfold GG;exact eR)
end
section
attribute [local go_sem] cH Jh ofS
def O9 (low all:List ByteArray) (n:Nat):List Int:=((List.range n).filter λ(i:Nat)=>Ai low (all.getD i ByteArray.empty)).map λ(i:Nat)=>(i:Int)
theorem yQ (low all:List ByteArray) (n:Nat):O9 low all (n+1)=O9 low all n++if Ai low (all.getD n ByteArray.empty)=true then [(n:Int)] else []:=by
 unfold O9;rw[S9,ABr,RY]
 congr 1
 rw[oR,AC8];split<;>rfl
theorem A2p (low all:List ByteArray) (n:Nat):(O9 low all n).length<=n:=by
 unfold O9;rw[No];exact RF (AAx _ _) sc
def Hf (d:List AK) (all:List ByteArray) (s:ByteArray):List Int:=(ofF (O9 (Dv d s) all all.length)).1
def A2q:Ab:={ ins:=[FU,GY,T9],pre:=λ(d,l,_,_)=>List.length d<=256/\List.length l<=100000,out:=λ(d,l,s,_)=>[.p ER (Hf d l s)] }
theorem A5C:Ac Tryz.prog 76 A2q:=by
 refine fK [0,1,2,6,7,8,9,10,18,26] Tryz.func76 Tryz.ntmps76 (AF A2m (AF HC (AF AA2 AI))) ?_;rintro w0 O0 ⟨d,l,s,u⟩ b-⟨hd,hl⟩;have hl:l.length<=100000:=hl;have e:Hf d l s=(ofF (O9 (Dv d s) l l.length)).1:=rfl;simp only[A2q,AM];repeat'(first|exact trivial|apply eS rfl|refine rX b ?_ ?_)
 .exact hd
 rw[e];generalize Dv d s=low at *;refine AJ (ι:={n:Nat//n<=l.length}) (λn=>⟨[(0,.p FU d),(1,.p GY l),(2,.p T9 s),(7,.p GY low),(8,.sr 30 T3 0 (O9 low l n.1).length),(9,.p (.int .i64) (n.1:Int))],[(30,.arr 3 T3 (O9 low l n.1))]⟩) (λn=>l.length-n.1) ⟨0,OF _⟩ (AD [(30,.nil)] rfl rfl ?_ ?_) (λn=>?_)
 .refine eM ?_;rfl
 .refine eM ?_;rfl
 obtain⟨n,hn⟩:=n;have f:=A2p low l n;have hs:=yQ low l n;simp only;repeat'(first|exact trivial|apply eS rfl|apply AB|refine rX b ?_ ?_|refine rC ?_ ?_<;>intro a<;>try(cases a;done))
 .exact a
 .rw[a,BY rfl]at hs;simp only[AQ];dsimp only[Ty.den]at *;omega
 .exact eV
 .have c:n<l.length:=by exact eV
  rw[a,BY rfl]at hs;refine⟨⟨n+1,by omega⟩,by simp only;omega,AD [(30,.nm 30)] rfl rfl ?_ ?_⟩
  .simp only[hs];exact eN
  simp only[hs];exact eN
 .exact eV
 .have c:n<l.length:=by exact eV
  rw[a,At sc,S6]at hs;refine⟨⟨n+1,by omega⟩,by simp only;omega,AD [(30,.nm 30)] rfl rfl ?_ ?_⟩
  .simp only[hs];exact eN
  simp only[hs];exact eN
 have c:n=l.length:=by exact eV
 subst c;refine FK [30] ?_;repeat'(first|exact trivial|apply eS rfl|refine rX b ?_ ?_)
 exact fI b [.tmp 6]
end
section
attribute [local go_sem] b8
def OQ (o:List ByteArray) (f:ByteArray×ByteArray):List ByteArray:=Ds o f.1
def PA (o:List ByteArray) (x:AK):List ByteArray:=x.2.2.foldl OQ o
def DQ (d:List AK):List ByteArray:=d.foldl PA []
theorem ZS (l:List (ByteArray×ByteArray)):∀o:List ByteArray,(l.foldl OQ o).length<=o.length+l.length:=by
 induction l with
 | nil=>intro o;simp
 | cons x l a =>
  intro o;have h1:=a (OQ o x);have b:(OQ o x).length<=o.length+1:=MT o x.1;simp only[RJ,NO];omega
theorem o7 {d:List AK} (h:∀x∈d,x.2.2.length<=256):∀(l:List AK),(∀x∈l,x∈d)->∀o:List ByteArray,(l.foldl PA o).length<=o.length+256*l.length:=by
 intro l;induction l with
 | nil=>intro _ o;simp
 | cons x l a =>
  intro hl o;have h1:=a (λy hy=>hl y (by simp[hy])) (PA o x);have b:=ZS x.2.2 o;have c:=h x (hl x sc);have e:(PA o x).length=(x.2.2.foldl OQ o).length:=rfl;simp only[RJ,NO];omega
def Wh:Ab:={ ins:=[FU],pre:=λ(d,_)=>List.length d<=256/\(∀x∈(d:List AK),x.2.2.length<=256),out:=λ(d,_)=>[.p GY (DQ d)] }
theorem Wi:Ac Tryz.prog 71 Wh:=by
 refine fK [0,2,3,4,5,9,19] Tryz.func71 Tryz.ntmps71 (AF R8 AI) ?_;rintro w0 O0 ⟨d,u⟩ c-⟨hd,hx⟩;have hd:d.length<=256:=hd;simp only[Wh,AM];repeat'(first|exact trivial|apply eS rfl|refine rX c ?_ ?_)
 refine AJ (ι:={i:Nat//i<=d.length}) (λi=>⟨[(0,.p FU d),(3,.p GY (DQ (d.take i.1))),(4,.p (.int .i64) (i.1:Int))],[]⟩) (λi=>d.length-i.1) ⟨0,OF _⟩ (AD [] rfl rfl ?_ ?_) (λi=>?_)
 .exact eN
 .refine eM ?_;rfl
 obtain⟨i,hi⟩:=i;have j:=o7 hx (d.take i) (λx h=>TO h) [];have r:=TF i d;have hs:=λh:i<d.length=>E2 PA d d0 [] h;have f:∀e,DQ e=e.foldl PA []:=λ_=>rfl;simp only;repeat'(first|exact trivial|apply eS rfl|refine rX c ?_ ?_|refine rC ?_ ?_<;>intro a<;>try(cases a;done))
 .have g:i<d.length:=by exact eV
  have s:=hx _ (AE d d0 g);have hs:=hs g;rw[<-f,<-f]at hs;rw[<-f]at j;generalize DQ (d.take i)=o at *;refine AJ (ι:={k:Nat//k<=(d.getD i d0).2.2.length}) (λk=>⟨[(0,.p FU d),(3,.p GY (((d.getD i d0).2.2.take k.1).foldl OQ o)),(4,.p (.int .i64) (i:Int)),(5,.p (.int .i64) (k.1:Int))],[]⟩) (λk=>(d.getD i d0).2.2.length-k.1) ⟨0,OF _⟩ (AD [] rfl rfl ?_ ?_) (λk=>?_)
  .exact eN
  .refine eM ?_;rfl
  obtain⟨k,hk⟩:=k;have n:k<=(d.getD i d0).2.2.length:=hk;have m:=ZS ((d.getD i d0).2.2.take k) o;have q:=TF k (d.getD i d0).2.2;have l:=λh:k<(d.getD i d0).2.2.length=>E2 OQ (d.getD i d0).2.2 (ByteArray.empty,ByteArray.empty) o h;simp only;repeat'(first|apply eS rfl|apply AB|refine rX c ?_ ?_|refine rC ?_ ?_<;>intro a<;>try(cases a;done))
  .assumption
  .refine⟨by assumption,a,?_⟩;simp only[nO]at j;dsimp only[Ty.den]at *;omega
  .have h1:(k:Int)<((d.getD i d0).2.2.length:Int):=a;exact eV
  .have b:k<(d.getD i d0).2.2.length:=IF.1 a;have e:=l b;refine⟨⟨k+1,b⟩,by simp only;omega,AD [] rfl rfl ?_ ?_⟩
   .exact eN
   simp only[e];unfold OQ;exact eN
  .have:=hd;exact eV
  have b:(d.getD i d0).2.2.take k=(d.getD i d0).2.2:=As (RM.1 a);have e:DQ (d.take (i+1))=((d.getD i d0).2.2.take k).foldl OQ o:=by rw[b];exact hs
  refine⟨⟨i+1,g⟩,by simp only;omega,AD [] rfl rfl ?_ ?_⟩
  .exact eN
  simp only[e];exact eN
 have b:d.take i=d:=As (by exact eV);rw[b];exact fI c [.tmp 2]
end
theorem ZT {d:List AK} {l:List ByteArray}:∀ {r:List ByteArray} {k:Nat},Uf d l k r=0->∀s∈r,0<=BJ d s
 | [],_,_,s,hs=>by cases hs
 | x :: r,k,h,s,hs=>by
  simp only[Uf]at h;split at h
  .cases h
  rename_i h1;split at h
  .cases h
  rcases DO.1 hs with rfl|hs
  .omega
  exact ZT h s hs
theorem QQ {d:List AK}:∀ {l:List AK},Kw d l=0->∀x∈l,∀s∈x.2.1,0<=BJ d s
 | [],_,x,hx=>by cases hx
 | y :: l,h,x,hx=>by
  simp only[Kw]at h;split at h
  .rename_i h1;exact absurd h h1
  rename_i h1;rcases DO.1 hx with rfl|hx
  .exact ZT (IS h1)
  exact QQ h x hx
theorem A2r {d:List AK} (h:Kx d=0):Wb d:=QQ h
theorem BE {d:List AK} (h:BV d=0):Wb d/\d.length<=256/\X1 d=1/\Dt d=0/\d.length<=(Bl d).length:=by
 unfold BV at h;split at h
 .rename_i h1;exact absurd h h1
 rename_i h1;split at h
 .rename_i a;exact absurd h a
 rename_i a;split at h
 .rename_i b;exact absurd h b
 rename_i b;split at h
 .cases h
 rename_i c;split at h
 .cases h
 rename_i e;exact⟨A2r (IS b),Tu (IS h1),IS c,IS a,by omega⟩
section
attribute [local go_sem] A8r A2e
def HR (l:List (List Int)) (i k:Nat):List (List Int) :=
 if (decide (0<((GE (l.getD i []) (l.getD k [])).length:Int))&&!o5 l (GE (l.getD i []) (l.getD k [])))=true then l++[GE (l.getD i []) (l.getD k [])] else l
def HS (i:Nat):Nat->Nat->List (List Int)->List (List Int)
 | 0,_,l=>l
 | n+1,k,l=>if l.length<=256 then HS i n (k+1) (HR l i k) else l
def Jk:Nat->Nat->List (List Int)->List (List Int)
 | 0,_,l=>l
 | n+1,i,l=>if i<l.length/\l.length<=256 then Jk n (i+1) (HS i i 0 l) else l
def A7 (c:List (List Int)):List (List Int):=Jk 257 0 c
theorem iO (a b:List Int):(GE a b).length<=a.length:=by
 unfold GE BO;have:=Ek .and a b a.length;rw[On];omega
structure A7d (l:List (List Int)):Prop where
 len:l.length<=257
 wid:∀c∈l,c.length<=64
theorem MY {l:List (List Int)} (h:∀c∈l,c.length<=64) (k:Nat):(l.getD k []).length<=64:=by
 rw[AS];cases hh:l[k]? with
 | none=>simp
 | some x=>exact h x (AAm hh)
theorem iP {l:List (List Int)} (h:∀c∈l,c.length<=64) (i k:Nat):∀c∈HR l i k,c.length<=64:=by
 unfold HR;split
 .intro c a;rcases Fg.1 a with a|a
  .exact h c a
  have:c=GE (l.getD i []) (l.getD k []):=by simpa using a
  rw[this];exact RF (iO _ _) (MY h i)
 exact h
theorem A2s (l:List (List Int)) (i k:Nat):l.length<=(HR l i k).length/\(HR l i k).length<=l.length+1:=by
 unfold HR;split
 .simp
 exact⟨IN _,Nat.le_succ _⟩
def cL:Ab:={ ins:=[Ue],pre:=λ(c,_)=>List.length c<=256/\∀x∈(c:List (List Int)),x.length<=64,out:=λ(c,_)=>[.p Ue (A7 c)] }
theorem yR:Ac Tryz.prog 77 cL:=by
 refine fK [0,2,3,4,5,6,18,28,48] Tryz.func77 Tryz.ntmps77 (AF oV (AF A8s AI)) ?_;rintro w0 O0 ⟨c,u⟩ d-⟨n,t⟩;have n:c.length<=256:=n;simp only[cL,AM];repeat'(first|exact trivial|apply eS rfl|refine rX d ?_ ?_)
 .simp only[AQ];dsimp only[Ty.den]at *;omega
 refine AJ (ι:={x:Nat×List (List Int)//x.1<=256/\A7d x.2/\Jk (257-x.1) x.1 x.2=A7 c}) (λx=>⟨[(3,.sr 7 ER 0 x.1.2.length),(4,.p (.int .i64) (x.1.1:Int))],[(7,.arr 83 ER x.1.2)]⟩) (λx=>257-x.1.1) ⟨(0,c),by simp,⟨by simp only;omega,t⟩,rfl⟩ (eW [(7,.nm 7)]) (λx=>?_)
 obtain⟨⟨i,l⟩,hi,⟨q,s⟩,f⟩:=x;simp only at hi q s f;simp only;repeat'(first|exact trivial|apply eS rfl|refine rX d ?_ ?_|refine rC ?_ ?_<;>intro a<;>try(cases a;done))
 .have w:i<l.length:=by omega
  have z:l.length<=256:=by omega
  have o:Jk (256-i) (i+1) (HS i i 0 l)=A7 c:=by
   have e:257-i=(256-i)+1:=by omega
   rw[<-f,e];show _=if i<l.length/\l.length<=256 then Jk (256-i) (i+1) (HS i i 0 l) else l
   rw[BY ⟨w,z⟩]
  refine AJ (ι:={y:Nat×List (List Int)//y.1<=i/\A7d y.2/\l.length<=y.2.length/\HS i (i-y.1) y.1 y.2=HS i i 0 l}) (λy=>⟨[(3,.sr 7 ER 0 y.1.2.length),(4,.p (.int .i64) (i:Int)),(5,.p (.int .i64) (y.1.1:Int))],[(7,.arr 83 ER y.1.2)]⟩) (λy=>i-y.1.1) ⟨(0,l),by simp,⟨q,s⟩,IN _,rfl⟩ (eW [(7,.nm 7)]) (λy=>?_)
  obtain⟨⟨k,m⟩,hk,⟨g,b⟩,r,hf⟩:=y;simp only at hk g b r hf;simp only;repeat'(first|exact trivial|apply eS rfl|apply AB|refine rX d ?_ ?_|refine rC ?_ ?_<;>intro a<;>try(cases a;done))
  .exact⟨by exact eV,by exact eV,RF (MY b i) dc⟩
  .simp only[AQ];omega
  .omega
  .have e:HR m i k=m++[GE (m.getD i []) (m.getD k [])]:=by
    unfold HR;rw[BY];rw[An,ON,RQ];exact a
   have B:=iP b i k;have C:=A2s m i k;refine⟨⟨(k+1,HR m i k),by simp only;omega,⟨by simp only;omega,B⟩,by simp only;omega,?_⟩,by simp only;omega,AD [(7,.nm 7)] rfl rfl ?_ ?_⟩
   .simp only;rw[<-hf,show i-k=(i-(k+1))+1 by omega];show _=if m.length<=256 then HS i (i-(k+1)) (k+1) (HR m i k) else m
    rw[BY O1]
   .simp only[e];exact eN
   simp only[e];exact eN
  .omega
  .have e:HR m i k=m:=by
    unfold HR;rw[At];rw[An,ON,RQ];intro h;rw[a h.1]at h;exact absurd h.2 sc
   refine⟨⟨(k+1,m),by simp only;omega,⟨g,b⟩,r,?_⟩,by simp only;omega,AD [(7,.nm 7)] rfl rfl ?_ ?_⟩
   .simp only;rw[<-hf,show i-k=(i-(k+1))+1 by omega];show _=if m.length<=256 then HS i (i-(k+1)) (k+1) (HR m i k) else m
    rw[BY O1,e]
   .exact eN
   exact eN
  .omega
  have A:m=HS i i 0 l:=by
   rw[<-hf];cases hm:i-k with
   | zero=>rfl
   | succ j =>
    show _=if m.length<=256 then _ else m
    rw[At O1]
  rw[<-A]at o;refine⟨⟨(i+1,m),by simp only;omega,⟨g,b⟩,?_⟩,by simp only;omega,AD [(7,.nm 7)] rfl rfl ?_ ?_⟩
  .simp only;rw[show 257-(i+1)=256-i by omega];exact o
  .exact eN
  exact eN
 have v:l=A7 c:=by
  rw[<-f];cases hm:257-i with
  | zero=>rfl
  | succ m =>
   show _=if i<l.length/\l.length<=256 then _ else l
   rw[At O1]
 rw[<-v];refine FK [7] ?_;exact fI d [.tmp 2]
theorem cs0 {α:Type} (x y:α):(if ({ data:=#[] }:ByteArray).size<=AQ then x else y)=x:=BY (by show 0<=AQ;decide)
theorem cs1 {α:Type} (a:UInt8) (x y:α):(if ({ data:=#[a] }:ByteArray).size<=AQ then x else y)=x:=BY (by show 1<=AQ;decide)
theorem cs2 {α:Type} (a b:UInt8) (x y:α):(if ({ data:=#[a,b] }:ByteArray).size<=AQ then x else y)=x:=BY (by show 2<=AQ;decide)
theorem cs3 {α:Type} (a b c:UInt8) (x y:α):(if ({ data:=#[a,b,c] }:ByteArray).size<=AQ then x else y)=x:=BY (by show 3<=AQ;decide)
theorem yS {α:Type} (a b c d:UInt8) (x y:α):(if ({ data:=#[a,b,c,d] }:ByteArray).size<=AQ then x else y)=x:=BY (by show 4<=AQ;decide)
theorem yT {α:Type} (a b c d e:UInt8) (x y:α):(if ({ data:=#[a,b,c,d,e] }:ByteArray).size<=AQ then x else y)=x:=BY (by show 5<=AQ;decide)
theorem cs6 {α:Type} (a b c d e f:UInt8) (x y:α):(if ({ data:=#[a,b,c,d,e,f] }:ByteArray).size<=AQ then x else y)=x:=BY (by show 6<=AQ;decide)
theorem cs7 {α:Type} (a b c d e f g:UInt8) (x y:α):(if ({ data:=#[a,b,c,d,e,f,g] }:ByteArray).size<=AQ then x else y)=x:=BY (by show 7<=AQ;decide)
theorem cs8 {α:Type} (a b c d e f g h:UInt8) (x y:α):(if ({ data:=#[a,b,c,d,e,f,g,h] }:ByteArray).size<=AQ then x else y)=x:=BY (by show 8<=AQ;decide)
end
def Bc (b:List Int) (i:Nat):Bool:=(b.getD (i / 64) 0).toNat.testBit (i % 64)
def U64 (x:Int):Prop:=0<=x/\x<18446744073709551616
theorem Fm {x:Int} (h:U64 x):(BitVec.ofInt 64 x).toNat=x.toNat:=by
 rw[BitVec.toNat_ofInt];have h1:=h.1;have a:=h.2;rw[Int.emod_eq_of_lt h1 (by simpa using a)]
theorem QR {n:Nat} (h:n<18446744073709551616):IntKind.u64.wrap (n:Int)=n:=Kj (by rw[Ko];omega)
theorem A5D {x:Int} (hx:U64 x) (hy:U64 y):Co .or .u64 x y=((x.toNat ||| y.toNat:Nat):Int):=by
 have h1:(BitVec.ofInt IntKind.u64.bits x ||| BitVec.ofInt IntKind.u64.bits y).toNat=x.toNat ||| y.toNat:=by
  rw[BitVec.toNat_or];show (BitVec.ofInt 64 x).toNat ||| (BitVec.ofInt 64 y).toNat=_
  rw[Fm hx,Fm hy]
 unfold Co;simp only;rw[h1];have e:(18446744073709551616:Nat)=2 ^ 64:=by decide
 refine QR ?_;rw[e];refine Nat.or_lt_two_pow ?_ ?_
 .have:=hx.2;have:=hx.1;omega
 have:=hy.2;have:=hy.1;omega
theorem IP {x:Int} (hx:U64 x) (hy:U64 y):Co .and .u64 x y=((x.toNat &&& y.toNat:Nat):Int):=by
 have h1:(BitVec.ofInt IntKind.u64.bits x &&& BitVec.ofInt IntKind.u64.bits y).toNat=x.toNat &&& y.toNat:=by
  rw[BitVec.toNat_and];show (BitVec.ofInt 64 x).toNat &&& (BitVec.ofInt 64 y).toNat=_;rw[Fm hx,Fm hy]
 unfold Co;simp only;rw[h1];refine QR (ACu ACr ?_);have:=hx.2;have:=hx.1;omega
theorem SF {x:Int}:Co .andNot .u64 x y=((BitVec.ofInt 64 x &&& ~~~BitVec.ofInt 64 y).toNat:Int):=by
 show IntKind.u64.wrap ((BitVec.ofInt 64 x &&& ~~~BitVec.ofInt 64 y).toNat:Int)=_;exact QR (BitVec.isLt _)
theorem Tv {x:Int} (hx:U64 x) (hy:U64 y) (h:Co .andNot .u64 x y=0) {r:Nat} (b:r<64) (hb:x.toNat.testBit r=true):y.toNat.testBit r=true:=by
 rw[SF]at h;have h1:(BitVec.ofInt 64 x &&& ~~~BitVec.ofInt 64 y).toNat=0:=by omega
 have a:(BitVec.ofInt 64 x &&& ~~~BitVec.ofInt 64 y).toNat.testBit r=false:=by rw[h1];exact Nat.zero_testBit r
 rw[ABJ,BitVec.getLsbD_and,BitVec.getLsbD_not,<-ABJ,<-ABJ,Fm hx,Fm hy,hb]at a;simpa[b] using a
theorem Tw {x:Int}:Co .andNot .u64 x x=0:=by
 rw[SF];simp
theorem PB {b:List Int}:∀ {n:Nat},∀k,Cw b n<=k->k<n->b.getD k 0=0
 | 0,k,_,h=>by omega
 | n+1,k,h1,c=>by
  unfold Cw at h1;split at h1
  .rename_i a;by_cases hk:k=n
   .rw[hk];exact a
   exact PB k h1 O1
  omega
theorem QT (b:List Int) (k:Nat):(BO b).getD k 0=b.getD k 0:=by
 unfold BO;by_cases h:k<Cw b b.length
 .simp[AS,TD,h]
 have h1:(List.take (Cw b b.length) b).getD k 0=0:=by
  rw[AS,TD,At h];rfl
 rw[h1];by_cases a:k<b.length
 .exact(PB k O1 a).symm
 rw[AS,RP O1];rfl
theorem PC (b:List Int) (i:Nat):Bc (BO b) i=Bc b i:=by unfold Bc;rw[QT]
def JE (b:List Int):Prop:=∀x∈b,U64 x
theorem BF {b:List Int} (h:JE b) (k:Nat):U64 (b.getD k 0):=by
 rw[AS];cases hh:b[k]? with
 | none=>exact⟨by simp,by simp⟩
 | some x=>exact h x (AAm hh)
theorem PD {b:List Int} (h:JE b):JE (BO b):=λx hx=>h x (TO hx)
theorem Hz (b:List Int) (k:Nat):Gb b (k:Int)=b.getD k 0:=by
 unfold Gb;split
 .simp
 rename_i h;rw[AS,RP O1];rfl
theorem Na (op:BinOp) (a b:List Int) {n k:Nat} (h:k<n):(Gq op a b n).getD k 0=Co op .u64 (a.getD k 0) (b.getD k 0):=by
 unfold Gq;rw[AS,Rb,AAC h];show Co op .u64 (a.getD k 0) (Gb b (k:Int))=_;rw[Hz]
theorem cM (h:E1 a b=true) (hk:k<a.length):Co .andNot .u64 (a.getD k 0) (b.getD k 0)=0:=by
 unfold E1 R9 BO at h;have h1:(List.take (Cw (Gq .andNot a b a.length) (Gq .andNot a b a.length).length) (Gq .andNot a b a.length)).length=0:=by
  have:=TE.1 h;omega
 rw[On,Ek]at h1;have d:=WY (Gq .andNot a b a.length) a.length;have c:=PB (b:=Gq .andNot a b a.length) (n:=a.length) k O1 hk;rw[Na _ _ _ hk]at c;exact c
theorem MZ (ha:JE a) (hb:JE b) (h:E1 a b=true) {i:Nat} (hi:Bc a i=true):Bc b i=true:=by
 by_cases hk:i / 64<a.length
 .exact Tv (BF ha _) (BF hb _) (cM h hk) (ACY _ dc) hi
 exfalso;unfold Bc at hi;rw[AS,RP O1]at hi;simp at hi
theorem SG {b:List Int}:∀ {n:Nat},(∀k,k<n->b.getD k 0=0)->Cw b n=0
 | 0,_=>rfl
 | n+1,h=>by
  unfold Cw;rw[BY (h n O1)];exact SG λk hk=>h k O1
theorem iQ (a:List Int):E1 a a=true:=by
 unfold E1 R9 BO;have h1:Cw (Gq .andNot a a a.length) (Gq .andNot a a a.length).length=0:=by
  rw[Ek];exact SG λk hk=>by rw[Na _ _ _ hk];exact Tw
 rw[h1];rfl
theorem iR (a:List Int):GF a a=true:=by unfold GF;rw[iQ];rfl
theorem A5E {b:List Int} (hb:JE b) (hl:b.length=64) {x:Int} (h0:0<=x) (h1:x<=4095) (i:Nat):Bc (yO b x) i=(Bc b i||decide (x=(i:Int))):=by
 have c:Int.tdiv x 64=x / 64:=ABd h0;have d:Int.tmod x 64=x % 64:=ABz h0;obtain⟨n,rfl⟩:∃n:Nat,x=(n:Int):=⟨x.toNat,by omega⟩;have hs:aV .u64 1 ((n:Int) % 64)=((2 ^ (n % 64):Nat):Int):=by
  unfold aV;have e:min ((n:Int) % 64).toNat IntKind.u64.bits=n % 64:=by
   have:((n:Int) % 64).toNat=n % 64:=by omega
   rw[this];have:IntKind.u64.bits=64:=rfl;omega
  rw[e,Int.one_mul];have:(2:Int) ^ (n % 64)=((2 ^ (n % 64):Nat):Int):=by simp
  rw[this];refine QR ?_;have a:(2:Nat) ^ (n % 64)<2 ^ 64:=Nat.pow_lt_pow_right dc (ACY _ dc);exact a
 have hu:U64 (aV .u64 1 ((n:Int) % 64)):=by
  rw[hs];have a:(2:Nat) ^ (n % 64)<2 ^ 64:=Nat.pow_lt_pow_right dc (ACY _ dc);have f:(2:Nat) ^ 64=18446744073709551616:=by decide
  refine⟨AB4 _,?_⟩;rw[f]at a;exact IF.2 a
 have hn:((n:Int) / 64).toNat=n / 64:=by omega
 unfold yO Bc;rw[c,d,hn];by_cases hd:i / 64=n / 64
 .have g:n / 64<b.length:=by omega
  rw[hd];have:(b.set (n / 64) (Co .or .u64 (b.getD (n / 64) 0) (aV .u64 1 ((n:Int) % 64)))).getD (n / 64) 0=Co .or .u64 (b.getD (n / 64) 0) (aV .u64 1 ((n:Int) % 64)):=by
   simp[AS,g]
  rw[this,A5D (BF hb _) hu,hs];simp only[RG,Nat.testBit_or,Nat.testBit_two_pow]
  congr 1
  rw[decide_eq_decide];omega
 have:(b.set (n / 64) (Co .or .u64 (b.getD (n / 64) 0) (aV .u64 1 ((n:Int) % 64)))).getD (i / 64) 0=b.getD (i / 64) 0:=by
  simp[AS,oN,Ne.symm hd]
 rw[this];have:decide ((n:Int)=(i:Int))=false:=by
  rw[RT];intro h;exact hd O1
 rw[this,Bool.or_false]
theorem A5F {b:List Int} (hb:JE b) (x:Int):JE (yO b x):=by
 intro y hy;unfold yO at hy;rcases ABh hy with h|h
 .exact hb y h
 rw[h];have:=NG .u64 ((BitVec.ofInt IntKind.u64.bits (b.getD (x.tdiv 64).toNat 0) ||| BitVec.ofInt IntKind.u64.bits (aV .u64 1 (x.tmod 64))).toNat:Int);rw[Ko]at this;exact⟨this.1,by have:=this.2;show _<_;exact AC9 this dc⟩
theorem A5G {l:List Int} (h:l.all okB=true) (i:Nat):Bc (ofL l) i=decide ((i:Int)∈l)/\JE (ofL l):=by
 have key:∀(l b:List Int),l.all okB=true->JE b->b.length=64->Bc (l.foldl yO b) i=(Bc b i||decide ((i:Int)∈l))/\JE (l.foldl yO b):=by
  intro l;induction l with
  | nil=>intro b _ hb _;simp[hb]
  | cons x l f =>
   intro b a hb hl;rw[ABi,An]at a;have hx:=a.1;unfold okB at hx;rw[RQ,AAo,RT,RT]at hx;obtain⟨c,d⟩:=f (yO b x) a.2 (A5F hb x) (by simp[yO,hl]);rw[RJ];refine⟨?_,d⟩;rw[c,A5E hb hl O1 O1,Bool.or_assoc]
   congr 1
   rw[<-Bool.decide_or,decide_eq_decide,DO,eq_comm]
 have e:JE (List.replicate 64 (0:Int)):=by
  intro y hy;rw[(ACy.1 hy).2];exact⟨by decide,by decide⟩
 have h1:=key l (List.replicate 64 0) h e sc;refine⟨?_,h1.2⟩;unfold ofL;rw[h1.1];have:Bc (List.replicate 64 (0:Int)) i=false:=by
  unfold Bc;have:(List.replicate 64 (0:Int)).getD (i / 64) 0=0:=by
   rw[AS,AAz];split<;>rfl
  rw[this];simp
 rw[this,ACO]
theorem A2u {low all:List ByteArray} {n i:Nat}:((i:Int)∈O9 low all n)↔i<n/\Ai low (all.getD i ByteArray.empty)=true:=by
 unfold O9;rw[Do];constructor
 .rintro⟨j,a,e⟩;have:j=i:=by omega
  subst this;rw[AAn,Ra]at a;exact a
 rintro⟨h1,b⟩;exact⟨i,by rw[AAn,Ra];exact⟨h1,b⟩,rfl⟩
theorem A5H {low all:List ByteArray} {n:Nat} (hn:n<=4096):(O9 low all n).all okB=true:=by
 rw[Of];intro x hx;unfold O9 at hx;obtain⟨j,a,rfl⟩:=Do.1 hx;rw[AAn,Ra]at a;unfold okB;rw[RQ,AAo,RT,RT];exact⟨by omega,by omega⟩
theorem El {d:List AK} {all:List ByteArray} (hl:all.length<=4096) (s:ByteArray) (i:Nat):(Bc (Hf d all s) i=true↔i<all.length/\Ai (Dv d s) (all.getD i ByteArray.empty)=true)/\JE (Hf d all s)/\(Hf d all s).length<=64:=by
 have h1:=A5H (low:=Dv d s) (all:=all) hl;have b:=A5G h1 i;have a:Hf d all s=BO (ofL (O9 (Dv d s) all all.length)):=by
  unfold Hf ofF;rw[BY h1]
 refine⟨?_,?_,?_⟩
 .rw[a,PC,b.1,ON,A2u]
 .rw[a];exact PD b.2
 rw[a];unfold BO;have:=QP (O9 (Dv d s) all all.length);rw[On];omega
theorem Tx (d:List AK) {t:ByteArray} (h:Ae s t=true):BJ d s=BJ d t:=by
 have key:∀(l:List AK) (k:Nat),Cy s k l=Cy t k l:=by
  intro l;induction l with
  | nil=>intro k;rfl
  | cons x l a =>
   intro k;simp only[Cy];have:Ae x.1 s=Ae x.1 t:=by grind [Ae,DF,Fb]
   rw[this,a]
 exact key d 0
theorem DG {α:Type} {l:List α} {d:α} (h:k<l.length):l.getD k d∈l:=by grind
theorem Br {α:Type} {l:List α} (d:α) {x:α} (h:x∈l):∃k,k<l.length/\l.getD k d=x:=by
 obtain⟨k,hk,e⟩:=gO.1 h;exact⟨k,hk,by rw[AS,AT hk];exact e⟩
theorem Ma {d:List AK}:∀ {r:List AK} {k:Nat},O6 d k r=0->∀j,j<r.length->¬BJ d (r.getD j d0).1<((k+j:Nat):Int)/\FB (r.getD j d0).1 false=true
 | [],_,_,j,a=>by simp at a
 | x :: r,k,h,j,a=>by
  simp only[O6]at h;split at h
  .cases h
  rename_i h1;split at h
  .cases h
  rename_i b;cases j with
  | zero=>exact⟨b,by simpa using h1⟩
  | succ j =>
   have:=Ma h j (by simpa using a);have e:k+(j+1)=k+1+j:=by omega
   rw[e];exact this
theorem QU (s:ByteArray):∀(l:List AK) (k j:Nat),j<l.length->Ae (l.getD j d0).1 s=true->Cy s k l<=((k+j:Nat):Int)
 | [],_,j,h,_=>by simp at h
 | x :: l,k,j,h,e=>by
  simp only[Cy];split
  .omega
  rename_i h1;cases j with
  | zero=>exact absurd e h1
  | succ j =>
   have:=QU s l (k+1) j (by simpa using h) e;omega
theorem Wj {d:List AK} (h:Dt d=0) {j:Nat} (b:j<d.length):BJ d (d.getD j d0).1=(j:Int):=by
 have h1:=(Ma h j b).1;have a:=QU (d.getD j d0).1 d 0 j b (Fa _);rw[AB8]at h1 a;have a:BJ d (d.getD j d0).1<=(j:Int):=a;omega
theorem iT {d:List AK} (h:Dt d=0) {x y:AK} (hx:x∈d) (hy:y∈d) (e:Ae x.1 y.1=true):x=y:=by
 obtain⟨i,hi,rfl⟩:=Br d0 hx;obtain⟨j,a,rfl⟩:=Br d0 hy;grind [Wj,Tx]
theorem o8 (d:List AK) (out:List ByteArray) (h:(IL d out).1=true):∃x∈d,x.1=(IL d out).2/\Ai out x.1=false/\Ji x out=true:=by
 have key:∀(l:List AK) (s:Bool×ByteArray),(∀x∈l,x∈d)->(s.1=true->∃x∈d,x.1=s.2/\Ai out x.1=false/\Ji x out=true)->(l.foldl (JB out) s).1=true ->
   ∃x∈d,x.1=(l.foldl (JB out) s).2/\Ai out x.1=false/\Ji x out=true:=by
  intro l;induction l with
  | nil=>intro s _ hs h;exact hs h
  | cons y l b =>
   intro s hl hs h;rw[RJ]at h ⊢;refine b _ (λx hx=>hl x (by simp[hx])) (λa=>?_) h;unfold JB at a ⊢;split
   .grind
   grind
 exact key d _ (λ_ h=>h) (λh=>by cases h) h
def PL (d:List AK) (o:List ByteArray):Prop:=∀j,j<o.length->∃x∈d,x.1=o.getD j ByteArray.empty/\Ai (o.take j) x.1=false/\Ji x (o.take j)=true
theorem PL.snoc {d:List AK} (h:PL d o) {x:AK} (hx:x∈d) (h1:Ai o x.1=false) (f:Ji x o=true):PL d (o++[x.1]):=by
 intro j g;by_cases a:j<o.length
 .obtain⟨y,hy,b,c,e⟩:=h j a;grind
 grind
theorem Wk {d:List AK}:∀ {n:Nat} {o:List ByteArray},PL d o->PL d (JD d n o)
 | 0,_,h=>h
 | n+1,o,h=>by
  unfold JD;split
  .rename_i b;obtain⟨x,hx,e,h1,a⟩:=o8 d o b;rw[<-e];exact Wk (h.snoc hx h1 a)
  exact h
theorem ZU (d:List AK):PL d (Bl d):=Wk λj a=>by simp at a
theorem PL.ok {d:List AK} (h:PL d o):fA d o:=by
 refine⟨λs hs=>?_,?_⟩
 .obtain⟨j,a,rfl⟩:=Br ByteArray.empty hs;obtain⟨x,hx,e,-⟩:=h j a;rw[<-e];exact Fc hx
 rw[RZ];intro i j hi a c;obtain⟨x,hx,e,h1,-⟩:=h j a;have b:=QO h1 o[i] (by rw[ABH];exact⟨i,by omega,rfl⟩);grind
theorem o9 {n:Nat} {l:List Nat} (h:l.Nodup) (hl:∀j∈l,j<n) (hn:n<=l.length) {k:Nat} (hk:k<n):k∈l:=by
 refine IS λb=>?_;have:=EI n (k :: l) (iS.2 ⟨b,h⟩) (λj a=>by
  rcases DO.1 a with rfl|a
  .exact hk
  exact hl j a)
 simp at this;omega
theorem pA {d:List AK} (hl:d.length<=(Bl d).length) {x:AK} (hx:x∈d):∃s∈Bl d,Ae s x.1=true:=by
 have a:=(ZU d).ok;have h1:=Kz d a;have h0:=Fc hx;have hd:=Di d x.1;have b:=o9 (n:=d.length) h1 (λj c=>by
  obtain⟨s,hs,rfl⟩:=Do.1 c;have h1:=a.decl s hs;rcases Di d s with g|⟨_,g,_⟩<;>omega) (by simpa using hl) (k:=(BJ d x.1).toNat) O1
 obtain⟨s,hs,e⟩:=Do.1 b;refine⟨s,hs,?_⟩;rcases Di d s with g|⟨_,_,f⟩
 .have:=a.decl s hs;omega
 grind [DF,Fb]
def IQ (d:List AK) (s:ByteArray):Nat:=(Bl d).findIdx λx=>Ae x s
theorem PE (d:List AK) {t:ByteArray} (h:Ae s t=true):IQ d s=IQ d t:=by grind [IQ,Ae,DF,Fb]
theorem PG {d:List AK} (hn:Dt d=0) (hl:d.length<=(Bl d).length) {x:AK} (hx:x∈d) (hs:Ai x.2.1 s=true):IQ d s<IQ d x.1:=by
 obtain⟨t,ht,e⟩:=pA hl hx;have c:IQ d x.1<(Bl d).length:=List.findIdx_lt_length_of_exists ⟨t,ht,e⟩;have heq:Ae ((Bl d)[IQ d x.1]) x.1=true:=List.findIdx_getElem (w:=c);obtain⟨y,hy,a,-,h⟩:=ZU d (IQ d x.1) c;rw[AS,AT c]at a;have a:y.1=(Bl d)[IQ d x.1]:=a;rw[<-a]at heq;have n:=iT hn hy hx heq;subst n;obtain⟨u,hu,g⟩:=Re.1 hs;have j:Ai ((Bl d).take (IQ d y.1)) u=true:=Of.1 h u hu;obtain⟨v,f,ev⟩:=Re.1 j;rw[ABH]at f;obtain⟨i,hi,rfl⟩:=f;have m:i<IQ d y.1:=by omega
 refine ACu ?_ m;refine IS λl=>?_;have b:=List.not_of_lt_findIdx (p:=λx=>Ae x s) (xs:=Bl d) (i:=i) (by unfold IQ at l;omega);have k:Ae ((Bl d)[i]) s=true:=DF ev g;try simp only at b
 rw[k]at b;exact absurd b sc
def Yb (d:List AK) (s x:ByteArray):Prop:=Ae s x=true\/IQ d s<IQ d x
theorem yU {d:List AK} (hn:Dt d=0) (hl:d.length<=(Bl d).length) {c:ByteArray} (a:Yb d s c) (b:∀x∈o,Yb d s x) {x:AK} (hx:x∈d):∀y∈F0 c o x,Yb d s y:=by
 intro y hy;unfold F0 at hy;split at hy
 .rename_i h;rw[An]at h;rcases Fg.1 hy with hy|hy
  .exact b y hy
  have:y=x.1:=by simpa using hy
  subst this;have h1:=PG hn hl hx h.1;right;rcases a with a|a
  .rw[PE d a];exact h1
  omega
 exact b y hy
theorem Wl {d:List AK} (hn:Dt d=0) (hl:d.length<=(Bl d).length) {s c:ByteArray} (b:Yb d s c):∀ {l:List AK} {o:List ByteArray},(∀x∈l,x∈d)->(∀x∈o,Yb d s x)->∀y∈l.foldl (F0 c) o,Yb d s y
 | [],_,_,a=>a
 | x :: l,o,hx,a=>by
  rw[RJ];exact Wl hn hl b (λy hy=>hx y (by simp[hy])) (yU hn hl b a (hx x sc))
theorem Tz {d:List AK} (hn:Dt d=0) (hl:d.length<=(Bl d).length) {s:ByteArray}:∀ {n i:Nat} {o:List ByteArray},(∀x∈o,Yb d s x)->∀y∈Du d n i o,Yb d s y
 | 0,_,_,a=>a
 | n+1,i,o,a=>by
  unfold Du;split
  .rename_i hi;exact Tz hn hl (Wl hn hl (a _ (DG hi)) (λ_ h=>h) a)
  exact a
theorem A2v {c:ByteArray} {x:AK} {y:ByteArray} (h:y∈o):y∈F0 c o x:=by grind [F0]
theorem Nb {c:ByteArray} {y:ByteArray}:∀ {l:List AK} {o:List ByteArray},y∈o->y∈l.foldl (F0 c) o
 | [],_,h=>h
 | x :: l,o,h=>by rw[RJ];exact Nb (A2v h)
theorem PH {d:List AK} {y:ByteArray}:∀ {n i:Nat} {o:List ByteArray},y∈o->y∈Du d n i o
 | 0,_,_,h=>h
 | n+1,i,o,h=>by
  unfold Du;split
  .exact PH (Nb h)
  exact h
theorem QV {l:List ByteArray} (h:x∈Ds l s):x∈l\/x=s:=by grind [Ds]
theorem ZV {l:List ByteArray} (h:x∈l):x∈Ds l s:=by
 unfold Ds;split
 .exact h
 have a:x∈l.take (YQ l s)\/x∈l.drop (YQ l s):=Fg.1 (by rw[ABl];exact h);grind
theorem iU {l:List ByteArray}:Ai (Ds l s) s=true:=by
 unfold Ds;grind [JA,YQ,Ae,Ai,Fa]
theorem Nc {l:List ByteArray} (h:s∈l):Ai l s=true:=Re.2 ⟨s,h,Fa s⟩
theorem Nf {l:List ByteArray} (hs:∀x∈l,x∈m) (h:Ai l s=true):Ai m s=true:=by
 obtain⟨x,hx,e⟩:=Re.1 h;exact Re.2 ⟨x,hs x hx,e⟩
theorem iV:∀ {l o:List ByteArray} {x:ByteArray},x∈l.foldl Ds o->x∈o\/x∈l
 | [],_,_,h=>.inl h
 | y :: l,o,x,h=>by
  rw[RJ]at h;rcases iV h with h|h
  .grind [QV]
  grind
theorem ZW:∀ {l o:List ByteArray} {x:ByteArray},x∈o->x∈l.foldl Ds o
 | [],_,_,h=>h
 | y :: l,o,x,h=>by rw[RJ];exact ZW (ZV h)
theorem Wm:∀ {l o:List ByteArray} {x:ByteArray},x∈l->Ai (l.foldl Ds o) x=true
 | [],_,_,h=>by cases h
 | y :: l,o,x,h=>by
  rw[RJ];rcases DO.1 h with rfl|h
  .grind [Nf,ZW,iU]
  exact Wm h
theorem PI {d:List AK} (h:0<=BJ d s):Ai (Dv d s) s=true:=by
 unfold Dv;rw[At O1];exact Wm (PH sc)
theorem Wn {d:List AK} (hn:Dt d=0) (hl:d.length<=(Bl d).length) (h:Ai (Dv d s) x=true):Yb d s x:=by
 obtain⟨y,hy,e⟩:=Re.1 h;have hb:Yb d s y:=by
  unfold Dv at hy;split at hy
  .cases hy
  rcases iV hy with hy|hy
  .cases hy
  refine Tz hn hl (λz a=>?_) y hy;have:z=s:=by simpa using a
  rw[this];exact .inl (Fa s)
 rcases hb with hb|hb
 .exact .inl (DF hb e)
 rw[PE d e]at hb;exact .inr hb
theorem Gt {d:List AK} (h:s∈AZ d):∃x∈d,x.1=s:=by
 have key:∀(l:List AK) (o:List ByteArray),s∈l.foldl (λo x=>Ds o x.1) o->s∈o\/∃x∈l,x.1=s:=by
  intro l;induction l with
  | nil=>intro o h;exact .inl h
  | cons x l a =>
   intro o h;rw[RJ]at h;rcases a _ h with h|⟨y,hy,e⟩
   .grind [QV]
   grind
 rcases key d [] h with h|h
 .cases h
 exact h
theorem Wo {d:List AK} {x:AK} (h:x∈d):Ai (AZ d) x.1=true:=by
 have b:∀(l:List AK) (o:List ByteArray),∀y∈o,y∈l.foldl (λo x=>Ds o x.1) o:=by
  intro l;induction l with
  | nil=>intro o y h;exact h
  | cons x l a=>intro o y h;rw[RJ];exact a _ y (ZV h)
 have key:∀(l:List AK) (o:List ByteArray),x∈l->Ai (l.foldl (λo x=>Ds o x.1) o) x.1=true:=by
  intro l;induction l with
  | nil=>intro o h;cases h
  | cons y l a =>
   intro o h;rw[RJ];rcases DO.1 h with rfl|h
   .grind [Nf,iU]
   exact a _ h
 exact key d [] h
theorem iW {d:List AK} (hn:Dt d=0) (hl:d.length<=(Bl d).length) (o:d.length<=256) {i:Nat} (hi:i<(AZ d).length) (b:j<(AZ d).length)
  (h:GF (Hf d (AZ d) ((AZ d).getD i ByteArray.empty)) (Hf d (AZ d) ((AZ d).getD j ByteArray.empty))=true):Ae ((AZ d).getD i ByteArray.empty) ((AZ d).getD j ByteArray.empty)=true:=by
 have l:=FZ d d.length;rw[RK]at l;have a:(AZ d).length<=4096:=by omega
 generalize hs:(AZ d).getD i ByteArray.empty=s at *;generalize ht:(AZ d).getD j ByteArray.empty=t at *;have m:0<=BJ d s:=by
  obtain⟨x,hx,e⟩:=Gt (s:=s) (by rw[<-hs];exact DG hi);rw[<-e];exact Fc hx
 have n:0<=BJ d t:=by
  obtain⟨x,hx,e⟩:=Gt (s:=t) (by rw[<-ht];exact DG b);rw[<-e];exact Fc hx
 obtain⟨c1,c,-⟩:=El (d:=d) a s i;obtain⟨c2,f,-⟩:=El (d:=d) a t i;obtain⟨g,-,-⟩:=El (d:=d) a s j;obtain⟨k,-,-⟩:=El (d:=d) a t j;unfold GF at h;rw[An]at h;have b1:=Wn hn hl (c2.1 (MZ c f h.1 (c1.2 ⟨hi,by rw[hs];exact PI m⟩))).2;have b2:=Wn hn hl (g.1 (MZ f c h.2 (k.2 ⟨b,by rw[ht];exact PI n⟩))).2;rw[hs]at b1;rw[ht]at b2;rcases b1 with b1|b1
 .exact Fb b1
 rcases b2 with b2|b2
 .exact b2
 omega
section
attribute [local go_sem] b9 A2c MX cs0 cs1
def nmG (d:List AK) (all:List ByteArray) (codes:List (List Int)) (b:List Int):Nat->Nat->List ByteArray->ByteArray ⊕ List ByteArray
 | 0,_,l=>.inr l
 | n+1,i,l=>if GF (codes.getD i []) b=true then .inl (all.getD i ByteArray.empty) else nmG d all codes b n (i+1) (if WZ b (i:Int)=true then l++[all.getD i ByteArray.empty] else l)
def iX (l:List ByteArray) (s:ByteArray) (i:Nat):ByteArray:=(if 0<(i:Int) then s++ByteArray.mk #[38] else s)++l.getD i ByteArray.empty
def A2w (l:List ByteArray):ByteArray:=(List.range l.length).foldl (iX l) ByteArray.empty
def IR (d:List AK) (all:List ByteArray) (codes:List (List Int)) (b:List Int):ByteArray :=
 match nmG d all codes b all.length 0 [] with
 | .inl s=>s
 | .inr l=>A2w (CL d l)
theorem OT {d:List AK} {x:ByteArray}:∀ {l o:List ByteArray},x∈l.foldl (LZ d) o->x∈o\/x∈l
 | [],_,h=>.inl h
 | y :: l,o,h=>by
  rw[RJ]at h;rcases OT h with h|h
  .unfold LZ at h;split at h
   .rcases QV h with h|h
    .exact .inl h
    exact .inr (by simp[h])
   exact .inl h
  exact .inr (by simp[h])
theorem cN {d:List AK} {l:List ByteArray} {x:ByteArray} (h:x∈CL d l):x∈l:=by
 unfold CL Ug at h;obtain⟨i,hi,rfl⟩:=Do.1 h;rw[AAn,Ra]at hi;rcases OT (DG (d:=ByteArray.empty) hi.1) with h|h
 .cases h
 exact h
theorem cO (d:List AK) (l:List ByteArray):(CL d l).length<=l.length:=RF (iK _ _ _) (Jj d l)
theorem pB {l:List ByteArray} (h:∀s∈l,s.size<=32) (k:Nat):(l.getD k ByteArray.empty).size<=32:=by
 rw[AS];cases hh:l[k]? with
 | none=>simp
 | some x=>exact h x (AAm hh)
def Wp (l:List ByteArray) (n:Nat):ByteArray:=(List.range n).foldl (iX l) ByteArray.empty
theorem Wq (l:List ByteArray) (n:Nat):Wp l (n+1)=iX l (Wp l n) n:=by
 unfold Wp;rw[S9,ABe];rfl
theorem Wr {l:List ByteArray} (h:∀s∈l,s.size<=32):∀n,(Wp l n).size<=33*n
 | 0=>by simp[Wp]
 | n+1=>by
  have h1:=Wr h n;have a:=pB h n;rw[Wq];unfold iX;split
  .rw[ABF,ABF];have:(ByteArray.mk #[38]).size=1:=rfl;omega
  rw[ABF];omega
def cQ:Ab:={ ins:=[FU,GY,Ue,ER],pre:=λ(d,all,codes,b,_)=>Wb d/\List.length d<=256/\List.length all<=256/\List.length codes=List.length all/\(∀s∈(all:List ByteArray),s.size<=32)/\(∀x∈(codes:List (List Int)),x.length<=64)/\List.length b<=64,out:=λ(d,all,codes,b,_)=>[.p T9 (IR d all codes b)] }
theorem yV:Ac Tryz.prog 78 cQ:=by
 refine fK [0,1,2,3,8,9,10,11,12,16,24,31,45,49] Tryz.func78 Tryz.ntmps78 (AF yG (AF A2d (AF We AI))) ?_;rintro w0 O0 ⟨d,all,codes,b,u⟩ e-⟨hs,hd,t,q,A,w,hb⟩;have t:all.length<=256:=t;have q:codes.length=all.length:=q;simp only[cQ,AM];repeat'(first|exact trivial|apply eS rfl|refine rX e ?_ ?_)
 refine AJ (ι:={x:Nat×List ByteArray//x.1<=all.length/\x.2.length<=x.1/\(∀s∈x.2,s.size<=32)/\nmG d all codes b (all.length-x.1) x.1 x.2=nmG d all codes b all.length 0 []}) (λx=>⟨[(0,.p FU d),(1,.p GY all),(2,.p Ue codes),(3,.p ER b),(9,.sr 38 T9 0 x.1.2.length),(10,.p (.int .i64) (x.1.1:Int))],[(38,.arr 9 T9 x.1.2)]⟩) (λx=>all.length-x.1.1) ⟨(0,[]),by simp,by simp,by simp,rfl⟩ (eW [(38,.nil)]) (λx=>?_)
 obtain⟨⟨i,l⟩,hi,z,o,f⟩:=x;simp only at hi z o f;have r:i<all.length->nmG d all codes b (all.length-i) i l=if GF (codes.getD i []) b=true then .inl (all.getD i ByteArray.empty) else nmG d all codes b (all.length-(i+1)) (i+1) (if WZ b (i:Int)=true then l++[all.getD i ByteArray.empty] else l):=by
  intro h;rw[show all.length-i=(all.length-(i+1))+1 by omega];rfl
 simp only;repeat'(first|exact trivial|apply eS rfl|apply AB|refine rX e ?_ ?_|refine rC ?_ ?_<;>intro a<;>try(cases a;done))
 .exact⟨by rw[q];exact a,RF (MY w i) dc,RF hb dc⟩
 .assumption
 .have c:i<all.length:=by exact eV
  have j:IR d all codes b=all.getD i ByteArray.empty:=by
   unfold IR;rw[<-f,r c,BY a]
  exact fI e [.tmp 8] (by rw[j];exact eR)
 .have c:i<all.length:=by exact eV
  exact⟨IF.2 c,by simp only[AQ];omega⟩
 .exact eV
 .have c:i<all.length:=by exact eV
  have hn:=r c;rw[At (by rw[‹GF _ _=false›];simp),BY a]at hn;refine⟨⟨(i+1,l++[all.getD i ByteArray.empty]),by simp only;omega,by simp only[By,GO];omega,?_,hn.symm.trans f⟩,by simp only;omega,AD [(38,.nm 38)] rfl rfl ?_ ?_⟩
  .intro s hs;rcases Fg.1 hs with hs|hs
   .exact o s hs
   have:s=all.getD i ByteArray.empty:=by simpa using hs
   rw[this];exact pB A i
  .exact eN
  exact eN
 .exact eV
 .have c:i<all.length:=by exact eV
  have hn:=r c;rw[At (by rw[‹GF _ _=false›];simp),At (by rw[a];simp)]at hn;exact⟨⟨(i+1,l),by simp only;omega,by simp only;omega,o,hn.symm.trans f⟩,by simp only;omega,eW [(38,.nm 38)]⟩
 have j:IR d all codes b=A2w (CL d l):=by
  unfold IR;rw[<-f];have:all.length-i=0:=by exact eV
  rw[this];rfl
 refine FK [38] ?_;repeat'(first|exact trivial|apply eS rfl|refine rX e ?_ ?_)
 .exact⟨hs,hd,by omega⟩
 have v:∀s∈CL d l,s.size<=32:=λs h=>o s (cN h);have C:=cO d l;have y:A2w (CL d l)=Wp (CL d l) (CL d l).length:=rfl;rw[y]at j;generalize CL d l=m at *;refine AJ (ι:={k:Nat//k<=m.length}) (λk=>⟨[(9,.p GY m),(11,.p T9 (Wp m k.1)),(12,.p (.int .i64) (k.1:Int))],[]⟩) (λk=>m.length-k.1) ⟨0,OF _⟩ (AD [] rfl rfl ?_ ?_) (λk=>?_)
 .exact eN
 .refine eM ?_;rfl
 obtain⟨k,hk⟩:=k;have hk:k<=m.length:=hk;have B:=Wr v k;have n:=Wq m k;have D:=pB v k;unfold iX at n;simp only;repeat'(first|exact trivial|apply eS rfl|apply AB|refine rX e ?_ ?_|refine rC ?_ ?_<;>intro a<;>try(cases a;done))
 .have h1:(ByteArray.mk #[38]).size=1:=rfl;rw[h1];simp only[AQ];exact eV
 .refine⟨by assumption,?_⟩;have h1:(ByteArray.mk #[38]).size=1:=rfl;rw[ABF,h1];simp only[AQ];exact eV
 .exact eV
 .have g:k<m.length:=by exact eV
  rw[BY a]at n;refine⟨⟨k+1,g⟩,by simp only;omega,AD [] rfl rfl ?_ ?_⟩
  .exact eN
  simp only[n];exact eN
 .refine⟨by assumption,?_⟩;simp only[AQ];exact eV
 .exact eV
 .have g:k<m.length:=by exact eV
  rw[At (AB1.2 a)]at n;refine⟨⟨k+1,g⟩,by simp only;omega,AD [] rfl rfl ?_ ?_⟩
  .exact eN
  simp only[n];exact eN
 have g:k=m.length:=by exact eV
 rw[<-g]at j;exact fI e [.tmp 8] (by rw[j];exact eR)
end
section
attribute [local go_sem] U7 QN A2q cL cQ cK
def Fq (x:AW) (out:List AW):Nat->Nat
 | 0=>0
 | n+1=>if GG x (out.getD n c0)=true then Fq x out n else n+1
def cR (out:List AW) (x:AW):List AW:=out.take (Fq x out out.length)++[x]++out.drop (Fq x out out.length)
def Aj (d:List AK):List (List Int):=(AZ d).map λs=>Hf d (AZ d) s
def Gu (d:List AK) (all:List ByteArray) (codes:List (List Int)) (out:List AW) (b:List Int):List AW:=cR out (IR d all codes b,b)
def SH (d:List AK):List AW->List Int->List AW:=Gu d (AZ d) (Aj d)
theorem PJ (d:List AK) (all:List ByteArray) (codes:List (List Int)):∀(l:List (List Int)) (o:List AW),(l.foldl (Gu d all codes) o).length=o.length+l.length
 | [],o=>by simp
 | b :: l,o=>by
  rw[RJ,PJ d all codes l];unfold Gu cR;simp only[By,On,aS,NO,nO];omega
theorem Ws {d:List AK} {all:List ByteArray} {codes:List (List Int)}:∀ {l:List (List Int)} {o:List AW},(∀c∈l,c.length<=64)->(∀y∈o,y.2.length<=64)->∀y∈l.foldl (Gu d all codes) o,y.2.length<=64
 | [],_,_,a=>a
 | b :: l,o,hl,a=>by
  rw[RJ];refine Ws (λc e=>hl c (by simp[e])) (λy hy=>?_);unfold Gu cR at hy;simp only[Fg,RH]at hy;rcases hy with (hy|hy)|hy
  .exact a y (TO hy)
  .rw[hy];exact hl b sc
  exact a y (ABs hy)
theorem iY (x:AW) (out:List AW):∀n,Fq x out n<=n
 | 0=>IN _
 | n+1=>by
  unfold Fq;split
  .exact Nat.le_succ_of_le (iY x out n)
  exact IN _
def A5 (d:List AK):List AW:=(A7 (Aj d)).foldl (SH d) []
def CH (d:List AK):List AW×Int :=
 if BV d≠0 then ([],BV d) else if 256<(A7 (Aj d)).length then ([],7) else (A5 d,0)
theorem pC {b:Bool} (h:FB s b=true):s.size<=32:=by
 unfold FB at h;rw[An]at h;have h1:=h.1;unfold R7 at h1;simp only[RQ,AAo,RT]at h1;have:=h1.1.1.2;omega
theorem iZ {d:List AK} (hn:Dt d=0):∀s∈AZ d,s.size<=32:=by
 intro s hs;obtain⟨x,hx,rfl⟩:=Gt hs;obtain⟨j,a,rfl⟩:=Br d0 hx;exact pC (Ma hn j a).2
def K0 (d:List AK) (n:Nat):List (List Int):=((AZ d).take n).map λs=>Hf d (AZ d) s
theorem pD {d:List AK} {n:Nat} (h:n<=(AZ d).length):(K0 d n).length=n:=by simp[K0,h]
theorem i5 {d:List AK} {n:Nat} (h:n<(AZ d).length):K0 d (n+1)=K0 d n++[Hf d (AZ d) ((AZ d).getD n ByteArray.empty)]:=by
 unfold K0;rw[Af _ ByteArray.empty h,RY];rfl
theorem pE (d:List AK):K0 d (AZ d).length=Aj d:=by simp[K0,Aj]
theorem pF (d:List AK):(Aj d).length=(AZ d).length:=by simp[Aj]
theorem PK {d:List AK} (h:d.length<=256):∀c∈Aj d,c.length<=64:=by
 intro c a;unfold Aj at a;obtain⟨s,-,rfl⟩:=Do.1 a;have b:=FZ d d.length;rw[RK]at b;exact(El (d:=d) (all:=AZ d) O1 s 0).2.2
theorem i6 {i:Nat}:∀ {n k:Nat} {l:List (List Int)},(∀c∈l,c.length<=64)->∀c∈HS i n k l,c.length<=64
 | 0,_,_,h=>h
 | n+1,k,l,h=>by
  unfold HS;split
  .exact i6 (iP h i k)
  exact h
theorem QW:∀ {n i:Nat} {l:List (List Int)},(∀c∈l,c.length<=64)->∀c∈Jk n i l,c.length<=64
 | 0,_,_,h=>h
 | n+1,i,l,h=>by
  unfold Jk;split
  .exact QW (i6 h)
  exact h
theorem i7 {out:List AW} {x y:AW}:y∈cR out x↔y=x\/y∈out:=by
 unfold cR;rw[Fg,Fg,RH];have h:=Fg (a:=y) (s:=out.take (Fq x out out.length)) (t:=out.drop (Fq x out out.length));rw[ABl]at h;rw[h];constructor
 .rintro ((h|h)|h)
  .exact .inr (.inl h)
  .exact .inl h
  exact .inr (.inr h)
 rintro (h|h|h)
 .exact .inl (.inr h)
 .exact .inl (.inl h)
 exact .inr h
def SI:Ab:={ ins:=[FU],pre:=λ_=>True,out:=λ(d,_)=>[.p ZG (CH d).1,.p HB (CH d).2] }
theorem QX:Ac Tryz.prog 37 SI:=by
 refine fK [0,2,3,4,5,6,7,8,9,10,11,12,13,17,24,41,45,73] Tryz.func37 Tryz.ntmps37 (AF yM (AF ZL (AF A5C (AF yR (AF yV (AF yP AI)))))) ?_;rintro w0 O0 ⟨d,u⟩ g - -;simp only[SI,AM];repeat'(first|exact trivial|apply eS rfl|refine rX g ?_ ?_|refine rC ?_ ?_<;>intro a<;>try(cases a;done))
 .have h1:CH d=([],BV d):=by unfold CH;rw[BY a]
  exact fI g [.tmp 2,.tmp 3] (by rw[h1];exact eR)
 .have i:BV d=0:=by simpa using a
  obtain⟨-,D,-⟩:=BE i;exact RF D dc
 have i:BV d=0:=by simpa using a
 obtain⟨L,hd,-,hn,-⟩:=BE i;have E:=FZ d d.length;rw[RK]at E;have M:=iZ hn;refine AJ (ι:={n:Nat//n<=(AZ d).length}) (λn=>⟨[(0,.p FU d),(5,.p GY (AZ d)),(6,.sr 36 ER 0 (K0 d n.1).length),(7,.p (.int .i64) (n.1:Int))],[(36,.arr 83 ER (K0 d n.1))]⟩) (λn=>(AZ d).length-n.1) ⟨0,OF _⟩ (AD [(36,.nil)] rfl rfl ?_ ?_) (λn=>?_)
 .refine eM ?_;rfl
 .refine eM ?_;rfl
 obtain⟨n,H⟩:=n;have P:=pD H;have hs:=λh=>i5 (d:=d) (n:=n) h;simp only;repeat'(first|exact trivial|apply eS rfl|apply AB|refine rX g ?_ ?_|refine rC ?_ ?_<;>intro a<;>try(cases a;done))
 .refine⟨a,⟨hd,by dsimp only[Ty.den]at *;omega⟩,?_⟩;simp only[AQ];dsimp only[Ty.den]at *;omega
 .exact eV
 .have v:n<(AZ d).length:=by exact eV
  have e:=hs v;refine⟨⟨n+1,by omega⟩,by simp only;omega,AD [(36,.nm 36)] rfl rfl ?_ ?_⟩
  .simp only[e];exact eN
  simp only[e];exact eN
 have v:n=(AZ d).length:=by exact eV
 subst v;rw[pE];have G:=pF d;have w:=PK hd;have s:∀c∈A7 (Aj d),c.length<=64:=QW w;refine FK [36] ?_;repeat'(first|exact trivial|apply eS rfl|refine rX g ?_ ?_|refine rC ?_ ?_<;>intro a<;>try(cases a;done))
 .exact⟨by omega,w⟩
 .have h1:CH d=([],7):=by
   unfold CH;rw[At (by rw[i];simp),BY O1]
  exact fI g [.tmp 2,.tmp 3] (by rw[h1];exact eR)
 have C:CH d=((A7 (Aj d)).foldl (Gu d (AZ d) (Aj d)) [],0):=by
  unfold CH;rw[At (by rw[i];simp),At O1];rfl
 generalize A7 (Aj d)=f at *;generalize Aj d=codes at *;generalize AZ d=all at *;refine AJ (ι:={k:Nat//k<=f.length}) (λk=>⟨[(0,.p FU d),(5,.p GY all),(6,.p Ue codes),(8,.p Ue f),(9,.sr 9 T85 0 ((f.take k.1).foldl (Gu d all codes) []).length),(10,.p (.int .i64) (k.1:Int))],[(9,.arr 85 T85 ((f.take k.1).foldl (Gu d all codes) []))]⟩) (λk=>f.length-k.1) ⟨0,OF _⟩ (AD [(9,.nil)] rfl rfl ?_ ?_) (λk=>?_)
 .refine eM ?_;rfl
 .refine eM ?_;rfl
 obtain⟨k,hk⟩:=k;have B:=PJ d all codes (f.take k) [];have N:(f.take k).length=k:=by rw[On];exact AAI hk
 have I:=Ws (d:=d) (all:=all) (codes:=codes) (l:=f.take k) (o:=[]) (λc g=>s c (TO g)) sc;have K:=λh:k<f.length=>E2 (Gu d all codes) f [] [] h;rw[N]at B;simp only[nO,AB8]at B;generalize A:(f.take k).foldl (Gu d all codes) []=out at *;simp only;repeat'(first|exact trivial|apply eS rfl|refine rX g ?_ ?_|refine rC ?_ ?_<;>intro a<;>try(cases a;done))
 .exact⟨a,⟨L,hd,by omega,G,M,w,MY s k⟩,a⟩
 .have t:k<f.length:=by exact eV
  have e:=K t;have F:=MY s k;generalize f.getD k []=b at *;unfold Gu at e;generalize IR d all codes b=nm at *;refine AJ (ι:={q:Nat//q<=out.length/\Fq (nm,b) out q=Fq (nm,b) out out.length}) (λq=>⟨[(0,.p FU d),(5,.p GY all),(6,.p Ue codes),(8,.p Ue f),(9,.sr 9 T85 0 out.length),(10,.p (.int .i64) (k:Int)),(11,.bp 11 [] 0),(12,.p (.int .i64) (q.1:Int))],[(9,.arr 85 T85 out),(11,.box 85 true [.p T9 nm,.p ER b])]⟩) (λq=>q.1) ⟨out.length,IN _,rfl⟩ (eW [(9,.nm 9),(11,.nm 11)]) (λq=>?_)
  obtain⟨q,j,z⟩:=q;have j:q<=out.length:=j;simp only;repeat'(first|exact trivial|apply eS rfl|apply AB|refine rX g ?_ ?_|refine rC ?_ ?_<;>intro a<;>try(cases a;done))
  .refine⟨λh=>by omega,λh=>by exact eV,λh=>⟨RF F dc,RF (I _ (AE out c0 (k:=((q:Int)-1).toNat) O1)) dc⟩⟩
  .omega
  .obtain⟨O,y⟩:=a;obtain⟨q,rfl⟩:∃r,q=r+1:=⟨q-1,by omega⟩;have m:((q+1:Nat):Int)-1=(q:Int):=by omega
   refine⟨⟨q,by omega,?_⟩,Nat.lt_succ_self q,AD [(9,.nm 9),(11,.nm 11)] rfl rfl ?_ ?_⟩
   .rw[<-z];rw[m,RG]at y;show _=if GG (nm,b) (out.getD q c0)=true then Fq (nm,b) out q else q+1
    rw[BY y]
   .exact eN
   refine eM ?_;show (q:Int)+1-1=q;omega
  .refine⟨RM.2 j,?_⟩;rw[On];simp only[AQ];omega
  .rw[On];simp only[AQ];omega
  .refine⟨RM.2 j,?_⟩;rw[On,aS];simp only[AQ];omega
  .omega
  have J:Fq (nm,b) out q=q:=by
   cases q with
   | zero=>rfl
   | succ q =>
    have m:((q+1:Nat):Int)-1=(q:Int):=by omega
    have:=a O1;rw[m,RG]at this;show (if GG (nm,b) (out.getD q c0)=true then Fq (nm,b) out q else q+1)=q+1;rw[At (by rw[this];simp)]
  unfold cR at e;rw[<-z,J]at e;refine⟨⟨k+1,by omega⟩,by simp only;omega,AD [(9,.nm 80)] rfl rfl ?_ ?_⟩
  .refine eM ?_;exact e.symm
  refine eM ?_;have x:=AAv List.length e;rw[By,By]at x;exact x.symm
 have t:k=f.length:=by exact eV
 rw[t,RK]at A;rw[A]at C;refine FK [9] ?_;exact fI g [.tmp 2,.tmp 3] (by rw[C];exact eR)
end
theorem ZX {d:List AK}:∀ {l:List (List Int)} {o:List AW} {y:AW},y∈l.foldl (SH d) o↔y∈o\/∃b∈l,y=(IR d (AZ d) (Aj d) b,b)
 | [],o,y=>by simp
 | b :: l,o,y=>by
  rw[RJ,ZX];unfold SH Gu;rw[i7];simp only[DO];constructor
  .rintro ((h|h)|⟨c,a,e⟩)
   .exact .inr ⟨b,.inl rfl,h⟩
   .exact .inl h
   exact .inr ⟨c,.inr a,e⟩
  rintro (h|⟨c,rfl|a,e⟩)
  .exact .inl (.inr h)
  .exact .inl (.inl e)
  exact .inr ⟨c,a,e⟩
theorem Dw {d:List AK} {y:AW}:y∈A5 d↔∃b∈A7 (Aj d),y=(IR d (AZ d) (Aj d) b,b):=by
 unfold A5;rw[ZX];simp
theorem IT (d:List AK):(A5 d).length=(A7 (Aj d)).length:=by
 have h:=PJ d (AZ d) (Aj d) (A7 (Aj d)) [];rw[nO,AB8]at h;exact h
theorem A2x {l:List (List Int)} {i k:Nat} {c:List Int} (h:c∈l):c∈HR l i k:=by
 unfold HR;split
 .exact Fg.2 (.inl h)
 exact h
theorem i8 {i:Nat} {c:List Int}:∀ {n k:Nat} {l:List (List Int)},c∈l->c∈HS i n k l
 | 0,_,_,h=>h
 | n+1,k,l,h=>by
  unfold HS;split
  .exact i8 (A2x h)
  exact h
theorem i9 {c:List Int}:∀ {n i:Nat} {l:List (List Int)},c∈l->c∈Jk n i l
 | 0,_,_,h=>h
 | n+1,i,l,h=>by
  unfold Jk;split
  .exact i9 (i8 h)
  exact h
theorem T6 (d:List AK) {i:Nat} (h:i<(AZ d).length):(Aj d).getD i []=Hf d (AZ d) ((AZ d).getD i ByteArray.empty):=by
 unfold Aj;simp[AS,h]
theorem uD {d:List AK} (hn:Dt d=0) (hl:d.length<=(Bl d).length) (c:d.length<=256) {j:Nat} (b:j<(AZ d).length):∀(m i:Nat) (l:List ByteArray),i+m=(AZ d).length->i<=j ->
  ∃s,nmG d (AZ d) (Aj d) ((Aj d).getD j []) m i l=.inl s/\Ae s ((AZ d).getD j ByteArray.empty)=true
 | 0,i,l,h,f=>by omega
 | m+1,i,l,h,f=>by
  unfold nmG;split
  .rename_i a;refine⟨_,rfl,?_⟩;rw[T6 d O1,T6 d b]at a;exact iW hn hl c O1 b a
  rename_i a;have g:i≠j:=by
   intro e;subst e;exact a (iR _)
  exact uD hn hl c b m (i+1) _ O1 O1
theorem uE (s:ByteArray):∀(l:List AW) (k:Nat),SE s k l<((k+l.length:Nat):Int)
 | [],k=>by simp only[SE];omega
 | x :: l,k=>by
  simp only[SE];split
  .simp only[NO];omega
  have:=uE s l (k+1);simp only[NO];omega
theorem uF (s:ByteArray):∀(l:List AW) (k:Nat) (x:AW),x∈l->Ae x.1 s=true->0<=SE s k l
 | [],_,_,h,_=>by cases h
 | y :: l,k,x,h,e=>by
  simp only[SE];split
  .omega
  rename_i hy;rcases DO.1 h with rfl|h
  .exact absurd e hy
  exact uF s l (k+1) x h e
theorem pG (l:List AW) (s:ByteArray):DX l s<(l.length:Int):=by
 have:=uE s l 0;rw[AB8]at this;exact this
theorem T7 {d:List AK} (h:BV d=0) (hs:Ai (AZ d) s=true):0<=DX (A5 d) s:=by
 obtain⟨-,b,-,hn,hl⟩:=BE h;obtain⟨t,ht,e⟩:=Re.1 hs;obtain⟨j,c,rfl⟩:=Br ByteArray.empty ht;obtain⟨u,hu,a⟩:=uD hn hl b c (AZ d).length 0 [] O1 O1;have f:(Aj d).length=(AZ d).length:=by simp[Aj]
 refine uF s (A5 d) 0 (u,(Aj d).getD j []) ?_ (DF a e);rw[Dw];refine⟨(Aj d).getD j [],i9 (DG O1),?_⟩;unfold IR;rw[hu]
theorem T8 {d:List AK} (h:BV d=0) {x:AK} (hx:x∈d):0<=DX (A5 d) x.1:=T7 h (Wo hx)
theorem Bt {d:List AK} (h:(CH d).2=0):BV d=0/\(A7 (Aj d)).length<=256/\(CH d).1=A5 d:=by
 unfold CH at h ⊢;split at h
 .rename_i h1;exact absurd h h1
 rename_i h1;split at h
 .cases h
 rename_i a;exact⟨IS h1,by omega,by rw[At h1,At a]⟩
theorem A5I {d:List AK} (h:BV d=0):0<(A5 d).length:=by
 obtain⟨-,-,a,-,-⟩:=BE h;cases d with
 | nil=>cases a
 | cons x d =>
  have:=T8 h (x:=x) sc;have b:=pG (A5 (x :: d)) x.1;omega
section
attribute [local go_sem] uB
def A8t (l:List AW) (i k:Int) (m:Nat):Bool:=(m:Int)==i||(m:Int)==k||!OP l k (m:Int)||!OP l (m:Int) i
def yW (l:List AW) (i k:Int) (n:Nat):Bool:=(List.range n).all (A8t l i k)
def yX (l:List AW) (i:Int) (k:Nat):Bool:=!((k:Int)==i||!OP l (k:Int) i)&&yW l i (k:Int) l.length
def OU (l:List AW) (i:Int) (n:Nat):List Int:=((List.range n).filter λ(k:Nat)=>yX l i k).map λ(k:Nat)=>(k:Int)
def jA (l:List AW) (i:Int):List Int:=OU l i l.length
theorem pH (l:List AW) (i:Int) (n:Nat):OU l i (n+1)=OU l i n++if yX l i n=true then [(n:Int)] else []:=by
 unfold OU;rw[S9,ABr,RY]
 congr 1
 rw[oR,AC8];split<;>rfl
theorem yY (l:List AW) (i:Int) (n:Nat):(OU l i n).length<=n:=by
 unfold OU;rw[No];exact RF (AAx _ _) sc
theorem yZ (l:List AW) (i k:Int) (n:Nat):yW l i k (n+1)=(yW l i k n&&A8t l i k n):=by
 unfold yW;rw[S9,ABV];simp
def A2y:Ab:={ ins:=[ZG,T3],pre:=λ(l,i,_)=>((0:Int)<=i/\i<(List.length l:Int))/\List.length l<=256/\(∀x∈(l:List AW),x.2.length<=64),out:=λ(l,i,_)=>[.p D6 (jA l i)] }
theorem A5J:Ac Tryz.prog 38 A2y:=by
 refine fK [0,1,4,5,6,7,8,12,24,28,56] Tryz.func38 Tryz.ntmps38 (AF uC AI) ?_;rintro w0 O0 ⟨l,i,u⟩ b-⟨hi,hl,hx⟩;have hl:l.length<=256:=hl;have e:∀x∈(l:List AW),x.2.length<=100000:=λx h=>RF (hx x h) dc;simp only[A2y,AM];repeat'(first|exact trivial|apply eS rfl|refine rX b ?_ ?_)
 refine AJ (ι:={k:Nat//k<=l.length}) (λk=>⟨[(0,.p ZG l),(1,.p T3 i),(5,.sr 60 T3 0 (OU l i k.1).length),(6,.p (.int .i64) (k.1:Int))],[(60,.arr 3 T3 (OU l i k.1))]⟩) (λk=>l.length-k.1) ⟨0,OF _⟩ (AD [(60,.nil)] rfl rfl ?_ ?_) (λk=>?_)
 .refine eM ?_;rfl
 .refine eM ?_;rfl
 obtain⟨k,hk⟩:=k;have hk:k<=l.length:=hk;have g:=yY l i k;have hs:=pH l i k;simp only;repeat'(first|exact trivial|apply eS rfl|apply AB|refine rX b ?_ ?_|refine rC ?_ ?_<;>intro a<;>try(cases a;done))
 .intro h;exact⟨by assumption,hi,e⟩
 .exact eV
 .have d:k<l.length:=by exact eV
  have hb:yX l i k=false:=by
   unfold yX;rw[ABG];left;rw[ABT,TB,TE,RQ];exact a
  rw[hb,At sc,S6]at hs;refine⟨⟨k+1,by omega⟩,by simp only;omega,AD [(60,.nm 60)] rfl rfl ?_ ?_⟩
  .simp only[hs];exact eN
  simp only[hs];exact eN
 .have d:k<l.length:=by exact eV
  have hb:yX l i k=yW l i (k:Int) l.length:=by
   unfold yX;rw[show ((k:Int)==i||!OP l (k:Int) i)=false by
    rw[AAo,AAW,ABT];exact a]
   rfl
  refine AJ (ι:={m:Nat//m<=l.length}) (λm=>⟨[(0,.p ZG l),(1,.p T3 i),(5,.sr 60 T3 0 (OU l i k).length),(6,.p (.int .i64) (k:Int)),(7,.p .bool (yW l i (k:Int) m.1)),(8,.p (.int .i64) (m.1:Int))],[(60,.arr 3 T3 (OU l i k))]⟩) (λm=>l.length-m.1) ⟨0,OF _⟩ (AD [(60,.nm 60)] rfl rfl ?_ ?_) (λm=>?_)
  .exact eN
  .refine eM ?_;rfl
  obtain⟨m,hm⟩:=m;have hm:m<=l.length:=hm;have f:=yZ l i (k:Int) m;simp only;repeat'(first|exact trivial|apply eS rfl|apply AB|refine rX b ?_ ?_|refine rC ?_ ?_<;>intro a<;>try(cases a;done))
  .exact⟨λh=>⟨by assumption,a,e⟩,λh=>⟨a,hi,e⟩⟩
  .exact eV
  .have c:m<l.length:=by exact eV
   refine⟨⟨m+1,by omega⟩,by simp only;omega,AD [(60,.nm 60)] rfl rfl ?_ ?_⟩
   .exact eN
   simp only[f];unfold A8t;exact eN
  .simp only[AQ];dsimp only[Ty.den]at *;omega
  .exact eV
  .have c:m=l.length:=by exact eV
   subst c;rw[hb,BY a]at hs;refine⟨⟨k+1,by omega⟩,by simp only;omega,AD [(60,.nm 60)] rfl rfl ?_ ?_⟩
   .simp only[hs];exact eN
   simp only[hs];exact eN
  .exact eV
  have c:m=l.length:=by exact eV
  subst c;rw[hb,At (by rw[a];simp),S6]at hs;refine⟨⟨k+1,by omega⟩,by simp only;omega,AD [(60,.nm 60)] rfl rfl ?_ ?_⟩
  .simp only[hs];exact eN
  simp only[hs];exact eN
 have d:k=l.length:=by exact eV
 subst d;refine FK [60] ?_;exact fI b [.tmp 4] (by unfold jA;exact eR)
end
section
attribute [local go_sem] QN WX Jh
abbrev FV:=ByteArray×ByteArray
abbrev f0V:FV:=(ByteArray.empty,ByteArray.empty)
def dcG (all:List ByteArray) (l:List FV):Nat->List FV->Int
 | _,[]=>0
 | k,x :: r=>if FB x.1 true=false then 1 else if ((l.take k).any λy=>Ae y.1 x.1)=true then 4 else if Ai all x.2=false then 5 else dcG all l (k+1) r
def cS (all:List ByteArray):List AK->Int
 | []=>0
 | x :: l=>if dcG all x.2.2 0 x.2.2≠0 then dcG all x.2.2 0 x.2.2 else cS all l
def Mb (d:List AK):Int:=cS (AZ d) d
theorem A2z (all:List ByteArray) (l:List FV) (h:k<l.length):dcG all l k (l.drop k)=if FB (l.getD k f0V).1 true=false then 1 else if ((l.take k).any λy=>Ae y.1 (l.getD k f0V).1)=true then 4 else if Ai all (l.getD k f0V).2=false then 5 else dcG all l (k+1) (l.drop (k+1)):=by
 rw[Is h];have e:l.getD k f0V=l[k]:=by simp[AS,h]
 rw[e];rfl
theorem y3 (all:List ByteArray) (l:List AK) (h:k<l.length):cS all (l.drop k)=if dcG all (l.getD k d0).2.2 0 (l.getD k d0).2.2≠0 then dcG all (l.getD k d0).2.2 0 (l.getD k d0).2.2 else cS all (l.drop (k+1)):=by
 rw[Is h];have e:l.getD k d0=l[k]:=by simp[AS,h]
 rw[e];rfl
def pI:Ab:={ ins:=[FU],pre:=λ(d,_)=>List.length d<=256,out:=λ(d,_)=>[.p HB (Mb d)] }
theorem A2A:Ac Tryz.prog 107 pI:=by
 refine fK [0,2,3,4,5,6,7,13,24,33,36,49,57] Tryz.func107 Tryz.ntmps107 (AF ZL (AF oT (AF HC AI))) ?_;rintro w0 O0 ⟨d,u⟩ c ⟨⟨w,t⟩,-⟩ hd;have hd:d.length<=256:=hd;simp only[pI,AM];repeat'(first|exact trivial|apply eS rfl|refine rX c ?_ ?_)
 .exact RF hd dc
 have v:Mb d=cS (AZ d) d:=rfl;rw[v];generalize AZ d=all at *;refine AJ (ι:={i:Nat//i<=d.length/\cS all (d.drop i)=cS all d}) (λi=>⟨[(0,.p FU d),(3,.p GY all),(4,.p (.int .i64) (i.1:Int))],[]⟩) (λi=>d.length-i.1) ⟨0,OF _,rfl⟩ (eW []) (λi=>?_)
 obtain⟨i,hi,hf⟩:=i;simp only;repeat'(first|exact trivial|apply eS rfl|refine rX c ?_ ?_|refine rC ?_ ?_<;>intro a<;>try(cases a;done))
 .exact a
 .have n:i<d.length:=by exact eV
  rw[y3 all d n]at hf;have z:(d.getD i d0).2.2.length<=AQ:=(t _ (AE d d0 n)).2.2.1;have x:(List.getD d i (ByteArray.empty,[],[])).2.2=(d.getD i d0).2.2:=rfl;rw[x];generalize (d.getD i d0).2.2=l at *;simp only[AQ]at z;refine AJ (ι:={k:Nat//k<=l.length/\dcG all l k (l.drop k)=dcG all l 0 l}) (λk=>⟨[(0,.p FU d),(3,.p GY all),(4,.p (.int .i64) (i:Int)),(5,.p T93 l),(6,.p (.int .i64) (k.1:Int))],[]⟩) (λk=>l.length-k.1) ⟨0,OF _,rfl⟩ (eW []) (λk=>?_)
  obtain⟨k,hk,b⟩:=k;have q:=λh:k<l.length=>A2z all l h;simp only;repeat'(first|exact trivial|apply eS rfl|apply AB|refine rX c ?_ ?_|refine rC ?_ ?_<;>intro a<;>try(cases a;done))
  .exact a
  .have e:k<l.length:=by exact eV
   rw[q e,BY a]at b;rw[<-b,BY dc]at hf;exact fI c [.tmp 2] (by rw[<-hf];exact eR)
  .have e:k<l.length:=by exact eV
   have o:(k:Int)<(l.length:Int):=IF.2 e;rw[q e,At (by rw[a];simp)]at b;refine AJ (ι:={m:Nat//m<=k/\((l.take m).any λy=>Ae y.1 (l.getD k f0V).1)=false}) (λm=>⟨[(0,.p FU d),(3,.p GY all),(4,.p (.int .i64) (i:Int)),(5,.p T93 l),(6,.p (.int .i64) (k:Int)),(7,.p (.int .i64) (m.1:Int))],[]⟩) (λm=>k-m.1) ⟨0,OF _,rfl⟩ (eW []) (λm=>?_)
   obtain⟨m,hm,g⟩:=m;have r:=λh:m<l.length=>NY l f0V (λy=>Ae y.1 (l.getD k f0V).1) h;simp only;repeat'(first|exact trivial|apply eS rfl|apply AB|refine rX c ?_ ?_|refine rC ?_ ?_<;>intro a<;>try(cases a;done))
   .have h1:(m:Int)<(k:Int):=a;exact⟨by exact eV,o⟩
   .have f:m<k:=IF.1 (by assumption);have j:=r O1;have s:((l.take k).any λy=>Ae y.1 (l.getD k f0V).1)=true:=by
     rw[Re];exact⟨l.getD m f0V,by
      rw[ABH];refine⟨m,by omega,?_⟩;simp[AS,show m<l.length by omega],a⟩
    rw[BY s]at b;rw[<-b,BY dc]at hf;exact fI c [.tmp 2] (by rw[<-hf];exact eR)
   .omega
   .have f:m<k:=IF.1 (by assumption);have j:=r O1;refine⟨⟨m+1,by omega,?_⟩,by simp only;omega,AD [] rfl rfl ?_ ?_⟩
    .rw[j,g];exact a
    .exact eN
    exact eN
   .exact o
   .have f:m=k:=by omega
    subst f;rw[At (by rw[g];simp),BY a]at b;rw[<-b,BY dc]at hf;exact fI c [.tmp 2] (by rw[<-hf];exact eR)
   .have:=w;simp only[AQ]at this;omega
   have f:m=k:=by omega
   subst f;rw[At (by rw[g];simp),At (by rw[a];simp)]at b;exact⟨⟨m+1,by omega,b⟩,by simp only;omega,eW []⟩
  .omega
  have e:l.drop k=[]:=OR (RM.1 a);rw[e]at b;rw[<-b,At (by simp[dcG])]at hf;exact⟨⟨i+1,by omega,hf⟩,by simp only;omega,eW []⟩
 have e:d.drop i=[]:=OR (by exact eV);rw[e]at hf;exact fI c [.tmp 2] (by rw[<-hf];first|exact eR|refine Tp ?_;rfl)
end
section
attribute [local go_sem] cJ b8 MX cs0
def UA (s:ByteArray) (o:List ByteArray) (x:AK):List ByteArray:=if (Gr x s).2=true then Ds o x.1 else o
def Jl (d:List AK) (s:ByteArray):List ByteArray:=d.foldl (UA s) []
theorem pJ (s:ByteArray) (d:List AK) (k:Nat):(Jl (d.take k) s).length<=k:=by
 have key:∀(l:List AK) (o:List ByteArray),(l.foldl (UA s) o).length<=o.length+l.length:=by
  intro l;induction l with
  | nil=>intro o;simp
  | cons x l b =>
   intro o;have h1:=b (UA s o x);have a:(UA s o x).length<=o.length+1:=by
    unfold UA;split
    .exact MT o x.1
    omega
   simp only[RJ,NO];omega
 have h1:=key (d.take k) [];have a:=TF k d;unfold Jl;simp only[nO]at h1;omega
def Gv (d:List AK) (s:ByteArray):ByteArray×Bool:=if (CL d (Jl d s)).length=1 then ((CL d (Jl d s)).getD 0 ByteArray.empty,true) else (ByteArray.empty,false)
def cU:Ab:={ ins:=[FU,T9],pre:=λ(d,_,_)=>Wb d/\List.length d<=256,out:=λ(d,s,_)=>[.p T9 (Gv d s).1,.p .bool (Gv d s).2] }
theorem jB:Ac Tryz.prog 81 cU:=by
 refine fK [0,1,4,5,6,7,9,10,14,26,39] Tryz.func81 Tryz.ntmps81 (AF iM (AF R8 (AF We AI))) ?_;rintro w0 O0 ⟨d,s,u⟩ c-⟨k,hd⟩;have hd:d.length<=256:=hd;simp only[cU,AM];repeat'(first|exact trivial|apply eS rfl|refine rX c ?_ ?_)
 refine AJ (ι:={i:Nat//i<=d.length}) (λi=>⟨[(0,.p FU d),(1,.p T9 s),(6,.p GY (Jl (d.take i.1) s)),(7,.p (.int .i64) (i.1:Int))],[]⟩) (λi=>d.length-i.1) ⟨0,OF _⟩ (AD [] rfl rfl ?_ ?_) (λi=>?_)
 .exact eN
 .refine eM ?_;rfl
 obtain⟨i,hi⟩:=i;have hi:i<=d.length:=hi;have hn:=pJ s d i;have hs:=λh:i<d.length=>E2 (UA s) d d0 [] h;have g:∀e,Jl e s=e.foldl (UA s) []:=λ_=>rfl;rw[<-g,<-g]at hs;unfold UA at hs;simp only;repeat'(first|exact trivial|apply eS rfl|apply AB|refine rX c ?_ ?_|refine rC ?_ ?_<;>intro a<;>try(cases a;done))
 .exact a
 .exact⟨by assumption,by omega⟩
 .exact eV
 .have b:i<d.length:=by exact eV
  have e:=hs b;rw[BY a]at e;refine⟨⟨i+1,by omega⟩,by simp only;omega,AD [] rfl rfl ?_ ?_⟩
  .exact eN
  simp only[e];exact eN
 .exact eV
 .have b:i<d.length:=by exact eV
  have e:=hs b;rw[At (by rw[a];simp)]at e;refine⟨⟨i+1,by omega⟩,by simp only;omega,AD [] rfl rfl ?_ ?_⟩
  .exact eN
  simp only[e];exact eN
 .exact⟨k,hd,by omega⟩
 .have b:d.take i=d:=As (by exact eV);rw[b]at a ⊢;have h1:Gv d s=(ByteArray.empty,false):=by
   unfold Gv;rw[At O1]
  exact fI c [.tmp 4,.tmp 5] (by rw[h1];first|exact eR|refine Tp ?_;first|rfl|exact⟨rfl,rfl⟩)
 .have f:((CL d (Jl (d.take i) s)).length:Int)=1:=by simpa using a
  have j:(0:Int)<((CL d (Jl (d.take i) s)).length:Int):=by rw[f];decide
  exact j
 have b:d.take i=d:=As (by exact eV);rw[b]at a ⊢;have f:((CL d (Jl d s)).length:Int)=1:=by simpa using a
 have h1:Gv d s=((CL d (Jl d s)).getD 0 ByteArray.empty,true):=by
  unfold Gv;rw[BY O1]
 exact fI c [.tmp 4,.tmp 5] (by rw[h1];exact eR)
end
section
attribute [local go_sem] cJ U8 uB A2e
def Yc (l:List AW) (t:Int) (s:ByteArray) (o:List Int×Bool) (x:AK):List Int×Bool :=
 if (!(Gr x s).2||!OP l (DX l x.1) t)=true then o else (GE o.1 (l.getD (DX l (Gr x s).1).toNat c0).2,true)
def Wu (d:List AK) (l:List AW) (t:Int) (s:ByteArray):List Int×Bool:=d.foldl (Yc l t s) ((l.getD 0 c0).2,false)
def A5L (d:List AK) (l:List AW):Prop:=(∀x∈d,0<=DX l x.1)/\∀x∈d,∀y∈x.2.2,0<=DX l y.2
theorem jC (s:ByteArray):∀(l:List (ByteArray×ByteArray)),(iL s l).2=true->∃y∈l,y.2=(iL s l).1
 | [],h=>by cases h
 | x :: l,h=>by
  simp only[iL]at h ⊢;split at h
  .rename_i h1;rw[BY h1];exact⟨x,by simp,rfl⟩
  rename_i h1;rw[At h1];obtain⟨y,hy,e⟩:=jC s l h;exact⟨y,by simp[hy],e⟩
theorem A5L.value {d:List AK} {l:List AW} (h:A5L d l) {x:AK} (hx:x∈d) (a:(Gr x s).2=true):0<=DX l (Gr x s).1:=by
 obtain⟨y,hy,e⟩:=jC s x.2.2 a;have:=h.2 x hx y hy;rw[e]at this;exact this
theorem A2B {l:List AW} (t:Int) (s:ByteArray) (x:AK) {o:List Int×Bool} (h:o.1.length<=64):(Yc l t s o x).1.length<=64:=by
 unfold Yc;split
 .exact h
 exact RF (iO _ _) h
theorem Wv {l:List AW} (t:Int) (s:ByteArray):∀(d:List AK) {o:List Int×Bool},o.1.length<=64->(d.foldl (Yc l t s) o).1.length<=64
 | [],_,h=>h
 | x :: d,_,h=>by rw[RJ];exact Wv t s d (A2B t s x h)
theorem jD (s:ByteArray):∀(l:List AW) (k:Nat),SE s k l<((k+l.length:Nat):Int)
 | [],k=>by simp only[SE];omega
 | x :: l,k=>by
  simp only[SE];split
  .simp only[NO];omega
  have:=jD s l (k+1);simp only[NO];omega
theorem UB (l:List AW) (s:ByteArray):DX l s<(l.length:Int):=by
 have:=jD s l 0;rw[AB8]at this;exact this
def A5M:Ab:={ ins:=[FU,ZG,T3,T9],pre:=λ(d,l,t,_,_)=>A5L d l/\((0:Int)<=t/\t<(List.length l:Int))/\List.length l<=256/\(∀x∈(l:List AW),x.2.length<=64),out:=λ(d,l,t,s,_)=>[.p ER (Wu d l t s).1,.p .bool (Wu d l t s).2] }
theorem A2C:Ac Tryz.prog 72 A5M:=by
 refine fK [0,1,2,3,8,9,10,11,12,13,14,22,48] Tryz.func72 Tryz.ntmps72 (AF iM (AF ZQ (AF uC (AF oV AI)))) ?_;rintro w0 O0 ⟨d,l,t,s,u⟩ f ⟨⟨w,D⟩,-⟩ ⟨n,ht,hl,hx⟩;have hl:l.length<=256:=hl;have C:∀x∈(l:List AW),x.2.length<=100000:=λx h=>RF (hx x h) dc;have m:0<List.length l:=IF.1 (AC9 ht.1 ht.2);simp only[AQ]at w;simp only[A5M,AM];repeat'(first|exact trivial|apply eS rfl|refine rX f ?_ ?_)
 .exact IF.2 m
 have k:Wu d l t s=d.foldl (Yc l t s) ((l.getD 0 c0).2,false):=rfl;have r:(l.getD 0 c0).2.length<=64:=hx _ (AE l c0 m);have v:(List.getD l 0 (ByteArray.empty,[])).2=(l.getD 0 c0).2:=rfl;rw[v];generalize (l.getD 0 c0).2=c at *;refine AJ (ι:={i:Nat//i<=d.length}) (λi=>⟨[(0,.p FU d),(1,.p ZG l),(2,.p T3 t),(3,.p T9 s),(10,.p .bool ((d.take i.1).foldl (Yc l t s) (c,false)).2),(11,.p ER ((d.take i.1).foldl (Yc l t s) (c,false)).1),(12,.p (.int .i64) (i.1:Int))],[]⟩) (λi=>d.length-i.1) ⟨0,OF _⟩ (AD [] rfl rfl ?_ ?_) (λi=>?_)
 .exact eN
 .refine eM ?_;exact⟨rfl,rfl⟩
 obtain⟨i,hi⟩:=i;have hi:i<=d.length:=hi;have y:=Wv (l:=l) t s (d.take i) (o:=(c,false)) r;have hs:=λh:i<d.length=>E2 (Yc l t s) d d0 (c,false) h;have B:=λh:i<d.length=>n.1 _ (AE d d0 h);have A:=λ(h:i<d.length) (g:(Gr (d.getD i d0) s).2=true)=>n.value (AE d d0 h) g;have j:∀o x,Yc l t s o x=(if (!(Gr x s).2||!OP l (DX l x.1) t)=true then o else (GE o.1 (l.getD (DX l (Gr x s).1).toNat c0).2,true)):=λ_ _=>rfl;generalize q:(d.take i).foldl (Yc l t s) (c,false)=o at *;simp only;repeat'(first|exact trivial|apply eS rfl|apply AB|refine rX f ?_ ?_|refine rC ?_ ?_<;>intro a<;>try(cases a;done))
 .exact a
 .have b:i<d.length:=IF.1 a;exact⟨λ_=>a,λ_=>⟨⟨B b,UB _ _⟩,ht,C⟩⟩
 .exact eV
 .have b:i<d.length:=IF.1 (by assumption);have e:=hs b;rw[j,BY (by rw[TB,RQ,RQ];exact a)]at e;refine⟨⟨i+1,by omega⟩,by simp only;omega,AD [] rfl rfl ?_ ?_⟩
  .exact eN
  refine eM ?_;rw[e];exact⟨rfl,rfl⟩
 .have b:i<d.length:=IF.1 (by assumption);exact⟨⟨A b a.1,UB _ _⟩,RF y dc⟩
 .exact eV
 .have b:i<d.length:=IF.1 (by assumption);have e:=hs b;have z:¬(!(Gr (d.getD i d0) s).2||!OP l (DX l (d.getD i d0).1) t)=true:=by
   rw[TB,RQ,RQ];rintro (h|h)
   .rw[show (Gr (d.getD i d0) s).2=true from a.1]at h;cases h
   rw[show OP l (DX l (d.getD i d0).1) t=true from a.2]at h;cases h
  rw[j,At z]at e;refine⟨⟨i+1,by omega⟩,by simp only;omega,AD [] rfl rfl ?_ ?_⟩
  .exact eN
  refine eM ?_;rw[e];exact⟨rfl,rfl⟩
 have b:d.take i=d:=As (RM.1 a);rw[b]at q;rw[q]at k;exact fI f [.tmp 8,.tmp 9] (by rw[k];exact eR)
end
theorem UC:∀ {l:List AK},MR l=0->∀x∈l,x.2.1.length<=256/\x.2.2.length<=256
 | [],_,x,hx=>by cases hx
 | y :: l,h,x,hx=>by
  simp only[MR]at h;split at h
  .cases h
  rename_i h1;rcases DO.1 hx with rfl|hx
  .exact⟨by omega,by omega⟩
  exact UC h x hx
theorem K2 {d:List AK} (h:BV d=0):∀x∈d,x.2.1.length<=256/\x.2.2.length<=256:=by
 have h1:FC d=0:=by
  unfold BV at h;split at h
  .rename_i h1;exact absurd h h1
  rename_i h1;exact IS h1
 unfold FC at h1;split at h1
 .cases h1
 exact UC h1
theorem PM {d:List AK} (h:BV d=0):∀x∈A5 d,x.2.length<=64:=by
 intro x hx;obtain⟨-,a,-⟩:=BE h;obtain⟨b,hb,rfl⟩:=Dw.1 hx;exact QW (PK a) b hb
theorem jE {all:List ByteArray} {l:List FV}:∀ {r:List FV} {k:Nat},dcG all l k r=0->∀y∈r,Ai all y.2=true
 | [],_,_,y,hy=>by cases hy
 | x :: r,k,h,y,hy=>by
  simp only[dcG]at h;split at h
  .cases h
  split at h
  .cases h
  split at h
  .cases h
  rename_i a;rcases DO.1 hy with rfl|hy
  .simpa using a
  exact jE h y hy
theorem ZY {all:List ByteArray}:∀ {l:List AK},cS all l=0->∀x∈l,∀y∈x.2.2,Ai all y.2=true
 | [],_,x,hx=>by cases hx
 | z :: l,h,x,hx=>by
  simp only[cS]at h;split at h
  .rename_i h1;exact absurd h h1
  rename_i h1;rcases DO.1 hx with rfl|hx
  .exact jE (IS h1)
  exact ZY h x hx
theorem uG {d:List AK} (h:BV d=0) (a:Mb d=0):A5L d (A5 d) :=
 ⟨λx hx=>T8 h hx,λx hx y hy=>T7 h (ZY a x hx y hy)⟩
theorem Ww (l:List (List Int)) (i k:Nat):l <+: HR l i k:=by
 unfold HR;split
 .exact ACx _ _
 exact AB0 _
theorem Wx (i:Nat):∀(n k:Nat) (l:List (List Int)),l <+: HS i n k l
 | 0,_,l=>AB0 l
 | n+1,k,l=>by
  unfold HS;split
  .exact(Ww l i k).trans (Wx i n (k+1) _)
  exact AB0 l
theorem Wy:∀(n i:Nat) (l:List (List Int)),l <+: Jk n i l
 | 0,_,l=>AB0 l
 | n+1,i,l=>by
  unfold Jk;split
  .exact(Wx i i 0 l).trans (Wy n (i+1) _)
  exact AB0 l
theorem QY {l m:List (List Int)} (h:l <+: m) (hk:k<l.length):m.getD k []=l.getD k []:=by
 obtain⟨t,rfl⟩:=h;simp only[AS];rw[RU hk]
def La (l:List (List Int)) (q p:Nat):Prop:=GE (l.getD q []) (l.getD p [])=[]\/GE (l.getD q []) (l.getD p [])∈l
theorem La.pre {l m:List (List Int)} (h:l <+: m) {q p:Nat} (b:q<l.length) (a:p<l.length) (hm:La l q p):La m q p:=by
 unfold La at hm ⊢;rw[QY h b,QY h a];rcases hm with hm|hm
 .exact .inl hm
 exact .inr (h.subset hm)
theorem A5N {l:List (List Int)} {b:List Int} (h:o5 l b=true):b∈l:=by
 obtain⟨x,hx,e⟩:=Re.1 h;have:x=b:=by simpa[IJ] using e
 rw[<-this];exact hx
theorem pK {l:List (List Int)} {i k:Nat} (hi:i<l.length) (hk:k<l.length):La (HR l i k) i k:=by
 have b:=Ww l i k;unfold La;rw[QY b hi,QY b hk];unfold HR;split
 .right;simp
 rename_i a;rw[An,ON,RQ]at a;by_cases h0:0<((GE (l.getD i []) (l.getD k [])).length:Int)
 .right;cases hh:o5 l (GE (l.getD i []) (l.getD k [])) with
  | true=>exact A5N hh
  | false=>exact absurd ⟨h0,hh⟩ a
 left;exact RW O1
theorem Wz {i:Nat}:∀ {n k:Nat} {l:List (List Int)},n+k=i->i<l.length->(HS i n k l).length<=256->(∀p,p<k->La l i p)->∀p,p<i->La (HS i n k l) i p
 | 0,k,l,hn,hi,hl,h=>λp b=>h p O1
 | n+1,k,l,hn,hi,hl,h=>by
  unfold HS at hl ⊢;split at hl
  .rename_i a;rw[BY a];have b:=Ww l i k;refine Wz O1 (AAU hi b.length_le) hl λp c=>?_;by_cases e:p=k
   .subst e;exact pK hi O1
   exact(h p O1).pre b hi O1
  rename_i a;exact absurd (by omega:l.length<=256) a
theorem W2:∀ {n i:Nat} {l:List (List Int)},257<=n+i->(Jk n i l).length<=256->i<=l.length->(∀q p,p<q->q<i->La l q p)->∀q p,p<q->q<(Jk n i l).length->La (Jk n i l) q p
 | 0,i,l,hn,hl,f,h=>λq p b d=>by
  have j:l.length<=256:=hl;omega
 | n+1,i,l,hn,hl,f,h=>by
  unfold Jk at hl ⊢;split at hl
  .rename_i a;rw[BY a];have c:=Wx i i 0 l;have k:=c.length_le;have g:=(Wy n (i+1) (HS i i 0 l)).length_le;refine W2 O1 hl O1 λq p b d=>?_;by_cases e:q=i
   .subst e;exact Wz O1 a.1 O1 (λp c=>by omega) p b
   exact(h q p b O1).pre c O1 O1
  rename_i a;rw[At a];intro q p b d;exact h q p b (by
   refine IS λhh=>a ⟨by omega,hl⟩)
theorem cV (hl:(A7 c).length<=256):∀q p,p<q->q<(A7 c).length->La (A7 c) q p :=
 W2 O1 hl (OF _) (λq p _ h=>by omega)
theorem A2D (a b:List Int) (k:Nat):(GE a b).getD k 0=if k<a.length then Co .and .u64 (a.getD k 0) (b.getD k 0) else 0:=by
 unfold GE;rw[QT];split
 .rename_i h;exact Na .and a b h
 rename_i h;rw[AS,RP (by rw[Ek];omega)];rfl
theorem HD {b:List Int} (h:¬k<b.length):b.getD k 0=0:=by
 rw[AS,RP O1];rfl
theorem U9 (ha:JE a) (hb:JE b) (i:Nat):Bc (GE a b) i=(Bc a i&&Bc b i):=by
 unfold Bc;rw[A2D];split
 .rw[IP (BF ha _) (BF hb _),RG,Nat.testBit_and]
 rename_i h;rw[HD h];simp
theorem cW (ha:JE a) (hb:JE b):JE (GE a b):=by
 refine PD λx hx=>?_;unfold Gq at hx;obtain⟨i,-,rfl⟩:=Do.1 hx;rw[Hz,IP (BF ha _) (BF hb _)];have h1:=BF ha i;have c:(a.getD i 0).toNat &&& (b.getD i 0).toNat<=(a.getD i 0).toNat:=ACr;have d:=h1.1;have e:=h1.2;exact⟨AB4 _,by omega⟩
theorem SJ (b:List Int):∀n,Cw b n=0\/b.getD (Cw b n-1) 0≠0
 | 0=>.inl rfl
 | n+1=>by
  unfold Cw;split
  .exact SJ b n
  rename_i h;right;simpa using h
theorem A5O {n:Nat} (h0:n≠0) (h1:n<18446744073709551616):∃r,r<64/\n.testBit r=true:=by
 refine IS λa=>h0 ?_;refine Nat.eq_of_testBit_eq λr=>?_;rw[Nat.zero_testBit];by_cases b:r<64
 .cases hb:n.testBit r with
  | false=>rfl
  | true=>exact absurd ⟨r,b,hb⟩ a
 have e:(18446744073709551616:Nat)=2 ^ 64:=by decide
 rw[e]at h1;exact Nat.testBit_lt_two_pow (AAU h1 (Nat.pow_le_pow_right dc O1))
theorem A2E {b:List Int} (hb:JE b) (h:b.getD k 0≠0):∃i,Bc b i=true:=by
 have hu:=BF hb k;have h1:=hu.1;have a:=hu.2;obtain⟨r,c,ht⟩:=A5O (n:=(b.getD k 0).toNat) O1 O1;refine⟨64*k+r,?_⟩;unfold Bc;rw[show (64*k+r) / 64=k by omega,show (64*k+r) % 64=r by omega];exact ht
theorem pL {b:List Int} (hb:JE b) (h:BO b≠[]):∃i,Bc b i=true:=by
 rcases SJ b b.length with h1|h1
 .exact absurd (by unfold BO;rw[h1];rfl) h
 exact A2E hb h1
theorem ZZ (ha:JE a) (hb:JE b) (h:∀i,Bc a i=true->Bc b i=true) (k:Nat):Co .andNot .u64 (a.getD k 0) (b.getD k 0)=0:=by
 rw[SF];have:(BitVec.ofInt 64 (a.getD k 0) &&& ~~~BitVec.ofInt 64 (b.getD k 0))=0#64:=by
  apply BitVec.eq_of_getLsbD_eq;intro r c;rw[BitVec.getLsbD_and,BitVec.getLsbD_not,<-ABJ,<-ABJ,Fm (BF ha k),Fm (BF hb k)];have hk:=h (64*k+r);unfold Bc at hk;rw[show (64*k+r) / 64=k by omega,show (64*k+r) % 64=r by omega]at hk;cases hx:(a.getD k 0).toNat.testBit r with
  | false=>simp
  | true=>rw[hk hx];simp
 rw[this];rfl
theorem W3 (ha:JE a) (hb:JE b):E1 a b=true↔∀i,Bc a i=true->Bc b i=true:=by
 constructor
 .exact λh i hi=>MZ ha hb h hi
 intro h;unfold E1 R9 BO;have h1:Cw (Gq .andNot a b a.length) (Gq .andNot a b a.length).length=0:=by
  rw[Ek];exact SG λk hk=>by rw[Na _ _ _ hk];exact ZZ ha hb h k
 rw[h1];rfl
section
attribute [local go_sem] SI Wh pI cU A5M
def PN (d:List AK) (l:List AW) (t:Nat) (s:ByteArray):Bool:=(Wu d l (t:Int) s).2&&((Wu d l (t:Int) s).1.length:Int)==0
def uH (d:List AK) (l:List AW) (f:List ByteArray) (t:Nat):Bool:=f.any (PN d l t)
def Mc (d:List AK) (l:List AW) (f:List ByteArray) (n:Nat):Bool:=(List.range n).any (uH d l f)
theorem jF (d:List AK) (l:List AW) (f:List ByteArray) (n:Nat):Mc d l f (n+1)=(Mc d l f n||uH d l f n):=by
 unfold Mc;rw[S9,ABU];simp
def BZ (d:List AK):Int :=
 if (CH d).2≠0 then (CH d).2 else if 64<(DQ d).length then 7 else if Mb d≠0 then Mb d else
 if ((DQ d).all λs=>(Gv d s).2)=false then 10 else if Mc d (CH d).1 (DQ d) (CH d).1.length=true then 11 else 0
def VA:Ab:={ ins:=[FU],pre:=λ_=>True,out:=λ(d,_)=>[.p HB (BZ d)] }
theorem Za:Ac Tryz.prog 70 VA:=by
 refine fK [0,2,3,4,5,6,7,9,10,11,12,13,20,26,30,35,48,52,58,77] Tryz.func70 Tryz.ntmps70 (AF QX (AF Wi (AF A2A (AF jB (AF A2C AI))))) ?_;rintro w0 O0 ⟨d,u⟩ b - -;simp only[VA,AM];repeat'(first|exact trivial|apply eS rfl|refine rX b ?_ ?_|refine rC ?_ ?_<;>intro a<;>try(cases a;done))
 .have h1:BZ d=(CH d).2:=by unfold BZ;rw[BY a]
  exact fI b [.tmp 2] (by rw[h1];exact eR)
 .have c:(CH d).2=0:=by simpa using a
  obtain⟨e,-,-⟩:=Bt c;obtain⟨-,hd,-⟩:=BE e;exact⟨hd,λx hx=>(K2 e x hx).2⟩
 .have c:(CH d).2=0:=by simpa using ‹((CH d).2 != 0)=false›
  have h1:BZ d=7:=by
   unfold BZ;rw[At (by rw[c];simp),BY O1]
  exact fI b [.tmp 2] (by rw[h1];exact eR)
 .have c:(CH d).2=0:=by simpa using ‹((CH d).2 != 0)=false›
  obtain⟨e,-,-⟩:=Bt c;exact(BE e).2.1
 .have c:(CH d).2=0:=by simpa using ‹((CH d).2 != 0)=false›
  have h1:BZ d=Mb d:=by
   unfold BZ;rw[At (by rw[c];simp),At O1,BY a]
  exact fI b [.tmp 2] (by rw[h1];exact eR)
 have c:(CH d).2=0:=by simpa using ‹((CH d).2 != 0)=false›
 have q:Mb d=0:=by simpa using a
 obtain⟨e,z,hl⟩:=Bt c;obtain⟨E,hd,-⟩:=BE e;have B:=uG e q;have H:=PM e;have I:=A5I e;have A:(A5 d).length<=256:=by rw[IT];exact z
 have g:BZ d=if ((DQ d).all λs=>(Gv d s).2)=false then 10 else if Mc d (CH d).1 (DQ d) (CH d).1.length=true then 11 else 0:=by
  unfold BZ;rw[At (by rw[c];simp),At O1,At (by rw[q];simp)]
 rw[hl]at g ⊢;generalize A5 d=l at *;generalize DQ d=f at *;refine AJ (ι:={i:Nat//i<=f.length/\((f.take i).all λs=>(Gv d s).2)=true}) (λi=>⟨[(0,.p FU d),(3,.p ZG l),(5,.p GY f),(7,.p (.int .i64) (i.1:Int))],[]⟩) (λi=>f.length-i.1) ⟨0,OF _,rfl⟩ (eW []) (λi=>?_)
 obtain⟨i,hi,n⟩:=i;have D:=λh:i<f.length=>J5 f ByteArray.empty (λs=>(Gv d s).2) h;simp only;repeat'(first|exact trivial|apply eS rfl|apply AB|refine rX b ?_ ?_|refine rC ?_ ?_<;>intro a<;>try(cases a;done))
 .exact⟨a,E,hd⟩
 .have j:i<f.length:=IF.1 (by assumption);have w:(f.all λs=>(Gv d s).2)=false:=by
   rw[ABg];intro h;have:=Of.1 h _ (AE f ByteArray.empty j);rw[show (Gv d (f.getD i ByteArray.empty)).2=false from a]at this;cases this
  rw[BY w]at g;exact fI b [.tmp 2] (by rw[g];exact eR)
 .omega
 .have j:i<f.length:=IF.1 (by assumption);refine⟨⟨i+1,j,?_⟩,by simp only;omega,AD [] rfl rfl ?_ ?_⟩
  .rw[D j,n];exact a
  .exact eN
  exact eN
 have j:f.take i=f:=As (RM.1 a);rw[j]at n;rw[At (by rw[n];simp)]at g;refine AJ (ι:={t:Nat//t<=l.length/\Mc d l f t=false}) (λt=>⟨[(0,.p FU d),(3,.p ZG l),(5,.p GY f),(10,.p (.int .i64) (t.1:Int))],[]⟩) (λt=>l.length-t.1) ⟨0,OF _,rfl⟩ (eW []) (λt=>?_)
 obtain⟨t,ht,v⟩:=t;have G:=jF d l f t;simp only;repeat'(first|exact trivial|apply eS rfl|refine rX b ?_ ?_|refine rC ?_ ?_<;>intro a<;>try(cases a;done))
 .have r:t<l.length:=IF.1 a;refine AJ (ι:={k:Nat//k<=f.length/\(f.take k).any (PN d l t)=false}) (λk=>⟨[(0,.p FU d),(3,.p ZG l),(5,.p GY f),(10,.p (.int .i64) (t:Int)),(11,.p (.int .i64) (k.1:Int))],[]⟩) (λk=>f.length-k.1) ⟨0,OF _,rfl⟩ (eW []) (λk=>?_)
  obtain⟨k,hk,o⟩:=k;have C:=λh:k<f.length=>NY f ByteArray.empty (PN d l t) h;simp only;repeat'(first|exact trivial|apply eS rfl|apply AB|refine rX b ?_ ?_|refine rC ?_ ?_<;>intro a<;>try(cases a;done))
  .exact⟨a,B,by assumption,A,H⟩
  .have m:k<f.length:=IF.1 (by assumption);have hb:PN d l t (f.getD k ByteArray.empty)=true:=by
    unfold PN;rw[An,TE];exact a
   have y:Mc d l f l.length=true:=by
    unfold Mc;rw[Re];exact⟨t,Ra.2 r,JA f ByteArray.empty _ m hb⟩
   rw[BY y]at g;exact fI b [.tmp 2] (by rw[g];exact eR)
  .omega
  .have m:k<f.length:=IF.1 (by assumption);have hb:PN d l t (f.getD k ByteArray.empty)=false:=by
    rw[ABg];unfold PN;intro h;rw[An,TE]at h;exact a h.1 h.2
   refine⟨⟨k+1,m,?_⟩,by simp only;omega,AD [] rfl rfl ?_ ?_⟩
   .rw[C m,o,hb];rfl
   .exact eN
   exact eN
  .omega
  have m:f.take k=f:=As (RM.1 a);rw[m]at o;refine⟨⟨t+1,r,?_⟩,by simp only;omega,AD [] rfl rfl ?_ ?_⟩
  .rw[G,v];exact o
  .exact eN
  exact eN
 have F:t=l.length:=by exact eV
 subst F;rw[At (by rw[v];simp)]at g;exact fI b [.tmp 2] (by rw[g];exact eR)
end
section
attribute [local go_sem] VA SI Wh cU U8
abbrev W4:=ByteArray×Int
theorem Cp {d:List AK} (h:BZ d=0):(CH d).2=0/\(DQ d).length<=64/\Mb d=0:=by
 unfold BZ at h;split at h
 .rename_i h1;exact absurd h h1
 rename_i h1;split at h
 .cases h
 rename_i b;split at h
 .rename_i a;exact absurd h a
 rename_i a;exact⟨IS h1,by omega,IS a⟩
def UD (d:List AK) (s:ByteArray):W4:=(s,DX (A5 d) (Gv d s).1)
def Dd (d:List AK):List W4×Int:=if BZ d≠0 then ([],BZ d) else ((DQ d).map (UD d),0)
theorem B8 {α:Type} (f:α->Y) (l:List α) (d:α) (h:k<l.length):(l.take (k+1)).map f=(l.take k).map f++[f (l.getD k d)]:=by
 rw[Af l d h,RY];rfl
theorem cX {α:Type} (f:α->Y) (l:List α) (h:k<=l.length):((l.take k).map f).length=k:=by simp[h]
def SK:Ab:={ ins:=[FU],pre:=λ_=>True,out:=λ(d,_)=>[.p tZ (Dd d).1,.p HB (Dd d).2] }
theorem jG:Ac Tryz.prog 39 SK:=by
 refine fK [0,2,3,4,5,7,8,9,10,15,27] Tryz.func39 Tryz.ntmps39 (AF Za (AF QX (AF Wi (AF jB (AF ZQ AI))))) ?_;rintro w0 O0 ⟨d,u⟩ g - -;simp only[SK,AM];repeat'(first|exact trivial|apply eS rfl|refine rX g ?_ ?_|refine rC ?_ ?_<;>intro a<;>try(cases a;done))
 .have h1:Dd d=([],BZ d):=by unfold Dd;rw[BY a]
  exact fI g [.tmp 2,.tmp 3] (by rw[h1];exact eR)
 .have c:BZ d=0:=by simpa using a
  obtain⟨k,-,-⟩:=Cp c;obtain⟨b,-,-⟩:=Bt k;exact⟨(BE b).2.1,λx hx=>(K2 b x hx).2⟩
 have c:BZ d=0:=by simpa using a
 obtain⟨k,o,-⟩:=Cp c;obtain⟨b,-,hl⟩:=Bt k;obtain⟨n,hd,-⟩:=BE b;have m:Dd d=((DQ d).map (UD d),0):=by unfold Dd;rw[At (by rw[c];simp)]
 rw[hl];generalize DQ d=f at *;refine AJ (ι:={i:Nat//i<=f.length}) (λi=>⟨[(0,.p FU d),(5,.p ZG (A5 d)),(7,.p GY f),(8,.sr 49 A1w 0 ((f.take i.1).map (UD d)).length),(9,.p (.int .i64) (i.1:Int))],[(49,.arr 126 A1w ((f.take i.1).map (UD d)))]⟩) (λi=>f.length-i.1) ⟨0,OF _⟩ (eW [(49,.nil)]) (λi=>?_)
 obtain⟨i,hi⟩:=i;have l:=cX (UD d) f hi;have hs:=λh:i<f.length=>B8 (UD d) f ByteArray.empty h;simp only;repeat'(first|exact trivial|apply eS rfl|apply AB|refine rX g ?_ ?_|refine rC ?_ ?_<;>intro a<;>try(cases a;done))
 .exact⟨a,n,hd⟩
 .refine⟨a,?_⟩;rw[l];simp only[AQ];omega
 .omega
 .have j:i<f.length:=IF.1 a;have e:=hs j;refine⟨⟨i+1,j⟩,by simp only;omega,AD [(49,.nm 49)] rfl rfl ?_ ?_⟩
  .simp only[e];refine eM ?_;rfl
  simp only[e];exact eN
 have j:f.take i=f:=As (RM.1 a);rw[j];refine FK [49] ?_;exact fI g [.tmp 2,.tmp 3] (by rw[m];exact eR)
end
section
attribute [local go_sem] VA SI Wh A5M o6
def cZ (d:List AK) (l:List AW) (f:List ByteArray) (t:Nat) (n:Nat):List (Int×Int) :=
 ((List.range n).filter λ(i:Nat)=>(Wu d l (t:Int) (f.getD i ByteArray.empty)).2).map λ(i:Nat)=>((i:Int),cI l (Wu d l (t:Int) (f.getD i ByteArray.empty)).1)
def Md (d:List AK) (l:List AW) (f:List ByteArray) (n:Nat):List (List (Int×Int)):=(List.range n).map λt=>cZ d l f t f.length
def Ba (d:List AK):List (List (Int×Int))×Int:=if BZ d≠0 then ([],BZ d) else (Md d (A5 d) (DQ d) (A5 d).length,0)
theorem y4 (d:List AK) (l:List AW) (f:List ByteArray) (t n:Nat):cZ d l f t (n+1)=cZ d l f t n++if (Wu d l (t:Int) (f.getD n ByteArray.empty)).2=true then [((n:Int),cI l (Wu d l (t:Int) (f.getD n ByteArray.empty)).1)] else []:=by
 unfold cZ;rw[S9,ABr,RY]
 congr 1
 rw[oR,AC8];split<;>rfl
theorem A2F (d:List AK) (l:List AW) (f:List ByteArray) (t n:Nat):(cZ d l f t n).length<=n:=by
 unfold cZ;rw[No];exact RF (AAx _ _) sc
theorem pM (d:List AK) (l:List AW) (f:List ByteArray) (n:Nat):Md d l f (n+1)=Md d l f n++[cZ d l f n f.length]:=by simp[Md,S9]
theorem Zb (d:List AK) (l:List AW) (f:List ByteArray) (n:Nat):(Md d l f n).length=n:=by simp[Md]
theorem A2G {d:List AK} {l:List AW} (h:∀x∈l,x.2.length<=64) (t:Int) (s:ByteArray):(Wu d l t s).1.length<=64:=by
 unfold Wu;refine Wv t s d ?_;rw[AS];cases hh:l[0]? with
 | none=>simp
 | some x=>exact h x (AAm hh)
def W5:Ab:={ ins:=[FU],pre:=λ_=>True,out:=λ(d,_)=>[.p T76 (Ba d).1,.p HB (Ba d).2] }
theorem pN:Ac Tryz.prog 36 W5:=by
 refine fK [0,2,3,4,5,7,8,9,10,11,12,13,17,29,35,49] Tryz.func36 Tryz.ntmps36 (AF Za (AF QX (AF Wi (AF A2C (AF A2o AI))))) ?_;rintro w0 O0 ⟨d,u⟩ e - -;simp only[W5,AM];repeat'(first|exact trivial|apply eS rfl|refine rX e ?_ ?_|refine rC ?_ ?_<;>intro a<;>try(cases a;done))
 .have h1:Ba d=([],BZ d):=by unfold Ba;rw[BY a]
  exact fI e [.tmp 2,.tmp 3] (by rw[h1];exact eR)
 .have h:BZ d=0:=by simpa using a
  obtain⟨m,-,-⟩:=Cp h;obtain⟨b,-,-⟩:=Bt m;exact⟨(BE b).2.1,λx hx=>(K2 b x hx).2⟩
 have h:BZ d=0:=by simpa using a
 obtain⟨m,y,o⟩:=Cp h;obtain⟨b,j,hl⟩:=Bt m;obtain⟨A,hd,-⟩:=BE b;have w:Ba d=(Md d (A5 d) (DQ d) (A5 d).length,0):=by unfold Ba;rw[At (by rw[h];simp)]
 have v:=uG b o;have n:=PM b;have r:(A5 d).length<=256:=by rw[IT];exact j
 rw[hl];generalize A5 d=l at *;generalize DQ d=f at *;have q:=λt s=>A2G (d:=d) n t s;refine AJ (ι:={t:Nat//t<=l.length}) (λt=>⟨[(0,.p FU d),(5,.p ZG l),(7,.p GY f),(8,.sr 61 T87 0 (Md d l f t.1).length),(9,.p (.int .i64) (t.1:Int))],[(61,.arr 87 T87 (Md d l f t.1))]⟩) (λt=>l.length-t.1) ⟨0,OF _⟩ (AD [(61,.nil)] rfl rfl ?_ ?_) (λt=>?_)
 .refine eM ?_;rfl
 .refine eM ?_;rfl
 obtain⟨t,ht⟩:=t;have j:=Zb d l f t;have hs:=pM d l f t;simp only;repeat'(first|exact trivial|apply eS rfl|refine rX e ?_ ?_|refine rC ?_ ?_<;>intro a<;>try(cases a;done))
 .refine AJ (ι:={i:Nat//i<=f.length}) (λi=>⟨[(0,.p FU d),(5,.p ZG l),(7,.p GY f),(8,.sr 61 T87 0 (Md d l f t).length),(9,.p (.int .i64) (t:Int)),(10,.sr 57 A1x 0 (cZ d l f t i.1).length),(11,.p (.int .i64) (i.1:Int))],[(61,.arr 87 T87 (Md d l f t)),(57,.arr 134 A1x (cZ d l f t i.1))]⟩) (λi=>f.length-i.1) ⟨0,OF _⟩ (AD [(61,.nm 61),(57,.nil)] rfl rfl ?_ ?_) (λi=>?_)
  .refine eM ?_;rfl
  .refine eM ?_;rfl
  obtain⟨i,hi⟩:=i;have z:=A2F d l f t i;have c:=y4 d l f t i;simp only;repeat'(first|exact trivial|apply eS rfl|apply AB|refine rX e ?_ ?_|refine rC ?_ ?_<;>intro a<;>try(cases a;done))
  .exact⟨a,v,by assumption,r,n⟩
  .refine⟨RF (q _ _) dc,?_⟩;simp only[AQ];omega
  .omega
  .have g:i<f.length:=IF.1 (by assumption);rw[BY a]at c;refine⟨⟨i+1,g⟩,by simp only;omega,AD [(61,.nm 61),(57,.nm 57)] rfl rfl ?_ ?_⟩
   .simp only[c];exact eN
   simp only[c];exact eN
  .omega
  .have g:i<f.length:=IF.1 (by assumption);rw[At (by rw[a];simp),S6]at c;refine⟨⟨i+1,g⟩,by simp only;omega,AD [(61,.nm 61),(57,.nm 57)] rfl rfl ?_ ?_⟩
   .simp only[c];exact eN
   simp only[c];exact eN
  .rw[j];simp only[AQ];omega
  .omega
  have k:t<l.length:=IF.1 (by assumption);have g:i=f.length:=by omega
  subst g;refine⟨⟨t+1,k⟩,by simp only;omega,AD [(61,.nm 61)] rfl rfl ?_ ?_⟩
  .simp only[hs];exact eN
  simp only[hs];exact eN
 have k:t=l.length:=by omega
 subst k;refine FK [61] ?_;exact fI e [.tmp 2,.tmp 3] (by rw[w];exact eR)
end
section
attribute [local go_sem] cs0
def Lb (l:List ByteArray) (n:Nat):List FV:=(List.range n).map λk=>(l.getD (2*k) ByteArray.empty,l.getD (2*k+1) ByteArray.empty)
theorem W6 (l:List ByteArray) (n:Nat):Lb l (n+1)=Lb l n++[(l.getD (2*n) ByteArray.empty,l.getD (2*n+1) ByteArray.empty)]:=by simp[Lb,S9]
theorem Zc (l:List ByteArray) (n:Nat):(Lb l n).length=n:=by simp[Lb]
def c5 (s:ByteArray):List ByteArray:=if Ae s ByteArray.empty=true then [] else [s]
def Gc (n s:ByteArray) (l:List ByteArray):AK:=(n,c5 s,Lb l (l.length / 2))
def A2H:Ab:={ ins:=[T9,T9,GY],pre:=λ(_,_,l,_)=>List.length l<=1000,out:=λ(n,s,l,_)=>[.p T95 (Gc n s l)] }
theorem A5P:Ac Tryz.prog 40 A2H:=by
 refine fK [0,1,2,6,7,8,12,20] Tryz.func40 Tryz.ntmps40 AI ?_;rintro w0 O0 ⟨n,s,l,u⟩ b-hl;have hl:l.length<=1000:=hl;simp only[A2H,AM];repeat'(first|exact trivial|apply eS rfl|apply AB|refine rX b ?_ ?_|refine rC ?_ ?_<;>intro a<;>try(cases a;done))
 .have f:=a;refine FK [14] ?_;refine AJ (ι:={k:Nat//2*k<=l.length}) (λk=>⟨[(2,.p GY l),(6,.bp 6 [] 0),(7,.bp 7 [] 0),(8,.p (.int .i64) ((2*k.1:Nat):Int))],[(6,.box 95 true [.p T9 ByteArray.empty,.raw (.slice none 0 0),.raw (.slice none 0 0)]),(7,.box 95 true [.p T9 n,.p GY [s],.sr 36 oL 0 (Lb l k.1).length]),(36,.arr 145 oL (Lb l k.1))]⟩) (λk=>l.length-2*k.1) ⟨0,OF _⟩ (AD [(6,.nm 6),(7,.nm 7),(36,.nil)] rfl rfl ?_ ?_) (λk=>?_)
  .first|exact eN|refine eM ?_
   exact⟨rfl,rfl⟩
  .first|exact eN|refine eM ?_
  obtain⟨k,hk⟩:=k;have g:=Zc l k;have d:=W6 l k;simp only;repeat'(first|exact trivial|apply eS rfl|apply AB|refine rX b ?_ ?_|refine rC ?_ ?_<;>intro a<;>try(cases a;done))
  .exact eV
  .refine⟨by exact eV,⟨by exact eV,by exact eV⟩,⟨by exact eV,by exact eV⟩,?_⟩;rw[g];simp only[AQ];exact eV
  .exact eV
  .have c:2*k+1<l.length:=by exact eV
   have e:((2*k:Nat):Int)+1=((2*k+1:Nat):Int):=by omega
   refine⟨⟨k+1,by omega⟩,by simp only;omega,AD [(6,.nm 6),(7,.nm 7),(36,.nm 36)] rfl rfl ?_ ?_⟩
   .simp only[d];first|exact eN|refine eM ?_
    rw[e];rfl
   simp only[d];first|exact eN|refine eM ?_
   show ((2*k:Nat):Int)+2=((2*(k+1):Nat):Int);omega
  have c:k=l.length / 2:=by exact eV
  refine FK [36] ?_;have h:Gc n s l=(n,[s],Lb l k):=by
   unfold Gc c5;rw[<-c,At (by rw[show Ae s ByteArray.empty=false from f];simp)]
  exact fI b [.cell 6 95] (by rw[h];exact eR)
 have f:=a;refine AJ (ι:={k:Nat//2*k<=l.length}) (λk=>⟨[(2,.p GY l),(6,.bp 6 [] 0),(7,.bp 7 [] 0),(8,.p (.int .i64) ((2*k.1:Nat):Int))],[(6,.box 95 true [.p T9 ByteArray.empty,.raw (.slice none 0 0),.raw (.slice none 0 0)]),(7,.box 95 true [.p T9 n,.p GY ([]:List ByteArray),.sr 36 oL 0 (Lb l k.1).length]),(36,.arr 145 oL (Lb l k.1))]⟩) (λk=>l.length-2*k.1) ⟨0,OF _⟩ (AD [(6,.nm 6),(7,.nm 7),(36,.nil)] rfl rfl ?_ ?_) (λk=>?_)
 .first|exact eN|refine eM ?_
  exact⟨rfl,rfl⟩
 .first|exact eN|refine eM ?_
 obtain⟨k,hk⟩:=k;have g:=Zc l k;have d:=W6 l k;simp only;repeat'(first|exact trivial|apply eS rfl|apply AB|refine rX b ?_ ?_|refine rC ?_ ?_<;>intro a<;>try(cases a;done))
 .exact eV
 .refine⟨by exact eV,⟨by exact eV,by exact eV⟩,⟨by exact eV,by exact eV⟩,?_⟩;rw[g];simp only[AQ];exact eV
 .exact eV
 .have c:2*k+1<l.length:=by exact eV
  have e:((2*k:Nat):Int)+1=((2*k+1:Nat):Int):=by omega
  refine⟨⟨k+1,by omega⟩,by simp only;omega,AD [(6,.nm 6),(7,.nm 7),(36,.nm 36)] rfl rfl ?_ ?_⟩
  .simp only[d];first|exact eN|refine eM ?_
   rw[e];rfl
  simp only[d];first|exact eN|refine eM ?_
  show ((2*k:Nat):Int)+2=((2*(k+1):Nat):Int);omega
 have c:k=l.length / 2:=by exact eV
 refine FK [36] ?_;have h:Gc n s l=(n,([]:List ByteArray),Lb l k):=by
  unfold Gc c5;rw[<-c,BY (show Ae s ByteArray.empty=true from f)]
 exact fI b [.cell 6 95] (by rw[h];exact eR)
end
section
attribute [local go_sem] A2H cs0 cs1 cs2 cs3 yS yT cs6 cs7 cs8
def J7:List AK:=[
 Gc { data:=#[116,111,112] } { data:=#[] } [],
 Gc { data:=#[108,105,115,116] } { data:=#[116,111,112] } [],
 Gc { data:=#[99,111,110,115] } { data:=#[108,105,115,116] } [{ data:=#[70,73,82,83,84] },{ data:=#[116,111,112] },{ data:=#[82,69,83,84] },{ data:=#[108,105,115,116] }],
 Gc { data:=#[110,117,108,108] } { data:=#[108,105,115,116] } [],
 Gc { data:=#[100,108,105,115,116] } { data:=#[116,111,112] } [{ data:=#[76,73,83,84] },{ data:=#[108,105,115,116] },{ data:=#[76,65,83,84] },{ data:=#[108,105,115,116] }],
 Gc { data:=#[105,110,100,101,120] } { data:=#[116,111,112] } [],
 Gc { data:=#[104,97,110,100,108,101] } { data:=#[105,110,100,101,120] } [],
 Gc { data:=#[101,118,101,110,116] } { data:=#[105,110,100,101,120] } [],
 Gc { data:=#[101,110,116,105,116,121] } { data:=#[105,110,100,101,120] } [],
 Gc { data:=#[114,101,108] } { data:=#[116,111,112] } [{ data:=#[76,65,66,69,76] },{ data:=#[104,97,110,100,108,101] }],
 Gc { data:=#[113,101,113] } { data:=#[116,111,112] } [{ data:=#[72,73,71,72] },{ data:=#[104,97,110,100,108,101] },{ data:=#[76,79,87] },{ data:=#[104,97,110,100,108,101] }],
 Gc { data:=#[115,101,109] } { data:=#[116,111,112] } [{ data:=#[84,79,80] },{ data:=#[104,97,110,100,108,101] },{ data:=#[73,78,68,69,88] },{ data:=#[105,110,100,101,120] },{ data:=#[82,69,76,83] },{ data:=#[100,108,105,115,116] },{ data:=#[67,79,78,83] },{ data:=#[100,108,105,115,116] }],
 Gc { data:=#[115,105,103,110] } { data:=#[116,111,112] } [{ data:=#[83,69,77] },{ data:=#[115,101,109] },{ data:=#[65,82,71,83] },{ data:=#[108,105,115,116] }]]
def Me:Ab:={ ins:=[],pre:=λ_=>True,out:=λ_=>[.p FU J7] }
theorem pO:Ac Tryz.prog 11 Me:=by
 refine yD [0] [3,6,12,14,16,18,20] [] Tryz.func11 Tryz.ntmps11 (AF A5P AI) ?_;rintro w0 O0 u a - -;simp only[Me,AM];repeat'(first|exact trivial|apply eS rfl|refine rX a ?_ ?_)
 exact fI a [.tmp 0] (by unfold J7;exact eR)
end
section
attribute [local go_sem] W5 SI A2y SK
abbrev FL:=ByteArray×List Int×List Int×List (Int×Int)
abbrev AG:=List FL×List W4
def FM (l:List AW) (v:List (List (Int×Int))) (n:Nat):List FL:=(List.range n).map λi=>((l.getD i c0).1,(l.getD i c0).2,jA l (i:Int),v.getD i [])
theorem pR (l:List AW) (v:List (List (Int×Int))) (n:Nat):FM l v (n+1)=FM l v n++[((l.getD n c0).1,(l.getD n c0).2,jA l (n:Int),v.getD n [])]:=by simp[FM,S9]
theorem Ng (l:List AW) (v:List (List (Int×Int))) (n:Nat):(FM l v n).length=n:=by simp[FM]
def HE (d:List AK):AG:=(FM (A5 d) (Ba d).1 (A5 d).length,(Dd d).1)
def A3 (d:List AK):AG×Int:=if (Ba d).2≠0 then (([],[]),(Ba d).2) else (HE d,0)
def J8:Ab:={ ins:=[FU],pre:=λ_=>True,out:=λ(d,_)=>[.p Ec (A3 d).1,.p HB (A3 d).2] }
theorem pS:Ac Tryz.prog 10 J8:=by
 refine fK [0,2,3,4,5,6,8,9,10,18,29] Tryz.func10 Tryz.ntmps10 (AF pN (AF QX (AF A5J (AF jG AI)))) ?_;rintro w0 O0 ⟨d,u⟩ b - -;simp only[J8,AM];repeat'(first|exact trivial|apply eS rfl|refine rX b ?_ ?_|refine rC ?_ ?_<;>intro a<;>try(cases a;done))
 .have h1:A3 d=(([],[]),(Ba d).2):=by unfold A3;rw[BY a]
  exact fI b [.cell 2 29,.tmp 3] (by rw[h1];exact eR)
 have c:(Ba d).2=0:=by simpa using a
 have f:BZ d=0:=by
  unfold Ba at c;split at c
  .rename_i h;exact absurd c h
  rename_i h;exact IS h
 obtain⟨s,w,t⟩:=Cp f;obtain⟨j,k,hl⟩:=Bt s;have g:A3 d=(HE d,0):=by unfold A3;rw[At (by rw[c];simp)]
 have q:(Ba d).1.length=(A5 d).length:=by
  unfold Ba;rw[At (by rw[f];simp)];exact Zb _ _ _ _
 have r:=PM j;have m:(A5 d).length<=256:=by rw[IT];exact k
 unfold HE at g;rw[hl];generalize A5 d=l at *;generalize (Ba d).1=v at *;refine AJ (ι:={n:Nat//n<=l.length}) (λn=>⟨[(0,.p FU d),(2,.bp 2 [] 0),(4,.p T76 v),(6,.p ZG l),(8,.bp 8 [] 0),(9,.p (.int .i64) (n.1:Int))],[(2,.box 29 true [.raw (.slice none 0 0),.raw (.slice none 0 0)]),(8,.box 29 true [.sr 53 T89 0 (FM l v n.1).length,.raw (.slice none 0 0)]),(53,.arr 89 T89 (FM l v n.1))]⟩) (λn=>l.length-n.1) ⟨0,OF _⟩ (AD [(2,.nm 2),(8,.nm 8),(53,.nil)] rfl rfl ?_ ?_) (λn=>?_)
 .refine eM ?_;exact⟨rfl,rfl⟩
 .exact eN
 obtain⟨n,hn⟩:=n;have o:=Ng l v n;have i:=pR l v n;simp only;repeat'(first|exact trivial|apply eS rfl|apply AB|refine rX b ?_ ?_|refine rC ?_ ?_<;>intro a<;>try(cases a;done))
 .refine⟨a,a,⟨a,m,r⟩,by rw[q];exact a,?_⟩;rw[o];simp only[AQ];omega
 .omega
 .have e:n<l.length:=IF.1 a;refine⟨⟨n+1,e⟩,by simp only;omega,AD [(2,.nm 2),(8,.nm 8),(53,.nm 53)] rfl rfl ?_ ?_⟩
  .simp only[i];exact eN
  simp only[i];exact eN
 have e:n=l.length:=by omega
 subst e;refine FK [53] ?_;exact fI b [.cell 2 29,.tmp 3] (by rw[g];exact eR)
def FN (d:List AK):AG:=if d.length<=20/\(A3 d).2=0 then (A3 d).1 else (A3 J7).1
end
section
def pU:Ab:={ ins:=[ER,T3],pre:=λ(_,i,_)=>(0:Int)<=i,out:=λ(b,i,_)=>[.p R6 (Gb b i)],lend:=true }
attribute [local go_sem] pU
theorem A2I:Ac Tryz.prog 131 pU:=by
 refine fK [0,1,4,8] Tryz.func131 Tryz.ntmps131 AI ?_;rintro w0 O0 ⟨b,i,u⟩ c-hi;simp only[pU,AM];repeat'(first|exact trivial|apply eS rfl|refine rX c ?_ ?_|refine rC ?_ ?_<;>intro a<;>try(cases a;done))
 .exact⟨hi,a⟩
 .have h1:Gb b i=b.getD i.toNat 0:=by unfold Gb;rw[BY a]
  exact fI c [.tmp 4] (by rw[h1];exact eR)
 have h1:Gb b i=0:=by unfold Gb;rw[At (AB1.2 a)]
 exact fI c [.tmp 4] (by rw[h1];exact eR)
def Mf (a b:List Int):Bool:=(List.range a.length).all λi=>Co .andNot .u64 (a.getD i 0) (Gb b (i:Int))==0
def jH (a b:List Int) (n:Nat):Bool:=(List.range n).all λi=>Co .andNot .u64 (a.getD i 0) (Gb b (i:Int))==0
theorem pV (a b:List Int) (n:Nat):jH a b (n+1)=(jH a b n&&Co .andNot .u64 (a.getD n 0) (Gb b (n:Int))==0):=by
 unfold jH;rw[S9,ABV];simp
def QZ:Ab:={ ins:=[ER,ER],pre:=λ_=>True,out:=λ(a,b,_)=>[.p .bool (Mf a b)],lend:=true }
attribute [local go_sem] QZ
theorem W7:Ac Tryz.prog 90 QZ:=by
 refine fK [0,1,4,5,6,7,8,9,10,19] Tryz.func90 Tryz.ntmps90 (AF A2I AI) ?_;rintro w0 O0 ⟨a,b,u⟩ e ⟨⟨g,-⟩,-⟩ -;simp only[AQ]at g;simp only[QZ,AM];repeat'(first|exact trivial|apply eS rfl|refine rX e ?_ ?_)
 have h:Mf a b=jH a b a.length:=rfl;refine AJ (ι:={n:Nat//n<=a.length/\jH a b n=true}) (λn=>⟨[(1,.p ER b),(7,.p ER a),(8,.p (.int .i64) (a.length:Int)),(9,.p (.int .i64) (n.1:Int))],[]⟩) (λn=>a.length-n.1) ⟨0,OF _,rfl⟩ (eW []) (λn=>?_)
 obtain⟨n,hn,f⟩:=n;have hs:=pV a b n;simp only;repeat'(first|exact trivial|apply eS rfl|apply AB|refine rX e ?_ ?_|refine rC ?_ ?_<;>intro d<;>try(cases d;done))
 .exact d
 .have c:n<a.length:=by exact eV
  have h1:Mf a b=false:=by
   unfold Mf;rw[ABY];exact⟨n,Ra.2 c,by simpa using d⟩
  exact fI e [.tmp 4] (by rw[h1];exact eR)
 .exact eV
 .have c:n<a.length:=by exact eV
  refine⟨⟨n+1,c,?_⟩,by simp only;omega,AD [] rfl rfl ?_ ?_⟩
  .rw[hs,f];simpa using d
  .exact eN
  exact eN
 have c:n=a.length:=by exact eV
 subst c;exact fI e [.tmp 4] (by rw[h,f];exact eR)
abbrev SL:FL:=(ByteArray.empty,[],[],[])
def Ar (h:AG) (a b:Int):Bool:=Mf (h.1.getD b.toNat SL).2.1 (h.1.getD a.toNat SL).2.1
def W8:Ab:={ ins:=[Ec,T3,T3],pre:=λ(h,a,b,_)=>((0:Int)<=a/\a<(List.length (h:AG).1:Int))/\((0:Int)<=b/\b<(List.length (h:AG).1:Int)),out:=λ(h,a,b,_)=>[.p .bool (Ar h a b)],lend:=true }
theorem uI:Ac Tryz.prog 53 W8:=by
 refine fK [0,1,2,3,6] Tryz.func53 Tryz.ntmps53 (AF W7 AI) ?_;rintro w0 O0 ⟨⟨ht,hf⟩,a,b,u⟩ c-⟨ha,hb⟩;simp only[W8,AM];repeat'(first|exact trivial|apply eS rfl|refine rX c ?_ ?_)
 .exact⟨hb,ha⟩
 exact fI c [.tmp 6] (by unfold Ar;exact eR)
end
section
attribute [local go_sem] QZ
def W9:Ab:={ ins:=[ER],pre:=λ(b,_)=>List.length b<=100000,out:=λ(b,_)=>[.p ER (BO b)] }
attribute [local go_sem] W9
theorem pW:Ac Tryz.prog 151 W9:=by
 refine fK [0,2,3,15] Tryz.func151 Tryz.ntmps151 AI ?_;rintro w0 O0 ⟨b,u⟩ d-hb;have hb:b.length<=100000:=hb;simp only[W9,AM];repeat'(first|exact trivial|apply eS rfl|refine rX d ?_ ?_)
 refine AJ (ι:={n:Nat//n<=b.length/\Cw b n=Cw b b.length}) (λn=>⟨[(0,.p ER b),(3,.p (.int .i64) (n.1:Int))],[]⟩) (λn=>n.1) ⟨b.length,IN _,rfl⟩ (eW []) (λn=>?_)
 obtain⟨n,hn,f⟩:=n;simp only;repeat'(first|apply eS rfl|apply AB|refine rX d ?_ ?_|refine rC ?_ ?_<;>intro c<;>try(cases c;done))
 .constructor
  .exact eV
  intro h;refine⟨?_,?_⟩<;>exact eV
 .exact eV
 .obtain⟨h1,a⟩:=c;obtain⟨m,rfl⟩:∃m,n=m+1:=⟨n-1,by omega⟩;have e:(((m+1:Nat):Int)-1)=(m:Int):=by omega
  rw[e]at a;have a:b.getD m 0=0:=a;have i:Cw b m=Cw b b.length:=by
   rw[<-f];show _=if b.getD m 0=0 then Cw b m else m+1
   rw[BY a]
  refine⟨⟨m,by omega,i⟩,by simp,AD [] rfl rfl ?_ ?_⟩
  .exact eN
  simp only[e];exact eN
 .exact RM.2 hn
 have g:Cw b n=n:=by
  cases n with
  | zero=>rfl
  | succ m =>
   have e:(((m+1:Nat):Int)-1)=(m:Int):=by omega
   rw[e]at c;have a:=c O1;have a:¬b.getD m 0=0:=a;show (if b.getD m 0=0 then Cw b m else m+1)=m+1;rw[At a]
 have h1:BO b=b.take n:=by unfold BO;rw[<-f,g]
 rw[<-h1];exact fI d [.tmp 2]
def HF (g:Nat->Int) (n i:Nat):List Int:=(List.range n).map λj=>if j<i then g j else 0
theorem Zd (g:Nat->Int) (n i:Nat):(HF g n i).length=n:=by simp[HF]
theorem pY (g:Nat->Int) (n:Nat):HF g n 0=List.replicate n 0:=by
 apply oS
 .simp[HF]
 intro j h1 a;simp[HF]
theorem y5 (g:Nat->Int) (n i:Nat):(HF g n i).set i (g i)=HF g n (i+1):=by
 apply oS
 .simp[HF]
 intro j h1 b;simp only[HF,List.getElem_set,ABA,ABE];split
 .rename_i e;rw[BY O1,e]
 rename_i e;by_cases a:j<i
 .rw[BY a,BY O1]
 rw[At a,At O1]
def c6 (a b:List Int) (i:Nat):Int:=Co .and .u64 (a.getD i 0) (b.getD i 0)
def GH (a b:List Int):List Int:=BO (HF (c6 a b) (min a.length b.length) (min a.length b.length))
def A2J:Ab:={ ins:=[ER,ER],pre:=λ(a,_,_)=>List.length a<=100000,out:=λ(a,b,_)=>[.p ER (GH a b)] }
attribute [local go_sem] A2J
theorem A5Q:Ac Tryz.prog 132 A2J:=by
 refine fK [0,1,4,5,6,14,15,16] Tryz.func132 Tryz.ntmps132 (AF pW AI) ?_;rintro w0 O0 ⟨a,b,u⟩ d-ha;have ha:a.length<=100000:=ha;simp only[A2J,AM];repeat'(first|exact trivial|apply eS rfl|refine rX d ?_ ?_)
 .split<;>simp only[AQ]<;>dsimp only[Ty.den]at *<;>omega
 have g:Int.toNat (if ((List.length b:Nat):Int)<((List.length a:Nat):Int) then ((List.length b:Nat):Int) else ((List.length a:Nat):Int))=min (List.length a) (List.length b):=by split<;>omega
 rw[g];have h:GH a b=BO (HF (c6 a b) (min a.length b.length) (min a.length b.length)):=rfl;have j:min a.length b.length<=a.length:=Nat.min_le_left _ _;have k:min a.length b.length<=b.length:=Nat.min_le_right _ _;generalize min a.length b.length=n at *;refine AJ (ι:={i:Nat//i<=n}) (λi=>⟨[(0,.p ER a),(1,.p ER b),(5,.sr 12 R6 0 n),(14,.p (.int .i64) (n:Int)),(15,.p (.int .i64) (i.1:Int))],[(12,.arr 185 R6 (HF (c6 a b) n i.1))]⟩) (λi=>n-i.1) ⟨0,OF _⟩ (AD [(12,.nm 12)] rfl rfl ?_ ?_) (λi=>?_)
 .refine eM ?_;rw[pY]
 .exact eN
 obtain⟨i,hi⟩:=i;have f:=Zd (c6 a b) n i;simp only;repeat'(first|exact trivial|apply eS rfl|apply AB|refine rX d ?_ ?_|refine rC ?_ ?_<;>intro c<;>try(cases c;done))
 .have e:i<n:=IF.1 c;exact⟨by exact eV,by exact eV,c⟩
 .exact eV
 .have e:i<n:=IF.1 c;refine⟨⟨i+1,e⟩,by simp only;omega,AD [(12,.nm 12)] rfl rfl ?_ ?_⟩
  .simp only[<-y5];refine eM ?_;rfl
  exact eN
 have e:i=n:=by omega
 subst e;have ht:(HF (c6 a b) i i).take i=HF (c6 a b) i i:=As (by rw[f];exact IN _);refine FK [12] ?_;repeat'(first|apply eS rfl|refine rX d ?_ ?_)
 .rw[ht,f];dsimp only[Ty.den]at *;omega
 rw[ht];exact fI d [.tmp 4] (by rw[h];exact eR)
def Dx (a b:List Int):Bool:=Mf a b&&Mf b a
def c7:Ab:={ ins:=[ER,ER],pre:=λ_=>True,out:=λ(a,b,_)=>[.p .bool (Dx a b)],lend:=true }
attribute [local go_sem] c7
theorem y6:Ac Tryz.prog 134 c7:=by
 refine fK [0,1,4] Tryz.func134 Tryz.ntmps134 (AF W7 AI) ?_;rintro w0 O0 ⟨a,b,u⟩ c - -;simp only[c7,AM];repeat'(first|exact trivial|apply eS rfl|refine rX c ?_ ?_)
 exact fI c [.tmp 4] (by unfold Dx;exact eR)
def E6 (c:List Int):Nat->List FL->Int
 | _,[]=>-1
 | k,t :: l=>if Dx t.2.1 c=true then (k:Int) else E6 c (k+1) l
theorem pZ (c:List Int) (l:List FL) (h:k<l.length):E6 c k (l.drop k)=if Dx (l.getD k SL).2.1 c=true then (k:Int) else E6 c (k+1) (l.drop (k+1)):=by
 rw[Is h];have e:l.getD k SL=l[k]:=by simp[AS,h]
 rw[e];rfl
theorem A2K (c:List Int) (t:FL):BK Tryz.prog 133 [.p T89 t,.bp 1 [] 0] [(1,.box 83 false [.p ER c])] [1] (λres b=>res=.p .bool (Dx t.2.1 c)/\b=[(1,.box 83 false [.p ER c])]):=by
 refine NX [0,1,2,3] [] [] Tryz.func133 Tryz.ntmps133 (AF y6 AI) ?_;intro w0 K O0 ρ0 a d e;simp only[Ax];repeat'(first|exact trivial|apply eS rfl|refine rX a ?_ ?_)
 refine Ev.ent (σ':=⟨[(3,.p .bool (Dx t.2.1 c))],[(1,.box 83 false [.p ER c])]⟩) ?_ (AD [(1,.nm 1)] rfl rfl ?_ ?_)
 .exact fM a [.tmp 3] (.p .bool (Dx t.2.1 c)) eT ⟨rfl,rfl⟩
 .exact eN
 exact eN
theorem y7 (l:List FL) (c:List Int) (hl:l.length<=100000):BK Tryz.prog 88 [.p mZ l,.clo 133 [1]] [(1,.box 83 false [.p ER c])] [1] (λres g=>res=.p T3 (E6 c 0 l)/\g=[(1,.box 83 false [.p ER c])]):=by
 refine NX [0,1,4,5,7,8,9,16] [] [] Tryz.func88 Tryz.ntmps88 AI ?_;intro w0 K O0 ρ0 b i j;simp only[Ax];repeat'(first|exact trivial|apply eS rfl|refine rX b ?_ ?_)
 refine AJ (ι:={k:Nat//k<=l.length/\E6 c k (l.drop k)=E6 c 0 l}) (λk=>⟨[(0,.p mZ l),(1,.clo 133 [1]),(7,.p (.int .i64) (l.length:Int)),(8,.p (.int .i64) (k.1:Int))],[(1,.box 83 false [.p ER c])]⟩) (λk=>l.length-k.1) ⟨0,OF _,rfl⟩ (eW [(1,.nm 1)]) (λk=>?_)
 obtain⟨k,hk,hf⟩:=k;have f:=λh:k<l.length=>pZ c l h;simp only;repeat'(first|exact trivial|apply eS rfl|refine rX b ?_ ?_|refine rC ?_ ?_<;>intro a<;>try(cases a;done))
 .have d:k<l.length:=IF.1 a;have e:=f d;refine cP 5 b ?_ ?_
  .exact a
  refine rM b (A2K c (l.getD k SL)) [(1,.nm 1)] [] ?_ ?_ ?_
  .exact eN
  .exact eN
  rintro _ _ ⟨rfl,rfl⟩;refine⟨[(1,.nm 1)],.p .bool (Dx (l.getD k SL).2.1 c),[(1,.box 83 false [.p ER c])],rfl,rfl,?_,?_,rfl,rfl,C4 ?_⟩
  .exact eN
  .exact eN
  repeat'(first|exact trivial|apply eS rfl|apply AB|refine rX b ?_ ?_|refine rC ?_ ?_<;>intro a<;>try(cases a;done))
  .have a:Dx (l.getD k SL).2.1 c=true:=a;rw[BY a,hf]at e;refine Ev.ent (σ':=⟨[(4,.p (.int .i64) (k:Int))],[(1,.box 83 false [.p ER c])]⟩) ?_ (AD [(1,.nm 1)] rfl rfl ?_ ?_)
   .exact fM b [.tmp 4] (.p T3 (k:Int)) eT ⟨by rw[e],rfl⟩
   .exact eN
   exact eN
  .omega
  have a:Dx (l.getD k SL).2.1 c=false:=a;rw[At (by rw[a];simp)]at e;exact⟨⟨k+1,d,e.symm.trans hf⟩,by simp only;omega,eW [(1,.nm 1)]⟩
 have d:l.drop k=[]:=OR (RM.1 a);rw[d]at hf;have hf:(-1:Int)=E6 c 0 l:=hf;refine Ev.ent (σ':=⟨[(4,.p (.int .i64) (-1))],[(1,.box 83 false [.p ER c])]⟩) ?_ (AD [(1,.nm 1)] rfl rfl ?_ ?_)
 .exact fM b [.tmp 4] (.p T3 (-1)) eT ⟨by rw[hf],rfl⟩
 .exact eN
 exact eN
def BL (h:AG) (t:Int):List Int:=(h.1.getD t.toNat SL).2.1
def Bu (h:AG) (a b:Int):Int×Bool :=
 if (GH (BL h a) (BL h b)).length=0 then (0,false) else if E6 (GH (BL h a) (BL h b)) 0 h.1<0 then (0,false) else (E6 (GH (BL h a) (BL h b)) 0 h.1,true)
def uJ:Ab:={ ins:=[Ec,T3,T3],pre:=λ(h,a,b,_)=>((0:Int)<=a/\a<(List.length (h:AG).1:Int))/\((0:Int)<=b/\b<(List.length (h:AG).1:Int))/\List.length (h:AG).1<=100000/\(∀x∈(h:AG).1,x.2.1.length<=100000),out:=λ(h,a,b,_)=>[.p T3 (Bu h a b).1,.p .bool (Bu h a b).2],lend:=true }
theorem A5R:Ac Tryz.prog 92 uJ:=by
 refine fK [0,1,2,3,6,7,8,9,25,31] Tryz.func92 Tryz.ntmps92 (AF A5Q AI) ?_;rintro w0 O0 ⟨⟨ht,hf⟩,a,b,u⟩ d-⟨ha,hb,hl,hx⟩;simp only[uJ,AM];refine Ev.ent (σ':=⟨[(0,.p Ec (ht,hf)),(1,.p T3 a),(2,.p T3 b)],[]⟩) ?_ (AD [] rfl rfl ?_ ?_)
 .repeat'(first|exact trivial|apply eS rfl|refine rX d ?_ ?_|refine rC ?_ ?_<;>intro e<;>try(cases e;done))
  .refine⟨ha,hb,?_⟩;have h1:Int.toNat a<List.length ht:=(ACC ha.1).2 ha.2;exact hx _ (AE (ht:List FL) SL h1)
  .have i:Bu (ht,hf) a b=(0,false):=by
    unfold Bu;rw[BY (by unfold BL;exact ACo e)]
   exact fI d [.tmp 6,.tmp 7] (by rw[i];exact eR)
  have g:∀c,c=GH (List.getD ht (Int.toNat a) (ByteArray.empty,[],[],[])).2.1 (List.getD ht (Int.toNat b) (ByteArray.empty,[],[],[])).2.1->c=GH (BL (ht,hf) a) (BL (ht,hf) b):=λc h=>h;have f:Bu (ht,hf) a b=if E6 (GH (BL (ht,hf) a) (BL (ht,hf) b)) 0 ht<0 then (0,false) else (E6 (GH (BL (ht,hf) a) (BL (ht,hf) b)) 0 ht,true):=by
   unfold Bu;rw[At (λh=>e (by unfold BL at h;exact AAv Int.ofNat h))]
  generalize j:GH (List.getD ht (Int.toNat a) (ByteArray.empty,[],[],[])).2.1 (List.getD ht (Int.toNat b) (ByteArray.empty,[],[],[])).2.1=c at *;rw[<-g c rfl]at f;refine cP 3 d ?_ ?_
  .trivial
  refine rM d (y7 ht c hl) [(1,.nm 8)] [] ?_ ?_ ?_
  .exact eN
  .exact eN
  rintro _ _ ⟨rfl,rfl⟩;refine⟨[(8,.nm 1)],.p T3 (E6 c 0 ht),[(8,.box 83 false [.p ER c])],rfl,rfl,?_,?_,rfl,rfl,?_⟩
  .exact eN
  .exact eN
  generalize E6 c 0 ht=m at *;refine rL d ?_ ?_
  .trivial
  repeat'(first|exact trivial|apply eS rfl|refine rX d ?_ ?_|refine rC ?_ ?_<;>intro e<;>try(cases e;done))
  .rw[BY e]at f;exact fI d [.tmp 6,.tmp 7] (by rw[f];exact eR)
  rw[At (AB1.2 e)]at f;exact fI d [.tmp 6,.tmp 7] (by rw[f];exact eR)
 .exact eN
 exact eN
end
structure uK (l:List (List Int)):Prop where
 wds:∀c∈l,JE c
 some:∀c∈l,∃i,Bc c i=true
 wid:∀c∈l,c.length<=64
 meet:∀a∈l,∀b∈l,(∃i,Bc a i=true/\Bc b i=true)->∃t∈l,∀i,Bc t i=(Bc a i&&Bc b i)
structure Bs (l:List (List Int)):Prop where
 wds:∀c∈l,JE c
 some:∀c∈l,∃i,Bc c i=true
theorem Ze {l:List (List Int)} (h:¬k<l.length):l.getD k []=[]:=by
 rw[AS,RP O1];rfl
theorem Bs.get {l:List (List Int)} (h:Bs l) (k:Nat):JE (l.getD k []):=by
 by_cases hk:k<l.length
 .exact h.wds _ (DG hk)
 rw[Ze hk];intro x hx;cases hx
theorem A5S {l:List (List Int)} (h:Bs l) (i k:Nat):Bs (HR l i k):=by
 unfold HR;split
 .rename_i b;rw[An,ON]at b;refine⟨λc a=>?_,λc a=>?_⟩
  .rcases Fg.1 a with a|a
   .exact h.wds c a
   have:c=GE (l.getD i []) (l.getD k []):=by simpa using a
   rw[this];exact cW (h.get i) (h.get k)
  rcases Fg.1 a with a|a
  .exact h.some c a
  have:c=GE (l.getD i []) (l.getD k []):=by simpa using a
  rw[this];have f:GE (l.getD i []) (l.getD k [])≠[]:=by
   intro e;rw[e]at b;exact absurd b.1 sc
  have g:JE (Gq .and (l.getD i []) (l.getD k []) (l.getD i []).length):=by
   intro x hx;unfold Gq at hx;obtain⟨j,-,rfl⟩:=Do.1 hx;rw[Hz,IP (BF (h.get i) _) (BF (h.get k) _)];have h1:=BF (h.get i) j;have m:((l.getD i []).getD j 0).toNat &&& ((l.getD k []).getD j 0).toNat<=((l.getD i []).getD j 0).toNat:=ACr;have n:=h1.1;have o:=h1.2;exact⟨AB4 _,by omega⟩
  obtain⟨j,d⟩:=pL g f;exact⟨j,by unfold GE;rw[PC];exact d⟩
 exact h
theorem uL {i:Nat}:∀ {n k:Nat} {l:List (List Int)},Bs l->Bs (HS i n k l)
 | 0,_,_,h=>h
 | n+1,k,l,h=>by
  unfold HS;split
  .exact uL (A5S h i k)
  exact h
theorem uM:∀ {n i:Nat} {l:List (List Int)},Bs l->Bs (Jk n i l)
 | 0,_,_,h=>h
 | n+1,i,l,h=>by
  unfold Jk;split
  .exact uM (uL h)
  exact h
theorem y8 {d:List AK} (f:BV d=0):Bs (Aj d):=by
 obtain⟨-,k,-⟩:=BE f;have h:=FZ d d.length;rw[RK]at h;have b:(AZ d).length<=4096:=by omega
 refine⟨λc a=>?_,λc a=>?_⟩
 .unfold Aj at a;obtain⟨s,-,rfl⟩:=Do.1 a;exact(El (d:=d) b s 0).2.1
 unfold Aj at a;obtain⟨s,hs,rfl⟩:=Do.1 a;obtain⟨j,g,e⟩:=Br ByteArray.empty hs;have i:0<=BJ d s:=by
  obtain⟨x,hx,e⟩:=Gt hs;rw[<-e];exact Fc hx
 exact⟨j,(El (d:=d) b s j).1.2 ⟨g,by rw[e];exact PI i⟩⟩
theorem p5 {d:List AK} (l:BV d=0) (hl:(A7 (Aj d)).length<=256):uK (A7 (Aj d)):=by
 obtain⟨-,n,-⟩:=BE l;have hb:Bs (A7 (Aj d)):=uM (y8 l);have hm:=cV hl;refine⟨hb.wds,hb.some,QW (PK n),λa ha b o hi=>?_⟩;obtain⟨q,f,rfl⟩:=Br [] ha;obtain⟨p,g,rfl⟩:=Br [] o;have key:∀q p,q<(A7 (Aj d)).length->p<(A7 (Aj d)).length->La (A7 (Aj d)) q p->(∃i,Bc ((A7 (Aj d)).getD q []) i=true/\Bc ((A7 (Aj d)).getD p []) i=true) ->
   ∃t∈A7 (Aj d),∀i,Bc t i=(Bc ((A7 (Aj d)).getD q []) i&&Bc ((A7 (Aj d)).getD p []) i):=by
  intro q p f g c hi;have m:=U9 (hb.get q) (hb.get p);rcases c with c|c
  .obtain⟨i,j,k⟩:=hi;have:=m i;rw[c,j,k]at this;unfold Bc at this;simp at this
  exact⟨_,c,m⟩
 rcases ACc p q with h|h|h
 .exact key q p f g (hm q p h f) hi
 .subst h;exact⟨_,DG f,λi=>by rw[Bool.and_self]⟩
 obtain⟨t,ht,e⟩:=key p q g f (hm p q h g) (by obtain⟨i,j,k⟩:=hi;exact⟨i,k,j⟩);exact⟨t,ht,λi=>by rw[e i,ACP]⟩
def GI (h:AG):Prop:=uK (h.1.map λt=>t.2.1)/\h.1.length<=256
theorem Mg (d:List AK):GI (A3 d).1:=by
 unfold A3;split
 .exact⟨⟨λc h=>(by cases h),λc h=>(by cases h),λc h=>(by cases h),λc h=>(by cases h)⟩,by simp⟩
 rename_i g;have g:(Ba d).2=0:=IS g;have l:BZ d=0:=by
  unfold Ba at g;split at g
  .rename_i h;exact absurd g h
  rename_i h;exact IS h
 obtain⟨m,-,-⟩:=Cp l;obtain⟨k,j,-⟩:=Bt m;have hf:=p5 k j;have f:∀c,c∈((HE d).1.map λt=>t.2.1)↔c∈A7 (Aj d):=by
  intro c;have e:((HE d).1.map λt=>t.2.1)=(A5 d).map λx=>x.2:=by
   show ((FM _ _ _).map λt=>t.2.1)=_;unfold FM;rw[AAb];apply oS
   .simp
   intro i h1 n;simp[AS,show i<(A5 d).length by simpa using h1]
  rw[e];constructor
  .intro h;obtain⟨x,hx,rfl⟩:=Do.1 h;obtain⟨b,hb,rfl⟩:=Dw.1 hx;exact hb
  intro h;exact Do.2 ⟨_,Dw.2 ⟨c,h,rfl⟩,rfl⟩
 refine⟨⟨λc h=>hf.wds c ((f c).1 h),λc h=>hf.some c ((f c).1 h),λc h=>hf.wid c ((f c).1 h),λa ha b hb hi=>?_⟩,?_⟩
 .obtain⟨t,ht,e⟩:=hf.meet a ((f a).1 ha) b ((f b).1 hb) hi;exact⟨t,(f t).2 ht,e⟩
 show (FM _ _ _).length<=256;rw[Ng,IT];exact j
theorem Bv {h:AG} {t:Int} (a:0<=t) (b:t<(h.1.length:Int)):BL h t∈h.1.map λt=>t.2.1 :=
 Do.2 ⟨_,AE h.1 SL (k:=t.toNat) O1,rfl⟩
theorem XA (ha:JE a) (hb:JE b):Mf a b=true↔∀i,Bc a i=true->Bc b i=true:=by
 constructor
 .intro h i hi;by_cases hk:i / 64<a.length
  .have h1:=Of.1 h (i / 64) (Ra.2 hk);rw[TE,Hz]at h1;exact Tv (BF ha _) (BF hb _) h1 (ACY _ dc) hi
  exfalso;unfold Bc at hi;rw[HD hk]at hi;simp at hi
 intro h;unfold Mf;rw[Of];intro k _;rw[TE,Hz];exact ZZ ha hb h k
theorem A2L (ha:JE a) (hb:JE b) (i:Nat):Bc (GH a b) i=(Bc a i&&Bc b i):=by
 unfold GH;rw[PC];unfold Bc;have:(HF (c6 a b) (min a.length b.length) (min a.length b.length)).getD (i / 64) 0=Co .and .u64 (a.getD (i / 64) 0) (b.getD (i / 64) 0):=by
  by_cases h:i / 64<min a.length b.length
  .unfold HF;rw[AS,Rb,AAC h];show (if i / 64<min a.length b.length then c6 a b (i / 64) else 0)=_;rw[BY h];rfl
  rw[HD (by rw[Zd];exact h),IP (BF ha _) (BF hb _)];by_cases h1:i / 64<a.length
  .rw[HD (b:=b) O1];simp
  rw[HD (b:=a) h1];simp
 rw[this,IP (BF ha _) (BF hb _),RG,Nat.testBit_and]
theorem A2M (ha:JE a) (hb:JE b):JE (GH a b):=by
 refine PD λx hx=>?_;unfold HF at hx;obtain⟨j,-,rfl⟩:=Do.1 hx;split
 .unfold c6;rw[IP (BF ha _) (BF hb _)];have h1:=BF ha j;have c:(a.getD j 0).toNat &&& (b.getD j 0).toNat<=(a.getD j 0).toNat:=ACr;have d:=h1.1;have e:=h1.2;exact⟨AB4 _,by omega⟩
 exact⟨by decide,by decide⟩
theorem XB (c:List Int):∀(l:List FL) (k:Nat),(E6 c k l=-1/\∀t∈l,Dx t.2.1 c=false)\/((k:Int)<=E6 c k l/\E6 c k l<(k:Int)+l.length/\Dx (l.getD ((E6 c k l).toNat-k) SL).2.1 c=true)
 | [],k=>.inl ⟨rfl,λt ht=>by cases ht⟩
 | x :: l,k=>by
  simp only[E6];split
  .rename_i h;right;refine⟨by omega,by simp only[NO];omega,?_⟩;rw[show ((k:Int).toNat-k)=0 by omega];exact h
  rename_i h;have h:Dx x.2.1 c=false:=by simpa using h
  rcases XB c l (k+1) with ⟨h1,a⟩|⟨h1,a,b⟩
  .left;refine⟨h1,λt ht=>?_⟩;rcases DO.1 ht with rfl|ht
   .exact h
   exact a t ht
  right;refine⟨by omega,by simp only[NO];omega,?_⟩;rw[show ((E6 c (k+1) l).toNat-k)=((E6 c (k+1) l).toNat-(k+1))+1 by omega];exact b
def uN (h:AG) (t:Int) (i:Nat):Bool:=Bc (BL h t) i
theorem Bi {h:AG} (hk:GI h) {a b:Int} (c:0<=a) (d:a<(h.1.length:Int)) (e:0<=b) (b1:b<(h.1.length:Int)):Ar h a b=true↔∀i,uN h b i=true->uN h a i=true :=
 XA (hk.1.wds _ (Bv e b1)) (hk.1.wds _ (Bv c d))
theorem A2N {h:AG} (hk:GI h) {a b:Int} (f:0<=a) (g:a<(h.1.length:Int)) (j:0<=b) (b1:b<(h.1.length:Int)) :
  ((Bu h a b).2=true->0<=(Bu h a b).1/\(Bu h a b).1<(h.1.length:Int)/\∀i,uN h (Bu h a b).1 i=(uN h a i&&uN h b i))/\((∃i,uN h a i=true/\uN h b i=true)->(Bu h a b).2=true):=by
 have q:=hk.1.wds _ (Bv f g);have r:=hk.1.wds _ (Bv j b1);have c:=A2L q r;have n:=A2M q r;have heq:∀t∈h.1,Dx t.2.1 (GH (BL h a) (BL h b))=true↔∀i,Bc t.2.1 i=Bc (GH (BL h a) (BL h b)) i:=by
  intro t ht;have wt:=hk.1.wds t.2.1 (Do.2 ⟨t,ht,rfl⟩);unfold Dx;rw[An,XA wt n,XA n wt];constructor
  .rintro⟨s,u⟩ i;rw[ABW];exact⟨s i,u i⟩
  intro e;exact⟨λi hi=>by rw[<-e i];exact hi,λi hi=>by rw[e i];exact hi⟩
 unfold Bu;by_cases d:(GH (BL h a) (BL h b)).length=0
 .rw[BY d];refine⟨λe=>(by cases e),?_⟩;rintro⟨i,o,p⟩;exfalso;have:=c i;rw[RW d]at this;unfold uN at o p;rw[o,p]at this;unfold Bc at this;simp at this
 rw[At d];rcases XB (GH (BL h a) (BL h b)) h.1 0 with ⟨h1,l⟩|⟨h1,l,m⟩
 .rw[BY O1];refine⟨λe=>(by cases e),λhi=>?_⟩;exfalso;obtain⟨t,ht,e⟩:=hk.1.meet _ (Bv f g) _ (Bv j b1) hi;obtain⟨x,hx,rfl⟩:=Do.1 ht;have:=(heq x hx).2 (λi=>by rw[c i];exact e i);rw[l x hx]at this;cases this
 have h1:0<=E6 (GH (BL h a) (BL h b)) 0 h.1:=by omega
 rw[At O1];refine⟨λ_=>⟨h1,by simp only;omega,λi=>?_⟩,λ_=>rfl⟩;rw[Nat.sub_zero]at m;have hm:=AE h.1 SL (k:=(E6 (GH (BL h a) (BL h b)) 0 h.1).toNat) O1;have:=(heq _ hm).1 m i;rw[c i]at this;exact this
theorem Mh {h:AG} (hk:GI h) {a b:Int} (l:0<=a) (m:a<(h.1.length:Int)) (n:0<=b) (b1:b<(h.1.length:Int)) :
  ((Bu h a b).2=true->0<=(Bu h a b).1/\(Bu h a b).1<(h.1.length:Int)/\Ar h a (Bu h a b).1=true/\Ar h b (Bu h a b).1=true) /\
  ∀x,0<=x->x<(h.1.length:Int)->Ar h a x=true->Ar h b x=true->(Bu h a b).2=true/\Ar h (Bu h a b).1 x=true:=by
 obtain⟨r,u⟩:=A2N hk l m n b1;refine⟨λe=>?_,λx g k s t=>?_⟩
 .obtain⟨c,d,f⟩:=r e;refine⟨c,d,(Bi hk l m c d).2 λi hi=>?_,(Bi hk n b1 c d).2 λi hi=>?_⟩
  .rw[f i,An]at hi;exact hi.1
  rw[f i,An]at hi;exact hi.2
 have o:=(Bi hk l m g k).1 s;have p:=(Bi hk n b1 g k).1 t;obtain⟨i,hi⟩:=hk.1.some _ (Bv g k);have e:=u ⟨i,o i hi,p i hi⟩;obtain⟨c,d,f⟩:=r e;refine⟨e,(Bi hk c d g k).2 λj q=>?_⟩;rw[f j,An];exact⟨o j q,p j q⟩
abbrev AA3:=Int×List (Int×Int)
def HT (f:List AA3):Bool:=decide (f.length<=12)&&f.all λn=>decide (n.2.length<=12)
def SM:Ab:={ ins:=[Cv],pre:=λ_=>True,out:=λ(f,_)=>[.p .bool (HT f)] }
theorem A2O:Ac Tryz.prog 12 SM:=by
 refine fK [0,1,2,3,7,12,22] Tryz.func12 Tryz.ntmps12 AI ?_;rintro w0 O0 ⟨l,u⟩ a e f;simp only[SM,AM];repeat'(first|exact trivial|apply eS rfl|refine rX a ?_ ?_|refine rC ?_ ?_<;>intro b<;>try(cases b;done))
 .have h1:HT l=false:=by
   have h:¬(List.length l<=12):=by exact eV
   unfold HT;rw[ABK h];rfl
  exact fI a [.tmp 2] (by rw[h1];exact eR)
 refine AJ (ι:={k:Nat//k<=l.length/\(l.take k).all (λn=>decide (n.2.length<=12))=true}) (λk=>⟨[(0,.p Cv l),(1,.bp 1 [] 0),(3,.p (.int .i64) (k.1:Int))],[(1,.box 25 true [.p Eg l])]⟩) (λk=>l.length-k.1) ⟨0,by simp⟩ (AD [(1,.nm 1)] rfl rfl ?_ ?_) (λk=>?_)
 .exact eN
 .exact eN
 obtain⟨k,hk,c⟩:=k;repeat'(first|exact trivial|apply eS rfl|apply AB|refine rX a ?_ ?_|refine rC ?_ ?_<;>intro b<;>try(cases b;done))
 .exact eV
 .have h1:HT l=false:=by
   have hk:k<l.length:=by exact eV
   have h:=AE l (0,[]) hk;unfold HT;rw[ABG];right;rw[ABY];exact⟨_,h,by simp only[ON];exact eV⟩
  exact fI a [.tmp 2] (by rw[h1];exact eR)
 .exact eV
 .have hk:k<l.length:=by exact eV
  refine⟨⟨k+1,by exact eV,?_⟩,by simp only;exact eV,AD [(1,.nm 1)] rfl rfl ?_ ?_⟩
  .have h1:=Af l (0,[]) hk;have d:((l.take (k+1)).all λn=>decide (n.2.length<=12))=_:=AAv (λx=>List.all x λn=>decide (n.2.length<=12)) h1;rw[d,ABV,c];simp only[ABi,List.all_nil,Bool.and_true,ACM,ON];exact eV
  .exact eN
  exact eN
 have h1:HT l=true:=by
  have hk:l.take k=l:=As (by exact eV);rw[hk]at c;unfold HT;rw[c,ABZ (by exact eV)];rfl
 exact fI a [.tmp 2] (by rw[h1];exact eR)
def HG (n:Int) (seen:List (Int×Int)):List (Int×Int)->Int
 | []=>0
 | x :: r=>if x.1<0\/x.2<0\/n<=x.2 then 2 else if (seen.any λy=>y.1==x.1)=true then 4 else HG n (seen++[x]) r
def IU (l:List (Int×Int)) (n:Int):Int:=HG n [] l
def jI:Ab:={ ins:=[Cl,T3],pre:=λ_=>True,out:=λ(l,n,_)=>[.p HB (IU l n)] }
theorem PO (n:Int) (l:List (Int×Int)) (h:k<l.length):HG n (l.take k) (l.drop k)=if (l.getD k (0,0)).1<0\/(l.getD k (0,0)).2<0\/n<=(l.getD k (0,0)).2 then 2 else if ((l.take k).any λy=>y.1==(l.getD k (0,0)).1)=true then 4 else HG n (l.take (k+1)) (l.drop (k+1)):=by
 rw[Af l (0,0) h,Is h,AS,AT h];rfl
theorem Yd (l:List (Int×Int)) (f:Int) (h:k<l.length):((l.take (k+1)).any λy=>y.1==f)=((l.take k).any (λy=>y.1==f)||((l.getD k (0,0)).1==f)):=by
 rw[Af l (0,0) h,ABU];simp
theorem A5T:Ac Tryz.prog 126 jI:=by
 refine fK [0,1,4,5,6,10,35,38,51] Tryz.func126 Tryz.ntmps126 AI ?_;rintro w0 O0 ⟨l,n,u⟩ b ⟨⟨hl,-⟩,-⟩ -;simp only[AQ]at hl;simp only[jI,AM];repeat'(first|exact trivial|apply eS rfl|refine rX b ?_ ?_)
 refine AJ (ι:={k:Nat//k<=l.length/\HG n (l.take k) (l.drop k)=IU l n}) (λk=>⟨[(0,.p Cl l),(1,.p T3 n),(5,.p (.int .i64) (k.1:Int))],[]⟩) (λk=>l.length-k.1) ⟨0,by simp[IU]⟩ (AD [] rfl rfl ?_ ?_) (λk=>?_)
 .exact eN
 .exact eN
 obtain⟨k,hk,c⟩:=k;repeat'(first|exact trivial|apply eS rfl|refine rX b ?_ ?_|refine rC ?_ ?_<;>intro a<;>try(cases a;done))
 .exact eV
 .have hk:k<l.length:=by exact eV
  have h1:IU l n=2:=by
   rw[<-c,PO n l hk,BY (by rw[<-or_assoc];exact a)]
  exact fI b [.tmp 4] (by rw[h1];exact eR)
 .have hk:k<l.length:=by exact eV
  have hn:¬((l.getD k (0,0)).1<0\/(l.getD k (0,0)).2<0\/n<=(l.getD k (0,0)).2):=by
   have:=a;generalize l.getD k (0,0)=x at this;exact eV
  rw[PO n l hk,At hn]at c;refine AJ (ι:={j:Nat//j<=k/\((l.take j).any λy=>y.1==(l.getD k (0,0)).1)=false}) (λj=>⟨[(0,.p Cl l),(1,.p T3 n),(5,.p (.int .i64) (k:Int)),(6,.p (.int .i64) (j.1:Int))],[]⟩) (λj=>k-j.1) ⟨0,by simp⟩ (AD [] rfl rfl ?_ ?_) (λj=>?_)
  .exact eN
  .exact eN
  obtain⟨j,h,f⟩:=j;repeat'(first|exact trivial|apply eS rfl|apply AB|refine rX b ?_ ?_|refine rC ?_ ?_<;>intro a<;>try(cases a;done))
  .exact eV
  .have e:j<l.length:=by exact eV
   have h1:IU l n=4:=by
    have d:((l.take k).any λy=>y.1==(l.getD k (0,0)).1)=true:=by
     rw[Re];refine⟨l.getD j (0,0),?_,by simpa using a⟩;rw[AS,AT e];exact ABH.2 ⟨j,by exact eV,rfl⟩
    rw[<-c,BY d]
   exact fI b [.tmp 4] (by rw[h1];exact eR)
  .exact eV
  .have e:j<l.length:=by exact eV
   refine⟨⟨j+1,by exact eV,?_⟩,by simp only;exact eV,AD [] rfl rfl ?_ ?_⟩
   .have d:=Yd l (l.getD k (0,0)).1 e;refine d.trans ?_;rw[f];simpa using a
   .exact eN
   exact eN
  .exact eV
  have g:j=k:=by exact eV
  subst g;refine⟨⟨j+1,by exact eV,?_⟩,by simp only;exact eV,AD [] rfl rfl ?_ ?_⟩
  .rw[<-c,At (by rw[f];simp)]
  .exact eN
  exact eN
 have h1:IU l n=0:=by
  have hk:l.length<=k:=by exact eV
  rw[<-c,OR hk];rfl
 exact fI b [.tmp 4] (by rw[h1];exact eR)
def XC (n:Int×List (Int×Int)):List Int:=n.1 :: (n.2.length:Int) :: n.2.flatMap λa=>[a.1,a.2]
def Bw (f:List (Int×List (Int×Int))):List Int:=(f.length:Int) :: f.flatMap XC
def Ye (l:List (Int×List (Int×Int))) (k:Nat):List Int:=(l.length:Int) :: (l.take k).flatMap XC
def XD (l:List (Int×List (Int×Int))) (k j:Nat):List Int:=Ye l k++[(l.getD k (0,[])).1,((l.getD k (0,[])).2.length:Int)]++((l.getD k (0,[])).2.take j).flatMap λa=>[a.1,a.2]
theorem SN:∀l:List (Int×Int),(l.flatMap λa=>[a.1,a.2]).length=2*l.length
 | []=>rfl
 | x :: l=>by simp[SN l];omega
theorem A2P (n:Int×List (Int×Int)):(XC n).length=2+2*n.2.length:=by
 have:=SN n.2;simp only[XC,NO];omega
theorem XE:∀l:List (Int×List (Int×Int)),(∀n∈l,n.2.length<=100000)->(l.flatMap XC).length<=l.length*200002
 | [],_=>by simp
 | x :: l,h=>by
  have h1:=h x sc;have a:=XE l (λn hn=>h n (by simp[hn]));have b:=A2P x;simp only[ABX,By,NO];omega
theorem jJ {l:List (Int×List (Int×Int))} (h:∀n∈l,n.2.length<=100000) (hk:k<=l.length):(Ye l k).length<=1+k*200002:=by
 have h1:=XE (l.take k) (λn hn=>h n (TO hn));rw[On,AAI hk]at h1;simp only[Ye,NO];omega
theorem A2Q {l:List (Int×List (Int×Int))} (h:∀n∈l,n.2.length<=100000) (hk:k<l.length) (b:j<=(l.getD k (0,[])).2.length):(XD l k j).length<=3+k*200002+2*j:=by
 have h1:=jJ h (AC6 hk);have a:=SN ((l.getD k (0,[])).2.take j);rw[On,AAI b]at a;simp only[XD,By,NO,nO];omega
theorem Zf {l:List (Int×List (Int×Int))} (hk:k<l.length):Ye l (k+1)=XD l k (l.getD k (0,[])).2.length:=by
 unfold Ye XD;rw[Af l (0,[]) hk,List.flatMap_append,RK];simp[XC,Ye]
theorem Zg {l:List (Int×List (Int×Int))} (a:j<(l.getD k (0,[])).2.length):XD l k (j+1)=XD l k j++[((l.getD k (0,[])).2.getD j (0,0)).1,((l.getD k (0,[])).2.getD j (0,0)).2]:=by
 unfold XD;rw[Af _ (0,0) a,List.flatMap_append];simp
def XF:Ab:={ ins:=[Cv],pre:=λ(f,_)=>f.length<=100000/\∀n∈f,n.2.length<=100000,out:=λ(f,_)=>[.p D6 (Bw f)] }
theorem p6:Ac Tryz.prog 69 XF:=by
 refine fK [0,1,2,3,4,5,6,15,38] Tryz.func69 Tryz.ntmps69 AI ?_;rintro w0 O0 ⟨l,u⟩ a ⟨hl,-⟩ ⟨m,d⟩;simp only[XF,AM];repeat'(first|exact trivial|apply eS rfl|refine rX a ?_ ?_)
 refine AJ (ι:={k:Nat//k<=l.length}) (λk=>⟨[(0,.p Cv l),(1,.bp 1 [] 0),(3,.sr 10 T3 0 (Ye l k.1).length),(4,.p (.int .i64) (k.1:Int))],[(1,.box 25 true [.p Eg l]),(10,.arr 3 T3 (Ye l k.1))]⟩) (λk=>l.length-k.1) ⟨0,by simp⟩ (AD [(1,.nm 1),(10,.nm 10)] rfl rfl ?_ ?_) (λk=>?_)
 .refine eM ?_;rfl
 .refine eM ?_;rfl
 obtain⟨k,hk⟩:=k;have h:=jJ d hk;repeat'(first|exact trivial|apply eS rfl|refine rX a ?_ ?_|refine rC ?_ ?_<;>intro c<;>try(cases c;done))
 .exact eV
 .refine⟨by exact eV,?_⟩;simp only[AQ];exact eV
 .have b:k<l.length:=by exact eV
  have n:=d _ (AE l (0,[]) b);refine AJ (ι:={j:Nat//j<=(l.getD k (0,[])).2.length}) (λj=>⟨[(0,.p Cv l),(1,.bp 1 [] 0),(3,.sr 10 T3 0 (XD l k j.1).length),(4,.p (.int .i64) (k:Int)),(5,.p Cl (l.getD k (0,[])).2),(6,.p (.int .i64) (j.1:Int))],[(1,.box 25 true [.p Eg l]),(10,.arr 3 T3 (XD l k j.1))]⟩) (λj=>(l.getD k (0,[])).2.length-j.1) ⟨0,by simp⟩ (AD [(1,.nm 1),(10,.nm 10)] rfl rfl ?_ ?_) (λj=>?_)
  .refine eM ?_;simp[XD]
  .refine eM ?_;simp[XD]
  obtain⟨j,f⟩:=j;have i:=A2Q d b f;repeat'(first|exact trivial|apply eS rfl|apply AB|refine rX a ?_ ?_|refine rC ?_ ?_<;>intro c<;>try(cases c;done))
  .refine⟨by exact eV,by exact eV,?_⟩;simp only[AQ];exact eV
  .exact eV
  .have e:j<(l.getD k (0,[])).2.length:=by exact eV
   refine⟨⟨j+1,by exact eV⟩,by simp only;exact eV,AD [(1,.nm 1),(10,.nm 10)] rfl rfl ?_ ?_⟩
   .refine eM ?_;exact(Zg e).symm
   refine eM ?_;have:=AAv List.length (Zg (l:=l) e);rw[By]at this;exact this.symm
  .exact eV
  have g:j=(l.getD k (0,[])).2.length:=by exact eV
  subst g;refine⟨⟨k+1,by exact eV⟩,by simp only;exact eV,AD [(1,.nm 1),(10,.nm 10)] rfl rfl ?_ ?_⟩
  .refine eM ?_;exact(Zf b).symm
  refine eM ?_;exact AAv List.length (Zf b).symm
 have hk:l.take k=l:=As (by exact eV);have h1:Ye l k=Bw l:=by unfold Ye Bw;rw[hk]
 exact fI a [.tmp 2] (by first|exact eR|refine Tp ?_;exact h1)
section
attribute [local go_sem] XF
def K3:List Int->List Int->Int
 | x :: xs,y :: ys=>if x<y then -1 else if y<x then 1 else K3 xs ys
 | _,_=>0
theorem SP (xs ys:List Int) (h1:k<xs.length) (a:k<ys.length):K3 (xs.drop k) (ys.drop k)=if xs.getD k 0<ys.getD k 0 then -1 else if ys.getD k 0<xs.getD k 0 then 1 else K3 (xs.drop (k+1)) (ys.drop (k+1)):=by
 rw[Is h1,Is a,AS,AT h1,AS,AT a];rfl
theorem A2R (xs ys:List Int) (h:xs.length<=k\/ys.length<=k):K3 (xs.drop k) (ys.drop k)=0:=by
 rcases h with h|h
 .rw[OR h];simp[K3]
 rw[OR h];simp[K3]
def CT (a b:List (Int×List (Int×Int))):Int:=K3 (Bw a) (Bw b)
def ET (f:List (Int×List (Int×Int))):Prop:=f.length<=100000/\∀n∈f,n.2.length<=100000
def XG:Ab:={ ins:=[Cv,Cv],pre:=λ(a,b,_)=>ET a/\ET b,out:=λ(a,b,_)=>[.p T3 (CT a b)] }
theorem Qa (h:ET f):(Bw f).length<=1+f.length*200002:=by
 have:=XE f h.2;simp only[Bw,NO];omega
theorem p7:Ac Tryz.prog 35 XG:=by
 refine fK [0,1,2,3,4,5,6,7,21,32,41] Tryz.func35 Tryz.ntmps35 (AF p6 AI) ?_;rintro w0 O0 ⟨a,b,u⟩ e-⟨⟨g,i⟩,⟨j,l⟩⟩;have m:=Qa ⟨g,i⟩;have n:=Qa ⟨j,l⟩;simp only[XG,AM];repeat'(first|exact trivial|apply eS rfl|refine rX e ?_ ?_)
 .exact⟨g,i⟩
 .exact⟨j,l⟩
 refine AJ (ι:={k:Nat//K3 ((Bw a).drop k) ((Bw b).drop k)=CT a b}) (λk=>⟨[(5,.p D6 (Bw a)),(6,.p D6 (Bw b)),(7,.p (.int .i64) (k.1:Int))],[]⟩) (λk=>(Bw a).length-k.1) ⟨0,by simp[CT]⟩ (AD [] rfl rfl ?_ ?_) (λk=>?_)
 .exact eN
 .exact eN
 obtain⟨k,hk⟩:=k;repeat'(first|exact trivial|apply eS rfl|apply AB|refine rX e ?_ ?_|refine rC ?_ ?_<;>intro f<;>try(cases f;done))
 .exact eV
 .obtain⟨h1,c⟩:k<(Bw a).length/\k<(Bw b).length:=by exact eV
  have d:CT a b=-1:=by rw[<-hk,SP _ _ h1 c,BY f]
  exact fI e [.tmp 4] (by rw[d];exact eR)
 .exact eV
 .obtain⟨h1,c⟩:k<(Bw a).length/\k<(Bw b).length:=by exact eV
  have d:CT a b=1:=by rw[<-hk,SP _ _ h1 c,At (by exact eV),BY f]
  exact fI e [.tmp 4] (by rw[d];exact eR)
 .exact eV
 .obtain⟨h1,c⟩:k<(Bw a).length/\k<(Bw b).length:=by exact eV
  refine⟨⟨k+1,?_⟩,by simp only;exact eV,AD [] rfl rfl ?_ ?_⟩
  .rw[<-hk,SP _ _ h1 c,At (by exact eV),At (by exact eV)]
  .exact eN
  exact eN
 have d:CT a b=0:=by
  rw[<-hk];apply A2R;by_cases h:k<(Bw a).length
  .right;have:=f (by exact eV);exact eV
  left;exact eV
 exact fI e [.tmp 4] (by rw[d];exact eR)
def K4:Ab:={ ins:=[Cv,Cv],pre:=λ(a,b,_)=>ET a/\ET b,out:=λ(a,b,_)=>[.p .bool (CT a b==0)] }
end
section
attribute [local go_sem] XG jI
theorem Qb:Ac Tryz.prog 9 K4:=by
 refine fK [0,1,2,3,4] Tryz.func9 Tryz.ntmps9 (AF p7 AI) ?_;rintro w0 O0 ⟨a,b,u⟩ c-d;simp only[K4,AM];repeat'(first|exact trivial|apply eS rfl|refine rX c ?_ ?_)
 .exact d
 exact fI c [.tmp 4]
def Hg (m:Int):List (Int×List (Int×Int))->Int
 | []=>0
 | n :: r=>if n.1<0 then 2 else if IU n.2 m≠0 then IU n.2 m else Hg m r
def CU (f:List (Int×List (Int×Int))):Int:=if f.length=0 then 1 else if 4096<f.length then 7 else Hg f.length f
def A2S:Ab:={ ins:=[Cv],pre:=λ_=>True,out:=λ(f,_)=>[.p HB (CU f)] }
theorem IV (m:Int) (l:List (Int×List (Int×Int))) (h:k<l.length):Hg m (l.drop k)=if (l.getD k (0,[])).1<0 then 2 else if IU (l.getD k (0,[])).2 m≠0 then IU (l.getD k (0,[])).2 m else Hg m (l.drop (k+1)):=by
 rw[Is h,AS,AT h];rfl
theorem A5U:Ac Tryz.prog 83 A2S:=by
 refine fK [0,1,2,3,4,8,12,17,26,38] Tryz.func83 Tryz.ntmps83 (AF A5T AI) ?_;rintro w0 O0 ⟨l,u⟩ a ⟨hl,-⟩ -;simp only[A2S,AM];repeat'(first|exact trivial|apply eS rfl|refine rX a ?_ ?_|refine rC ?_ ?_<;>intro b<;>try(cases b;done))
 .have h1:CU l=1:=by
   have h:l.length=0:=by exact eV
   unfold CU;rw[BY h]
  exact fI a [.tmp 2] (by rw[h1];exact eR)
 .have h1:CU l=7:=by
   have h:¬l.length=0:=by exact eV
   have e:4096<l.length:=by exact eV
   unfold CU;rw[At h,BY e]
  exact fI a [.tmp 2] (by rw[h1];exact eR)
 have h1:CU l=Hg l.length l:=by
  have h:¬l.length=0:=by exact eV
  have e:¬4096<l.length:=by exact eV
  unfold CU;rw[At h,At e]
 refine AJ (ι:={k:Nat//k<=l.length/\Hg l.length (l.drop k)=CU l}) (λk=>⟨[(1,.bp 1 [] 0),(3,.p (.int .i64) (k.1:Int))],[(1,.box 25 true [.p Eg l])]⟩) (λk=>l.length-k.1) ⟨0,by simp[h1]⟩ (AD [(1,.nm 1)] rfl rfl ?_ ?_) (λk=>?_)
 .exact eN
 .exact eN
 obtain⟨k,hk,hf⟩:=k;repeat'(first|exact trivial|apply eS rfl|apply AB|refine rX a ?_ ?_|refine rC ?_ ?_<;>intro b<;>try(cases b;done))
 .exact eV
 .have d:k<l.length:=by exact eV
  have c:CU l=2:=by rw[<-hf,IV _ _ d,BY b]
  exact fI a [.tmp 2] (by rw[c];exact eR)
 .exact eV
 .have d:k<l.length:=by exact eV
  have c:CU l=IU (l.getD k (0,[])).2 l.length:=by rw[<-hf,IV _ _ d,At (by exact eV),BY b]
  exact fI a [.tmp 2] (by rw[c];exact eR)
 .exact eV
 .have d:k<l.length:=by exact eV
  refine⟨⟨k+1,by exact eV,?_⟩,by simp only;exact eV,AD [(1,.nm 1)] rfl rfl ?_ ?_⟩
  .rw[<-hf,IV _ _ d,At (by exact eV),At (by simpa using b)]
  .exact eN
  exact eN
 have c:CU l=0:=by
  have hk:l.length<=k:=by exact eV
  rw[<-hf,OR hk];rfl
 exact fI a [.tmp 2] (by rw[c];exact eR)
end
def IW (x:Int×Int) (s:List (Int×Int)):Nat->Nat
 | 0=>0
 | n+1=>if x.1<(s.getD n (0,0)).1 then IW x s n else n+1
def PP (s:List (Int×Int)) (x:Int×Int):List (Int×Int):=s.take (IW x s s.length)++[x]++s.drop (IW x s s.length)
def AY (l:List (Int×Int)):List (Int×Int):=l.foldl PP []
theorem VB (x:Int×Int) (s:List (Int×Int)):∀n,IW x s n<=n
 | 0=>IN _
 | n+1=>by
  unfold IW;have:=VB x s n;split<;>omega
theorem A2T (s:List (Int×Int)) (x:Int×Int):(PP s x).length=s.length+1:=by
 have:=VB x s s.length;simp[PP];omega
theorem Hq (l:List (Int×Int)) (x:Int×Int):AY (l++[x])=PP (AY l) x:=by simp[AY]
theorem Mi:∀(l s:List (Int×Int)),(l.foldl PP s).length=s.length+l.length
 | [],s=>by simp
 | x :: l,s=>by simp[Mi l,A2T];omega
theorem CV (l:List (Int×Int)):(AY l).length=l.length:=by simp[AY,Mi]
def Qc:Ab:={ ins:=[Cl],pre:=λ(l,_)=>l.length<=1000000,out:=λ(l,_)=>[.own 45 CK (AY l)] }
theorem Zh:Ac Tryz.prog 105 Qc:=by
 refine fK [0,2,3,4,5,6,10,30] Tryz.func105 Tryz.ntmps105 AI ?_;rintro w0 O0 ⟨l,u⟩ c t m;simp only[Qc]at m;simp only[Qc,AM];repeat'(first|exact trivial|apply eS rfl|refine rX c ?_ ?_)
 refine AJ (ι:={p:Nat//p<=l.length}) (λk=>⟨[(0,.p Cl l),(3,.sr 10 CK 0 (AY (l.take k.1)).length),(4,.p (.int .i64) (k.1:Int))],[(10,.arr 45 CK (AY (l.take k.1)))]⟩) (λk=>l.length-k.1) ⟨0,by omega⟩ (AD [(10,.nil)] rfl rfl ?_ ?_) (λk=>?_)
 .refine eM ?_;rfl
 .refine eM ?_;rfl
 obtain⟨k,h⟩:=k;have s:(AY (l.take k)).length=k:=by rw[CV,On];exact AAI h
 repeat'(first|exact trivial|apply eS rfl|refine rX c ?_ ?_|refine rC ?_ ?_<;>intro b<;>try(cases b;done))
 .refine AJ (ι:={q:Nat//q<=(AY (l.take k)).length/\IW (l.getD k (0,0)) (AY (l.take k)) q=IW (l.getD k (0,0)) (AY (l.take k)) (AY (l.take k)).length}) (λq=>⟨[(0,.p Cl l),(3,.sr 10 CK 0 (AY (l.take k)).length),(4,.p (.int .i64) (k:Int)),(5,.p (.int .i64) (q.1:Int))],[(10,.arr 45 CK (AY (l.take k)))]⟩) (λq=>q.1) ⟨(AY (l.take k)).length,by simp⟩ (eW [(10,.nm 10)]) (λq=>?_)
  obtain⟨q,n,g⟩:=q;have i:k<l.length:=by omega
  have o:=l.length_take_le k;have d:(List.take q (AY (List.take k l))).length=q:=by rw[On];exact AAI n
  repeat'(first|exact trivial|apply eS rfl|apply AB|refine rX c ?_ ?_|refine rC ?_ ?_<;>intro b<;>try(cases b;done))
  .exact eV
  .exact eV
  .obtain⟨h1,a⟩:=b;obtain⟨q,rfl⟩:∃r,q=r+1:=⟨q-1,by omega⟩;have e:((q+1:Nat):Int)-1=(q:Int):=by omega
   refine⟨⟨q,by omega,?_⟩,Nat.lt_succ_self q,AD [(10,.nm 10)] rfl rfl ?_ ?_⟩
   .rw[<-g];simp only[IW];rw[e,RG]at a;rw[BY a]
   .exact eN
   refine eM ?_;show (q:Int)+1-1=q;omega
  .refine⟨by exact eV,?_⟩;rw[d];unfold AQ;omega
  .refine⟨by exact eV,?_⟩;rw[d];simp only[AQ];omega
  .refine⟨by exact eV,?_⟩;rw[d];simp only[AQ,aS];omega
  .exact eV
  have j:IW (l.getD k (0,0)) (AY (l.take k)) q=q:=by
   cases q with
   | zero=>rfl
   | succ q =>
    have e:((q+1:Nat):Int)-1=(q:Int):=by omega
    have:=b O1;rw[e,RG]at this;simp only[IW];rw[At O1]
  have h1:=Af l (0,0) i;have a:AY (l.take (k+1))=_:=(AAv AY h1).trans (Hq _ _);unfold PP at a;rw[<-g,j]at a;refine⟨⟨k+1,by exact eV⟩,by simp only;exact eV,AD [(10,.nm 37)] rfl rfl ?_ ?_⟩
  .refine eM ?_;exact a.symm
  refine eM ?_;have f:=AAv List.length a;rw[By,By]at f;exact f.symm
 have hk:l.take k=l:=As (by exact eV);refine Vu c (.inl rfl) (rv:=.tmp 2) rfl ?_;simp only[L9,Jx,I4,go_sem,Nat.reduceEqDiff,reduceCtorEq,Nat.reduceAdd,Nat.reduceSub,Nat.reduceMul,Nat.reduceLeDiff,Nat.reduceLT,Int.reduceLE,Int.reduceToNat,Int.reduceNeg,↓reduceIte];rw[hk];first|rfl|exact⟨rfl,rfl⟩|exact⟨rfl,rfl,rfl⟩
section
attribute [local go_sem] Qc
abbrev AC:=Int×List (Int×Int)
def DR (f:List AC):Nat->List Int×List Int->Int->List Int×List Int
 | 0,s,_=>s
 | k+1,s,n=>(AY (f.getD n.toNat (0,[])).2).foldl (λs a=>if s.1.getD a.2.toNat 0<0 then DR f k s a.2 else s) (s.1.set n.toNat (s.2.length:Int),s.2++[n])
def Ll (l:List Int):Nat:=l.countP (λx=>decide (x<0))
def AN (f:List AC):Prop:=f.length<=100000/\∀x∈f,x.2.length<=100000/\∀a∈x.2,0<=a.2/\a.2<(f.length:Int)
def Uh (f:List AC) (s:List Int×List Int):Prop:=s.1.length=f.length/\s.2.length+Ll s.1<=f.length
theorem A2U {l:List Int} {n:Nat} {v:Int} (hn:n<l.length) (a:l.getD n 0<0) (c:0<=v):Ll (l.set n v)+1=Ll l:=by
 induction l generalizing n with
 | nil=>simp at hn
 | cons x r b =>
  cases n with
  | zero =>
   have hx:x<0:=by simpa using a
   have:¬v<0:=by omega
   simp[Ll,ABC,hx,this]
  | succ n =>
   have h1:=b (n:=n) (by simpa using hn) (by simpa using a);simp only[Ll,ACw,ABC]at h1 ⊢;omega
theorem p8 {f:List AC} {s:List Int×List Int} (h:Uh f s) (d:0<=n) (hn:n<f.length) (b:s.1.getD n.toNat 0<0) :
  Uh f (s.1.set n.toNat (s.2.length:Int),s.2++[n])/\Ll (s.1.set n.toNat (s.2.length:Int))+1=Ll s.1:=by
 obtain⟨h1,c⟩:=h;have a:=A2U (l:=s.1) (n:=n.toNat) (v:=(s.2.length:Int)) O1 b O1;refine⟨⟨by simpa using h1,?_⟩,a⟩;simp only[By,GO];omega
theorem y9 (s:List (Int×Int)) (x:Int×Int):(PP s x).Perm (x :: s):=by
 unfold PP;refine(List.perm_append_comm.append_right _).trans ?_;simp
theorem Lc:∀(l s:List (Int×Int)),(l.foldl PP s).Perm (l++s)
 | [],s=>List.Perm.refl _
 | x :: l,s=>by
  refine(Lc l (PP s x)).trans ?_;refine(List.Perm.append_left l (y9 s x)).trans ?_;exact ACR
theorem Bb (l:List (Int×Int)):(AY l).Perm l:=by
 have:=Lc l [];simpa[AY] using this
theorem Mj {f:List AC} (hf:AN f) (n:Int):List.length (f.getD n.toNat (0,[])).2<=100000:=by
 by_cases h:n.toNat<f.length
 .have hm:f.getD n.toNat (0,[])∈f:=by
   rw[AS,AT h];exact aT h
  exact(hf.2 _ hm).1
 rw[AS,RP O1];simp
theorem VC {f:List AC} (hf:AN f) {a:Int×Int} (ha:a∈AY (f.getD n.toNat (0,[])).2):0<=a.2/\a.2<f.length:=by
 have ha:=(Bb _).mem_iff.1 ha;by_cases h:n.toNat<f.length
 .have hm:f.getD n.toNat (0,[])∈f:=by
   rw[AS,AT h];exact aT h
  exact(hf.2 _ hm).2 a ha
 rw[AS,RP O1]at ha;simp at ha
def EA (f:List AC) (k:Nat) (s:List Int×List Int) (a:Int×Int):List Int×List Int:=if s.1.getD a.2.toNat 0<0 then DR f k s a.2 else s
theorem Dj (f:List AC) (k:Nat) (s:List Int×List Int) (n:Int):DR f (k+1) s n=(AY (f.getD n.toNat (0,[])).2).foldl (EA f k) (s.1.set n.toNat (s.2.length:Int),s.2++[n]):=rfl
theorem VD {f:List AC} {k:Nat} (d:∀(s:List Int×List Int) (n:Int),Uh f s->0<=n->n<f.length->s.1.getD n.toNat 0<0->Uh f (DR f k s n)/\Ll (DR f k s n).1<=Ll s.1) :
  ∀(l:List (Int×Int)) (t:List Int×List Int),(∀a∈l,0<=a.2/\a.2<(f.length:Int))->Uh f t->Uh f (l.foldl (EA f k) t)/\Ll (l.foldl (EA f k) t).1<=Ll t.1
 | [],t,_,ht=>⟨ht,IN _⟩
 | a :: l,t,hl,ht=>by
  simp only[RJ];by_cases c:t.1.getD a.2.toNat 0<0
  .obtain⟨g,h⟩:=d t a.2 ht (hl a sc).1 (hl a sc).2 c;have e:EA f k t a=DR f k t a.2:=BY c;rw[e];obtain⟨i,j⟩:=VD d l _ (λb hb=>hl b (by simp[hb])) g;exact⟨i,RF j h⟩
  have e:EA f k t a=t:=At c;rw[e];exact VD d l t (λb hb=>hl b (by simp[hb])) ht
theorem SQ {f:List AC} (hf:AN f):∀(k:Nat) (s:List Int×List Int) (n:Int),Uh f s->0<=n->n<f.length->s.1.getD n.toNat 0<0->Uh f (DR f k s n)/\Ll (DR f k s n).1<=Ll s.1
 | 0,s,n,h,_,_,_=>⟨h,IN _⟩
 | k+1,s,n,h,h0,h1,d=>by
  obtain⟨e,g⟩:=p8 h h0 h1 d;obtain⟨b,c⟩:=VD (SQ hf k) _ _ (λa ha=>VC hf ha) e;rw[Dj];exact⟨b,by simp only at c g;omega⟩
theorem J9 {α:Type} (g:Y->α->Y) (l:List α) (d:α) (t:Y) {i:Nat} (hi:i<l.length):(l.take (i+1)).foldl g t=g ((l.take i).foldl g t) (l.getD i d):=by
 rw[Af l d hi,ABe];rfl
def Ld (f:List AC) (s:List Int×List Int):List (Nat×Obj):=[(1,.box 164 true [.p Cv f,.sr 2 T3 0 s.1.length,.sr 3 T3 0 s.2.length]),(2,.arr 3 T3 s.1),(3,.arr 3 T3 s.2)]
theorem A2V (f:List AC) (hf:AN f):∀(k:Nat) (s:List Int×List Int) (n:Int),Uh f s->0<=n->n<f.length->s.1.getD n.toNat 0<0->Ll s.1<=k ->
  BK Tryz.prog 104 [.bp 1 [] 0,.p T3 n] (Ld f s) [1] (λres J=>res=.raw (.tuple #[])/\J=Ld f (DR f k s n)):=by
 intro k;induction k with
 | zero =>
  intro s n h0 h1 u B M;obtain⟨_,N⟩:=p8 h0 h1 u B;omega
 | succ k I =>
  intro s n A w m x hk;obtain⟨num,g⟩:=s;obtain⟨t,v⟩:=p8 A w m x;obtain⟨G,H⟩:=A;simp only at G H x t v hk;refine NX [0,1,4,5,40,54] [] [] Tryz.func104 Tryz.ntmps104 (AF Zh AI) ?_;intro w0 K O0 ρ0 c P Q;simp only[Ld,Ax];repeat'(first|exact trivial|apply eS rfl|refine rX c ?_ ?_)
  .exact eV
  .have:=hf.1;simp only[AQ];omega
  .have hm:=Mj hf n;exact⟨⟨w,m⟩,RF hm O1⟩
  have l:=λa (ha:a∈AY (f.getD n.toNat (0,[])).2)=>VC hf ha;have D:(AY (f.getD n.toNat (0,[])).2).length<=100000:=by rw[CV];exact Mj hf n
  generalize C:AY (f.getD n.toNat (0,[])).2=L at l D;generalize o:(num.set n.toNat (g.length:Int),g++[n])=s1 at t;have F:∀i,Uh f ((L.take i).foldl (EA f k) s1)/\Ll ((L.take i).foldl (EA f k) s1).1<=Ll s1.1:=λi=>VD (SQ hf k) _ _ (λa ha=>l a (TO ha)) t;have m:num.set n.toNat (g.length:Int)=s1.1:=by rw[<-o]
  have O:g++[n]=s1.2:=by rw[<-o]
  rw[m]at v;refine AJ (ι:={i:Nat//i<=L.length}) (λi=>⟨[(0,.bp 1 [] 0),(1,.p T3 n),(4,.p Cl L),(5,.p (.int .i64) (i.1:Int))],Ld f ((L.take i.1).foldl (EA f k) s1)⟩) (λi=>L.length-i.1) ⟨0,by omega⟩ (A9E [36] (AD [(1,.nm 1),(2,.nm 2),(3,.nm 3)] rfl rfl ?_ ?_)) (λi=>?_)
  .simp only[Ld];refine eM ?_;simp only[AC1];rw[<-o];simp
  .exact eN
  obtain⟨i,hi⟩:=i;obtain⟨r,E⟩:=F i;have q:=λ(h:i<L.length)=>J9 (EA f k) L (0,0) s1 h;generalize z:(L.take i).foldl (EA f k) s1=b at r E q;simp only[Ld];repeat'(first|exact trivial|apply eS rfl|apply AB|refine rX c ?_ ?_|refine rC ?_ ?_<;>intro j<;>try(cases j;done))
  .have d:i<L.length:=by exact eV
   have:=l _ (AE L (0,0) d);obtain⟨h1,u⟩:=r;refine⟨by exact eV,this.1,?_⟩;rw[h1];exact this.2
  .have d:i<L.length:=by exact eV
   have y:=l _ (AE L (0,0) d);refine cP 6 c ?_ ?_
   .exact eV
   refine rM c (I b (L.getD i (0,0)).2 r y.1 y.2 (by simpa using j) O1) [(1,.nm 1),(2,.nm 2),(3,.nm 3)] [2,3] ?_ ?_ ?_
   .exact eN
   .simp only[Ld];exact eN
   rintro _ _ ⟨rfl,rfl⟩;refine⟨[(1,.nm 1),(2,.nm 2),(3,.nm 3)],.raw (.tuple #[]),Ld f (DR f k b (L.getD i (0,0)).2),rfl,rfl,?_,?_,rfl,rfl,C4 ?_⟩
   .simp only[Ld];exact eN
   .exact eN
   repeat'(first|apply eS rfl|apply AB|refine rX c ?_ ?_)
   .exact eV
   have e:EA f k b (L.getD i (0,0))=DR f k b (L.getD i (0,0)).2:=BY (by simpa using j);refine⟨⟨i+1,by omega⟩,by simp only;omega,AD [(1,.nm 1),(2,.nm 2),(3,.nm 3)] rfl rfl ?_ ?_⟩
   .simp only[Ld,q d,e];exact eN
   exact eN
  .exact eV
  .have d:i<L.length:=by exact eV
   have e:EA f k b (L.getD i (0,0))=b:=At (by simpa using j);refine⟨⟨i+1,by omega⟩,by simp only;omega,AD [(1,.nm 1),(2,.nm 2),(3,.nm 3)] rfl rfl ?_ ?_⟩
   .simp only[q d,e];exact eN
   exact eN
  have hk:L.take i=L:=As (by exact eV);rw[hk]at z;have h1:DR f (k+1) (num,g) n=b:=by rw[Dj,C,<-z,<-o]
  rw[h1];exact fM c [] (.raw (.tuple #[])) rfl ⟨rfl,rfl⟩
end
section
attribute [local go_sem] Qc
def jK (f:List AC) (s:List Int×List Int):Prop:=∀n∈s.2,0<=n/\n<(f.length:Int)
theorem XH {f:List AC} (hf:AN f):∀(k:Nat) (s:List Int×List Int) (n:Int),jK f s->0<=n->n<f.length->jK f (DR f k s n)
 | 0,s,n,h,_,_=>h
 | k+1,s,n,h,h0,h1=>by
  rw[Dj];have key:∀(l:List (Int×Int)) (t:List Int×List Int),(∀a∈l,0<=a.2/\a.2<(f.length:Int))->jK f t->jK f (l.foldl (EA f k) t):=by
   intro l;induction l with
   | nil=>intro t _ ht;exact ht
   | cons a l c =>
    intro t hl ht;simp only[RJ];refine c _ (λb hb=>hl b (by simp[hb])) ?_;unfold EA;split
    .exact XH hf k t a.2 ht (hl a sc).1 (hl a sc).2
    exact ht
  refine key _ _ (λa ha=>VC hf ha) ?_;intro m hm;simp only[Fg,RH]at hm;rcases hm with hm|rfl
  .exact h m hm
  exact⟨h0,h1⟩
def GJ (f:List AC) (root:Int):List Int×List Int:=DR f f.length (List.replicate f.length (-1),[]) root
def Yf (num:List Int) (a:Int×Int):Int×Int:=(a.1,num.getD a.2.toNat 0)
def Le (f:List AC) (num:List Int) (n:Int):AC:=((f.getD n.toNat (0,[])).1,(AY (f.getD n.toNat (0,[])).2).map (Yf num))
def E7 (f:List AC) (root:Int):List AC:=(GJ f root).2.map (Le f (GJ f root).1)
theorem jL (m:Nat):Ll (List.replicate m (-1))=m:=by
 induction m with
 | zero=>rfl
 | succ m a=>simp only[Ll,ABP,ABC]at a ⊢;simp[a]
theorem tr0 (f:List AC):Uh f (List.replicate f.length (-1),[]):=⟨by simp,by simp[jL]⟩
theorem uP {f:List AC} (h0:0<=n) (h1:n<f.length):(List.replicate f.length (-1:Int)).getD n.toNat 0<0:=by
 have:n.toNat<f.length:=by omega
 simp[AS,AAz,this]
theorem uQ {f:List AC} (hf:AN f) (h0:0<=n) (h1:n<f.length):Uh f (GJ f n)/\jK f (GJ f n) :=
 ⟨(SQ hf _ _ n (tr0 f) h0 h1 (uP h0 h1)).1,XH hf _ _ n (λm hm=>by simp at hm) h0 h1⟩
theorem XI {α b:Type} (g:α->b) (h:b->α) (L:List α) (d:α) (hk:k<L.length) (u:α->α):((L.take k).map u++L.drop k).set k (u (L.getD k d))=(L.take (k+1)).map u++L.drop (k+1)/\((L.take k).map u++L.drop k).getD k d=L.getD k d:=by
 have h1:((L.take k).map u).length=k:=by simp;omega
 have a:L.drop k=L.getD k d :: L.drop (k+1):=by
  rw[Is hk,AS,AT hk];rfl
 constructor
 .rw[Af L d hk,AAY _ _ O1,h1,AAD,a];simp
 rw[AS,RS O1,h1,AAD,a];rfl
def Qd:Ab:={ ins:=[Cv,T3],pre:=λ(f,n,_)=>AN f/\0<=n/\n<(List.length f:Int),out:=λ(f,n,_)=>[.p Cv (E7 f n)] }
theorem c8:Ac Tryz.prog 67 Qd:=by
 refine fK [0,1,2,4,5,6,7,8,9,10,11,19,40,60] Tryz.func67 Tryz.ntmps67 (AF Zh AI) ?_;rintro w0 O0 ⟨f,root,u⟩ d-⟨hf,l,m⟩;simp only[Qd,AM];have G:=hf.1;repeat'(first|exact trivial|apply eS rfl|refine rX d ?_ ?_)
 refine AJ (ι:={i:Nat//i<=f.length}) (λi=>⟨[(1,.p T3 root),(2,.bp 2 [] 0),(4,.bp 4 [] 0),(5,.bp 14 [] 0),(6,.p (.int .i64) (i.1:Int))],[(2,.box 25 true [.p Eg f]),(4,.box 25 true [.raw (.slice none 0 0)]),(14,.box 164 true [.p Cv f,.sr 10 T3 0 i.1,.raw (.slice none 0 0)]),(10,.arr 3 T3 (List.replicate i.1 (-1)))]⟩) (λi=>f.length-i.1) ⟨0,by omega⟩ (AD [(2,.nm 2),(4,.nm 4),(14,.nm 14),(10,.nil)] rfl rfl ?_ ?_) (λi=>?_)
 .refine eM ?_;rfl
 .exact eN
 obtain⟨i,hi⟩:=i;repeat'(first|exact trivial|apply eS rfl|apply AB|refine rX d ?_ ?_|refine rC ?_ ?_<;>intro h<;>try(cases h;done))
 .simp only[AQ];omega
 .exact eV
 .have hi:i<List.length f:=by exact eV
  refine⟨⟨i+1,by omega⟩,by simp only;omega,AD [(2,.nm 2),(4,.nm 4),(14,.nm 14),(10,.nm 10)] rfl rfl ?_ ?_⟩
  .refine eM ?_;rw[ACj];simp
  exact eN
 have A:i=List.length f:=by exact eV
 subst A;have w:=uQ hf l m;refine cP 2 d ?_ ?_
 .trivial
 refine rM d (A2V f hf (List.length f) (List.replicate (List.length f) (-1),[]) root (tr0 f) l m (uP l m) (by rw[jL];exact IN _)) [(1,.nm 14),(2,.nm 10),(3,.nil)] [10] ?_ ?_ ?_
 .exact eN
 .simp only[Ld];refine eM ?_;simp
 rintro _ _ ⟨rfl,rfl⟩;refine⟨[(14,.nm 1),(101,.nm 2),(102,.nm 3)],.raw (.tuple #[]),[(14,.box 164 true [.p Cv f,.sr 101 T3 0 (GJ f root).1.length,.sr 102 T3 0 (GJ f root).2.length]),(101,.arr 3 T3 (GJ f root).1),(102,.arr 3 T3 (GJ f root).2)],rfl,rfl,?_,?_,rfl,rfl,C4 ?_⟩
 .simp only[Ld,GJ];exact eN
 .exact eN
 have z:E7 f root=(GJ f root).2.map (Le f (GJ f root).1):=rfl;rw[z];generalize GJ f root=s at w;obtain⟨num,c⟩:=s;obtain⟨⟨r,t⟩,j⟩:=w;simp only at r t;have j:∀n∈c,0<=n/\n<(List.length f:Int):=j;repeat'(first|exact trivial|apply eS rfl|refine rX d ?_ ?_)
 refine AJ (ι:={i:Nat//i<=c.length}) (λi=>⟨[(2,.bp 2 [] 0),(4,.bp 4 [] 0),(5,.bp 14 [] 0),(7,.bp 7 [] 0),(8,.p (.int .i64) (i.1:Int))],[(2,.box 25 true [.p Eg f]),(4,.box 25 true [.raw (.slice none 0 0)]),(14,.box 164 true [.p Cv f,.sr 101 T3 0 num.length,.sr 102 T3 0 c.length]),(101,.arr 3 T3 num),(102,.arr 3 T3 c),(7,.box 25 true [.sr 200 Eb 0 i.1]),(200,.arr 48 Eb ((c.take i.1).map (Le f num)))]⟩) (λi=>c.length-i.1) ⟨0,by omega⟩ (eW [(2,.nm 2),(4,.nm 4),(14,.nm 14),(101,.nm 101),(102,.nm 102),(7,.nm 7),(200,.nil)]) (λi=>?_)
 obtain⟨i,hi⟩:=i;repeat'(first|exact trivial|apply eS rfl|refine rX d ?_ ?_|refine rC ?_ ?_<;>intro h<;>try(cases h;done))
 .have hi:i<c.length:=by exact eV
  exact⟨by exact eV,j _ (AE c 0 hi)⟩
 .exact RF (Mj hf _) O1
 .have hi:i<c.length:=by exact eV
  have q:=λa (ha:a∈AY (f.getD (Int.toNat (c.getD i 0)) (0,[])).2)=>VC hf ha;have v:Le f num (c.getD i 0)=((f.getD (Int.toNat (c.getD i 0)) (0,[])).1,(AY (f.getD (Int.toNat (c.getD i 0)) (0,[])).2).map (Yf num)):=rfl;have B:=Mj hf (c.getD i 0);generalize List.getD f (Int.toNat (c.getD i 0)) (0,[])=x at *;obtain⟨E,o⟩:=x;simp only at q v B;have F:=CV o;generalize AY o=L at *;refine AJ (ι:={k:Nat//k<=L.length}) (λk=>⟨[(2,.bp 2 [] 0),(4,.bp 4 [] 0),(5,.bp 14 [] 0),(7,.bp 7 [] 0),(8,.p (.int .i64) (i:Int)),(9,.bp 9 [] 0),(10,.sr 56 CK 0 L.length),(11,.p (.int .i64) (k.1:Int))],[(56,.arr 45 CK ((L.take k.1).map (Yf num)++L.drop k.1)),(9,.box 48 true [.p T3 E,.p Cl o]),(2,.box 25 true [.p Eg f]),(4,.box 25 true [.raw (.slice none 0 0)]),(14,.box 164 true [.p Cv f,.sr 101 T3 0 num.length,.sr 102 T3 0 c.length]),(101,.arr 3 T3 num),(102,.arr 3 T3 c),(7,.box 25 true [.sr 200 Eb 0 i]),(200,.arr 48 Eb ((c.take i).map (Le f num)))]⟩) (λk=>L.length-k.1) ⟨0,by omega⟩ (eW [(2,.nm 2),(4,.nm 4),(14,.nm 14),(101,.nm 101),(102,.nm 102),(7,.nm 7),(200,.nm 200),(9,.nm 9),(56,.nm 56)]) (λk=>?_)
  obtain⟨k,hk⟩:=k;repeat'(first|exact trivial|apply eS rfl|apply AB|refine rX d ?_ ?_|refine rC ?_ ?_<;>intro h<;>try(cases h;done))
  .have g:k<L.length:=by exact eV
   have e:=(XI (Yf num) (λb=>b) L (0,0) g (Yf num)).2;rw[e];have:=q _ (AE L (0,0) g);rw[r];exact⟨by exact eV,this,by exact eV⟩
  .exact eV
  .have g:k<L.length:=by exact eV
   have e:=XI (Yf num) (λb=>b) L (0,0) g (Yf num);refine⟨⟨k+1,by omega⟩,by simp only;omega,AD [(2,.nm 2),(4,.nm 4),(14,.nm 14),(101,.nm 101),(102,.nm 102),(7,.nm 7),(200,.nm 200),(9,.nm 9),(56,.nm 56)] rfl rfl ?_ ?_⟩
   .refine eM ?_;rw[e.2];exact e.1
   exact eN
  .simp only[AQ];have:=t;omega
  .exact eV
  have g:L.take k=L:=As (by exact eV);have y:L.drop k=[]:=OR (by exact eV);refine⟨⟨i+1,by omega⟩,by simp only;omega,AD [(2,.nm 2),(4,.nm 4),(14,.nm 14),(101,.nm 101),(102,.nm 102),(7,.nm 7),(200,.nm 200)] rfl rfl ?_ ?_⟩
  .refine eM ?_;rw[g,y,S6,Af c 0 hi,RY,Rd,ABN,v];have C:List.take i ((c.take i).map (Le f num))=(c.take i).map (Le f num):=As (by rw[No,On];omega);have D:List.take L.length (L.map (Yf num))=L.map (Yf num):=As (by rw[No];omega);rw[C,D]
  exact eN
 have hk:c.take i=c:=As (by exact eV);rw[hk];refine fI d [.cell 4 25] (by first|exact eR|refine Tp ?_;exact As (by rw[No];exact eV))
end
section
attribute [local go_sem] A2S Qd
theorem XJ {n:Int}:∀ {l seen:List (Int×Int)},HG n seen l=0->∀a∈l,0<=a.1/\0<=a.2/\a.2<n
 | [],_,_,a,ha=>by cases ha
 | x :: l,seen,h,a,ha=>by
  simp only[HG]at h;split at h
  .cases h
  split at h
  .cases h
  rename_i h1 _;rcases DO.1 ha with rfl|ha
  .omega
  exact XJ h a ha
theorem K5 {m:Int}:∀ {f:List (Int×List (Int×Int))},Hg m f=0->∀x∈f,0<=x.1/\∀a∈x.2,0<=a.1/\0<=a.2/\a.2<m
 | [],_,x,hx=>by cases hx
 | y :: f,h,x,hx=>by
  simp only[Hg]at h;split at h
  .cases h
  split at h
  .rename_i h1 b;exact absurd h b
  rename_i h1 b;have b:IU y.2 m=0:=IS b;rcases DO.1 hx with rfl|hx
  .exact⟨by omega,XJ b⟩
  exact K5 h x hx
def SR (f:List (Int×List (Int×Int))):Prop:=∀x∈f,x.2.length<=100000
theorem IX (h:CU f=0) (hs:SR f):AN f/\0<f.length:=by
 unfold CU at h;split at h
 .cases h
 split at h
 .cases h
 refine⟨⟨by omega,λx hx=>⟨hs x hx,λa ha=>?_⟩⟩,by omega⟩;have:=(K5 h x hx).2 a ha;exact⟨this.2.1,this.2.2⟩
def BC (f:List AC):List AC×Int:=if CU f=0 then (E7 f 0,0) else ([],CU f)
def ST:Ab:={ ins:=[Cv],pre:=λ(f,_)=>SR f,out:=λ(f,_)=>[.p Cv (BC f).1,.p HB (BC f).2] }
theorem A2W:Ac Tryz.prog 41 ST:=by
 refine fK [0,1,2,3,4,8] Tryz.func41 Tryz.ntmps41 (AF A5U (AF c8 AI)) ?_;rintro w0 O0 ⟨f,u⟩ b-hs;simp only[ST,AM];repeat'(first|exact trivial|apply eS rfl|refine rX b ?_ ?_|refine rC ?_ ?_<;>intro a<;>try(cases a;done))
 .have h:¬CU f=0:=by simpa using a
  have e:BC f=([],CU f):=At h;exact fI b [.cell 2 25,.tmp 3] (by rw[e];exact eR)
 .have h:CU f=0:=by simpa using a
  have:=IX h hs;exact⟨this.1,by exact eV⟩
 have h:CU f=0:=by simpa using a
 have e:BC f=(E7 f 0,0):=BY h;exact fI b [.cell 2 25,.tmp 3] (by rw[e];exact eR)
end
def zA (l:List Int) (n:Int):Bool:=l.any λx=>x==n
def Zi:Ab:={ ins:=[T3],pre:=λ_=>True,out:=λ(t,_)=>[.p Cv [(t,[])]] }
theorem uR:Ac Tryz.prog 14 Zi:=by
 refine fK [0,2] Tryz.func14 Tryz.ntmps14 AI ?_;rintro w0 O0 ⟨t,u⟩ a - -;simp only[Zi,AM];repeat'(first|exact trivial|apply eS rfl|apply AB|refine rX a ?_ ?_|refine rC ?_ ?_<;>intro b<;>try(cases b;done))
 exact fI a [.cell 2 25]
section
attribute [local go_sem] SM ST K4
def ftB (a:Int×Int):Bool:=decide (a.1<64)
def ndB (x:AC):Bool:=decide (x.1<256)&&x.2.all ftB
def Dy (f:List AC):Bool:=HT f&&f.all ndB&&((BC f).2==0&&(CT (BC f).1 f==0))
theorem Mk {f:List AC} (h:HT f=true):f.length<=12/\∀x∈f,x.2.length<=12:=by
 unfold HT at h;simp only[An,ON,Of]at h;exact h
theorem p9 {f:List AC} (hf:AN f) (h0:0<=n) (h1:n<f.length):ET (E7 f n):=by
 obtain⟨⟨a,b⟩,_⟩:=uQ hf h0 h1;have c:=hf.1;refine⟨?_,λx hx=>?_⟩
 .unfold E7;rw[No];omega
 obtain⟨m,_,rfl⟩:=Do.1 hx;unfold Le;simp only[No,CV];exact Mj hf m
theorem jM {f:List AC} (hs:SR f):ET (BC f).1:=by
 unfold BC;split
 .rename_i h;obtain⟨h1,a⟩:=IX h hs;exact p9 h1 O1 O1
 exact⟨by simp,λx hx=>by cases hx⟩
end
section
variable {α:Type}
structure SO (o:α->α->Int):Prop where
 anti:∀a b,o b a=- o a b
 trans:∀ {a b c},o a b<0->o b c<0->o a c<0
variable {o:α->α->Int} {d:α}
def jN (d:α) (l:List α) (i j:Nat):List α:=(l.set i (l.getD j d)).set j (l.getD i d)
theorem jO {l:List α} {i:Nat} (hi:i<l.length) (c:j<l.length) (k:Nat):(jN d l i j).getD k d=if k=j then l.getD i d else if k=i then l.getD j d else l.getD k d:=by
 unfold jN;simp only[AS,oN,TA];by_cases a:j=k
 .rw[BY a,BY O1,BY a.symm];rfl
 rw[At a,At (show ¬k=j by omega)];by_cases b:i=k
 .rw[BY b,BY O1,BY b.symm];rfl
 rw[At b,At (show ¬k=i by omega)]
theorem zB {l:List α} {i:Nat} (hi:i<l.length) (a:j<l.length):(jN d l i j).Perm l:=by
 have b:l.getD i d=l[i]:=by rw[AS,AT hi];rfl
 have c:l.getD j d=l[j]:=by rw[AS,AT a];rfl
 unfold jN;rw[b,c];exact List.set_set_perm hi a
structure Zj (d:α) (a b:Nat) (l r:List α):Prop where
 perm:r.Perm l
 out:∀k,k<a\/b<=k->r.getD k d=l.getD k d
 inn:∀i,a<=i->i<b->∃j,a<=j/\j<b/\r.getD i d=l.getD j d
theorem Zj.len {a b:Nat} {l r:List α} (h:Zj d a b l r):r.length=l.length:=h.perm.length_eq
theorem Zj.refl (a b:Nat) (l:List α):Zj d a b l l:=⟨List.Perm.refl _,λ_ _=>rfl,λi h1 c=>⟨i,h1,c,rfl⟩⟩
theorem Zj.trans {a b:Nat} {l r s:List α} (h:Zj d a b l r) (c:Zj d a b r s):Zj d a b l s:=⟨c.perm.trans h.perm,λk hk=>(c.out k hk).trans (h.out k hk),λi h1 g=>by
 obtain⟨j,m,n,e⟩:=c.inn i h1 g;obtain⟨k,o,p,f⟩:=h.inn j m n;exact⟨k,o,p,e.trans f⟩⟩
theorem Zj.mono {a b c f:Nat} {l r:List α} (h:Zj d a b l r) (ha:c<=a) (hb:b<=f):Zj d c f l r:=⟨h.perm,λk hk=>h.out k O1,λi h1 g=>by
 by_cases hi:a<=i/\i<b
 .obtain⟨j,m,n,e⟩:=h.inn i hi.1 hi.2;exact⟨j,by omega,by omega,e⟩
 exact⟨i,h1,g,h.out i O1⟩⟩
theorem Zj.swap {a b:Nat} (l:List α) {j:Nat} (g:a<=i) (h:i<b) (m:a<=j) (n:j<b) (hb:b<=l.length):Zj d a b l (jN d l i j):=by
 have f:=jO (d:=d) (l:=l) (i:=i) (j:=j) O1 O1;refine⟨zB O1 O1,λk hk=>?_,λk o p=>?_⟩
 .rw[f k,At O1,At O1]
 rw[f k];by_cases c:k=j
 .rw[BY c];exact⟨i,g,h,rfl⟩
 rw[At c];by_cases e:k=i
 .rw[BY e];exact⟨j,m,n,rfl⟩
 rw[At e];exact⟨k,o,p,rfl⟩
def Dst (o:α->α->Int) (d:α) (l:List α):Prop:=∀i j,i<l.length->j<l.length->i≠j->o (l.getD i d) (l.getD j d)≠0
theorem uS (g:SO o) (l:List α):Dst o d l↔l.Pairwise λa b=>o a b≠0:=by
 have e:∀i (h:i<l.length),l.getD i d=l[i]:=λi h=>by rw[AS,AT h];rfl
 rw[RZ];constructor
 .intro h i j hi c f;have:=h i j hi c O1
  rwa [e i hi,e j c]at this
 intro h i j hi c f;rw[e i hi,e j c];rcases Nat.lt_or_gt_of_ne f with h1|h1
 .exact h i j hi c h1
 have k:=h j i c hi h1;rw[g.anti];omega
theorem Dst.perm (c:SO o) {l r:List α} (h:Dst o d l) (e:r.Perm l):Dst o d r:=by
 rw[uS c]at h ⊢;refine(e.symm.pairwise_iff ?_).1 h;intro a b f;rw[c.anti];omega
theorem Dst.lt (c:SO o) {l:List α} (h:Dst o d l) {i:Nat} (hi:i<l.length) (b:j<l.length) (a:i≠j) (hn:¬o (l.getD i d) (l.getD j d)<0):o (l.getD j d) (l.getD i d)<0:=by
 have h1:=h i j hi b a;rw[c.anti];omega
def uT (o:α->α->Int) (d:α) (a b:Nat) (l:List α):Prop:=∀i j,a<=i->i<j->j<b->o (l.getD i d) (l.getD j d)<0
theorem A5V (a:Nat) (l:List α):uT o d a (a+1) l:=λi j h1 b c=>by omega
theorem Zk {a b:Nat} {l r:List α} (h:uT o d a b l) (e:∀k,a<=k->k<b->r.getD k d=l.getD k d):uT o d a b r:=λi j h1 f c=>by
 rw[e i h1 O1,e j O1 c];exact h i j h1 f c
def A2X (o:α->α->Int) (d:α) (a i j:Nat) (m:List α):Prop:=(∀x y,a<=x->x<y->y<=i->x≠j->y≠j->o (m.getD x d) (m.getD y d)<0)/\∀y,j<y->y<=i->o (m.getD j d) (m.getD y d)<0
theorem qA {a i:Nat} {m:List α} (h:uT o d a i m):A2X o d a i i m:=⟨λx y h0 h1 b c e=>h x y h0 h1 O1,λy h1 b=>by omega⟩
theorem A2Y (g:SO o) {a i j:Nat} {m:List α} (h:A2X o d a i j m) (l:a<=j) (n:j<=i) (b:j=a\/o (m.getD (j-1) d) (m.getD j d)<0):uT o d a (i+1) m:=by
 intro x y h0 h1 k;by_cases c:x=j
 .subst c;exact h.2 y h1 O1
 by_cases e:y=j
 .subst e;rcases b with b|b
  .omega
  by_cases f:x=y-1
  .subst f;exact b
  exact g.trans (h.1 x (y-1) h0 O1 O1 c O1) b
 exact h.1 x y h0 h1 O1 c e
theorem zC {a i j:Nat} {m:List α} (h:A2X o d a i j m) (h0:a<j) (p:j<=i) (hi:i<m.length) (n:o (m.getD j d) (m.getD (j-1) d)<0):A2X o d a i (j-1) (jN d m j (j-1)):=by
 have f:=jO (d:=d) (l:=m) (i:=j) (j:=j-1) O1 O1;refine⟨λx y hx h1 e g k=>?_,λy h1 e=>?_⟩
 .rw[f x,f y,At g,At k];by_cases c:x=j
  .subst c;rw[BY rfl,At O1];exact h.1 (x-1) y O1 O1 e O1 O1
  rw[At c];by_cases b:y=j
  .rw[BY b];exact h.1 x (j-1) hx O1 O1 c O1
  rw[At b];exact h.1 x y hx h1 e c b
 rw[f (j-1),f y,BY rfl,At O1];by_cases b:y=j
 .rw[BY b];exact n
 rw[At b];exact h.2 y O1 e
structure PtE (o:α->α->Int) (d:α) (a b p:Nat) (m:List α):Prop where
 l:a<=p
 r:p<b
 lo:∀x,a<=x->x<p->o (m.getD x d) (m.getD p d)<0
 hi:∀x,p<x->x<b->o (m.getD p d) (m.getD x d)<0
structure Cut (o:α->α->Int) (d:α) (a0 b0 a b:Nat) (m:List α):Prop where
 s1:uT o d a0 a m
 s2:uT o d b b0 m
 c1:∀x y,a0<=x->x<a->a<=y->y<b0->o (m.getD x d) (m.getD y d)<0
 c2:∀x y,a0<=x->x<b->b<=y->y<b0->o (m.getD x d) (m.getD y d)<0
 ab:a0<=a/\a<=b/\b<=b0
theorem Cut.pin {n p a b:Nat} {m r:List α} (h:Cut o d n p a b m) (g:Zj d a b m r):Cut o d n p a b r:=by
 obtain⟨w,B,A⟩:=h.ab;have key:∀(P:α->Prop) (lo hi:Nat),lo<=a->b<=hi->(∀y,lo<=y->y<hi->P (m.getD y d))->∀y,lo<=y->y<hi->P (r.getD y d):=λP lo hi h1 q hm y c f=>by
  obtain⟨j,s,t,e⟩:=(g.mono h1 q).inn y c f;rw[e];exact hm j s t
 refine⟨Zk h.s1 λk u v=>g.out k O1,Zk h.s2 λk u v=>g.out k O1,λx y i l c f=>?_,λx y i l c f=>?_,h.ab⟩
 .rw[g.out x O1];exact key (λz=>o (m.getD x d) z<0) a p (IN _) A (λy c f=>h.c1 x y i l c f) y c f
 rw[g.out y O1];exact key (λz=>o z (m.getD y d)<0) n b w (IN _) (λx i l=>h.c2 x y i l c f) x i l
theorem Cut.done {g k a b:Nat} {m:List α} (h:Cut o d g k a b m) (hs:uT o d a b m):uT o d g k m:=by
 obtain⟨n,p,q⟩:=h.ab;intro i j h1 c e;by_cases hi:i<a
 .by_cases f:j<a
  .exact h.s1 i j h1 c f
  exact h.c1 i j h1 hi O1 e
 by_cases f:j<b
 .exact hs i j O1 c f
 by_cases l:i<b
 .exact h.c2 i j h1 l O1 e
 exact h.s2 i j O1 c e
theorem Cut.left (t:SO o) {f g a b p:Nat} {m:List α} (h:Cut o d f g a b m) (c:PtE o d a b p m) (hs:uT o d a p m):Cut o d f g (p+1) b m:=by
 obtain⟨w,z,A⟩:=h.ab;have hl:=c.l;have v:=c.r;refine⟨λi j h1 k u=>?_,h.s2,λx y n B C q=>?_,h.c2,by omega⟩
 .by_cases hi:i<a
  .by_cases e:j<a
   .exact h.s1 i j h1 k e
   exact h.c1 i j h1 hi O1 O1
  by_cases e:j=p
  .rw[e];exact c.lo i O1 O1
  exact hs i j O1 k O1
 by_cases hx:x<a
 .exact h.c1 x y n hx O1 q
 by_cases hy:y<b
 .by_cases s:x=p
  .rw[s];exact c.hi y O1 hy
  exact t.trans (c.lo x O1 O1) (c.hi y O1 hy)
 exact h.c2 x y n O1 O1 q
theorem Cut.right (w:SO o) {n a b p:Nat} {m:List α} (h:Cut o d k n a b m) (c:PtE o d a b p m) (hs:uT o d (p+1) b m):Cut o d k n a p m:=by
 obtain⟨A,B,C⟩:=h.ab;have hl:=c.l;have z:=c.r;refine⟨h.s1,λi j h1 q s=>?_,λx y e f u g=>h.c1 x y e f u g,λx y e f u g=>?_,by omega⟩
 .by_cases t:j<b
  .by_cases hi:i=p
   .rw[hi];exact c.hi j O1 t
   exact hs i j O1 q t
  by_cases v:i<b
  .exact h.c2 i j O1 v O1 s
  exact h.s2 i j O1 q s
 by_cases hy:y<b
 .by_cases hx:x<a
  .exact h.c1 x y e hx O1 g
  by_cases hyp:y=p
  .rw[hyp];exact c.lo x O1 f
  exact w.trans (c.lo x O1 f) (c.hi y O1 hy)
 exact h.c2 x y e O1 O1 g
def Bf (o:α->α->Int) (d:α) (a b:Nat) (m:List α):Prop:=a=0\/∀y,a<=y->y<b->o (m.getD (a-1) d) (m.getD y d)<0
theorem Bf.pin {a b:Nat} {m r:List α} (h:Bf o d a b m) (c:Zj d a b m r):Bf o d a b r:=by
 rcases h with h|h
 .exact .inl h
 by_cases h0:a=0
 .exact .inl h0
 right;intro y i k;rw[c.out (a-1) O1];obtain⟨j,f,g,e⟩:=c.inn y i k;rw[e];exact h j f g
theorem Bf.sub {a b c:Nat} {m:List α} (h:Bf o d a b m) (hb:c<=b):Bf o d a c m:=h.imp id λh y e f=>h y e O1
end
section
def qB:Ab:={ ins:=[T3],pre:=λ_=>True,out:=λ_=>[.p .bool false] }
attribute [local go_sem] qB
def Qf (a b:Int):Int:=if a<b then -1 else if b<a then 1 else 0
def HH:Ab:={ ins:=[T3,T3],pre:=λ_=>True,out:=λ(a,b,_)=>[.p T3 (Qf a b)] }
attribute [local go_sem] HH
def IY:Ab:={ ins:=[CK,CK],pre:=λ_=>True,out:=λ(a,b,_)=>[.p T3 (Qf (Prod.fst a) (Prod.fst b))] }
attribute [local go_sem] IY
theorem A30:Ac Tryz.prog 157 qB:=by
 refine fK [0,2] Tryz.func157 Tryz.ntmps157 AI ?_;rintro w0 O0 ⟨x,u⟩ a - -;simp only[qB,AM];repeat'(first|exact trivial|apply eS rfl|refine rX a ?_ ?_)
 exact fI a [.tmp 2]
theorem Yg:Ac Tryz.prog 150 HH:=by
 refine fK [0,1,4,5,6,11,12,13,16,19] Tryz.func150 Tryz.ntmps150 (AF A30 AI) ?_;rintro w0 O0 ⟨a,b,u⟩ c - -;simp only[HH,AM];repeat'(first|exact trivial|apply eS rfl|refine rX c ?_ ?_|refine rC ?_ ?_<;>intro d<;>try(cases d;done))
 .have e:Qf a b=-1:=BY d;exact fI c [.tmp 4] (by rw[e];exact eR)
 .have e:Qf a b=1:=by unfold Qf;rw[At O1,BY d]
  exact fI c [.tmp 4] (by rw[e];exact eR)
 have e:Qf a b=0:=by unfold Qf;rw[At O1,At O1]
 exact fI c [.tmp 4] (by rw[e];exact eR)
theorem K6:Ac Tryz.prog 130 IY:=by
 refine fK [0,1,2,3,4] Tryz.func130 Tryz.ntmps130 (AF Yg AI) ?_;rintro w0 O0 ⟨a,b,u⟩ c - -;simp only[IY,AM];repeat'(first|exact trivial|apply eS rfl|refine rX c ?_ ?_)
 exact fI c [.tmp 4]
def Ml (l:List (Int×Int)):Prop:=∀i,i+1<l.length->(l.getD i (0,0)).1<(l.getD (i+1) (0,0)).1
end
section
attribute [local go_sem] IY
def SU (a b:Int×Int):Int:=Qf a.1 b.1
theorem uU:SO SU:=⟨λa b=>by unfold SU Qf;(repeat' split)<;>omega,λ{a b c} h1 d=>by
 unfold SU Qf at *
 (repeat' split at h1)<;>(repeat' split at d)<;>(repeat' split)<;>omega⟩
theorem A5W (l:List (Int×Int)) (hl:l.length<=100000) (z:Dst SU (0,0) l) (a b:Nat) (H:a<=100000) (hb:b<=l.length):BK Tryz.prog 160 [.sr 1000000 CK 0 l.length,.p T3 (a:Int),.p T3 (b:Int),.fn 130] [(1000000,.arr 45 CK l)] [1000000] (λres F=>res=.raw (.tuple #[])/\∃r,F=[(1000000,.arr 45 CK r)]/\Zj (0,0) a b l r/\uT SU (0,0) a b r):=by
 refine NX [0,1,2,3,8,9,14,34] [] [] Tryz.func160 Tryz.ntmps160 (AF K6 AI) ?_;intro w0 K O0 ρ0 d M N;simp only[Ax];repeat'(first|exact trivial|apply eS rfl|apply AB|refine rX d ?_ ?_|refine rC ?_ ?_<;>intro e<;>try(cases e;done))
 .omega
 refine AJ (ι:={s:Nat×List (Int×Int)//a+1<=s.1/\(s.1=a+1\/s.1<=b)/\Zj (0,0) a b l s.2/\uT SU (0,0) a s.1 s.2}) (λs=>⟨[(0,.sr 1000000 CK 0 l.length),(1,.p T3 (a:Int)),(2,.p T3 (b:Int)),(3,.fn 130),(8,.p (.int .i64) (s.1.1:Int))],[(1000000,.arr 45 CK s.1.2)]⟩) (λs=>b-s.1.1) ⟨(a+1,l),IN _,.inl rfl,Zj.refl a b l,A5V a l⟩ (AD [(1000000,.nm 1000000)] rfl rfl ?_ ?_) (λs=>?_)
 .first|exact eN|refine eM ?_
 .first|exact eN|refine eM ?_
 obtain⟨⟨i,m⟩,B,C,n,hs⟩:=s;simp only at B C n hs ⊢;have L:=n.len;repeat'(first|exact trivial|apply eS rfl|apply AB|refine rX d ?_ ?_|refine rC ?_ ?_<;>intro e<;>try(cases e;done))
 .have D:i<b:=by exact eV
  refine AJ (ι:={t:Nat×List (Int×Int)//a<=t.1/\t.1<=i/\Zj (0,0) a b l t.2/\A2X SU (0,0) a i t.1 t.2}) (λt=>⟨[(0,.sr 1000000 CK 0 l.length),(1,.p T3 (a:Int)),(2,.p T3 (b:Int)),(3,.fn 130),(8,.p (.int .i64) (i:Int)),(9,.p (.int .i64) (t.1.1:Int))],[(1000000,.arr 45 CK t.1.2)]⟩) (λt=>t.1.1) ⟨(i,m),by omega,IN i,n,qA hs⟩ (AD [(1000000,.nm 1000000)] rfl rfl ?_ ?_) (λt=>?_)
  .first|exact eN|refine eM ?_
  .first|exact eN|refine eM ?_
  obtain⟨⟨j,c⟩,ha,u,g,q⟩:=t;simp only at ha u g q ⊢;have I:=g.len;have A:=z.perm uU g.perm;repeat'(first|exact trivial|apply eS rfl|apply AB|refine rX d ?_ ?_)
  .dsimp only[Ty.den]at *;exact⟨λ_=>by omega,λ_=>⟨by omega,by omega⟩,λ_=>⟨by omega,by omega⟩⟩
  have o:a<j->((j:Int)-1).toNat=j-1:=λ_=>by omega
  refine Vv (by simp only[go_sem,Nat.reduceEqDiff,reduceCtorEq,Nat.reduceAdd,Nat.reduceSub,Nat.reduceMul,Nat.reduceLeDiff,Nat.reduceLT,Int.reduceLE,Int.reduceToNat,Int.reduceNeg,↓reduceIte];rfl) ?_ ?_
  .intro f;simp only[An,ON]at f;have k:a<j:=by omega
   have v:SU (c.getD j (0,0)) (c.getD ((j:Int)-1).toNat (0,0))<0:=f.2;rw[o k]at v;have E:jN (0,0) c j (j-1)=(c.set j (c.getD (j-1) (0,0))).set (j-1) (c.getD j (0,0)):=rfl;repeat'(first|exact trivial|apply eS rfl|apply AB|refine rP d ?_ ?_|fail)
   (refine EP drawsAny d 16 [([0,1,5,6,7,8,9,10,11,12,13,14],15)] [2,3,4] (by kernel_rfl) (Pi ?_ ?_);(next=>exact oI);refine Ya d [] ?_ ?_;(next=>exact oI);refine eY d ?_ ?_ ?_;(next=>exact oI);(next=>exact oI))
   rw[o k];repeat'(first|exact trivial|apply eS rfl|apply AB|refine rX d ?_ ?_|refine rC ?_ ?_<;>intro e<;>try(cases e;done))
   .dsimp only[Ty.den]at *;omega
   refine⟨⟨(j-1,jN (0,0) c j (j-1)),by simp only;omega,by simp only;omega,g.trans (Zj.swap c O1 O1 O1 O1 O1),zC q k u O1 v⟩,by simp only;omega,AD [(1000000,.nm 1000000)] rfl rfl ?_ ?_⟩
   .simp only;rw[E];first|exact eN|refine eM ?_
   simp only;rw[show ((j-1:Nat):Int)=(j:Int)-1 by omega];first|exact eN|refine eM ?_
  intro f;have hd:j=a\/SU (c.getD (j-1) (0,0)) (c.getD j (0,0))<0:=by
   by_cases k:j=a
   .exact .inl k
   right;simp only[ABG,RT]at f;rw[o O1]at f;rcases f with h|h
   .omega
   exact A.lt uU O1 O1 O1 h
  repeat'(first|exact trivial|apply eS rfl|apply AB|refine rX d ?_ ?_|refine rC ?_ ?_<;>intro e<;>try(cases e;done))
  .exact eV
  refine⟨⟨(i+1,c),by simp only;omega,.inr D,g,A2Y uU q ha u hd⟩,by simp only;omega,AD [(1000000,.nm 1000000)] rfl rfl ?_ ?_⟩
  .first|exact eN|refine eM ?_
  first|exact eN|refine eM ?_
 have J:b<=i:=by exact eV
 exact fM d [] (.raw (.tuple #[])) rfl ⟨rfl,m,rfl,n,λx y h1 w G=>hs x y h1 w O1⟩
end
def Bd (f:List AC):Nat->List Int->Int->List Int
 | 0,o,_=>o
 | k+1,o,n=>(f.getD n.toNat (0,[])).2.foldl (λo a=>if a.2∈o then o else Bd f k o a.2) (o++[n])
def Aa (f:List AC) (k:Nat) (o:List Int) (a:Int×Int):List Int:=if a.2∈o then o else Bd f k o a.2
theorem Bx (f:List AC) (k:Nat) (o:List Int) (n:Int):Bd f (k+1) o n=(f.getD n.toNat (0,[])).2.foldl (Aa f k) (o++[n]):=rfl
structure JF (f:List AC) (o:List Int):Prop where
 nd:o.Nodup
 rng:∀x∈o,0<=x/\x<(f.length:Int)
theorem JF.len {f:List AC} {o:List Int} (h:JF f o):o.length<=f.length:=by
 have h1:(o.map Int.toNat).Nodup:=by
  rw[List.Nodup,bY];refine h.nd.imp_of_mem λ{a b} ha hb d e=>d ?_;have:=h.rng a ha;have:=h.rng b hb;omega
 have:=EI f.length (o.map Int.toNat) h1 (λj c=>by
  obtain⟨x,hx,rfl⟩:=Do.1 c;have:=h.rng x hx;omega)
 simpa using this
theorem JF.snoc {f:List AC} {o:List Int} (h:JF f o) (h0:0<=n) (h1:n<f.length) (hn:n∉o):JF f (o++[n]):=by
 refine⟨?_,λx hx=>?_⟩
 .rw[AAu];refine⟨h.nd,by simp,λa ha b hb=>?_⟩;grind
 rcases Fg.1 hx with hx|hx
 .exact h.rng x hx
 grind
theorem EB {f:List AC} {k:Nat} (g:∀(o:List Int) (n:Int),JF f o->0<=n->n<f.length->n∉o->JF f (Bd f k o n)/\o <+: Bd f k o n) :
  ∀(l:List (Int×Int)) (o:List Int),(∀a∈l,0<=a.2/\a.2<(f.length:Int))->JF f o->JF f (l.foldl (Aa f k) o)/\o <+: l.foldl (Aa f k) o
 | [],o,_,h=>⟨h,AB0 _⟩
 | a :: l,o,hl,h=>by
  simp only[RJ];have c:JF f (Aa f k o a)/\o <+: Aa f k o a:=by grind [Aa]
  obtain⟨d,e⟩:=EB g l _ (λb hb=>hl b (by simp[hb])) c.1;exact⟨d,c.2.trans e⟩
theorem Am {f:List AC} (hf:AN f) {a:Int×Int} (ha:a∈(f.getD n.toNat (0,[])).2):0<=a.2/\a.2<f.length:=by
 by_cases h:n.toNat<f.length
 .have hm:f.getD n.toNat (0,[])∈f:=by
   rw[AS,AT h];exact aT h
  exact(hf.2 _ hm).2 a ha
 grind
theorem DS {f:List AC} (hf:AN f):∀(k:Nat) (o:List Int) (n:Int),JF f o->0<=n->n<f.length->n∉o->JF f (Bd f k o n)/\o <+: Bd f k o n
 | 0,o,n,h,_,_,_=>⟨h,AB0 _⟩
 | k+1,o,n,h,h0,h1,d=>by
  obtain⟨b,c⟩:=EB (DS hf k) _ _ (λa ha=>Am hf ha) (h.snoc h0 h1 d);rw[Bx];exact⟨b,(ACx o [n]).trans c⟩
theorem IZ {f:List AC} (hf:AN f):∀(k:Nat) (o:List Int) (n:Int),JF f o->0<=n->n<f.length->n∉o->f.length-o.length<=k ->
  n∈Bd f k o n/\∀x∈Bd f k o n,x∈o\/∀a∈(f.getD x.toNat (0,[])).2,a.2∈Bd f k o n
 | 0,o,n,h,h0,h1,g,hk=>by
  have:=(h.snoc h0 h1 g).len;grind
 | k+1,o,n,h,h0,h1,g,hk=>by
  have key:∀(l:List (Int×Int)) (t:List Int),(∀a∈l,0<=a.2/\a.2<(f.length:Int))->JF f t->f.length-t.length<=k ->
    (∀a∈l,a.2∈l.foldl (Aa f k) t)/\∀x∈l.foldl (Aa f k) t,x∈t\/∀a∈(f.getD x.toNat (0,[])).2,a.2∈l.foldl (Aa f k) t:=by
   intro l;induction l with
   | nil=>exact λt _ _ _=>⟨λa ha=>(by cases ha),λx hx=>.inl hx⟩
   | cons a l p =>
    intro t hl ht j;simp only[RJ];have m:JF f (Aa f k t a)/\t <+: Aa f k t a/\a.2∈Aa f k t a/\∀x∈Aa f k t a,x∈t\/∀b∈(f.getD x.toNat (0,[])).2,b.2∈Aa f k t a:=by
     unfold Aa;split
     .grind
     rename_i hn;have q:=hl a sc;obtain⟨c,d⟩:=DS hf k t a.2 ht q.1 q.2 hn;obtain⟨e,i⟩:=IZ hf k t a.2 ht q.1 q.2 hn j;exact⟨c,d,e,i⟩
    obtain⟨c,d,e,i⟩:=m;have r:=d.length_le;obtain⟨s,u⟩:=p (Aa f k t a) (λb hb=>hl b (by simp[hb])) c O1;obtain⟨_,v⟩:=EB (DS hf k) l (Aa f k t a) (λb hb=>hl b (by simp[hb])) c;refine⟨λb hb=>?_,λx hx=>?_⟩
    .grind
    grind
  have hs:=h.snoc h0 h1 g;obtain⟨c,d⟩:=key (f.getD n.toNat (0,[])).2 (o++[n]) (λa ha=>Am hf ha) hs (by simp only[By,GO];omega);obtain⟨_,e⟩:=EB (DS hf k) (f.getD n.toNat (0,[])).2 (o++[n]) (λa ha=>Am hf ha) hs;rw[Bx];refine⟨e.subset sc,λx hx=>?_⟩;grind
def A9 (o:List Int) (x:Int):Int:=if x∈o then (o.idxOf x:Int) else 0
def FO (o:List Int) (a:Int×Int):Int×Int:=(a.1,A9 o a.2)
def CF (f:List AC) (o:List Int) (n:Int):AC:=((f.getD n.toNat (0,[])).1,(f.getD n.toNat (0,[])).2.map (FO o))
def AH (f:List AC) (root:Int):List AC:=(Bd f f.length [] root).map (CF f (Bd f f.length [] root))
def Ia (f:List AC):Prop:=∀x∈f,Ml x.2/\x.2.length<=200
theorem qC {f:List AC} (hf:Ia f) (n:Int):Ml (f.getD n.toNat (0,[])).2/\(f.getD n.toNat (0,[])).2.length<=200:=by
 by_cases h:n.toNat<f.length
 .have hm:f.getD n.toNat (0,[])∈f:=by
   rw[AS,AT h];exact aT h
  exact hf _ hm
 rw[AS,RP O1];exact⟨λi hi=>by simp at hi,by simp⟩
theorem Fs (h:Ml l):AY l=l:=by
 have key:∀i,i<=l.length->AY (l.take i)=l.take i:=by
  intro i;induction i with
  | zero=>intro _;rfl
  | succ i d =>
   intro hi;rw[Af l (0,0) O1,Hq,d O1];have b:(l.take i).length=i:=by rw[On];omega
   have c:IW (l.getD i (0,0)) (l.take i) (l.take i).length=(l.take i).length:=by
    rw[b];cases i with
    | zero=>rfl
    | succ i =>
     have h1:=h i O1;have a:(l.take (i+1)).getD i (0,0)=l.getD i (0,0):=by grind
     simp only[IW];rw[a,At O1]
   unfold PP;rw[c,RK,ABB,S6]
 have:=key l.length (IN _)
 rwa [RK]at this
structure Lf (f:List AC) (num o:List Int):Prop where
 len:num.length=f.length
 get:∀j,j<f.length->num.getD j 0=if (j:Int)∈o then (o.idxOf (j:Int):Int) else -1
theorem Lf.neg {f:List AC} {num o:List Int} (h:Lf f num o) (h0:0<=n) (h1:n<f.length):num.getD n.toNat 0<0↔n∉o:=by
 have:=h.get n.toNat O1;grind
theorem zD {o:List Int} (h:n∉o):(o++[n]).idxOf n=o.length:=by rw[ACJ,At h];simp
theorem Lf.snoc {f:List AC} {num o:List Int} (h:Lf f num o) (h0:0<=n) (h1:n<f.length) (hn:n∉o):Lf f (num.set n.toNat (o.length:Int)) (o++[n]):=by
 refine⟨by simpa using h.len,λj a=>?_⟩;have c:j<num.length:=by rw[h.len];exact a
 by_cases e:j=n.toNat
 .grind
 have en:¬(j:Int)=n:=by omega
 simp only[AS];rw[List.getElem?_set_ne (λb=>e b.symm)];have:=h.get j a;grind
theorem XK {f:List AC} (hf:AN f) (hs:Ia f):∀(k:Nat) (s:List Int×List Int) (n:Int),Lf f s.1 s.2->JF f s.2->0<=n->n<f.length->n∉s.2->(DR f k s n).2=Bd f k s.2 n/\Lf f (DR f k s n).1 (DR f k s n).2
 | 0,s,n,h,_,_,_,_=>⟨rfl,h⟩
 | k+1,s,n,h,hd,h0,h1,e=>by
  have key:∀(l:List (Int×Int)) (t:List Int×List Int),(∀a∈l,0<=a.2/\a.2<(f.length:Int))->Lf f t.1 t.2->JF f t.2->(l.foldl (EA f k) t).2=l.foldl (Aa f k) t.2/\Lf f (l.foldl (EA f k) t).1 (l.foldl (EA f k) t).2:=by
   intro l;induction l with
   | nil=>exact λt _ ht _=>⟨rfl,ht⟩
   | cons a l r =>
    intro t hl ht g;simp only[RJ];have q:=hl a sc;have m:=ht.neg q.1 q.2;have o:(EA f k t a).2=Aa f k t.2 a/\Lf f (EA f k t a).1 (EA f k t a).2/\JF f (EA f k t a).2:=by
     unfold EA Aa;by_cases hm:a.2∈t.2
     .grind
     rw[At hm,BY (by rw[m];exact hm)];obtain⟨c,d⟩:=XK hf hs k t a.2 ht g q.1 q.2 hm;exact⟨c,d,by rw[c];exact(DS hf k t.2 a.2 g q.1 q.2 hm).1⟩
    obtain⟨c,d,j⟩:=o;obtain⟨i,p⟩:=r (EA f k t a) (λb hb=>hl b (by simp[hb])) d j;rw[c]at i;exact⟨i,p⟩
  rw[Dj,Bx,Fs (qC hs n).1];exact key _ (s.1.set n.toNat (s.2.length:Int),s.2++[n]) (λa ha=>Am hf ha) (h.snoc h0 h1 e) (hd.snoc h0 h1 e)
theorem Em {f:List AC} (hf:AN f) (hs:Ia f) {root:Int} (h0:0<=root) (h1:root<f.length):E7 f root=AH f root:=by
 have h:Lf f (List.replicate f.length (-1)) []:=⟨by simp,λj g=>by simp[AS,AAz,g]⟩;have d:JF f []:=⟨by simp,λx hx=>by cases hx⟩;obtain⟨c,b⟩:=XK hf hs f.length (List.replicate f.length (-1),[]) root h d h0 h1 sc;have c:(GJ f root).2=Bd f f.length [] root:=c;have b:Lf f (GJ f root).1 (GJ f root).2:=b;have i:=(IZ hf f.length [] root d h0 h1 sc sc).2;have k:=(DS hf f.length [] root d h0 h1 sc).1;unfold E7 AH;rw[c]at b ⊢;generalize Bd f f.length [] root=o at *;refine RN λx hx=>?_;unfold Le CF;rw[Fs (qC hs x).1];refine AAv _ (RN λa ha=>?_);unfold Yf FO A9;have e:a.2∈o:=by grind
 have l:=Am hf ha;have:=b.get a.2.toNat O1;rw[show ((a.2.toNat:Nat):Int)=a.2 by omega]at this;rw[this,BY e,BY e]
def m8 (o:List Int):List (Int×Int):=(List.range o.length).map λi=>(o.getD i 0,(i:Int))
theorem jP (o:List Int) (n:Int):m8 (o++[n])=m8 o++[(n,(o.length:Int))]:=by
 unfold m8;rw[By,GO,S9,RY]
 congr 1
 .refine RN λi hi=>?_;grind
 simp[AS]
theorem zE (k:Int) (a b:List (Int×Int)):BW T3 T3 k (a++b)=(BW T3 T3 k a).or (BW T3 T3 k b):=by
 induction a with
 | nil=>rfl
 | cons x a c =>
  simp only[AB6,BW];split
  .rfl
  exact c
theorem EJ {α:Type} {p:List α->Prop} (h0:p []) (h1:∀l a,p l->p (l++[a])) (l:List α):p l:=by
 have:∀n (l:List α),l.length=n->p l:=by
  intro n;induction n with
  | zero=>intro l hl;rw[List.length_eq_zero_iff.1 hl];exact h0
  | succ n c =>
   intro l hl;have b:l≠[]:=by intro e;subst e;simp at hl
   rw[<-List.dropLast_concat_getLast b];exact h1 _ _ (c _ (by simp[hl]))
 exact this _ l rfl
theorem SV (o:List Int) (x:Int):BW T3 T3 x (m8 o)=if x∈o then some (o.idxOf x:Int) else none:=by
 induction o using EJ with
 | h0=>rfl
 | h1 o n a =>
  rw[jP,zE,a];by_cases hx:x∈o
  .grind
  grind [zD,BW,Iv]
theorem zF (k v:Int) (l:List (Int×Int)) (h:BW T3 T3 k l=none):F1 T3 T3 k v l=l++[(k,v)]:=by
 induction l with
 | nil=>rfl
 | cons x l a =>
  simp only[BW]at h;simp only[F1,AB6];split at h
  .cases h
  grind
theorem jQ {o:List Int} (hn:n∉o):F1 T3 T3 n (o.length:Int) (m8 o)=m8 (o++[n]):=by grind [zF,SV,jP]
theorem uV (o:List Int) (x:Int):(BW T3 T3 x (m8 o)).getD 0=A9 o x:=by grind [SV,A9]
theorem K7 (o:List Int) (x:Int):(BW T3 T3 x (m8 o)).isSome=decide (x∈o):=by
 rw[SV];split<;>simp[*]
def zG (l:List (Int×Int)):Prop:=l.Pairwise λa b=>a.1≠b.1
def LtA (l:List (Int×Int)):Prop:=l.Pairwise λa b=>a.1<b.1
theorem Zl (x:Int×Int) (s:List (Int×Int)):∀n,(∀j,IW x s n<=j->j<n->x.1<(s.getD j (0,0)).1)/\(IW x s n=0\/¬x.1<(s.getD (IW x s n-1) (0,0)).1)
 | 0=>⟨λj h1 a=>by omega,.inl rfl⟩
 | n+1=>by
  obtain⟨h1,a⟩:=Zl x s n;unfold IW;split
  .rename_i h;refine⟨λj b c=>?_,a⟩;by_cases e:j=n
   .rw[e];exact h
   exact h1 j b O1
  rename_i h;exact⟨λj b c=>by omega,.inr (by simpa using h)⟩
theorem A5X {s:List (Int×Int)} (hs:LtA s) {x:Int×Int} (hx:∀a∈s,a.1≠x.1):LtA (PP s x):=by
 obtain⟨h1,c⟩:=Zl x s s.length;have l:=VB x s s.length;unfold PP;generalize IW x s s.length=p at *;have d:=hs;unfold LtA at d;rw[<-ABl p s,AB2]at d;have g:∀i (h:i<s.length),s.getD i (0,0)=s[i]:=λi h=>by rw[AS,AT h];rfl
 have k:∀a∈s.take p,a.1<x.1:=by
  intro a ha;rcases c with c|c
  .subst c;simp at ha
  obtain⟨i,hi,rfl⟩:=gO.1 ha;rw[On]at hi;rw[List.getElem_take];by_cases n:p=0
  .omega
  have f:p-1<s.length:=by omega
  rw[g (p-1) f]at c;have m:=hx s[p-1] (aT f);by_cases e:i=p-1
  .subst e;omega
  have:=(RZ.1 hs) i (p-1) O1 f O1;omega
 have j:∀a∈s.drop p,x.1<a.1:=by
  intro a ha;obtain⟨i,hi,rfl⟩:=gO.1 ha;rw[aS]at hi;rw[List.getElem_drop,<-g (p+i) O1];exact h1 (p+i) O1 O1
 unfold LtA;rw[RI,AB2];refine⟨d.1,?_,λa ha b hb=>?_⟩
 .rw[List.singleton_append,S8];exact⟨j,d.2.1⟩
 rcases DO.1 (by simpa using hb:b∈x :: s.drop p) with rfl|hb
 .exact k a ha
 exact d.2.2 a ha b hb
theorem PQ (h:zG l):LtA (AY l):=by
 induction l using EJ with
 | h0=>exact List.Pairwise.nil
 | h1 l a c =>
  unfold zG at h;rw[AB2]at h;rw[Hq];exact A5X (c h.1) λb hb=>h.2.2 b ((Bb l).mem_iff.1 hb) a sc
theorem zH (d:r.Perm l) (h1:LtA r) (c:LtA l):r=l :=
 List.Perm.eq_of_pairwise (le:=λa b:Int×Int=>a.1<b.1) (λa b _ _ e f=>by omega) h1 c d
theorem uW (h:LtA l):Ml l:=by
 intro i hi;have a:∀i (h:i<l.length),l.getD i (0,0)=l[i]:=λi h=>by rw[AS,AT h];rfl
 rw[a i O1,a (i+1) hi];exact(RZ.1 h) i (i+1) O1 hi O1
theorem A31 (h:Ml l):LtA l:=by
 refine RZ.2 λi j hi f k=>?_;have c:∀i (h:i<l.length),l.getD i (0,0)=l[i]:=λi h=>by rw[AS,AT h];rfl
 have key:∀d i,i+d+1<l.length->(l.getD i (0,0)).1<(l.getD (i+d+1) (0,0)).1:=by
  intro d;induction d with
  | zero=>exact λi hi=>h i hi
  | succ d g =>
   intro i hi;have a:=g i O1;have b:=h (i+d+1) O1;have e:i+(d+1)+1=i+d+1+1:=by omega
   rw[e];omega
 have:=key (j-i-1) i O1;rw[show i+(j-i-1)+1=j by omega,c i hi,c j f]at this;exact this
theorem A8u (h:LtA l):zG l:=h.imp λg=>by omega
theorem A8v (h:zG l):Dst SU (0,0) l:=by
 rw[uS uU];refine h.imp λ{a b} g e=>g ?_;unfold SU Qf at e;split at e
 .omega
 split at e<;>omega
theorem qD (h:zG l) (c:r.Perm l) (hs:uT SU (0,0) 0 l.length r):r=AY l:=by
 refine zH (c.trans (Bb l).symm) (RZ.2 λi j hi b d=>?_) (PQ h);have a:∀i (h:i<r.length),r.getD i (0,0)=r[i]:=λi h=>by rw[AS,AT h];rfl
 have:=hs i j (OF _) d (by rw[<-c.length_eq];exact b);rw[a i hi,a j b]at this;unfold SU Qf at this;split at this
 .assumption
 split at this<;>omega
theorem Mm (h:zG l):AY (AY l)=AY l:=Fs (uW (PQ h))
def SS (l:List (Int×Int)):Prop:=l.length<=200/\(l.length<=12\/Ml l)
def NdF (f:List AC):Prop:=∀x∈f,zG x.2/\SS x.2
def De (f:List AC):List AC:=f.map λx=>(x.1,AY x.2)
theorem GK (f:List AC):(De f).length=f.length:=No _
theorem Qg (f:List AC) (n:Nat):(De f).getD n (0,[])=((f.getD n (0,[])).1,AY (f.getD n (0,[])).2):=by
 unfold De;simp only[AS,Rb];cases f[n]?<;>rfl
theorem SW {f:List AC} (h:AN f):AN (De f):=by
 refine⟨by rw[GK];exact h.1,λx hx=>?_⟩;obtain⟨y,hy,rfl⟩:=Do.1 hx;obtain⟨b,c⟩:=h.2 y hy;refine⟨by simp only[CV];exact b,λa ha=>?_⟩;rw[GK];exact c a ((Bb _).mem_iff.1 ha)
theorem A32 {f:List AC} (h:NdF f):Ia (De f):=by
 intro x hx;obtain⟨y,hy,rfl⟩:=Do.1 hx;obtain⟨a,b⟩:=h y hy;exact⟨uW (PQ a),by simp only[CV];exact b.1⟩
theorem zI {f:List AC} (h:Ia f):De f=f:=by
 unfold De
 conv=>rhs;rw[<-ACZ f]
 refine RN λx hx=>?_;rw[Fs (h x hx).1];rfl
theorem A8w {f:List AC} (h:Ia f):NdF f:=λx hx=>⟨A8u (A31 (h x hx).1),(h x hx).2,.inr (h x hx).1⟩
theorem uX {f:List AC} (hf:NdF f) (n:Int):zG (f.getD n.toNat (0,[])).2/\SS (f.getD n.toNat (0,[])).2:=by
 by_cases h:n.toNat<f.length
 .have hm:f.getD n.toNat (0,[])∈f:=by
   rw[AS,AT h];exact aT h
  exact hf _ hm
 rw[AS,RP O1];exact⟨List.Pairwise.nil,by simp,.inl sc⟩
theorem UE {f:List AC} (h:NdF f):∀(k:Nat) (s:List Int×List Int) (n:Int),DR (De f) k s n=DR f k s n
 | 0,_,_=>rfl
 | k+1,s,n=>by
  rw[Dj,Dj,Qg];simp only;rw[Mm (uX h n).1];refine AAv (λg=>List.foldl g _ _) ?_;funext s a;unfold EA;rw[UE h k s a.2]
theorem zJ {f:List AC} (h:NdF f) (r:Int):E7 (De f) r=E7 f r:=by
 have ht:GJ (De f) r=GJ f r:=by
  unfold GJ;rw[GK,UE h]
 unfold E7;rw[ht];refine RN λn _=>?_;unfold Le;rw[Qg];simp only;rw[Mm (uX h n).1]
theorem jR {f:List AC} (hf:AN f) (hn:NdF f) {root:Int} (h0:0<=root) (h1:root<f.length):E7 f root=AH (De f) root:=by
 rw[<-zJ hn];exact Em (SW hf) (A32 hn) h0 (by rw[GK];exact h1)
section
attribute [local go_sem] IY
theorem A33 (h:Ml l) {i:Nat} (c:i<j) (a:j<l.length):(l.getD i (0,0)).1<(l.getD j (0,0)).1:=by
 induction j with
 | zero=>omega
 | succ j b =>
  have h1:=h j a;by_cases e:i=j
  .rw[e];exact h1
  exact Int.lt_trans (b O1 O1) h1
theorem qE {x:Int} (h:y<x) (a:Qf x y<0):False:=by
 unfold Qf at a
 (repeat' split at a)<;>omega
def Gw (l:List (Int×Int)) (s:Nat):List (Nat×Obj):=[(1000000,.arr 45 CK l),(70,.box 3 false [.p T3 (s:Int)])]
theorem XL (l:List (Int×Int)) (g:Ml l) (a b s:Nat) (ab:a<b) (bl:b<l.length) (hs:s<=1000):BK Tryz.prog 177 [.sr 1000000 CK 0 l.length,.p T3 (a:Int),.p T3 (b:Int),.bp 70 [] 0,.fn 130] (Gw l s) [1000000,70] (λres f=>res=.tup [.p T3 (a:Int),.p T3 (b:Int)]/\f=Gw l s):=by
 refine NX [0,1,2,3,4,10,11,22] [] [] Tryz.func177 Tryz.ntmps177 (AF K6 AI) ?_;intro w0 K O0 ρ0 d i j;simp only[Ax,Gw];have h:a<l.length:=by omega
 have e:=A33 g ab bl;repeat'(first|exact trivial|apply eS rfl|apply AB|refine rX d ?_ ?_|refine rC ?_ ?_<;>intro c<;>try(cases c;done))
 .exact oI
 .exact(qE e c).elim
 .exact(qE e c).elim
 exact fM d [.tmp 10,.tmp 11] (.tup [.p T3 (a:Int),.p T3 (b:Int)]) eT ⟨rfl,rfl⟩
theorem c9 (l:List (Int×Int)) (f:Ml l) (a b c s:Nat) (ab:a<b) (g:b<c) (cl:c<l.length) (hs:s<=900):BK Tryz.prog 176 [.sr 1000000 CK 0 l.length,.p T3 (a:Int),.p T3 (b:Int),.p T3 (c:Int),.bp 70 [] 0,.fn 130] (Gw l s) [1000000,70] (λres h=>res=.p T3 (b:Int)/\h=Gw l s):=by
 refine NX [0,1,2,3,4,5,12] [] [] Tryz.func176 Tryz.ntmps176 AI ?_;intro w0 K O0 ρ0 d i j;simp only[Ax,Gw];repeat'(first|exact trivial|apply eS rfl|apply AB|refine rX d ?_ ?_|refine rC ?_ ?_<;>intro e<;>try(cases e;done))
 refine cP 5 d ?_ ?_
 .trivial
 refine rM d (XL l f a b s ab O1 O1) [(1000000,.nm 1000000),(70,.nm 70)] [] ?_ ?_ ?_
 .first|exact eN|refine eM ?_
 .simp only[Gw];first|exact eN|refine eM ?_
 rintro _ _ ⟨rfl,rfl⟩;refine⟨[(1000000,.nm 1000000),(70,.nm 70)],.tup [.p T3 (a:Int),.p T3 (b:Int)],[(1000000,.arr 45 CK l),(70,.box 3 false [.p T3 (s:Int)])],rfl,rfl,?_,?_,rfl,rfl,?_⟩
 .simp only[Gw];first|exact eN|refine eM ?_
 .first|exact eN|refine eM ?_
 refine rL d ?_ ?_
 .trivial
 repeat'(first|exact trivial|apply eS rfl|apply AB|refine rX d ?_ ?_|refine rC ?_ ?_<;>intro e<;>try(cases e;done))
 refine cP 5 d ?_ ?_
 .trivial
 refine rM d (XL l f b c s g cl O1) [(1000000,.nm 1000000),(70,.nm 70)] [] ?_ ?_ ?_
 .first|exact eN|refine eM ?_
 .simp only[Gw];first|exact eN|refine eM ?_
 rintro _ _ ⟨rfl,rfl⟩;refine⟨[(1000000,.nm 1000000),(70,.nm 70)],.tup [.p T3 (b:Int),.p T3 (c:Int)],[(1000000,.arr 45 CK l),(70,.box 3 false [.p T3 (s:Int)])],rfl,rfl,?_,?_,rfl,rfl,?_⟩
 .simp only[Gw];first|exact eN|refine eM ?_
 .first|exact eN|refine eM ?_
 refine rL d ?_ ?_
 .trivial
 repeat'(first|exact trivial|apply eS rfl|apply AB|refine rX d ?_ ?_|refine rC ?_ ?_<;>intro e<;>try(cases e;done))
 refine cP 5 d ?_ ?_
 .trivial
 refine rM d (XL l f a b s ab O1 O1) [(1000000,.nm 1000000),(70,.nm 70)] [] ?_ ?_ ?_
 .first|exact eN|refine eM ?_
 .simp only[Gw];first|exact eN|refine eM ?_
 rintro _ _ ⟨rfl,rfl⟩;refine⟨[(1000000,.nm 1000000),(70,.nm 70)],.tup [.p T3 (a:Int),.p T3 (b:Int)],[(1000000,.arr 45 CK l),(70,.box 3 false [.p T3 (s:Int)])],rfl,rfl,?_,?_,rfl,rfl,?_⟩
 .simp only[Gw];first|exact eN|refine eM ?_
 .first|exact eN|refine eM ?_
 refine rL d ?_ ?_
 .trivial
 repeat'(first|exact trivial|apply eS rfl|apply AB|refine rX d ?_ ?_|refine rC ?_ ?_<;>intro e<;>try(cases e;done))
 exact fM d [.tmp 12] (.p T3 (b:Int)) eT ⟨rfl,rfl⟩
theorem dA (l:List (Int×Int)) (e:Ml l) (b s:Nat) (f:1<=b) (bl:b+1<l.length) (hl:l.length<=100000) (hs:s<=900):BK Tryz.prog 175 [.sr 1000000 CK 0 l.length,.p T3 (b:Int),.bp 70 [] 0,.fn 130] (Gw l s) [1000000,70] (λres d=>res=.p T3 (b:Int)/\d=Gw l s):=by
 refine NX [0,1,2,3,8] [] [] Tryz.func175 Tryz.ntmps175 AI ?_;intro w0 K O0 ρ0 a g h;simp only[Ax,Gw];have key:=c9 l e (b-1) b (b+1) s O1 O1 bl hs;rw[show ((b-1:Nat):Int)=(b:Int)-1 by omega,show ((b+1:Nat):Int)=(b:Int)+1 by omega]at key;repeat'(first|exact trivial|apply eS rfl|apply AB|refine rX a ?_ ?_|refine rC ?_ ?_<;>intro c<;>try(cases c;done))
 refine cP 8 a ?_ ?_
 .exact oI
 refine rM a (key) [(1000000,.nm 1000000),(70,.nm 70)] [] ?_ ?_ ?_
 .first|exact eN|refine eM ?_
 .simp only[Gw];first|exact eN|refine eM ?_
 rintro _ _ ⟨rfl,rfl⟩;refine⟨[(1000000,.nm 1000000),(70,.nm 70)],.p T3 (b:Int),[(1000000,.arr 45 CK l),(70,.box 3 false [.p T3 (s:Int)])],rfl,rfl,?_,?_,rfl,rfl,?_⟩
 .simp only[Gw];first|exact eN|refine eM ?_
 .first|exact eN|refine eM ?_
 refine rL a ?_ ?_
 .trivial
 repeat'(first|exact trivial|apply eS rfl|apply AB|refine rX a ?_ ?_|refine rC ?_ ?_<;>intro c<;>try(cases c;done))
 exact fM a [.tmp 8] (.p T3 (b:Int)) eT ⟨rfl,rfl⟩
theorem A5Z (l:List (Int×Int)) (hl:l.length<=100000) (d:Ml l) (a b:Nat) (h:a+13<=b) (hb:b<=l.length):BK Tryz.prog 163 [.sr 1000000 CK 0 l.length,.p T3 (a:Int),.p T3 (b:Int),.fn 130] [(1000000,.arr 45 CK l)] [1000000] (λres g=>(∃j:Nat,res=.tup [.p T3 (j:Int),.p T3 (1:Int)])/\g=[(1000000,.arr 45 CK l)]):=by
 refine NX [0,1,2,3,8,9,10,11,12,13,14,34,36,55,57,60] [] [] Tryz.func163 Tryz.ntmps163 AI ?_;intro w0 K O0 ρ0 c i k;simp only[Ax];obtain⟨t,ht⟩:∃t,t=(b-a) / 4:=⟨_,rfl⟩;have et:((b:Int)-(a:Int)).tdiv 4=(t:Int):=by
  rw[ABd O1];omega
 have m:4*t<=b-a:=by omega
 have n:3<=t:=by omega
 clear ht
 (apply eS rfl;refine rX c ?_ ?_;(next=>first|exact trivial|exact oI))
 (apply eS rfl;refine rX c ?_ ?_;(next=>first|exact trivial|exact oI))
 (apply eS rfl;refine rX c ?_ ?_;(next=>first|exact trivial|exact oI))
 (apply eS rfl;refine rX c ?_ ?_;(next=>first|exact trivial|exact oI|(rw[et];refine⟨⟨by decide,?_⟩,?_,?_⟩<;>omega)))
 (apply eS rfl;refine rX c ?_ ?_;(next=>first|exact trivial|exact oI|(rw[et];refine⟨⟨by decide,?_⟩,?_,?_⟩<;>omega)))
 (apply eS rfl;refine rX c ?_ ?_;(next=>first|exact trivial|exact oI|(rw[et];refine⟨⟨by decide,?_⟩,?_,?_⟩<;>omega)))
 rw[et,show (a:Int)+(t:Int)*1=((a+t:Nat):Int) by omega,show (a:Int)+(t:Int)*2=((a+t*2:Nat):Int) by omega,show (a:Int)+(t:Int)*3=((a+t*3:Nat):Int) by omega];refine Vs ?_;refine A5k (ι:=Unit) (λ_=>⟨[(11,.bp 11 [] 0),(13,.p T3 ((a+t*2:Nat):Int))],[(1000000,.arr 45 CK l),(11,.box 3 false [.p T3 (0:Int)])]⟩) ?_ (λx=>?_)
 .repeat'(first|exact trivial|apply eS rfl|apply AB|refine rX c ?_ ?_)
  refine rC ?_ ?_<;>intro e
  .repeat'(first|exact trivial|apply eS rfl|apply AB|refine rX c ?_ ?_)
   refine rC (λf=>?_) (λf=>?_)
   .repeat'(first|exact trivial|apply eS rfl|apply AB|refine rP c ?_ ?_|fail)
    refine cP 3 c ?_ ?_
    .trivial
    refine rM c (dA l d (a+t) 0 O1 O1 hl O1) [(1000000,.nm 1000000),(70,.nm 11)] [] ?_ ?_ ?_
    .first|exact eN|refine eM ?_
    .simp only[Gw];first|exact eN|refine eM ?_
    rintro _ _ ⟨rfl,rfl⟩;refine⟨[(1000000,.nm 1000000),(11,.nm 70)],.p T3 ((a+t:Nat):Int),[(1000000,.arr 45 CK l),(11,.box 3 false [.p T3 (0:Int)])],rfl,rfl,?_,?_,rfl,rfl,?_⟩
    .simp only[Gw];first|exact eN|refine eM ?_
    .first|exact eN|refine eM ?_
    refine rL c ?_ ?_
    .trivial
    repeat'(first|exact trivial|apply eS rfl|apply AB|refine rX c ?_ ?_)
    refine cP 3 c ?_ ?_
    .trivial
    refine rM c (dA l d (a+t*2) 0 O1 O1 hl O1) [(1000000,.nm 1000000),(70,.nm 11)] [] ?_ ?_ ?_
    .first|exact eN|refine eM ?_
    .simp only[Gw];first|exact eN|refine eM ?_
    rintro _ _ ⟨rfl,rfl⟩;refine⟨[(1000000,.nm 1000000),(11,.nm 70)],.p T3 ((a+t*2:Nat):Int),[(1000000,.arr 45 CK l),(11,.box 3 false [.p T3 (0:Int)])],rfl,rfl,?_,?_,rfl,rfl,?_⟩
    .simp only[Gw];first|exact eN|refine eM ?_
    .first|exact eN|refine eM ?_
    refine rL c ?_ ?_
    .trivial
    repeat'(first|exact trivial|apply eS rfl|apply AB|refine rX c ?_ ?_)
    refine cP 3 c ?_ ?_
    .trivial
    refine rM c (dA l d (a+t*3) 0 O1 O1 hl O1) [(1000000,.nm 1000000),(70,.nm 11)] [] ?_ ?_ ?_
    .first|exact eN|refine eM ?_
    .simp only[Gw];first|exact eN|refine eM ?_
    rintro _ _ ⟨rfl,rfl⟩;refine⟨[(1000000,.nm 1000000),(11,.nm 70)],.p T3 ((a+t*3:Nat):Int),[(1000000,.arr 45 CK l),(11,.box 3 false [.p T3 (0:Int)])],rfl,rfl,?_,?_,rfl,rfl,?_⟩
    .simp only[Gw];first|exact eN|refine eM ?_
    .first|exact eN|refine eM ?_
    refine rL c ?_ ?_
    .trivial
    repeat'(first|exact trivial|apply eS rfl|apply AB|refine rX c ?_ ?_)
    refine cP 5 c ?_ ?_
    .trivial
    refine rM c (c9 l d (a+t) (a+t*2) (a+t*3) 0 O1 O1 O1 O1) [(1000000,.nm 1000000),(70,.nm 11)] [] ?_ ?_ ?_
    .first|exact eN|refine eM ?_
    .simp only[Gw];first|exact eN|refine eM ?_
    rintro _ _ ⟨rfl,rfl⟩;refine⟨[(1000000,.nm 1000000),(11,.nm 70)],.p T3 ((a+t*2:Nat):Int),[(1000000,.arr 45 CK l),(11,.box 3 false [.p T3 (0:Int)])],rfl,rfl,?_,?_,rfl,rfl,?_⟩
    .simp only[Gw];first|exact eN|refine eM ?_
    .first|exact eN|refine eM ?_
    refine rL c ?_ ?_
    .trivial
    repeat'(first|exact trivial|apply eS rfl|apply AB|refine rX c ?_ ?_)
    refine⟨(),AD [(1000000,.nm 1000000),(11,.nm 11)] rfl rfl ?_ ?_⟩
    .first|exact eN|refine eM ?_
    first|exact eN|refine eM ?_
   repeat'(first|exact trivial|apply eS rfl|apply AB|refine rP c ?_ ?_|fail)
   refine cP 5 c ?_ ?_
   .trivial
   refine rM c (c9 l d (a+t) (a+t*2) (a+t*3) 0 O1 O1 O1 O1) [(1000000,.nm 1000000),(70,.nm 11)] [] ?_ ?_ ?_
   .first|exact eN|refine eM ?_
   .simp only[Gw];first|exact eN|refine eM ?_
   rintro _ _ ⟨rfl,rfl⟩;refine⟨[(1000000,.nm 1000000),(11,.nm 70)],.p T3 ((a+t*2:Nat):Int),[(1000000,.arr 45 CK l),(11,.box 3 false [.p T3 (0:Int)])],rfl,rfl,?_,?_,rfl,rfl,?_⟩
   .simp only[Gw];first|exact eN|refine eM ?_
   .first|exact eN|refine eM ?_
   refine rL c ?_ ?_
   .trivial
   repeat'(first|exact trivial|apply eS rfl|apply AB|refine rX c ?_ ?_)
   refine⟨(),AD [(1000000,.nm 1000000),(11,.nm 11)] rfl rfl ?_ ?_⟩
   .first|exact eN|refine eM ?_
   first|exact eN|refine eM ?_
  exfalso;omega
 repeat'(first|exact trivial|apply eS rfl|apply AB|refine rX c ?_ ?_|refine rC ?_ ?_<;>intro e<;>try(cases e;done))
 refine Ev.ent (σ':=⟨[(8,.p T3 ((a+t*2:Nat):Int)),(9,.p T3 (1:Int))],[(1000000,.arr 45 CK l)]⟩) ?_ (AD [(1000000,.nm 1000000)] rfl rfl ?_ ?_)
 .exact fM c [.tmp 8,.tmp 9] (.tup [.p T3 ((a+t*2:Nat):Int),.p T3 (1:Int)]) eT ⟨⟨_,rfl⟩,rfl⟩
 .first|exact eN|refine eM ?_
 first|exact eN|refine eM ?_
theorem A60 (l:List (Int×Int)) (hl:l.length<=100000) (o:Ml l) (n0:0<l.length):BK Tryz.prog 165 [.sr 1000000 CK 0 l.length,.p T3 (0:Int),.p T3 (l.length:Int),.fn 130] [(1000000,.arr 45 CK l)] [1000000] (λres n=>res=.p .bool true/\n=[(1000000,.arr 45 CK l)]):=by
 refine NX [0,1,2,3,8,9,10,11,12,16,36,41,45,65,69,84,104,109,124] [] [] Tryz.func165 Tryz.ntmps165 (AF K6 AI) ?_;intro w0 K O0 ρ0 a r t;simp only[Ax];repeat'(first|exact trivial|apply eS rfl|apply AB|refine rX a ?_ ?_|refine rC ?_ ?_<;>intro c<;>try(cases c;done))
 .exact oI
 refine AJ (ι:=Unit) (λs=>⟨[(0,.sr 1000000 CK 0 l.length),(1,.p T3 (0:Int)),(2,.p T3 (l.length:Int)),(3,.fn 130),(9,.p (.int .i64) (1:Int)),(10,.p (.int .i64) (0:Int))],[(1000000,.arr 45 CK l)]⟩) (λs=>0) () (AD [(1000000,.nm 1000000)] rfl rfl ?_ ?_) (λs=>?_)
 .first|exact eN|refine eM ?_
 .first|exact eN|refine eM ?_
  rfl
 repeat'(first|exact trivial|apply eS rfl|apply AB|refine rX a ?_ ?_)
 refine rC ?_ ?_<;>intro c
 .repeat'(first|exact trivial|apply eS rfl|apply AB|refine rX a ?_ ?_)
  refine AJ (ι:={k:Nat//1<=k/\k<=l.length}) (λs=>⟨[(0,.sr 1000000 CK 0 l.length),(1,.p T3 (0:Int)),(2,.p T3 (l.length:Int)),(3,.fn 130),(9,.p (.int .i64) (s.1:Int)),(10,.p (.int .i64) (0:Int))],[(1000000,.arr 45 CK l)]⟩) (λs=>l.length-s.1) ⟨1,IN _,n0⟩ (AD [(1000000,.nm 1000000)] rfl rfl ?_ ?_) (λs=>?_)
  .first|exact eN|refine eM ?_
  .first|exact eN|refine eM ?_
   rfl
  obtain⟨k,e,f⟩:=s;simp only at e f ⊢;have d:((k:Int)-1).toNat=k-1:=by omega
  repeat'(first|exact trivial|apply eS rfl|apply AB|refine rX a ?_ ?_)
  .dsimp only[Ty.den];exact⟨λ_=>by omega,λ_=>by omega,λ_=>by omega⟩
  refine Vv (by simp only[go_sem,Nat.reduceEqDiff,reduceCtorEq,Nat.reduceAdd,Nat.reduceSub,Nat.reduceMul,Nat.reduceLeDiff,Nat.reduceLT,Int.reduceLE,Int.reduceToNat,Int.reduceNeg,↓reduceIte];rfl) ?_ ?_
  .intro b;simp only[An,ON,RQ,RT]at b;obtain⟨h1,q⟩:=b;repeat'(first|exact trivial|apply eS rfl|apply AB|refine rX a ?_ ?_)
   .exact oI
   refine⟨⟨k+1,by omega,by omega⟩,by simp only;omega,AD [(1000000,.nm 1000000)] rfl rfl ?_ ?_⟩
   .first|exact eN|refine eM ?_
   first|exact eN|refine eM ?_
  intro b;rw[d]at b;have g:k=l.length:=by
   refine IS λhn=>?_;have m:=A33 o (i:=k-1) (j:=k) O1 O1;simp only[ABG,RT,ABT,ON]at b;rcases b with h|h
   .omega
   exact qE m h
  subst g;clear b;repeat'(first|exact trivial|apply eS rfl|apply AB|refine rX a ?_ ?_|refine rC ?_ ?_<;>intro c<;>try(cases c;done))
  exact fM a [.tmp 8] (.p .bool true) eT ⟨rfl,rfl⟩
 exfalso;simp at c
theorem A61 (l:List (Int×Int)) (hl:l.length<=200) (nd:zG l) (u:l.length<=12\/Ml l) (c:Int) (m:13<=l.length->c≠0):BK Tryz.prog 155 [.sr 1000000 CK 0 l.length,.p T3 (0:Int),.p T3 (l.length:Int),.p T3 c,.fn 130] [(1000000,.arr 45 CK l)] [1000000] (λres t=>res=.raw (.tuple #[])/\t=[(1000000,.arr 45 CK (AY l))]):=by
 refine NX [0,1,2,3,4,10,11,12,13,14,15,16,17,18,19,20,25,32,39,56,75,80,97,125] [] [] Tryz.func155 Tryz.ntmps155 AI ?_;intro w0 K O0 ρ0 a v w;simp only[Ax];repeat'(first|exact trivial|apply eS rfl|apply AB|refine rX a ?_ ?_)
 refine AJ (ι:=Unit) (λs=>⟨[(0,.sr 1000000 CK 0 l.length),(1,.p T3 (0:Int)),(2,.p T3 (l.length:Int)),(3,.p T3 c),(4,.fn 130),(10,.p .bool true),(11,.p .bool true)],[(1000000,.arr 45 CK l)]⟩) (λs=>0) () (AD [(1000000,.nm 1000000)] rfl rfl ?_ ?_) (λs=>?_)
 .first|exact eN|refine eM ?_
 .first|exact eN|refine eM ?_
 repeat'(first|exact trivial|apply eS rfl|apply AB|refine rX a ?_ ?_)
 .exact oI
 refine rC ?_ ?_<;>intro b
 .have key:=A5W l O1 (A8v nd) 0 l.length O1 (IN _);rw[show ((0:Nat):Int)=0 from rfl]at key;repeat'(first|exact trivial|apply eS rfl|apply AB|refine rX a ?_ ?_)
  refine cP 4 a ?_ ?_
  .trivial
  refine rM a (key) [(1000000,.nm 1000000)] [] ?_ ?_ ?_
  .first|exact eN|refine eM ?_
  .first|exact eN|refine eM ?_
  rintro _ _ ⟨rfl,r,rfl,n,o⟩;have h:=qD nd n.perm o;subst h;have x:=CV l;refine⟨[(1000000,.nm 1000000)],.raw (.tuple #[]),[(1000000,.arr 45 CK (AY l))],rfl,rfl,?_,?_,rfl,rfl,C4 ?_⟩
  .first|exact eN|refine eM ?_
  .first|exact eN|refine eM ?_
  repeat'(first|exact trivial|apply eS rfl|apply AB|refine rX a ?_ ?_|refine rC ?_ ?_<;>intro b<;>try(cases b;done))
  exact fM a [] (.raw (.tuple #[])) rfl ⟨rfl,rfl⟩
 have i:13<=l.length:=by omega
 have hs:Ml l:=u.resolve_left O1;have k:=m i;rw[Fs hs];repeat'(first|exact trivial|apply eS rfl|apply AB|refine rX a ?_ ?_)
 refine rC (λd=>?_) (λd=>?_)
 .exact absurd d k
 have key:=A5Z l O1 hs 0 l.length O1 (IN _);rw[show ((0:Nat):Int)=0 from rfl]at key;have q:=A60 l O1 hs O1;repeat'(first|exact trivial|apply eS rfl|apply AB|refine rX a ?_ ?_)
 refine rC (λe=>?_) (λe=>?_)
 .cases e
 repeat'(first|exact trivial|apply eS rfl|apply AB|refine rX a ?_ ?_)
 refine cP 4 a ?_ ?_
 .trivial
 refine rM a (key) [(1000000,.nm 1000000)] [] ?_ ?_ ?_
 .first|exact eN|refine eM ?_
 .first|exact eN|refine eM ?_
 rintro _ _ ⟨⟨j,rfl⟩,rfl⟩;refine⟨[(1000000,.nm 1000000)],.tup [.p T3 (j:Int),.p T3 (1:Int)],[(1000000,.arr 45 CK l)],rfl,rfl,?_,?_,rfl,rfl,?_⟩
 .first|exact eN|refine eM ?_
 .first|exact eN|refine eM ?_
 refine rL a ?_ ?_
 .trivial
 repeat'(first|exact trivial|apply eS rfl|apply AB|refine rX a ?_ ?_)
 refine rC (λf=>?_) (λf=>?_)
 .exact absurd f dc
 repeat'(first|exact trivial|apply eS rfl|apply AB|refine rX a ?_ ?_)
 refine rC (λg=>?_) (λg=>?_)
 .repeat'(first|exact trivial|apply eS rfl|apply AB|refine rX a ?_ ?_)
  refine cP 4 a ?_ ?_
  .trivial
  refine rM a (q) [(1000000,.nm 1000000)] [] ?_ ?_ ?_
  .first|exact eN|refine eM ?_
  .first|exact eN|refine eM ?_
  rintro _ _ ⟨rfl,rfl⟩;refine⟨[(1000000,.nm 1000000)],.p .bool true,[(1000000,.arr 45 CK l)],rfl,rfl,?_,?_,rfl,rfl,C4 ?_⟩
  .first|exact eN|refine eM ?_
  .first|exact eN|refine eM ?_
  repeat'(first|exact trivial|apply eS rfl|apply AB|refine rX a ?_ ?_|refine rC ?_ ?_<;>intro b<;>try(cases b;done))
  exact fM a [] (.raw (.tuple #[])) rfl ⟨rfl,rfl⟩
 exact absurd g dc
end
theorem Qh {L:Go.Loop} (h1:L.state=.ready) (a:L.pending=none):{ { L with state:=.busy } with state:=.ready,pending:=none }=L:=by
 cases L;simp_all
theorem Zm (l:List (Int×Int)):BK Tryz.prog 129 [.p Cl l] [] [] (λres b=>res=.clo 149 [1]/\b=[(1,.box 46 false [.p Cl l])]):=by
 refine NX [0,1,2] [] [] Tryz.func129 Tryz.ntmps129 AI ?_;intro w0 K O0 ρ0 a c d;simp only[Ax];repeat'(first|exact trivial|apply eS rfl|refine rX a ?_ ?_)
 exact fM a [.tmp 2] (.clo 149 [1]) eT ⟨rfl,rfl⟩
def CR (l:List (Int×Int)) (L:Go.Loop) (a:Array Value) (i:Nat):List (Nat×Obj):=[(1,.box 46 false [.p Cl l]),(101,.loop L),(102,.frame a [(2,.bp 2 [] 0),(6,.clo 149 [1])]),(2,.box 46 false [.sr 7 CK 0 i]),(7,.arr 45 CK (l.take i))]
theorem qF (l:List (Int×Int)) (hl:l.length<=100000) (L:Go.Loop) (b:Array Value) (f:∀i,i<l.length->WN Tryz.prog 101 [.p CK (l.getD i (0,0))] (CR l L b i) [1,101,102,2] (λres e=>res=.p .bool true/\e=CR l L b (i+1))) :
  BK Tryz.prog 149 [.yl 101,.bp 1 [] 0] (CR l L b 0) [1,101,102,2] (λres e=>res=.raw (.tuple #[])/\e=CR l L b l.length):=by
 refine NX [0,1,4,5,6,7,8,14] [] [] Tryz.func149 Tryz.ntmps149 AI ?_;intro w0 K O0 ρ0 a g h;simp only[Ax,CR];repeat'(first|exact trivial|apply eS rfl|refine rX a ?_ ?_)
 refine AJ (ι:={i:Nat//i<=l.length}) (λi=>⟨[(0,.yl 101),(1,.bp 1 [] 0),(5,.p Cl l),(6,.p (.int .i64) (l.length:Int)),(7,.p (.int .i64) (i.1:Int))],CR l L b i.1⟩) (λi=>l.length-i.1) ⟨0,by omega⟩ (AD [(1,.nm 1),(101,.nm 101),(102,.nm 102),(2,.nm 2),(7,.nm 7)] rfl rfl ?_ ?_) (λi=>?_)
 .simp only[CR];exact eN
 .exact eN
 obtain⟨i,hi⟩:=i;simp only[CR];repeat'(first|exact trivial|apply eS rfl|refine rX a ?_ ?_|refine rC ?_ ?_<;>intro c<;>try(cases c;done))
 .exact eV
 .have d:i<l.length:=by exact eV
  refine cP 2 a ?_ ?_
  .trivial
  refine rY 101 101 a (f i d) [(1,.nm 1),(101,.nm 101),(102,.nm 102),(2,.nm 2),(7,.nm 7)] [7] ?_ ?_ ?_
  .exact eN
  .simp only[CR];exact eN
  rintro _ _ ⟨rfl,rfl⟩;refine⟨[(1,.nm 1),(101,.nm 101),(102,.nm 102),(2,.nm 2),(7,.nm 7)],.p .bool true,CR l L b (i+1),rfl,rfl,?_,?_,rfl,rfl,?_⟩
  .simp only[CR];exact eN
  .exact eN
  simp only[CR];refine HA [0,1,5,6,7,14] a (by simp only[go_sem,Nat.reduceEqDiff,reduceCtorEq,Nat.reduceAdd,Nat.reduceSub,Nat.reduceMul,Nat.reduceLeDiff,Nat.reduceLT,Int.reduceLE,Int.reduceToNat,Int.reduceNeg,↓reduceIte];rfl) ?_ ?_
  .trivial
  repeat'(first|apply eS rfl|apply AB|refine rX a ?_ ?_|refine rC ?_ ?_<;>intro c<;>try(cases c;done))
  .exact eV
  refine⟨⟨i+1,by omega⟩,by simp only;omega,AD [(1,.nm 1),(101,.nm 101),(102,.nm 102),(2,.nm 2),(7,.nm 7)] rfl rfl ?_ ?_⟩
  .simp only[CR];exact eN
  exact eN
 have d:i=l.length:=by exact eV
 subst d;refine fM a [] (.raw (.tuple #[])) rfl ⟨rfl,?_⟩;simp only[CR,RK]
theorem dB (l:List (Int×Int)) (hl:l.length<=100000):BK Tryz.prog 154 [.raw (.slice none 0 0),.clo 149 [1]] [(1,.box 46 false [.p Cl l])] [] (λres n=>res=.sr 7 CK 0 l.length/\n=[(7,.arr 45 CK l)]):=by
 refine fKR [0,1,2,4,5,6,7] [] [] Tryz.func154 Tryz.ntmps154 AI ?_;intro w0 K O0 ρ0 a r s;simp only[Ax];repeat'(first|exact trivial|apply eS rfl|refine rX a ?_ ?_)
 refine WP a rfl rfl (by simp only[go_sem,Nat.reduceEqDiff,reduceCtorEq,Nat.reduceAdd,Nat.reduceSub,Nat.reduceMul,Nat.reduceLeDiff,Nat.reduceLT,Int.reduceLE,Int.reduceToNat,Int.reduceNeg,↓reduceIte];rfl) 101 103 102 rfl rfl rfl rfl ?_;intro L c d f g h j k m;refine⟨_,CR l L c 0,[1,101,102,2],_,[(1,.nm 1),(101,.nm 101),(102,.nm 102),(2,.nm 2),(7,.nil)],[],qF l hl L c ?_,rfl,rfl,?_,?_,rfl,?_⟩
 .intro i hi;refine WO (fr:=102) rfl rfl d h j k g m rfl (by kernel_rfl) sc rfl rfl (by kernel_rfl) (by kernel_rfl) (tyTab_ok [] [0,1,2,4,5,6,7]) AI ?_;intro v o q w lb a t u hb;simp only[CR,HQ];repeat'(first|exact trivial|apply AB|refine rX a ?_ ?_)
  refine⟨rfl,?_⟩;repeat'(first|apply eS rfl|refine rX a ?_ ?_)
  .simp only[AQ];omega
  have e:List.take i (List.take i l)++[((l.getD i (0,0)).1,(l.getD i (0,0)).2)]=l.take (i+1):=by
   rw[Af l (0,0) hi,As (Nat.le_of_eq (by rw[On];omega):(l.take i).length<=i)]
  refine Ev.ent (σ':=⟨[],[(1,.box 46 false [.p Cl l]),(101,.loop { L with state:=.busy }),(102,.frame c [(2,.bp 2 [] 0),(6,.clo 149 [1])]),(2,.box 46 false [.sr 7 CK 0 (i+1)]),(7,.arr 45 CK (l.take (i+1)))]⟩) ?_ (AD [(1,.nm 1),(101,.nm 101),(102,.nm 102),(2,.nm 2),(7,.nm 7)] rfl rfl ?_ ?_)
  .refine NW a (yn:=101) rfl rfl sc hb ⟨rfl,?_⟩;simp only[CR,go_sem,Nat.reduceEqDiff,reduceCtorEq,Nat.reduceAdd,Nat.reduceSub,Nat.reduceMul,Nat.reduceLeDiff,Nat.reduceLT,Int.reduceLE,Int.reduceToNat,Int.reduceNeg,↓reduceIte,Qh d f]
  .refine eM ?_;exact e
  exact eN
 .simp only[BD];exact eN
 .simp only[BD,CR];exact eN
 rintro _ _ ⟨rfl,rfl⟩;refine⟨[(1,.nm 1),(101,.nm 101),(102,.nm 102),(2,.nm 2),(7,.nm 7)],CR l L c l.length,L,rfl,rfl,?_,rfl,rfl,rfl,by rw[d];rfl,?_⟩
 .simp only[CR];exact eN
 intro b;rw[f];simp only[EvJ,CR,BD,go_sem,Nat.reduceEqDiff,reduceCtorEq,Nat.reduceAdd,Nat.reduceSub,Nat.reduceMul,Nat.reduceLeDiff,Nat.reduceLT,Int.reduceLE,Int.reduceToNat,Int.reduceNeg,↓reduceIte];replace a:=Hy (dn:=103) (b:=b) a;repeat'(first|exact trivial|apply eS rfl|refine rX a ?_ ?_)
 refine Ev.ent (σ':=⟨[(4,.sr 7 CK 0 l.length)],[(7,.arr 45 CK l),(103,.dfr)]⟩) ?_ (AD [(7,.nm 7),(103,.nm 103)] rfl rfl ?_ ?_)
 .exact J3 a [.tmp 4] rfl (.inl rfl) rfl rfl (.sr 7 CK 0 l.length) eT ⟨rfl,by simp only[go_sem,Nat.reduceEqDiff,reduceCtorEq,Nat.reduceAdd,Nat.reduceSub,Nat.reduceMul,Nat.reduceLeDiff,Nat.reduceLT,Int.reduceLE,Int.reduceToNat,Int.reduceNeg,↓reduceIte]⟩
 .exact eN
 exact eN
theorem qG (l:List (Int×Int)) (hl:l.length<=100000):BK Tryz.prog 147 [.clo 149 [1]] [(1,.box 46 false [.p Cl l])] [] (λres b=>res=.sr 7 CK 0 l.length/\b=[(7,.arr 45 CK l)]):=by
 refine NX [0,2] [] [] Tryz.func147 Tryz.ntmps147 AI ?_;intro w0 K O0 ρ0 a c d;simp only[Ax];repeat'(first|exact trivial|apply eS rfl|refine rX a ?_ ?_)
 refine cP 1 a ?_ ?_
 .trivial
 refine rM a (dB l hl) [(1,.nm 1)] [1] ?_ ?_ ?_
 .exact eN
 .exact eN
 rintro _ _ ⟨rfl,rfl⟩;refine⟨[(7,.nm 7)],.sr 7 CK 0 l.length,[(7,.arr 45 CK l)],rfl,rfl,?_,?_,rfl,rfl,?_⟩
 .exact eN
 .exact eN
 refine HA [2] a (by simp only[go_sem,Nat.reduceEqDiff,reduceCtorEq,Nat.reduceAdd,Nat.reduceSub,Nat.reduceMul,Nat.reduceLeDiff,Nat.reduceLT,Int.reduceLE,Int.reduceToNat,Int.reduceNeg,↓reduceIte];rfl) ?_ ?_
 .trivial
 repeat' apply eS rfl
 exact fM a [.tmp 2] (.sr 7 CK 0 l.length) eT ⟨rfl,rfl⟩
theorem A34 (x:Int) (h0:0<=x) (h1:x<256):BK Tryz.prog 169 [.p (.int .u64) x] [] [] (λres g=>(∃n:Int,res=.p T3 n/\(13<=x->n≠0))/\g=[]):=by
 refine NX [0,2,4,8,14] [] [] Tryz.func169 Tryz.ntmps169 AI ?_;intro w0 K O0 ρ0 a i j;simp only[Ax];repeat'(first|exact trivial|apply eS rfl|refine rX a ?_ ?_|refine rC ?_ ?_<;>intro b<;>try(cases b;done))
 all_goals first|(exfalso;omega)|skip
 refine MM [0,2] a rfl (by simp only[go_sem,Nat.reduceEqDiff,reduceCtorEq,Nat.reduceAdd,Nat.reduceSub,Nat.reduceMul,Nat.reduceLeDiff,Nat.reduceLT,Int.reduceLE,Int.reduceToNat,Int.reduceNeg,↓reduceIte,ByteArray.size,List.size_toArray,AQ];rfl) ?_ ?_
 .have hu:∀u:UInt8,((u.toNat:Nat):Int)<=255:=λu=>by have:=u.toNat_lt;omega
  refine⟨⟨h0,by omega⟩,⟨h0,?_⟩,⟨?_,?_⟩,?_,?_⟩
  .have c:x<((256:Nat):Int):=h1;exact c
  .exact AB5 dc (AB4 _)
  .exact AB5 (hu _) dc
  .rw[Int.zero_add];exact AB5 dc (AB4 _)
  rw[Int.zero_add];exact AB5 (hu _) dc
 repeat' apply eS rfl
 refine fM a [.tmp 2] (.p T3 _) (by simp only[Tk,xV,Rz,Y5,Jx,Km,JW,go_sem,Nat.reduceEqDiff,reduceCtorEq,Nat.reduceAdd,Nat.reduceSub,Nat.reduceMul,Nat.reduceLeDiff,Nat.reduceLT,Int.reduceLE,Int.reduceToNat,Int.reduceNeg,↓reduceIte];rfl) ⟨⟨_,rfl,λh=>?_⟩,rfl⟩;rw[Int.zero_add];intro e;replace e:=ACo e;have d:x.toNat<256:=by omega
 have f:13<=x.toNat:=by omega
 generalize x.toNat=k at *;clear b;exact absurd e (by
  clear e;revert f;revert d;revert k;decide)
theorem A8x (x:Int) (h0:0<=x) (h1:x<256):BK Tryz.prog 156 [.p (.int .u64) x] [] [] (λres d=>(∃n:Int,res=.p T3 n/\(13<=x->n≠0))/\d=[]):=by
 refine NX [0,2] [] [] Tryz.func156 Tryz.ntmps156 AI ?_;intro w0 K O0 ρ0 a e f;simp only[Ax];repeat'(first|exact trivial|apply eS rfl|refine rX a ?_ ?_|refine rC ?_ ?_<;>intro b<;>try(cases b;done))
 refine cP 1 a ?_ ?_
 .trivial
 refine rM a (A34 x h0 h1) [] [] ?_ ?_ ?_
 .exact eN
 .exact eN
 rintro _ _ ⟨⟨n,rfl,c⟩,rfl⟩;refine⟨[],.p T3 n,[],rfl,rfl,?_,?_,rfl,rfl,?_⟩
 .exact eN
 .exact eN
 refine HA [2] a (by simp only[go_sem,Nat.reduceEqDiff,reduceCtorEq,Nat.reduceAdd,Nat.reduceSub,Nat.reduceMul,Nat.reduceLeDiff,Nat.reduceLT,Int.reduceLE,Int.reduceToNat,Int.reduceNeg,↓reduceIte];rfl) ?_ ?_
 .trivial
 repeat' apply eS rfl
 exact fM a [.tmp 2] (.p T3 n) eT ⟨⟨_,rfl,c⟩,rfl⟩
theorem jS (l:List (Int×Int)) (hl:SS l) (hs:zG l):BK Tryz.prog 148 [.sr 1000000 CK 0 l.length,.fn 130] [(1000000,.arr 45 CK l)] [1000000] (λres d=>res=.raw (.tuple #[])/\d=[(1000000,.arr 45 CK (AY l))]):=by
 have e:=hl.1;refine NX [0,1,4] [] [] Tryz.func148 Tryz.ntmps148 AI ?_;intro w0 K O0 ρ0 a f g;simp only[Ax];repeat'(first|exact trivial|apply eS rfl|refine rX a ?_ ?_)
 refine cP 4 a ?_ ?_
 .exact eV
 refine rM a (A8x (l.length:Int) O1 O1) [] [] ?_ ?_ ?_
 .exact eN
 .exact eN
 rintro _ _ ⟨⟨n,rfl,c⟩,rfl⟩;refine⟨[],.p T3 n,[],rfl,rfl,?_,?_,rfl,rfl,?_⟩
 .exact eN
 .exact eN
 have key:=A61 l hl.1 hs hl.2 n λq=>c O1;refine NT a 1 (by simp only[go_sem,Nat.reduceEqDiff,reduceCtorEq,Nat.reduceAdd,Nat.reduceSub,Nat.reduceMul,Nat.reduceLeDiff,Nat.reduceLT,Int.reduceLE,Int.reduceToNat,Int.reduceNeg,↓reduceIte];rfl) ?_ ?_
 .trivial
 refine rM a (key) [(1000000,.nm 1000000)] [] ?_ ?_ ?_
 .exact eN
 .exact eN
 rintro _ _ ⟨rfl,rfl⟩;have h:=CV l;refine⟨[(1000000,.nm 1000000)],.raw (.tuple #[]),[(1000000,.arr 45 CK (AY l))],rfl,rfl,?_,?_,rfl,rfl,C4 ?_⟩
 .exact eN
 .exact eN
 repeat'(first|exact trivial|apply eS rfl|apply AB|refine rX a ?_ ?_|refine rC ?_ ?_<;>intro b<;>try(cases b;done))
 exact fM a [] (.raw (.tuple #[])) rfl ⟨rfl,rfl⟩
theorem OV (l:List (Int×Int)) (hl:SS l) (hs:zG l):BK Tryz.prog 128 [.clo 149 [1],.fn 130] [(1,.box 46 false [.p Cl l])] [] (λres b=>res=.sr 7 CK 0 l.length/\b=[(7,.arr 45 CK (AY l))]):=by
 have f:=CV l;have c:=hl.1;refine NX [0,1,4,5] [] [] Tryz.func128 Tryz.ntmps128 AI ?_;intro w0 K O0 ρ0 a d e;simp only[Ax];repeat'(first|exact trivial|apply eS rfl|refine rX a ?_ ?_)
 refine cP 1 a ?_ ?_
 .trivial
 refine rM a (qG l O1) [(1,.nm 1)] [1] ?_ ?_ ?_
 .exact eN
 .exact eN
 rintro _ _ ⟨rfl,rfl⟩;refine⟨[(1000000,.nm 7)],.sr 1000000 CK 0 l.length,[(1000000,.arr 45 CK l)],rfl,rfl,?_,?_,rfl,rfl,?_⟩
 .exact eN
 .exact eN
 refine HA [1,5] a (by simp only[go_sem,Nat.reduceEqDiff,reduceCtorEq,Nat.reduceAdd,Nat.reduceSub,Nat.reduceMul,Nat.reduceLeDiff,Nat.reduceLT,Int.reduceLE,Int.reduceToNat,Int.reduceNeg,↓reduceIte];rfl) ?_ ?_
 .trivial
 repeat' apply eS rfl
 refine cP 2 a ?_ ?_
 .trivial
 refine rM a (jS l hl hs) [(1000000,.nm 1000000)] [] ?_ ?_ ?_
 .exact eN
 .exact eN
 rintro _ _ ⟨rfl,rfl⟩;refine⟨[(1000000,.nm 1000000)],.raw (.tuple #[]),[(1000000,.arr 45 CK (AY l))],rfl,rfl,?_,?_,rfl,rfl,C4 ?_⟩
 .exact eN
 .exact eN
 repeat'(first|exact trivial|apply eS rfl|refine rX a ?_ ?_)
 refine Ev.ent (σ':=⟨[(4,.sr 7 CK 0 l.length)],[(7,.arr 45 CK (AY l))]⟩) ?_ (AD [(7,.nm 1000000)] rfl rfl ?_ ?_)
 .exact fM a [.tmp 4] (.sr 7 CK 0 l.length) eT ⟨rfl,rfl⟩
 .exact eN
 exact eN
def Lg (f:List AC) (o:List Int):List (Nat×Obj):=[(1,.box 51 false [.sr 5 T3 0 o.length]),(2,.box 118 false [.mp 6]),(3,.box 25 true [.p Eg f]),(4,.box 119 false [.clo 127 [1,2,3,4]]),(5,.arr 3 T3 o),(6,.mapo T3 T3 (m8 o))]
theorem AA4 {f:List AC} {o:List Int} (h:JF f o):JF (De f) o:=⟨h.nd,λx hx=>by rw[GK];exact h.rng x hx⟩
theorem A7g {f:List AC} {o:List Int} (h:JF (De f) o):JF f o:=⟨h.nd,λx hx=>by have:=h.rng x hx;rwa [GK]at this⟩
theorem zK (f:List AC) (hf:AN f) (hs:NdF f):∀(k:Nat) (o:List Int) (n:Int),JF f o->0<=n->n<f.length->n∉o->f.length-o.length<=k ->
  BK Tryz.prog 127 [.p T3 n,.bp 1 [] 0,.bp 2 [] 0,.bp 3 [] 0,.bp 4 [] 0] (Lg f o) [1,2,3,4,6] (λres P=>res=.raw (.tuple #[])/\P=Lg f (Bd (De f) k o n)):=by
 intro k;induction k with
 | zero =>
  intro o n h0 h1 B C Q;have:=(h0.snoc h1 B C).len;simp only[By,GO]at this;omega
 | succ k O =>
  intro o n hd u v w hk;have t:=hd.snoc u v w;have H:=t.len;simp only[By,GO]at H;have R:=hf.1;refine NX [0,1,2,3,4,7,9,25,26,27,28,39] [] [] Tryz.func127 Tryz.ntmps127 AI ?_;intro w0 K O0 ρ0 b T U;simp only[Lg,Ax];repeat'(first|exact trivial|apply eS rfl|refine rX b ?_ ?_)
  .simp only[AQ];omega
  rw[jQ w];obtain⟨N,A⟩:=uX hs n;have S:=A.1;have s:=λa (ha:a∈AY (f.getD n.toNat (0,[])).2)=>Am hf ((Bb _).mem_iff.1 ha);have F:Bd (De f) (k+1) o n=(AY (f.getD n.toNat (0,[])).2).foldl (Aa (De f) k) (o++[n]):=by rw[Bx,Qg]
  have E:=AA4 (f:=f) t;refine cP 6 b ?_ ?_
  .exact⟨u,v⟩
  generalize (f.getD n.toNat (0,[])).2=g at *;refine rM b (Zm g) [] [] ?_ ?_ ?_
  .exact eN
  .exact eN
  rintro _ _ ⟨rfl,rfl⟩;refine⟨[(50,.nm 1)],.clo 149 [50],[(50,.box 46 false [.p Cl g])],rfl,rfl,?_,?_,rfl,rfl,?_⟩
  .exact eN
  .exact eN
  refine rM b (OV g A N) [(1,.nm 50)] [50] ?_ ?_ ?_
  .exact eN
  .exact eN
  rintro _ _ ⟨rfl,rfl⟩;have D:=CV g;rw[<-D];generalize AY g=L at *;refine⟨[(51,.nm 7)],.sr 51 CK 0 L.length,[(51,.arr 45 CK L)],rfl,rfl,?_,?_,rfl,rfl,?_⟩
  .exact eN
  .exact eN
  refine HA [0,1,2,3,4,25,26,27] b (by simp only[go_sem,Nat.reduceEqDiff,reduceCtorEq,Nat.reduceAdd,Nat.reduceSub,Nat.reduceMul,Nat.reduceLeDiff,Nat.reduceLT,Int.reduceLE,Int.reduceToNat,Int.reduceNeg,↓reduceIte];rfl) ?_ ?_
  .trivial
  have M:∀i,JF (De f) ((L.take i).foldl (Aa (De f) k) (o++[n]))/\o++[n] <+: (L.take i).foldl (Aa (De f) k) (o++[n]):=λi=>EB (DS (SW hf) k) _ _ (λa ha=>by rw[GK];exact s a (TO ha)) E;generalize I:o++[n]=q at *;have J:q.length=o.length+1:=by rw[<-I];simp
  rw[<-J];repeat' apply eS rfl
  refine AJ (ι:={i:Nat//i<=L.length}) (λi=>⟨[(0,.p T3 n),(1,.bp 1 [] 0),(2,.bp 2 [] 0),(3,.bp 3 [] 0),(4,.bp 4 [] 0),(25,.p Cl L),(26,.p (.int .i64) (L.length:Int)),(27,.p (.int .i64) (i.1:Int))],Lg f ((L.take i.1).foldl (Aa (De f) k) q)⟩) (λi=>L.length-i.1) ⟨0,by omega⟩ (A9E [51] (AD [(1,.nm 1),(2,.nm 2),(3,.nm 3),(4,.nm 4),(5,.nm 5),(6,.nm 6)] rfl rfl ?_ ?_)) (λi=>?_)
  .simp only[Lg,AAG,AC1];exact eN
  .exact eN
  obtain⟨i,hi⟩:=i;obtain⟨j,y⟩:=M i;replace j:=A7g j;have r:=λ(h:i<L.length)=>J9 (Aa (De f) k) L (0,0) q h;have G:=y.length_le;generalize x:(L.take i).foldl (Aa (De f) k) q=c at j y r G;simp only[Lg];repeat'(first|exact trivial|apply eS rfl|apply AB|refine rX b ?_ ?_|refine rC ?_ ?_<;>intro d<;>try(cases d;done))
  .exact eV
  .have l:i<L.length:=by exact eV
   have z:=s _ (AE L (0,0) l);have m:(L.getD i (0,0)).2∉c:=by rw[K7]at d;simpa using d
   refine cP 3 b ?_ ?_
   .trivial
   refine rM b (O c (L.getD i (0,0)).2 j z.1 z.2 m O1) [(1,.nm 1),(2,.nm 2),(3,.nm 3),(4,.nm 4),(5,.nm 5),(6,.nm 6)] [5] ?_ ?_ ?_
   .exact eN
   .simp only[Lg];exact eN
   rintro _ _ ⟨rfl,rfl⟩;refine⟨[(1,.nm 1),(2,.nm 2),(3,.nm 3),(4,.nm 4),(5,.nm 5),(6,.nm 6)],.raw (.tuple #[]),Lg f (Bd (De f) k c (L.getD i (0,0)).2),rfl,rfl,?_,?_,rfl,rfl,C4 ?_⟩
   .simp only[Lg];exact eN
   .exact eN
   simp only[Lg];repeat'(first|apply eS rfl|apply AB|refine rX b ?_ ?_)
   .exact eV
   have e:Aa (De f) k c (L.getD i (0,0))=Bd (De f) k c (L.getD i (0,0)).2:=At m;refine⟨⟨i+1,by omega⟩,by simp only;omega,AD [(1,.nm 1),(2,.nm 2),(3,.nm 3),(4,.nm 4),(5,.nm 5),(6,.nm 6)] rfl rfl ?_ ?_⟩
   .simp only[r l,e];exact eN
   exact eN
  .exact eV
  .have l:i<L.length:=by exact eV
   have m:(L.getD i (0,0)).2∈c:=by rw[K7]at d;simpa using d
   have e:Aa (De f) k c (L.getD i (0,0))=c:=BY m;refine⟨⟨i+1,by omega⟩,by simp only;omega,AD [(1,.nm 1),(2,.nm 2),(3,.nm 3),(4,.nm 4),(5,.nm 5),(6,.nm 6)] rfl rfl ?_ ?_⟩
   .simp only[r l,e];exact eN
   exact eN
  have hk:L.take i=L:=As (by exact eV);rw[hk]at x;rw[F,x];exact fM b [] (.raw (.tuple #[])) rfl ⟨rfl,rfl⟩
section
def Cg:Ab:={ ins:=[Cv,T3],pre:=λ(f,n,_)=>AN f/\Ia f/\0<=n/\n<(List.length f:Int),out:=λ(f,n,_)=>[.p Cv (AH f n)] }
attribute [local go_sem] Cg
theorem zL {α a:Type} (g:α->a) (o:List α) (d:α) (z:a) {i:Nat} (h:i<o.length):((o.take i).map g++List.replicate (o.length-i) z).set i (g (o.getD i d))=(o.take (i+1)).map g++List.replicate (o.length-(i+1)) z:=by
 obtain⟨m,hm⟩:∃m,o.length-i=m+1:=⟨o.length-i-1,by omega⟩;have b:o.length-(i+1)=m:=by omega
 have hl:((o.take i).map g).length=i:=by rw[No,On];omega
 rw[hm,b,AAY _ _ O1,hl,AAD,ABP,ABa,Af o d h,RY];simp
def Qi:Ab:={ ins:=[Cv,T3],pre:=λ(f,n,_)=>AN f/\NdF f/\0<=n/\n<(List.length f:Int),out:=λ(f,n,_)=>[.p Cv (AH (De f) n)] }
attribute [local go_sem] Qi
theorem SX:Ac Tryz.prog 85 Qi:=by
 refine fK [0,1,2,4,5,6,7,8,9,10,11,12,22,23,24,25,38,39,40] Tryz.func85 Tryz.ntmps85 AI ?_;rintro w0 O0 ⟨f,root,u⟩ a-⟨hf,hs,r,s⟩;simp only[Qi,AM];have z:=hf.1;have l:JF f []:=⟨by simp,λx hx=>by cases hx⟩;obtain⟨g,H⟩:=DS (SW hf) f.length [] root (AA4 l) r (by rw[GK];exact s) sc;replace g:=A7g g;have w:AH (De f) root=(Bd (De f) f.length [] root).map (CF (De f) (Bd (De f) f.length [] root)):=by unfold AH;rw[GK]
 rw[w];repeat'(first|exact trivial|apply eS rfl|apply AB|refine rX a ?_ ?_|refine rC ?_ ?_<;>intro c<;>try(cases c;done))
 refine cP 2 a ?_ ?_
 .trivial
 refine rM a (zK f hf hs (List.length f) [] root l r s sc sc) [(1,.nm 6),(2,.nm 5),(3,.nm 2),(4,.nm 7),(5,.nil),(6,.nm 13)] [] ?_ ?_ ?_
 .exact eN
 .simp only[Lg];refine eM ?_;rfl
 rintro _ _ ⟨rfl,rfl⟩;refine⟨[(6,.nm 1),(5,.nm 2),(2,.nm 3),(7,.nm 4),(101,.nm 5),(13,.nm 6)],.raw (.tuple #[]),[(6,.box 51 false [.sr 101 T3 0 (Bd (De f) (List.length f) [] root).length]),(5,.box 118 false [.mp 13]),(2,.box 25 true [.p Eg f]),(7,.box 119 false [.clo 127 [6,5,2,7]]),(101,.arr 3 T3 (Bd (De f) (List.length f) [] root)),(13,.mapo T3 T3 (m8 (Bd (De f) (List.length f) [] root)))],rfl,rfl,?_,?_,rfl,rfl,C4 ?_⟩
 .simp only[Lg];exact eN
 .exact eN
 generalize Bd (De f) (List.length f) [] root=o at *;have G:=g.len;repeat'(first|exact trivial|apply eS rfl|apply AB|refine rX a ?_ ?_|refine rC ?_ ?_<;>intro c<;>try(cases c;done))
 .simp only[AQ];omega
 refine AJ (ι:={i:Nat//i<=o.length}) (λi=>⟨[(2,.bp 2 [] 0),(4,.bp 4 [] 0),(5,.bp 5 [] 0),(8,.bp 8 [] 0),(22,.sr 101 T3 0 o.length),(23,.p (.int .i64) (o.length:Int)),(24,.p (.int .i64) (i.1:Int))],[(8,.box 25 true [.sr 20 Eb 0 o.length]),(20,.arr 48 Eb ((o.take i.1).map (CF (De f) o)++List.replicate (o.length-i.1) (0,[]))),(5,.box 118 false [.mp 13]),(2,.box 25 true [.p Eg f]),(101,.arr 3 T3 o),(13,.mapo T3 T3 (m8 o)),(4,.box 25 true [.raw (.slice none 0 0)])]⟩) (λi=>o.length-i.1) ⟨0,by omega⟩ (eW [(8,.nm 8),(20,.nm 20),(5,.nm 5),(2,.nm 2),(101,.nm 101),(13,.nm 13),(4,.nm 4)]) (λi=>?_)
 obtain⟨i,hi⟩:=i;repeat'(first|exact trivial|apply eS rfl|apply AB|refine rX a ?_ ?_|refine rC ?_ ?_<;>intro c<;>try(cases c;done))
 .exact eV
 .have m:i<o.length:=by exact eV
  have hn:=g.rng _ (AE o 0 m);have q:CF (De f) o (o.getD i 0)=((f.getD (o.getD i 0).toNat (0,[])).1,(AY (f.getD (o.getD i 0).toNat (0,[])).2).map (FO o)):=by unfold CF;rw[Qg]
  obtain⟨t,j⟩:=uX hs (o.getD i 0);have B:=j.1;refine cP 6 a ?_ ?_
  .exact hn
  have F:List.length f<=100000:=z;generalize C:o.getD i 0=n at *;generalize A:f.getD n.toNat (0,[])=x at *;obtain⟨I,d⟩:=x;simp only at t j B q;refine rM a (Zm d) [] [] ?_ ?_ ?_
  .exact eN
  .exact eN
  rintro _ _ ⟨rfl,rfl⟩;refine⟨[(50,.nm 1)],.clo 149 [50],[(50,.box 46 false [.p Cl d])],rfl,rfl,?_,?_,rfl,rfl,?_⟩
  .exact eN
  .exact eN
  refine rM a (OV d j t) [(1,.nm 50)] [50] ?_ ?_ ?_
  .exact eN
  .exact eN
  rintro _ _ ⟨rfl,rfl⟩;have v:=CV d;rw[<-v];generalize E:AY d=L at *;refine⟨[(51,.nm 7)],.sr 51 CK 0 L.length,[(51,.arr 45 CK L)],rfl,rfl,?_,?_,rfl,rfl,?_⟩
  .exact eN
  .exact eN
  refine HA [2,4,5,8,9,10,11,22,23,24] a (by simp only[go_sem,Nat.reduceEqDiff,reduceCtorEq,Nat.reduceAdd,Nat.reduceSub,Nat.reduceMul,Nat.reduceLeDiff,Nat.reduceLT,Int.reduceLE,Int.reduceToNat,Int.reduceNeg,↓reduceIte];rfl) ?_ ?_
  .trivial
  repeat'(first|exact trivial|apply eS rfl|apply AB|refine rX a ?_ ?_|refine rC ?_ ?_<;>intro c<;>try(cases c;done))
  refine AJ (ι:={k:Nat//k<=L.length}) (λk=>⟨[(2,.bp 2 [] 0),(4,.bp 4 [] 0),(5,.bp 5 [] 0),(8,.bp 8 [] 0),(9,.p (.int .i64) (i:Int)),(10,.p T3 n),(11,.sr 51 CK 0 L.length),(22,.sr 101 T3 0 o.length),(23,.p (.int .i64) (o.length:Int)),(24,.p (.int .i64) (i:Int)),(38,.p (.int .i64) (L.length:Int)),(39,.p (.int .i64) (k.1:Int))],[(51,.arr 45 CK ((L.take k.1).map (FO o)++L.drop k.1)),(8,.box 25 true [.sr 20 Eb 0 o.length]),(20,.arr 48 Eb ((o.take i).map (CF (De f) o)++List.replicate (o.length-i) (0,[]))),(5,.box 118 false [.mp 13]),(2,.box 25 true [.p Eg f]),(101,.arr 3 T3 o),(13,.mapo T3 T3 (m8 o)),(4,.box 25 true [.raw (.slice none 0 0)])]⟩) (λk=>L.length-k.1) ⟨0,by omega⟩ (eW [(51,.nm 51),(8,.nm 8),(20,.nm 20),(5,.nm 5),(2,.nm 2),(101,.nm 101),(13,.nm 13),(4,.nm 4)]) (λk=>?_)
  obtain⟨k,hk⟩:=k;repeat'(first|exact trivial|apply eS rfl|apply AB|refine rX a ?_ ?_|refine rC ?_ ?_<;>intro c<;>try(cases c;done))
  .exact eV
  .exact eV
  .have h:k<L.length:=by exact eV
   have e:=XI (FO o) (λb=>b) L (0,0) h (FO o);refine⟨⟨k+1,by omega⟩,by simp only;omega,AD [(51,.nm 51),(8,.nm 8),(20,.nm 20),(5,.nm 5),(2,.nm 2),(101,.nm 101),(13,.nm 13),(4,.nm 4)] rfl rfl ?_ ?_⟩
   .refine eM ?_;rw[e.2];rw[<-e.1];unfold FO;rw[<-uV]
   exact eN
  .exact⟨hn,by exact eV⟩
  .exact eV
  have h:L.take k=L:=As (by exact eV);have y:L.drop k=[]:=OR (by exact eV);refine⟨⟨i+1,by omega⟩,by simp only;omega,AD [(8,.nm 8),(20,.nm 20),(5,.nm 5),(2,.nm 2),(101,.nm 101),(13,.nm 13),(4,.nm 4)] rfl rfl ?_ ?_⟩
  .refine eM ?_;rw[h,y,S6];have e:=zL (CF (De f) o) o 0 (0,[]) m;rw[C,q]at e;rw[<-e,A,As (by simp:(L.map (FO o)).length<=L.length)]
  exact eN
 have hk:o.take i=o:=As (by exact eV);have D:o.length-i=0:=by exact eV
 rw[hk,D];exact fI a [.cell 4 25] (by simp only[List.replicate_zero,S6];first|exact eR|refine Tp ?_;exact As (by rw[No];exact eV))
theorem dC:Ac Tryz.prog 85 Cg:=by
 refine⟨SX.1,λw O i ds d h g=>?_⟩;obtain⟨f,n,u⟩:=ds;obtain⟨h1,a,b,c⟩:=g;have key:=SX.2 w O i (f,n,u) d h ⟨h1,A8w a,b,c⟩;have e:Qi.out (f,n,u)=Cg.out (f,n,u):=by
  show [RV.p Cv (AH (De f) n)]=[RV.p Cv (AH f n)];rw[zI a]
 rw[e]at key;exact key
theorem A8y:Ac Tryz.prog 87 Cg:=by
 refine fK [0,1,2,4] Tryz.func87 Tryz.ntmps87 (AF dC AI) ?_;rintro w0 O0 ⟨f,root,u⟩ a-c;simp only[Cg,AM];repeat'(first|exact trivial|apply eS rfl|apply AB|refine rX a ?_ ?_|refine rC ?_ ?_<;>intro b<;>try(cases b;done))
 .exact c
 exact fI a [.cell 4 25]
end
section
attribute [local go_sem] Cg
def A35 (a:Int->Int×Int->Bool) (f:List AC) (i:Nat):AC:=((f.getD i (0,[])).1,(f.getD i (0,[])).2.filter (a (i:Int)))
def Gd (a:Int->Int×Int->Bool) (f:List AC) (i:Nat):List AC:=(List.range i).map (A35 a f)
def XM (a:Int->Int×Int->Bool) (f:List AC):List AC:=AH (Gd a f f.length) 0
theorem KA (a:Int->Int×Int->Bool) (f:List AC) (i:Nat):(Gd a f i).length=i:=by simp[Gd]
theorem GL (l:List (Int×Int)):Ml l↔l.Pairwise (λa b=>a.1<b.1):=by
 constructor
 .intro h;rw[RZ];have key:∀d i,i+d+1<l.length->(l.getD i (0,0)).1<(l.getD (i+d+1) (0,0)).1:=by
   intro d;induction d with
   | zero=>intro i hi;exact h i hi
   | succ d e =>
    intro i hi;have h1:=e i O1;have f:=h (i+d+1) O1;have:i+(d+1)+1=i+d+1+1:=by omega
    rw[this];omega
  intro i j hi c g;have h1:=key (j-i-1) i O1;rw[show i+(j-i-1)+1=j by omega]at h1;simpa[AS,hi,c] using h1
 intro h i hi;rw[RZ]at h;have:=h i (i+1) O1 hi O1;simpa[AS,hi,show i<l.length by omega] using this
theorem jT (h:Ml l) (p:Int×Int->Bool):Ml (l.filter p):=by
 rw[GL]at h ⊢;exact h.sublist List.filter_sublist
theorem Zn {f:List AC} (hf:AN f) (hs:Ia f) (c:Int->Int×Int->Bool):AN (Gd c f f.length)/\Ia (Gd c f f.length):=by
 have d:∀i,i<f.length->f.getD i (0,[])∈f:=λi hi=>AE f (0,[]) hi;refine⟨⟨by rw[KA];exact hf.1,λx hx=>?_⟩,λx hx=>?_⟩
 .obtain⟨i,hi,rfl⟩:=Do.1 hx;have hi:i<f.length:=Ra.1 hi;obtain⟨h1,b⟩:=hf.2 _ (d i hi);rw[KA];exact⟨RF (AAx _ _) h1,λa ha=>b a (AAn.1 ha).1⟩
 obtain⟨i,hi,rfl⟩:=Do.1 hx;have hi:i<f.length:=Ra.1 hi;obtain⟨h1,b⟩:=hs _ (d i hi);exact⟨jT h1 _,RF (AAx _ _) b⟩
def Ft (l:List Int):List (Int×Bool):=l.foldl (λm x=>F1 T3 .bool x true m) []
theorem qH {a:Ty} (x k:Int) (v:a.den) (m:List (Int×a.den)):BW T3 a x (F1 T3 a k v m)=if x=k then some v else BW T3 a x m:=by
 induction m with
 | nil=>simp[F1,BW,Iv]
 | cons y m d =>
  simp only[F1];by_cases hy:Iv T3 k y.1=true
  .rw[BY hy];have b:k=y.1:=by simpa[Iv] using hy
   simp only[BW,Iv,TE];by_cases hx:x=k
   .rw[BY hx,BY hx]
   rw[At hx,At hx,At (by rw[<-b];exact hx)]
  rw[At hy];have b:¬k=y.1:=by simpa[Iv] using hy
  simp only[BW];by_cases hx:Iv T3 x y.1=true
  .have c:x=y.1:=by simpa[Iv] using hx
   rw[BY hx,BY hx,At (by rw[c];exact λe=>b e.symm)]
  rw[At hx,At hx,d]
theorem uY (l:List Int) (x:Int):(BW T3 .bool x (Ft l)).getD false=zA l x:=by
 induction l using EJ with
 | h0=>rfl
 | h1 l a b =>
  have e:Ft (l++[a])=F1 T3 .bool a true (Ft l):=by simp[Ft]
  rw[e,qH];by_cases hx:x=a
  .rw[BY hx];subst hx;simp[zA]
  rw[At hx,b];simp only[zA,ABU,List.any_cons,List.any_nil,Bool.or_false];have:(a==x)=false:=by simpa using λe=>hx e.symm
  rw[this,Bool.or_false]
end
end Go.Proofs.YtcmadlghkcjcbaaGreat.Fw
