/- Contracts of the program's and the reference's functions, and the plain laws of what they compute: C1 C2 C9 C10 C11 C12 C13 C3 C4 C5 C6 C7 C8 C14 C15 C16 C17 C18 C19 C20 C21 C22 C23 N1 N2 C24 C25 N3 C26 C27 C28 C29 N4 N5 C30 C31 C32 C33 C34 C35 D1 D4 N6 R07a R07b R07c R07d R07e Sorted R07f R07g R07h R15c P8 PS G1 PA G3 T1 PX G4 G5 G6 P1. -/
import Derived.Test.YtapkhdkbkodbjaaGreatFZJ
import Derived.Test.YtapkhdkbkodbjaaGreatFZI
set_option linter.unusedVariables false
set_option linter.unusedSimpArgs false
namespace Go.Proofs.YtapkhdkbkodbjaaGreat.Fw
open Go
attribute [local irreducible] Ev
attribute [local go_sem] rG AN List.toList_toArray B1 evG evK YK FF Lg It Ha Ip VQ PR DU Dj PP DM DN frz vE G8 DW BC GJ Bj AV.frz AV.frzs AV.drp AV.drps AV.names AV.namess aq G9 LU LV VL KK Bp B3 K8 Eu KN Ew KP KO KQ YI So Hz Mn GL Ej YJ Tv qUn K9 Jg OB Fi EM KR LY E4 VN Dg E5 Fj Tw Jh PN Fk PM Sq Tx Na KS LZ E6 EO H0 ER JE Dh Fl Di E7 Gi DM DA Q1 Tu Q8 HT KM KL LX Su VO PO OG OD Lc VP OE Ld eD Sw Sv AV.trn AV.trns FI DT Obj.trn LG mT EP E9 Ek E8 Ck Fm Aq lk Il HN JC bin vC aF vH VM zK zL pfs AV.cells CM K7 Q7 Lb Ss Ca PK Ty.cell1 KJ FJ EL Gg NR E3 LQ NZ Q6 Gf HS OA VJ YH NQ LP d8 lO VK Im DB Hy RV.flat Ty.flat Ty.size St.add upd del Bg Value.oneCell' LT Ty.dflt KH Ua Jm Ug List.take_succ_cons List.take_zero List.length_cons rK rO Uf Lv Py Jo M2 A4u Hb Pl Pm Pn Po Vi Vj Pp Kb bB Option.map_some Option.map_none Option.bind_some Option.getD_some Option.getD_none Option.isNone_none Option.isNone_some Bool.and_true Bool.true_and Bool.and_false Bool.false_and Bool.not_true Bool.not_false if_true if_false List.length_cons List.length_nil and_true true_and and_self List.all_cons List.all_nil List.append_nil List.nil_append List.cons_append List.getElem?_cons_zero List.getElem?_cons_succ List.getElem?_nil List.map_cons List.map_nil List.set_cons_zero List.set_cons_succ List.isEmpty_nil List.isEmpty_cons decide_true decide_false beq_self_eq_true bne_self_eq_false Nat.zero_add Nat.add_zero Nat.sub_zero Int.toNat_natCast Int.toNat_zero Int.toNat_one List.take_length List.length_append List.length_singleton true_or or_true or_self false_or or_false Ty.agg.injEq Ty.slice.injEq Ty.prod.injEq Ty.int.injEq Option.some.injEq beq_iff_eq Mz evMG evMQ opM JN Nh B8 LF Hc TC LE JM Kd My Ls RJ Pu RK Vm Pt Uc Ud Mx AU Ak Op.operands Call.operands List.filterMap_cons List.filterMap_nil List.append_eq Bool.cond_false_right Bool.cond_true_left cond_true cond_false implies_true decide_eq_true_eq beq_true beq_false Bool.or_true Bool.or_false Bool.true_or Bool.false_or Option.isSome_some Array.empty_append List.append_toArray GK PQ Fq Io eC Sr Gh Hn Hm Ji JD La OC aG vF Ii inB Le Ge HV Lf A1 rT List.drop_zero Dl Iw fR CY Lx CU AV.fgt AV.fgts Obj.fgt Ay Aj AU DZ JO BU IB List.any_cons List.any_nil lM mP fS mQ Ik P0 qs List.flatMap_cons List.flatMap_nil List.cons_append tn fY IG List.take_succ_cons List.drop_succ_cons f7 HC BG A0z RU CC CR Ad Fv Lo Bz Fu ET JK Ka HA JL
attribute [local go_sem] ty1 ty2 ty3 ty4 ty5 ty9 A79 A7a A7b A7c A7d A7e A7f A7g A7h A7i A7j A7k A7l A7m A7n A7o A7p A0I A0J A0K A0L A0M A0N A0O A0P A0Q A0R A0S A0T A0U A0V A0W A0X A0Y A0Z A10 A11 A12 A13 A14 A15 A16 A17 A18 A19 A1a A1b A1c A1d A1e A1f A1g A1h A1i A1j A1k A1l A1m A1n A1o A1p A1q
set_option maxRecDepth 100000
set_option maxHeartbeats 4000000
section
def JR (a b c:Int):Bool:=decide (a<=c)&&decide (c<=b)
def nA:Ab:={ ins:=[.int .u8],pre:=λ_=>True,out:=λ(c,_)=>[.p .bool (JR 48 57 c)] }
attribute [local go_sem] nA
def nB:Ab:={ ins:=[.int .u8],pre:=λ_=>True,out:=λ(c,_)=>[.p .bool (JR 65 90 c)] }
attribute [local go_sem] nB
def nC:Ab:={ ins:=[.int .u8],pre:=λ_=>True,out:=λ(c,_)=>[.p .bool (JR 97 122 c)] }
attribute [local go_sem] nC
theorem gI:Ag Tryz.prog 242 nA:=by
 refine fK [0,2] Tryz.func242 Tryz.ntmps242 AI ?_;rintro w0 O0 ⟨c,u⟩ a - -;simp only[nA,AN];repeat'(first|exact trivial|apply eS rfl|refine rX a ?_ ?_)
 exact fI a [.tmp 2] (by unfold JR;exact eR)
theorem A1w:Ag Tryz.prog 249 nB:=by
 refine fK [0,2] Tryz.func249 Tryz.ntmps249 AI ?_;rintro w0 O0 ⟨c,u⟩ a - -;simp only[nB,AN];repeat'(first|exact trivial|apply eS rfl|refine rX a ?_ ?_)
 exact fI a [.tmp 2] (by unfold JR;exact eR)
theorem A1x:Ag Tryz.prog 250 nC:=by
 refine fK [0,2] Tryz.func250 Tryz.ntmps250 AI ?_;rintro w0 O0 ⟨c,u⟩ a - -;simp only[nC,AN];repeat'(first|exact trivial|apply eS rfl|refine rX a ?_ ?_)
 exact fI a [.tmp 2] (by unfold JR;exact eR)
def WQ (c:Int) (a:Bool):Bool:=JR 48 57 c||c==45||a&&JR 65 90 c||!a&&JR 97 122 c
def A1y:Ab:={ ins:=[.int .u8,.bool],pre:=λ_=>True,out:=λ(c,b,_)=>[.p .bool (WQ c b)] }
attribute [local go_sem] A1y
theorem A4I:Ag Tryz.prog 243 A1y:=by
 refine fK [0,1,4] Tryz.func243 Tryz.ntmps243 (AF gI (AF A1w (AF A1x AI))) ?_;rintro w0 O0 ⟨c,b,u⟩ a - -;simp only[A1y,AN];repeat'(first|exact trivial|apply eS rfl|refine rX a ?_ ?_)
 exact fI a [.tmp 4] (by unfold WQ;exact eR)
abbrev chr (s:ByteArray) (i:Nat):Int:=((s.data.getD i 0).toNat:Int)
def Rc (s:ByteArray):Bool:=decide ((s.size:Int)<1)||decide (32<(s.size:Int))||JR 48 57 (chr s 0)||chr s 0==45
def Ez (s:ByteArray) (a:Bool):Bool:=!Rc s&&(List.range s.size).all λi=>WQ (chr s i) a
def nD:Ab:={ ins:=[T9,.bool],pre:=λ_=>True,out:=λ(s,b,_)=>[.p .bool (Ez s b)] }
attribute [local go_sem] nD
theorem gJ:Ag Tryz.prog 231 nD:=by
 refine fK [0,1,4,5,23,27,35] Tryz.func231 Tryz.ntmps231 (AF gI (AF A4I AI)) ?_;rintro w0 O0 ⟨s,b,u⟩ d - -;simp only[nD,AN];repeat'(first|exact trivial|apply eS rfl|refine rX d ?_ ?_|refine rC ?_ ?_<;>intro a<;>try(cases a;done))
 .constructor
  .intro h;simp only[Sa,AA2,Sd]at h;have:1<=(s.size:Int):=by omega
   exact this
  intro h;simp only[Sa,AA2,Sd]at h;have:1<=(s.size:Int):=by omega
  exact this
 .have h1:Rc s=true:=by
   unfold Rc chr;simp only[UO,Is,UQ];exact a
  have c:Ez s b=false:=by unfold Ez;rw[h1];rfl
  exact fI d [.tmp 4] (by rw[c];exact eR)
 have h1:Rc s=false:=by
  unfold Rc chr;simp only[AA2,Sd,AAs];exact⟨⟨⟨by omega,by omega⟩,a.1.2⟩,a.2⟩
 have g:s.size<=32:=by omega
 refine AL (ι:={k:Nat//k<=s.size/\((List.range k).all λi=>WQ (chr s i) b)=true}) (λk=>⟨[(0,.p T9 s),(1,.p .bool b),(5,.p (.int .i64) (k.1:Int))],[]⟩) (λk=>s.size-k.1) ⟨0,by simp⟩ (eW []) (λk=>?_)
 obtain⟨k,hk,f⟩:=k;repeat'(first|exact trivial|apply eS rfl|apply AC|refine rX d ?_ ?_|refine rC ?_ ?_<;>intro a<;>try(cases a;done))
 .exact a
 .have e:k<s.size:=by omega
  have c:Ez s b=false:=by
   unfold Ez;rw[AAZ];refine .inr (AAH.2 λh=>?_);have:=NO.1 h k (UJ.2 e);rw[show WQ (chr s k) b=false from a]at this;cases this
  exact fI d [.tmp 4] (by rw[c];exact eR)
 .omega
 .have e:k<s.size:=by omega
  refine⟨⟨k+1,by omega,?_⟩,by simp only;omega,AD [] rfl rfl ?_ ?_⟩
  .rw[oF,AB7,f];rw[ABK,AAz,List.all_nil,AC5];exact a
  .exact eN
  exact eN
 have e:k=s.size:=by omega
 subst e;have c:Ez s b=true:=by unfold Ez;rw[h1,f];rfl
 exact fI d [.tmp 4] (by rw[c];exact eR)
def A1z:Ab:={ ins:=[T9],pre:=λ_=>True,out:=λ(s,_)=>[.p .bool (Ez s false)] }
def WR:Ab:={ ins:=[T9],pre:=λ_=>True,out:=λ(s,_)=>[.p .bool (Ez s true)] }
theorem A4J:Ag Tryz.prog 218 A1z:=by
 refine fK [0,2] Tryz.func218 Tryz.ntmps218 (AF gJ AI) ?_;rintro w0 O0 ⟨s,u⟩ a - -;simp only[A1z,AN];repeat'(first|exact trivial|apply eS rfl|refine rX a ?_ ?_)
 exact fI a [.tmp 2]
theorem nE:Ag Tryz.prog 217 WR:=by
 refine fK [0,2] Tryz.func217 Tryz.ntmps217 (AF gJ AI) ?_;rintro w0 O0 ⟨s,u⟩ a - -;simp only[WR,AN];repeat'(first|exact trivial|apply eS rfl|refine rX a ?_ ?_)
 exact fI a [.tmp 2]
end
section
theorem M6 {α:Type} (l:List α) (d:α) (p:α->Bool) {k:Nat} (h:k<l.length):(l.take (k+1)).any p=((l.take k).any p||p (l.getD k d)):=by
 rw[Aw l d h,ABk];simp
theorem Iy {α:Type} (l:List α) (d:α) (p:α->Bool) {k:Nat} (h:k<l.length) (a:p (l.getD k d)=true):l.any p=true :=
 To.2 ⟨_,AE l d h,a⟩
def Ae (l:List ByteArray) (s:ByteArray):Bool:=l.any λx=>Ac x s
def JS:Ab:={ ins:=[GC,T9],pre:=λ_=>True,out:=λ(l,n,_)=>[.p .bool (Ae l n)],lend:=true }
attribute [local go_sem] JS
theorem Gq:Ag Tryz.prog 201 JS:=by
 refine fK [0,1,4,5,9,17] Tryz.func201 Tryz.ntmps201 AI ?_;rintro w0 O0 ⟨l,n,u⟩ a ⟨⟨hl,-⟩,-⟩ -;simp only[AP]at hl;simp only[JS,AN];repeat'(first|exact trivial|apply eS rfl|refine rX a ?_ ?_)
 refine AL (ι:={k:Nat//k<=l.length/\(l.take k).any (λx=>Ac x n)=false}) (λk=>⟨[(0,.p GC l),(1,.p T9 n),(5,.p (.int .i64) (k.1:Int))],[]⟩) (λk=>l.length-k.1) ⟨0,by simp⟩ (eW []) (λk=>?_)
 obtain⟨k,hk,c⟩:=k;repeat'(first|exact trivial|apply eS rfl|apply AC|refine rX a ?_ ?_|refine rC ?_ ?_<;>intro b<;>try(cases b;done))
 .exact eV
 .have d:k<l.length:=by exact eV
  have h1:Ae l n=true:=Iy l ByteArray.empty _ d b;exact fI a [.tmp 4] (by rw[h1];exact eR)
 .exact eV
 .have d:k<l.length:=by exact eV
  refine⟨⟨k+1,by exact eV,?_⟩,by simp only;exact eV,AD [] rfl rfl ?_ ?_⟩
  .rw[M6 l ByteArray.empty _ d,c];exact b
  .exact eN
  exact eN
 have hk:l.take k=l:=By (by exact eV);rw[hk]at c;have h1:Ae l n=false:=c;exact fI a [.tmp 4] (by rw[h1];exact eR)
def YE (l:List ByteArray) (s:ByteArray):Nat:=(l.takeWhile λx=>Ce x s).length
theorem nF {α:Type} (p:α->Bool) (d:α):∀(l:List α) (k:Nat),k<=(l.takeWhile p).length->((k<l.length/\p (l.getD k d)=true)↔k+1<=(l.takeWhile p).length)
 | [],k,h=>by simp
 | x :: l,k,h=>by
  by_cases hx:p x=true
  .rw[List.takeWhile_cons,DO hx]at h ⊢;cases k with
   | zero=>simp[hx]
   | succ k =>
    have:=nF p d l k (by simpa using h);simpa using this
  rw[List.takeWhile_cons,BY hx]at h ⊢;have hk:k=0:=by simpa using h
  subst hk;simp[hx]
theorem A6j {α:Type} (p:α->Bool) (l:List α):(l.takeWhile p).length<=l.length:=(List.takeWhile_sublist p).length_le
def Dm (l:List ByteArray) (s:ByteArray):List ByteArray :=
 if (decide (YE l s<l.length)&&Ac (l.getD (YE l s) ByteArray.empty) s)=true then l else l.take (YE l s)++[s]++l.drop (YE l s)
def bO:Ab:={ ins:=[GC,T9],pre:=λ(l,_,_)=>List.length l<=100000,out:=λ(l,n,_)=>[.p GC (Dm l n)] }
attribute [local go_sem] bO
theorem Rd:Ag Tryz.prog 194 bO:=by
 refine fK [0,1,4,5,6,18,32] Tryz.func194 Tryz.ntmps194 AI ?_;rintro w0 O0 ⟨l,n,u⟩ c-hl;have hl:l.length<=100000:=hl;simp only[bO,AN];repeat'(first|exact trivial|apply eS rfl|refine rX c ?_ ?_)
 refine AL (ι:={k:Nat//k<=YE l n}) (λk=>⟨[(0,.p GC l),(1,.p T9 n),(5,.raw (.slice none 0 0)),(6,.p (.int .i64) (k.1:Int))],[]⟩) (λk=>l.length-k.1) ⟨0,by simp⟩ (eW []) (λk=>?_)
 obtain⟨k,hk⟩:=k;have d:=A6j (λx=>Ce x n) l;have i:=nF (λx=>Ce x n) ByteArray.empty l k hk;simp only;repeat'(first|exact trivial|apply eS rfl|apply AC|refine rX c ?_ ?_|refine rC ?_ ?_<;>intro a<;>try(cases a;done))
 .exact λh=>h
 .have h1:k<l.length/\Ce (l.getD k ByteArray.empty) n=true:=⟨by exact eV,a.2⟩;exact eV
 .have h1:k<l.length/\Ce (l.getD k ByteArray.empty) n=true:=⟨by exact eV,a.2⟩;exact⟨⟨k+1,i.1 h1⟩,by simp only;omega,eW []⟩
 .exact λh=>h
 .rename_i f;have g:k=YE l n:=by
   refine AAy hk (Nat.le_of_not_lt λh=>?_);have:=i.2 h;rw[f (IN.2 this.1)]at this;cases this.2
  have e:Dm l n=l:=by
   unfold Dm;rw[<-g,DO];rw[An,Is];exact⟨IN.1 a.1,a.2⟩
  exact fI c [.tmp 4] (by rw[e];exact eR)
 .have j:=AA7 k l;have b:k<=l.length:=SX hk d;simp only[AP];exact⟨SY.2 b,by dsimp only[Ty.den]at *;omega⟩
 .have j:=AA7 k l;have b:k<=l.length:=SX hk d;simp only[AP];dsimp only[Ty.den]at *;omega
 .have j:=AA7 k l;have b:k<=l.length:=SX hk d;have o:(l.drop k).length<=l.length:=by rw[aS];omega
  simp only[AP];exact⟨SY.2 b,by dsimp only[Ty.den]at *;omega⟩
 rename_i f;have g:k=YE l n:=by
  refine AAy hk (Nat.le_of_not_lt λh=>?_);have:=i.2 h;rw[f (IN.2 this.1)]at this;cases this.2
 have e:Dm l n=l.take k++[n]++l.drop k:=by
  unfold Dm;rw[<-g,BY];rw[An,Is];intro h;rw[a (IN.2 h.1)]at h;cases h.2
 have b:k<=l.length:=SX hk d;have m:(l.take k).length+1+(l.drop k).length=(l.take k++[n]++l.drop k).length:=by simp only[As,If]
 rw[m,<-e];refine GB [38] ?_;exact fI c [.tmp 4]
end
section
def GE (b:List Int) (i:Int):Int:=if i<b.length then b.getD i.toNat 0 else 0
def gK:Ab:={ ins:=[BR,T3],pre:=λ(_,i,_)=>(0:Int)<=i,out:=λ(b,i,_)=>[.p Rb (GE b i)],lend:=true }
attribute [local go_sem] gK
theorem sL:Ag Tryz.prog 154 gK:=by
 refine fK [0,1,4,8] Tryz.func154 Tryz.ntmps154 AI ?_;rintro w0 O0 ⟨b,i,u⟩ c-hi;simp only[gK,AN];repeat'(first|exact trivial|apply eS rfl|refine rX c ?_ ?_|refine rC ?_ ?_<;>intro a<;>try(cases a;done))
 .exact⟨hi,a⟩
 .have h1:GE b i=b.getD i.toNat 0:=by unfold GE;rw[DO a]
  exact fI c [.tmp 4] (by rw[h1];exact eR)
 have h1:GE b i=0:=by unfold GE;rw[BY (AAB.2 a)]
 exact fI c [.tmp 4] (by rw[h1];exact eR)
def Cm (b:List Int):Nat->Nat
 | 0=>0
 | n+1=>if b.getD n 0=0 then Cm b n else n+1
def BP (b:List Int):List Int:=b.take (Cm b b.length)
theorem WT (b:List Int):∀n,Cm b n<=n
 | 0=>No _
 | n+1=>by
  unfold Cm;split
  .exact Nat.le_succ_of_le (WT b n)
  exact No _
def Ki:Ab:={ ins:=[BR],pre:=λ(b,_)=>List.length b<=100000,out:=λ(b,_)=>[.p BR (BP b)] }
attribute [local go_sem] Ki
theorem M7:Ag Tryz.prog 155 Ki:=by
 refine fK [0,2,3,15] Tryz.func155 Tryz.ntmps155 AI ?_;rintro w0 O0 ⟨b,u⟩ d-hb;have hb:b.length<=100000:=hb;simp only[Ki,AN];repeat'(first|exact trivial|apply eS rfl|refine rX d ?_ ?_)
 refine AL (ι:={n:Nat//n<=b.length/\Cm b n=Cm b b.length}) (λn=>⟨[(0,.p BR b),(3,.p (.int .i64) (n.1:Int))],[]⟩) (λn=>n.1) ⟨b.length,No _,rfl⟩ (eW []) (λn=>?_)
 obtain⟨n,hn,f⟩:=n;simp only;repeat'(first|apply eS rfl|apply AC|refine rX d ?_ ?_|refine rC ?_ ?_<;>intro c<;>try(cases c;done))
 .constructor
  .exact eV
  intro h;refine⟨?_,?_⟩<;>exact eV
 .exact eV
 .obtain⟨h1,a⟩:=c;obtain⟨m,rfl⟩:∃m,n=m+1:=⟨n-1,by omega⟩;have e:(((m+1:Nat):Int)-1)=(m:Int):=by omega
  rw[e]at a;have a:b.getD m 0=0:=a;have i:Cm b m=Cm b b.length:=by
   rw[<-f];show _=if b.getD m 0=0 then Cm b m else m+1
   rw[DO a]
  refine⟨⟨m,by omega,i⟩,by simp,AD [] rfl rfl ?_ ?_⟩
  .exact eN
  simp only[e];exact eN
 .have j:=AA7 n b;simp only[AP];exact⟨SY.2 hn,by dsimp only[Ty.den]at *;omega⟩
 have g:Cm b n=n:=by
  cases n with
  | zero=>rfl
  | succ m =>
   have e:(((m+1:Nat):Int)-1)=(m:Int):=by omega
   rw[e]at c;have a:=c oa;have a:¬b.getD m 0=0:=a;show (if b.getD m 0=0 then Cm b m else m+1)=m+1;rw[BY a]
 have h1:BP b=b.take n:=by unfold BP;rw[<-f,g]
 rw[<-h1];refine GB [18] ?_;exact fI d [.tmp 2]
end
section
attribute [local go_sem] gK Ki
def A1A (w:Int) (r:Int):Bool:=Cf .and .u64 (d9 .u64 w r) 1==1
def WU (b:List Int) (i:Int):Bool:=if (decide (i<0)||decide ((b.length:Int)<=i.tdiv 64))=true then false else A1A (b.getD (i.tdiv 64).toNat 0) (i.tmod 64)
def A1B:Ab:={ ins:=[BR,T3],pre:=λ_=>True,out:=λ(b,i,_)=>[.p .bool (WU b i)],lend:=true }
theorem A7r {w:Int} (h0:0<=w) (r:Int):0<=d9 .u64 w r/\d9 .u64 w r<=w:=by
 unfold d9;have a:(0:Int)<2 ^ (min r.toNat IntKind.u64.bits):=Int.pow_pos dc;rw[Int.fdiv_eq_ediv_of_nonneg _ (Int.le_of_lt a)];exact⟨Int.ediv_nonneg h0 (Int.le_of_lt a),Int.ediv_le_self _ h0⟩
theorem A1C:Ag Tryz.prog 205 A1B:=by
 refine fK [0,1,4,13] Tryz.func205 Tryz.ntmps205 AI ?_;rintro w0 O0 ⟨b,i,u⟩ c ⟨⟨k,g⟩,d,-⟩ -;have d:KG .i64 i:=d;rw[Pp]at d;have f:0<=i->Int.tdiv i 64=i / 64/\Int.tmod i 64=i % 64:=λh=>⟨AAD h,AAT h⟩;simp only[A1B,AN];repeat'(first|exact trivial|apply eS rfl|refine rX c ?_ ?_|refine rC ?_ ?_<;>intro a<;>try(cases a;done))
 .intro h;have h0:0<=i:=by simpa using h
  obtain⟨e1,e2⟩:=f h0;rw[e1];refine⟨by decide,?_,?_⟩<;>exact eV
 .have h1:WU b i=false:=by
   unfold WU;rw[DO];rw[UO,Is,Is];exact a
  exact fI c [.tmp 4] (by rw[h1];exact eR)
 .obtain⟨h0,j⟩:=a;obtain⟨e1,e2⟩:=f h0;rw[e1]at j;have e:KG .u64 (b.getD (i / 64).toNat 0):=g _ (AE b 0 (by exact eV));rw[Kb]at e;have hs:=A7r e.1 (i % 64);rw[e1,e2];refine⟨⟨by decide,by exact eV,by exact eV⟩,⟨by exact eV,by exact eV⟩,⟨by decide,by exact eV,by exact eV⟩,⟨by exact eV,by exact eV⟩,by exact eV,hs.1,AAv hs.2 e.2⟩
 have h1:WU b i=A1A (b.getD (i.tdiv 64).toNat 0) (i.tmod 64):=by
  unfold WU;rw[BY];rw[UO,Is,Is];rintro (h|h)<;>omega
 exact fI c [.tmp 4] (by rw[h1];unfold A1A;exact eR)
end
section
attribute [local go_sem] gK Ki
def GR (op:BinOp) (a b:List Int) (n:Nat):List Int:=(List.range n).map λi=>Cf op .u64 (a.getD i 0) (GE b (i:Int))
theorem Ea (op:BinOp) (a b:List Int) (n:Nat):(GR op a b n).length=n:=by simp[GR]
theorem ZA (op:BinOp) (a b:List Int) (n:Nat):GR op a b (n+1)=GR op a b n++[Cf op .u64 (a.getD n 0) (GE b (n:Int))]:=by simp[GR,oF]
def GS (a b:List Int):List Int:=BP (GR .and a b a.length)
def A1D:Ab:={ ins:=[BR,BR],pre:=λ(a,_,_)=>List.length a<=100000,out:=λ(a,b,_)=>[.p BR (GS a b)] }
theorem A1E:Ag Tryz.prog 116 A1D:=by
 refine fK [0,1,4,5,6,10] Tryz.func116 Tryz.ntmps116 (AF sL (AF M7 AI)) ?_;rintro w0 O0 ⟨a,b,u⟩ c-ha;have ha:a.length<=100000:=ha;simp only[A1D,AN];repeat'(first|exact trivial|apply eS rfl|refine rX c ?_ ?_)
 refine AL (ι:={n:Nat//n<=a.length}) (λn=>⟨[(0,.p BR a),(1,.p BR b),(5,.sr 23 Rb 0 n.1),(6,.p (.int .i64) (n.1:Int))],[(23,.arr 186 Rb (GR .and a b n.1))]⟩) (λn=>a.length-n.1) ⟨0,ON _⟩ (AD [(23,.nil)] rfl rfl ?_ ?_) (λn=>?_)
 .refine eM ?_;rfl
 .exact eN
 obtain⟨n,hn⟩:=n;have f:=Ea .and a b n;have hs:=ZA .and a b n;simp only;repeat'(first|exact trivial|apply eS rfl|apply AC|refine rX c ?_ ?_|refine rC ?_ ?_<;>intro d<;>try(cases d;done))
 .refine⟨d,?_⟩;simp only[AP];dsimp only[Ty.den]at *;omega
 .exact eV
 .have e:n<a.length:=by exact eV
  refine⟨⟨n+1,by omega⟩,by simp only;omega,AD [(23,.nm 23)] rfl rfl ?_ ?_⟩
  .simp only[hs];refine eM ?_;rw[By (by rw[f];exact No _)]
  exact eN
 have e:n=a.length:=by exact eV
 subst e;refine GB [23] ?_;have ht:(GR .and a b a.length).take a.length=GR .and a b a.length:=By (by rw[Ea];exact No _);repeat'(first|apply eS rfl|refine rX c ?_ ?_)
 .rw[ht,Ea];exact ha
 rw[ht];exact fI c [.tmp 4] (by unfold GS;exact eR)
def Re (a b:List Int):List Int:=BP (GR .andNot a b a.length)
def nG:Ab:={ ins:=[BR,BR],pre:=λ(a,_,_)=>List.length a<=100000,out:=λ(a,b,_)=>[.p BR (Re a b)] }
attribute [local go_sem] nG
theorem A1F:Ag Tryz.prog 188 nG:=by
 refine fK [0,1,4,5,6,10] Tryz.func188 Tryz.ntmps188 (AF sL (AF M7 AI)) ?_;rintro w0 O0 ⟨a,b,u⟩ c-ha;have ha:a.length<=100000:=ha;simp only[nG,AN];repeat'(first|exact trivial|apply eS rfl|refine rX c ?_ ?_)
 refine AL (ι:={n:Nat//n<=a.length}) (λn=>⟨[(0,.p BR a),(1,.p BR b),(5,.sr 23 Rb 0 n.1),(6,.p (.int .i64) (n.1:Int))],[(23,.arr 186 Rb (GR .andNot a b n.1))]⟩) (λn=>a.length-n.1) ⟨0,ON _⟩ (AD [(23,.nil)] rfl rfl ?_ ?_) (λn=>?_)
 .refine eM ?_;rfl
 .exact eN
 obtain⟨n,hn⟩:=n;have f:=Ea .andNot a b n;have hs:=ZA .andNot a b n;simp only;repeat'(first|exact trivial|apply eS rfl|apply AC|refine rX c ?_ ?_|refine rC ?_ ?_<;>intro d<;>try(cases d;done))
 .refine⟨d,?_⟩;simp only[AP];dsimp only[Ty.den]at *;omega
 .exact eV
 .have e:n<a.length:=by exact eV
  refine⟨⟨n+1,by omega⟩,by simp only;omega,AD [(23,.nm 23)] rfl rfl ?_ ?_⟩
  .simp only[hs];refine eM ?_;rw[By (by rw[f];exact No _)]
  exact eN
 have e:n=a.length:=by exact eV
 subst e;refine GB [23] ?_;have ht:(GR .andNot a b a.length).take a.length=GR .andNot a b a.length:=By (by rw[Ea];exact No _);repeat'(first|apply eS rfl|refine rX c ?_ ?_)
 .rw[ht,Ea];exact ha
 rw[ht];exact fI c [.tmp 4] (by unfold Re;exact eR)
def Eo (a b:List Int):Bool:=((Re a b).length:Int)==0
def QF:Ab:={ ins:=[BR,BR],pre:=λ(a,_,_)=>List.length a<=100000,out:=λ(a,b,_)=>[.p .bool (Eo a b)],lend:=true }
attribute [local go_sem] QF
theorem Rf:Ag Tryz.prog 147 QF:=by
 refine fK [0,1,4] Tryz.func147 Tryz.ntmps147 (AF A1F AI) ?_;rintro w0 O0 ⟨a,b,u⟩ c-ha;have ha:a.length<=100000:=ha;simp only[QF,AN];repeat'(first|exact trivial|apply eS rfl|refine rX c ?_ ?_)
 .exact ha
 exact fI c [.tmp 4] (by unfold Eo;exact eR)
def Fy (a b:List Int):Bool:=Eo a b&&Eo b a
def bP:Ab:={ ins:=[BR,BR],pre:=λ(a,b,_)=>List.length a<=100000/\List.length b<=100000,out:=λ(a,b,_)=>[.p .bool (Fy a b)],lend:=true }
theorem w5:Ag Tryz.prog 204 bP:=by
 refine fK [0,1,4] Tryz.func204 Tryz.ntmps204 (AF Rf AI) ?_;rintro w0 O0 ⟨a,b,u⟩ c-⟨ha,hb⟩;simp only[bP,AN];repeat'(first|exact trivial|apply eS rfl|refine rX c ?_ ?_)
 .exact⟨ha,λ_=>hb⟩
 exact fI c [.tmp 4] (by unfold Fy;exact eR)
end
section
attribute [local go_sem] A1B
def Jt (a b:List Int):Bool:=decide (a=b)
def WV:Ab:={ ins:=[BR,BR],pre:=λ_=>True,out:=λ(a,b,_)=>[.p .bool (Jt a b)],lend:=true }
theorem sM:Ag Tryz.prog 153 WV:=by
 refine fK [0,1,4,5,10,14,25] Tryz.func153 Tryz.ntmps153 AI ?_;rintro w0 O0 ⟨a,b,u⟩ d ⟨⟨ha,-⟩,-⟩ -;simp only[AP]at ha;simp only[WV,AN];repeat'(first|exact trivial|apply eS rfl|refine rX d ?_ ?_|refine rC ?_ ?_<;>intro c<;>try(cases c;done))
 .have h1:Jt a b=false:=by
   unfold Jt;rw[Sd];rintro rfl;exact c rfl
  exact fI d [.tmp 4] (by rw[h1];exact eR)
 have f:a.length=b.length:=by
  have:(a.length:Int)=(b.length:Int):=by simpa using c
  exact Int.ofNat_inj.1 this
 refine AL (ι:={k:Nat//k<=a.length/\a.take k=b.take k}) (λk=>⟨[(0,.p BR a),(1,.p BR b),(5,.p (.int .i64) (k.1:Int))],[]⟩) (λk=>a.length-k.1) ⟨0,ON _,rfl⟩ (eW []) (λk=>?_)
 obtain⟨k,hk,hf⟩:=k;simp only;repeat'(first|exact trivial|apply eS rfl|apply AC|refine rX d ?_ ?_|refine rC ?_ ?_<;>intro c<;>try(cases c;done))
 .exact⟨c,by rw[<-f];exact c⟩
 .have e:k<a.length:=by exact eV
  have h1:Jt a b=false:=by
   unfold Jt;rw[Sd];rintro rfl;exact c rfl
  exact fI d [.tmp 4] (by rw[h1];exact eR)
 .exact eV
 .have e:k<a.length:=by exact eV
  have g:a.getD k 0=b.getD k 0:=by simpa using c
  refine⟨⟨k+1,by omega,?_⟩,by simp only;omega,AD [] rfl rfl ?_ ?_⟩
  .rw[Aw a 0 e,Aw b 0 oa,hf];rw[show a.getD k 0=b.getD k 0 from g]
  .exact eN
  exact eN
 have e:k=a.length:=by exact eV
 subst e;rw[SW,f,SW]at hf;have h1:Jt a b=true:=by unfold Jt;rw[hf];simp
 exact fI d [.tmp 4] (by rw[h1];exact eR)
end
section
attribute [local go_sem] A1B
def Nn (b:List Int) (n:Nat):List Int:=((List.range n).filter λ(i:Nat)=>WU b (i:Int)).map λ(i:Nat)=>(i:Int)
def II (b:List Int):List Int:=Nn b (64*b.length)
theorem nH (b:List Int) (n:Nat):Nn b (n+1)=Nn b n++if WU b (n:Int)=true then [(n:Int)] else []:=by
 unfold Nn;rw[oF,ABf,UK]
 congr 1
 rw[AA5,ABu];split<;>rfl
theorem w6 (b:List Int) (n:Nat):(Nn b n).length<=n:=by
 unfold Nn;rw[OF];exact SX (AAb _ _) sc
def A1G:Ab:={ ins:=[BR],pre:=λ(b,_)=>List.length b<=100000,out:=λ(b,_)=>[.p G0 (II b)] }
attribute [local go_sem] A1G
theorem A4K:Ag Tryz.prog 223 A1G:=by
 refine fK [0,2,3,4,9,14] Tryz.func223 Tryz.ntmps223 (AF A1C AI) ?_;rintro w0 O0 ⟨b,u⟩ c-hb;have hb:b.length<=100000:=hb;simp only[A1G,AN];repeat'(first|exact trivial|apply eS rfl|refine rX c ?_ ?_)
 refine AL (ι:={n:Nat//n<=64*b.length}) (λn=>⟨[(0,.p BR b),(3,.sr 18 T3 0 (Nn b n.1).length),(4,.p (.int .i64) (n.1:Int))],[(18,.arr 3 T3 (Nn b n.1))]⟩) (λn=>64*b.length-n.1) ⟨0,ON _⟩ (AD [(18,.nil)] rfl rfl ?_ ?_) (λn=>?_)
 .refine eM ?_;rfl
 .refine eM ?_;rfl
 obtain⟨n,hn⟩:=n;have e:=w6 b n;have hs:=nH b n;simp only;repeat'(first|exact trivial|apply eS rfl|apply AC|refine rX c ?_ ?_|refine rC ?_ ?_<;>intro a<;>try(cases a;done))
 .exact eV
 .rw[a,DO rfl]at hs;simp only[AP];dsimp only[Ty.den]at *;omega
 .exact eV
 .have d:n<64*b.length:=by exact eV
  rw[a,DO rfl]at hs;refine⟨⟨n+1,by omega⟩,by simp only;omega,AD [(18,.nm 18)] rfl rfl ?_ ?_⟩
  .simp only[hs];exact eN
  simp only[hs];exact eN
 .exact eV
 .have d:n<64*b.length:=by exact eV
  rw[a,BY sc,UL]at hs;refine⟨⟨n+1,by omega⟩,by simp only;omega,AD [(18,.nm 18)] rfl rfl ?_ ?_⟩
  .simp only[hs];exact eN
  simp only[hs];exact eN
 have d:n=64*b.length:=by exact eV
 subst d;refine GB [18] ?_;exact fI c [.tmp 2] (by unfold II;exact eR)
def nI:Ab:={ ins:=[BR],pre:=λ(b,_)=>List.length b<=100000,out:=λ(b,_)=>[.p T3 ((II b).length:Int)],lend:=true }
theorem A1H:Ag Tryz.prog 207 nI:=by
 refine fK [0,2] Tryz.func207 Tryz.ntmps207 (AF A4K AI) ?_;rintro w0 O0 ⟨b,u⟩ a-hb;simp only[nI,AN];repeat'(first|exact trivial|apply eS rfl|refine rX a ?_ ?_)
 .exact hb
 exact fI a [.tmp 2]
end
section
attribute [local go_sem] JS A1z
abbrev AJ:=ByteArray×List ByteArray×List (ByteArray×ByteArray)
abbrev d0:AJ:=(ByteArray.empty,[],[])
def Cn (s:ByteArray):Nat->List AJ->Int
 | _,[]=>-1
 | k,x :: l=>if Ac x.1 s=true then (k:Int) else Cn s (k+1) l
def BN (l:List AJ) (s:ByteArray):Int:=Cn s 0 l
theorem TL (s:ByteArray) (l:List AJ) {k:Nat} (h:k<l.length):Cn s k (l.drop k)=if Ac (l.getD k d0).1 s=true then (k:Int) else Cn s (k+1) (l.drop (k+1)):=by
 rw[SR h];have e:l.getD k d0=l[k]:=by simp[AS,h]
 rw[e];rfl
def Oa:Ab:={ ins:=[FC,T9],pre:=λ_=>True,out:=λ(l,s,_)=>[.p T3 (BN l s)] }
attribute [local go_sem] Oa
theorem L5:Ag Tryz.prog 219 Oa:=by
 refine fK [0,1,4,5,9,18] Tryz.func219 Tryz.ntmps219 AI ?_;rintro w0 O0 ⟨l,s,u⟩ c ⟨⟨hl,-⟩,-⟩ -;simp only[AP]at hl;simp only[Oa,AN];repeat'(first|exact trivial|apply eS rfl|refine rX c ?_ ?_)
 refine AL (ι:={k:Nat//k<=l.length/\Cn s k (l.drop k)=BN l s}) (λk=>⟨[(0,.p FC l),(1,.p T9 s),(5,.p (.int .i64) (k.1:Int))],[]⟩) (λk=>l.length-k.1) ⟨0,ON _,rfl⟩ (eW []) (λk=>?_)
 obtain⟨k,hk,hf⟩:=k;simp only;repeat'(first|exact trivial|apply eS rfl|apply AC|refine rX c ?_ ?_|refine rC ?_ ?_<;>intro b<;>try(cases b;done))
 .exact b
 .have a:k<l.length:=by exact eV
  rw[TL s l a,DO b]at hf;exact fI c [.tmp 4] (by rw[<-hf];exact eR)
 .exact eV
 .have a:k<l.length:=by exact eV
  rw[TL s l a,BY (by rw[b];simp)]at hf;exact⟨⟨k+1,by omega,hf⟩,by simp only;omega,eW []⟩
 have a:l.drop k=[]:=SV (by exact eV);rw[a]at hf;exact fI c [.tmp 4] (by rw[<-hf];first|exact eR|refine Y6 ?_;rfl)
def L6:List AJ->Int
 | []=>0
 | x :: l=>if 256<x.2.1.length\/256<x.2.2.length then 7 else L6 l
def E0 (l:List AJ):Int:=if 256<l.length then 7 else L6 l
theorem TM (l:List AJ) {k:Nat} (h:k<l.length):L6 (l.drop k)=if 256<(l.getD k d0).2.1.length\/256<(l.getD k d0).2.2.length then 7 else L6 (l.drop (k+1)):=by
 rw[SR h];have e:l.getD k d0=l[k]:=by simp[AS,h]
 rw[e];rfl
def bQ:Ab:={ ins:=[FC],pre:=λ_=>True,out:=λ(l,_)=>[.p HD (E0 l)] }
attribute [local go_sem] bQ
theorem A1I:Ag Tryz.prog 196 bQ:=by
 refine fK [0,2,3,6,10,28] Tryz.func196 Tryz.ntmps196 AI ?_;rintro w0 O0 ⟨l,u⟩ b ⟨⟨hl,-⟩,-⟩ -;simp only[AP]at hl;simp only[bQ,AN];repeat'(first|exact trivial|apply eS rfl|refine rX b ?_ ?_|refine rC ?_ ?_<;>intro a<;>try(cases a;done))
 .have h1:E0 l=7:=by unfold E0;rw[DO (by exact eV)]
  exact fI b [.tmp 2] (by rw[h1];exact eR)
 have h1:E0 l=L6 l:=by unfold E0;rw[BY (by exact eV)]
 refine AL (ι:={k:Nat//k<=l.length/\L6 (l.drop k)=E0 l}) (λk=>⟨[(0,.p FC l),(3,.p (.int .i64) (k.1:Int))],[]⟩) (λk=>l.length-k.1) ⟨0,ON _,h1.symm⟩ (eW []) (λk=>?_)
 obtain⟨k,hk,hf⟩:=k;simp only;repeat'(first|exact trivial|apply eS rfl|apply AC|refine rX b ?_ ?_|refine rC ?_ ?_<;>intro a<;>try(cases a;done))
 .exact⟨a,λ_=>a⟩
 .have c:k<l.length:=by exact eV
  rw[TM l c,DO (by
   rcases a with h|h
   .exact .inl (IN.1 h)
   exact .inr (IN.1 h))]at hf
  exact fI b [.tmp 2] (by rw[<-hf];exact eR)
 .exact eV
 .have c:k<l.length:=by exact eV
  rw[TM l c,BY (by
   rintro (h|h)
   .have:=SY.1 a.1;exact absurd h (Nat.not_lt.2 this)
   have:=SY.1 a.2;exact absurd h (Nat.not_lt.2 this))]at hf
  exact⟨⟨k+1,by omega,hf⟩,by simp only;omega,eW []⟩
 have c:l.drop k=[]:=SV (by exact eV);rw[c]at hf;exact fI b [.tmp 2] (by rw[<-hf];first|exact eR|refine Y6 ?_;rfl)
theorem Ju {α:Type} (l:List α) (d:α) (p:α->Bool) {k:Nat} (h:k<l.length):(l.take (k+1)).all p=((l.take k).all p&&p (l.getD k d)):=by
 rw[Aw l d h,AB7];simp
def JT (x:AJ) (done:List ByteArray):Bool:=x.2.1.all λs=>Ae done s
def bR:Ab:={ ins:=[wW,GC],pre:=λ_=>True,out:=λ(x,l,_)=>[.p .bool (JT x l)],lend:=true }
attribute [local go_sem] bR
theorem A1J:Ag Tryz.prog 220 bR:=by
 refine fK [0,1,2,4,5,10,20] Tryz.func220 Tryz.ntmps220 (AF Gq AI) ?_;rintro w0 O0 ⟨⟨nm,sup,d⟩,l,u⟩ c ⟨⟨-,⟨e,-⟩,-⟩,-⟩ -;simp only[AP]at e;simp only[bR,AN];repeat'(first|exact trivial|apply eS rfl|refine rX c ?_ ?_)
 refine AL (ι:={k:Nat//k<=sup.length/\(sup.take k).all (λs=>Ae l s)=true}) (λk=>⟨[(1,.p GC l),(2,.bp 2 [] 0),(5,.p (.int .i64) (k.1:Int))],[(2,.box 158 true [.p T9 nm,.p GC sup,.p m9 d])]⟩) (λk=>sup.length-k.1) ⟨0,by simp⟩ (eW [(2,.nm 2)]) (λk=>?_)
 obtain⟨k,hk,hf⟩:=k;simp only;repeat'(first|exact trivial|apply eS rfl|apply AC|refine rX c ?_ ?_|refine rC ?_ ?_<;>intro b<;>try(cases b;done))
 .exact b
 .have a:k<sup.length:=by exact eV
  have h1:JT (nm,sup,d) l=false:=by
   unfold JT;refine AAH.2 λh=>?_;have:=NO.1 h _ (AE sup ByteArray.empty a);rw[b]at this;cases this
  exact fI c [.tmp 4] (by rw[h1];exact eR)
 .have:=e;exact eV
 .have a:k<sup.length:=by exact eV
  refine⟨⟨k+1,by omega,?_⟩,by simp only;omega,AD [(2,.nm 2)] rfl rfl ?_ ?_⟩
  .rw[Ju sup ByteArray.empty _ a,hf];exact b
  .exact eN
  exact eN
 have a:sup.take k=sup:=By (by exact eV);rw[a]at hf;have h1:JT (nm,sup,d) l=true:=hf;exact fI c [.tmp 4] (by rw[h1];exact eR)
def Ob (d:List AJ):Nat->List AJ->Int
 | _,[]=>0
 | k,x :: l=>if Ez x.1 false=false then 1 else if BN d x.1<(k:Int) then 4 else Ob d (k+1) l
def Dp (d:List AJ):Int:=Ob d 0 d
theorem L7 (d l:List AJ) {k:Nat} (h:k<l.length):Ob d k (l.drop k)=if Ez (l.getD k d0).1 false=false then 1 else if BN d (l.getD k d0).1<(k:Int) then 4 else Ob d (k+1) (l.drop (k+1)):=by
 rw[SR h];have e:l.getD k d0=l[k]:=by simp[AS,h]
 rw[e];rfl
def bS:Ab:={ ins:=[FC],pre:=λ_=>True,out:=λ(l,_)=>[.p HD (Dp l)] }
attribute [local go_sem] bS
theorem A1K:Ag Tryz.prog 197 bS:=by
 refine fK [0,2,3,7,16,25] Tryz.func197 Tryz.ntmps197 (AF A4J (AF L5 AI)) ?_;rintro w0 O0 ⟨l,u⟩ c ⟨⟨hl,-⟩,-⟩ -;simp only[AP]at hl;simp only[bS,AN];repeat'(first|exact trivial|apply eS rfl|refine rX c ?_ ?_)
 refine AL (ι:={k:Nat//k<=l.length/\Ob l k (l.drop k)=Dp l}) (λk=>⟨[(0,.p FC l),(3,.p (.int .i64) (k.1:Int))],[]⟩) (λk=>l.length-k.1) ⟨0,ON _,rfl⟩ (eW []) (λk=>?_)
 obtain⟨k,hk,hf⟩:=k;simp only;repeat'(first|exact trivial|apply eS rfl|apply AC|refine rX c ?_ ?_|refine rC ?_ ?_<;>intro b<;>try(cases b;done))
 .exact b
 .have a:k<l.length:=by exact eV
  rw[L7 l l a,DO b]at hf;exact fI c [.tmp 2] (by rw[<-hf];exact eR)
 .assumption
 .rename_i d;have a:k<l.length:=by exact eV
  rw[L7 l l a,BY (by rw[d];simp),DO b]at hf;exact fI c [.tmp 2] (by rw[<-hf];exact eR)
 .exact eV
 .rename_i d;have a:k<l.length:=by exact eV
  rw[L7 l l a,BY (by rw[d];simp),BY (AAB.2 b)]at hf;exact⟨⟨k+1,by omega,hf⟩,by simp only;omega,eW []⟩
 have a:l.drop k=[]:=SV (by exact eV);rw[a]at hf;exact fI c [.tmp 2] (by rw[<-hf];first|exact eR|refine Y6 ?_;rfl)
def UC (d:List AJ) (l:List ByteArray):Nat->List ByteArray->Int
 | _,[]=>0
 | k,x :: r=>if BN d x<0 then 5 else if Ae (l.take k) x=true then 4 else UC d l (k+1) r
def Kj (d:List AJ):List AJ->Int
 | []=>0
 | x :: l=>if UC d x.2.1 0 x.2.1≠0 then UC d x.2.1 0 x.2.1 else Kj d l
def Kk (d:List AJ):Int:=Kj d d
theorem Rg (d:List AJ) (l:List ByteArray) {k:Nat} (h:k<l.length):UC d l k (l.drop k)=if BN d (l.getD k ByteArray.empty)<0 then 5 else if Ae (l.take k) (l.getD k ByteArray.empty)=true then 4 else UC d l (k+1) (l.drop (k+1)):=by
 rw[SR h];have e:l.getD k ByteArray.empty=l[k]:=by simp[AS,h]
 rw[e];rfl
theorem bT (d l:List AJ) {k:Nat} (h:k<l.length):Kj d (l.drop k)=if UC d (l.getD k d0).2.1 0 (l.getD k d0).2.1≠0 then UC d (l.getD k d0).2.1 0 (l.getD k d0).2.1 else Kj d (l.drop (k+1)):=by
 rw[SR h];have e:l.getD k d0=l[k]:=by simp[AS,h]
 rw[e];rfl
def Un:Ab:={ ins:=[FC],pre:=λ_=>True,out:=λ(l,_)=>[.p HD (Kk l)] }
attribute [local go_sem] Un
theorem w9:Ag Tryz.prog 198 Un:=by
 refine fK [0,2,3,4,5,9,20,29,37] Tryz.func198 Tryz.ntmps198 (AF Gq (AF L5 AI)) ?_;rintro w0 O0 ⟨l,u⟩ d ⟨⟨hl,g⟩,-⟩ -;simp only[AP]at hl;simp only[Un,AN];repeat'(first|exact trivial|apply eS rfl|refine rX d ?_ ?_)
 refine AL (ι:={i:Nat//i<=l.length/\Kj l (l.drop i)=Kk l}) (λi=>⟨[(0,.p FC l),(3,.p (.int .i64) (i.1:Int))],[]⟩) (λi=>l.length-i.1) ⟨0,ON _,rfl⟩ (eW []) (λi=>?_)
 obtain⟨i,hi,hf⟩:=i;simp only;repeat'(first|exact trivial|apply eS rfl|refine rX d ?_ ?_|refine rC ?_ ?_<;>intro b<;>try(cases b;done))
 .exact b
 .have f:i<l.length:=by exact eV
  have h:=g _ (AE l d0 f);have j:(l.getD i d0).2.1.length<=AP:=h.2.1.1;simp only[AP]at j;rw[bT l l f]at hf;generalize (l.getD i d0).2.1=sup at *;refine AL (ι:={k:Nat//k<=sup.length/\UC l sup k (sup.drop k)=UC l sup 0 sup}) (λk=>⟨[(0,.p FC l),(3,.p (.int .i64) (i:Int)),(4,.p GC sup),(5,.p (.int .i64) (k.1:Int))],[]⟩) (λk=>sup.length-k.1) ⟨0,ON _,rfl⟩ (eW []) (λk=>?_)
  obtain⟨k,hk,c⟩:=k;simp only;repeat'(first|exact trivial|apply eS rfl|apply AC|refine rX d ?_ ?_|refine rC ?_ ?_<;>intro b<;>try(cases b;done))
  .exact b
  .have a:k<sup.length:=by exact eV
   rw[Rg l sup a,DO b]at c;rw[<-c,DO dc]at hf;exact fI d [.tmp 2] (by rw[<-hf];exact eR)
  .exact eV
  .rename_i e;have a:k<sup.length:=by exact eV
   rw[Rg l sup a,BY (AAB.2 e),DO b]at c;rw[<-c,DO dc]at hf;exact fI d [.tmp 2] (by rw[<-hf];exact eR)
  .exact eV
  .rename_i e;have a:k<sup.length:=by exact eV
   rw[Rg l sup a,BY (AAB.2 e),BY (by rw[b];simp)]at c;exact⟨⟨k+1,by omega,c⟩,by simp only;omega,eW []⟩
  .exact eV
  have a:sup.drop k=[]:=SV (by exact eV);rw[a]at c;rw[<-c,BY (by simp[UC])]at hf;exact⟨⟨i+1,by omega,hf⟩,by simp only;omega,eW []⟩
 have a:l.drop i=[]:=SV (by exact eV);rw[a]at hf;exact fI d [.tmp 2] (by rw[<-hf];first|exact eR|refine Y6 ?_;rfl)
end
section
attribute [local go_sem] Oa bR JS bO
theorem Ep {α β:Type} (g:β->α->β) (l:List α) (d:α) (t:β) {i:Nat} (hi:i<l.length):(l.take (i+1)).foldl g t=g ((l.take i).foldl g t) (l.getD i d):=by
 rw[Aw l d hi,AAO];rfl
theorem L8 (l:List ByteArray) (s:ByteArray):(Dm l s).length<=l.length+1:=by
 unfold Dm;split
 .omega
 have:=A6j (λx=>Ce x s) l;have a:YE l s<=l.length:=this;simp only[As,OS,aS,If];omega
def AW (l:List AJ):List ByteArray:=l.foldl (λo x=>Dm o x.1) []
theorem FM (l:List AJ) (k:Nat):(AW (l.take k)).length<=k:=by
 have key:∀(l:List AJ) (o:List ByteArray),(l.foldl (λo x=>Dm o x.1) o).length<=o.length+l.length:=by
  intro l;induction l with
  | nil=>intro o;simp
  | cons x l b =>
   intro o;have h1:=b (Dm o x.1);have a:=L8 o x.1;simp only[SU,IF];omega
 have h1:=key (l.take k) [];have a:=AA7 k l;unfold AW;simp only[AA1]at h1;omega
def QG:Ab:={ ins:=[FC],pre:=λ(l,_)=>List.length l<=100000,out:=λ(l,_)=>[.p GC (AW l)] }
attribute [local go_sem] QG
theorem ZB:Ag Tryz.prog 161 QG:=by
 refine fK [0,2,3,4,8] Tryz.func161 Tryz.ntmps161 (AF Rd AI) ?_;rintro w0 O0 ⟨l,u⟩ a-hl;have hl:l.length<=100000:=hl;simp only[QG,AN];repeat'(first|exact trivial|apply eS rfl|refine rX a ?_ ?_)
 refine AL (ι:={k:Nat//k<=l.length}) (λk=>⟨[(0,.p FC l),(3,.p GC (AW (l.take k.1))),(4,.p (.int .i64) (k.1:Int))],[]⟩) (λk=>l.length-k.1) ⟨0,ON _⟩ (AD [] rfl rfl ?_ ?_) (λk=>?_)
 .exact eN
 .refine eM ?_;rfl
 obtain⟨k,hk⟩:=k;have hn:=FM l k;have hs:=λh:k<l.length=>Ep (λ(o:List ByteArray) (x:AJ)=>Dm o x.1) l d0 [] h;simp only;repeat'(first|exact trivial|apply eS rfl|apply AC|refine rX a ?_ ?_|refine rC ?_ ?_<;>intro c<;>try(cases c;done))
 .exact⟨c,by omega⟩
 .exact eV
 .have b:k<l.length:=by exact eV
  have e:=hs b;refine⟨⟨k+1,by omega⟩,by simp only;omega,AD [] rfl rfl ?_ ?_⟩
  .exact eN
  simp only;have e:AW (l.take (k+1))=Dm (AW (l.take k)) (l.getD k d0).1:=e;rw[e];exact eN
 have b:l.take k=l:=By (by exact eV);rw[b];exact fI a [.tmp 2]
def Iz (out:List ByteArray) (s:Bool×ByteArray) (x:AJ):Bool×ByteArray :=
 if (Ae out x.1||!JT x out)=true then s else (true,if (!s.1||Ce x.1 s.2)=true then x.1 else s.2)
def IJ (d:List AJ) (out:List ByteArray):Bool×ByteArray:=d.foldl (Iz out) (false,ByteArray.empty)
def I0 (d:List AJ):Nat->List ByteArray->List ByteArray
 | 0,out=>out
 | n+1,out=>if (IJ d out).1=true then I0 d n (out++[(IJ d out).2]) else out
def Bl (d:List AJ):List ByteArray:=I0 d d.length []
def IK (d:List AJ) (out:List ByteArray):Nat:=d.countP λx=>!Ae out x.1
theorem FN (s:ByteArray):Ac s s=true:=by unfold Ac;simp
theorem Oc (out:List ByteArray) (s x:ByteArray):Ae (out++[s]) x=(Ae out x||Ac s x):=by
 unfold Ae;simp[ABk]
theorem xA (d:List AJ) (out:List ByteArray) (h:(IJ d out).1=true):∃x∈d,x.1=(IJ d out).2/\Ae out x.1=false:=by
 have key:∀(l:List AJ) (s:Bool×ByteArray),(∀x∈l,x∈d)->(s.1=true->∃x∈d,x.1=s.2/\Ae out x.1=false)->(l.foldl (Iz out) s).1=true ->
   ∃x∈d,x.1=(l.foldl (Iz out) s).2/\Ae out x.1=false:=by
  intro l;induction l with
  | nil=>intro s _ hs h;exact hs h
  | cons y l e =>
   intro s hl hs h;rw[SU]at h ⊢;refine e _ (λx hx=>hl x (by simp[hx])) (λb=>?_) h;unfold Iz at b ⊢;split
   .rename_i a;rw[DO a]at b;exact hs b
   rename_i a;simp only;have hy:Ae out y.1=false:=by
    cases hh:Ae out y.1 with
    | false=>rfl
    | true=>rw[hh]at a;simp at a
   split
   .exact⟨y,hl y sc,rfl,hy⟩
   rename_i c;have:s.1=true:=by
    cases hh:s.1 with
    | true=>rfl
    | false=>rw[hh]at c;simp at c
   exact hs this
 exact key d _ (λ_ h=>h) (λh=>by cases h) h
theorem gL {d:List AJ} {out:List ByteArray} (h:(IJ d out).1=true):IK d (out++[(IJ d out).2])<IK d out:=by
 obtain⟨x,hx,h1,a⟩:=xA d out h;generalize (IJ d out).2=s at *;unfold IK;have key:∀l:List AJ,(l.countP λy=>!Ae (out++[s]) y.1)<=l.countP λy=>!Ae out y.1:=by
  intro l;refine List.countP_mono_left λy _ hy=>?_;rw[Oc]at hy;cases hh:Ae out y.1 with
  | false=>rfl
  | true=>rw[hh]at hy;simp at hy
 obtain⟨l1,l2,rfl⟩:=List.append_of_mem hx;rw[ABV,ABV,AAW,AAW];have b:=key l1;have c:=key l2;have e1:Ae (out++[s]) x.1=true:=by rw[Oc,h1,FN,Bool.or_true]
 rw[e1,a];simp only[Bool.not_true,Bool.not_false,AAd];simp only[AA0,AAp];omega
def bU:Ab:={ ins:=[FC],pre:=λ(l,_)=>List.length l<=100000,out:=λ(l,_)=>[.p GC (Bl l)] }
theorem xB:Ag Tryz.prog 199 bU:=by
 refine fK [0,2,3,4,5,6,7,11,29,40,46] Tryz.func199 Tryz.ntmps199 (AF Gq (AF A1J AI)) ?_;rintro w0 O0 ⟨d,u⟩ j-hd;have hd:d.length<=100000:=hd;simp only[bU,AN];repeat'(first|exact trivial|apply eS rfl|refine rX j ?_ ?_)
 refine AL (ι:={x:Nat×List ByteArray×Bool//x.1+x.2.1.length<=d.length/\(x.2.2=true->IK d x.2.1<=x.1/\I0 d x.1 x.2.1=Bl d)/\(x.2.2=false->x.2.1=Bl d)}) (λx=>⟨[(0,.p FC d),(3,.sr 50 T9 0 x.1.2.1.length),(4,.p .bool x.1.2.2)],[(50,.arr 9 T9 x.1.2.1)]⟩) (λx=>(if x.1.2.2=true then x.1.1+1 else 0)) ⟨(d.length,[],true),by simp,λ_=>⟨List.countP_le_length,rfl⟩,λh=>by cases h⟩ (eW [(50,.nil)]) (λx=>?_)
 obtain⟨⟨n,out,C⟩,r,s,t⟩:=x;simp only at r s t;simp only;repeat'(first|exact trivial|apply eS rfl|refine rX j ?_ ?_|refine rC ?_ ?_<;>intro a<;>try(cases a;done))
 .subst a;obtain⟨hu,v⟩:=s rfl;have B:({ data:=#[] }:ByteArray).size<=AP:=by decide
  rw[DO B];refine AL (ι:={y:Nat×Bool×ByteArray//y.1<=d.length/\(d.take y.1).foldl (Iz out) (false,ByteArray.empty)=y.2}) (λy=>⟨[(0,.p FC d),(3,.sr 50 T9 0 out.length),(4,.p .bool y.1.2.1),(5,.p T9 y.1.2.2),(6,.p (.int .i64) (y.1.1:Int))],[(50,.arr 9 T9 out)]⟩) (λy=>d.length-y.1.1) ⟨(0,false,ByteArray.empty),by simp,rfl⟩ (AD [(50,.nm 50)] rfl rfl ?_ ?_) (λy=>?_)
  .exact eN
  .refine eM ?_;rfl
  obtain⟨⟨k,w,b⟩,hk,c⟩:=y;simp only at hk c;have q:∀h:k<d.length,(d.take (k+1)).foldl (Iz out) (false,ByteArray.empty)=Iz out (w,b) (d.getD k d0):=λh=>by
   rw[Ep (Iz out) d d0 _ h,c]
  simp only;repeat'(first|exact trivial|apply eS rfl|apply AC|refine rX j ?_ ?_|refine rC ?_ ?_<;>intro a<;>try(cases a;done))
  .exact⟨a,λ_=>a⟩
  .exact eV
  .have g:k<d.length:=by exact eV
   refine⟨⟨(k+1,w,b),by simp only;omega,?_⟩,by simp only;omega,AD [(50,.nm 50)] rfl rfl ?_ ?_⟩
   .simp only;rw[q g];unfold Iz;rw[DO];rw[UO,Sa];exact a
   .exact eN
   exact eN
  .exact λ_=>by assumption
  .assumption
  .exact eV
  .rename_i f;have g:k<d.length:=by exact eV
   refine⟨⟨(k+1,true,(d.getD k d0).1),by simp only;omega,?_⟩,by simp only;omega,AD [(50,.nm 50)] rfl rfl ?_ ?_⟩
   .simp only;rw[q g];unfold Iz;rw[BY (by rw[f.1,f.2];simp),DO (by rw[UO,Sa];exact a)]
   .exact eN
   exact eN
  .exact eV
  .rename_i f;have g:k<d.length:=by exact eV
   refine⟨⟨(k+1,true,b),by simp only;omega,?_⟩,by simp only;omega,AD [(50,.nm 50)] rfl rfl ?_ ?_⟩
   .simp only;rw[q g];unfold Iz;rw[BY (by rw[f.1,f.2];simp),BY (by rw[UO,Sa];rintro (h|h)<;>simp_all)]
   .exact eN
   exact eN
  .simp only[AP];dsimp only[Ty.den]at *;omega
  .subst a;have l:d.take k=d:=By (by exact eV);rw[l]at c;have i:IJ d out=(true,b):=c;have m:=gL (d:=d) (out:=out) (by rw[i]);rw[i]at m;obtain⟨e,rfl⟩:∃e,n=e+1:=⟨n-1,by omega⟩;have o:I0 d e (out++[b])=Bl d:=by
    rw[<-v];show _=if (IJ d out).1=true then I0 d e (out++[(IJ d out).2]) else out
    rw[i,DO rfl]
   have m:IK d (out++[b])<IK d out:=m;have A:IK d (out++[b])<=e:=by omega
   exact⟨⟨(e,out++[b],true),by simp only[As,If];omega,λ_=>⟨A,o⟩,λh=>by cases h⟩,by simp,eW [(50,.nm 50)]⟩
  subst a;have l:d.take k=d:=By (by exact eV);rw[l]at c;have i:IJ d out=(false,b):=c;have o:out=Bl d:=by
   rw[<-v];cases n with
   | zero=>rfl
   | succ n =>
    show _=if (IJ d out).1=true then I0 d n (out++[(IJ d out).2]) else out
    rw[i,BY sc]
  exact⟨⟨(n,out,false),r,(λh=>by cases h),λ_=>o⟩,by simp,eW [(50,.nm 50)]⟩
 subst a;have z:=t rfl;rw[z];refine GB [50] ?_;exact fI j [.tmp 2]
end
section
attribute [local go_sem] bQ bS Un bU
def IL (d:List AJ):Nat:=d.countP λx=>x.2.1.length==0
theorem gM (d:List AJ) {k:Nat} (h:k<d.length):IL (d.take (k+1))=IL (d.take k)+if ((d.getD k d0).2.1.length==0)=true then 1 else 0:=by
 unfold IL;rw[Aw d d0 h,ABV,AAW,List.countP_nil];omega
theorem xC (d:List AJ):IL d<=d.length:=List.countP_le_length
def BW (d:List AJ):Int :=
 if E0 d≠0 then E0 d else if Dp d≠0 then Dp d else if Kk d≠0 then Kk d else if IL d≠1 then 1 else if (Bl d).length<d.length then 6 else 0
theorem TN {d:List AJ} (h:E0 d=0):d.length<=256:=by
 unfold E0 at h;split at h
 .cases h
 omega
def Uo:Ab:={ ins:=[FC],pre:=λ_=>True,out:=λ(l,_)=>[.p HD (BW l)] }
attribute [local go_sem] Uo
theorem xE:Ag Tryz.prog 160 Uo:=by
 refine fK [0,2,3,4,5,6,7,11,16,21,26,35,39,45] Tryz.func160 Tryz.ntmps160 (AF A1I (AF A1K (AF w9 (AF xB AI)))) ?_;rintro w0 O0 ⟨d,u⟩ c - -;simp only[Uo,AN];repeat'(first|exact trivial|apply eS rfl|refine rX c ?_ ?_|refine rC ?_ ?_<;>intro a<;>try(cases a;done))
 .have h1:BW d=E0 d:=by unfold BW;rw[DO a]
  exact fI c [.tmp 2] (by rw[h1];exact eR)
 .rename_i hs;have hs:E0 d=0:=by simpa using hs
  have h1:BW d=Dp d:=by unfold BW;rw[BY (by rw[hs];simp),DO a]
  exact fI c [.tmp 2] (by rw[h1];exact eR)
 .rename_i hs hn;have hs:E0 d=0:=by simpa using hs
  have hn:Dp d=0:=by simpa using hn
  have h1:BW d=Kk d:=by unfold BW;rw[BY (by rw[hs];simp),BY (by rw[hn];simp),DO a]
  exact fI c [.tmp 2] (by rw[h1];exact eR)
 rename_i hs hn;have hs:E0 d=0:=by simpa using hs
 have hn:Dp d=0:=by simpa using hn
 have hu:Kk d=0:=by simpa using a
 have hd:=TN hs;have h1:BW d=if IL d≠1 then 1 else if (Bl d).length<d.length then 6 else 0:=by
  unfold BW;rw[BY (by rw[hs];simp),BY (by rw[hn];simp),BY (by rw[hu];simp)]
 refine AL (ι:={k:Nat//k<=d.length}) (λk=>⟨[(0,.p FC d),(6,.p (.int .i64) (IL (d.take k.1):Int)),(7,.p (.int .i64) (k.1:Int))],[]⟩) (λk=>d.length-k.1) ⟨0,ON _⟩ (AD [] rfl rfl ?_ ?_) (λk=>?_)
 .exact eN
 .refine eM ?_;rfl
 obtain⟨k,hk⟩:=k;have i:=xC (d.take k);have j:=AA7 k d;have g:=λh:k<d.length=>gM d h;simp only;repeat'(first|exact trivial|apply eS rfl|apply AC|refine rX c ?_ ?_|refine rC ?_ ?_<;>intro a<;>try(cases a;done))
 .exact a
 .exact eV
 .exact eV
 .have b:k<d.length:=by exact eV
  have e:=g b;rw[DO (by rw[UQ];exact Int.ofNat_eq_zero.1 a)]at e;refine⟨⟨k+1,by omega⟩,by simp only;omega,AD [] rfl rfl ?_ ?_⟩
  .exact eN
  simp only[e];exact eN
 .exact eV
 .have b:k<d.length:=by exact eV
  have e:=g b;rw[BY (by rw[UQ];exact λh=>a (Int.ofNat_eq_zero.2 h))]at e;refine⟨⟨k+1,by omega⟩,by simp only;omega,AD [] rfl rfl ?_ ?_⟩
  .exact eN
  simp only[e];exact eN
 .have b:d.take k=d:=By (by exact eV);rw[b]at a;rw[DO (λh=>a (by rw[h];rfl))]at h1;exact fI c [.tmp 2] (by rw[h1];exact eR)
 .show d.length<=100000;omega
 .rename_i f;have b:d.take k=d:=By (by exact eV);rw[b]at f;have f:(IL d:Int)=1:=by simpa using f
  rw[BY oa,DO (IN.1 a)]at h1;exact fI c [.tmp 2] (by rw[h1];exact eR)
 rename_i f;have b:d.take k=d:=By (by exact eV);rw[b]at f;have f:(IL d:Int)=1:=by simpa using f
 rw[BY oa,BY (λh=>absurd (SY.1 a) (Nat.not_le.2 h))]at h1;exact fI c [.tmp 2] (by rw[h1];exact eR)
end
section
attribute [local go_sem] Oa JS bO
def L9 (o:List ByteArray) (s:ByteArray):List ByteArray:=if Ae o s=true then o else o++[s]
def MA (d:List AJ) (s:ByteArray):List ByteArray:=(d.getD (BN d s).toNat d0).2.1
def Kl (d:List AJ):Nat->Nat->List ByteArray->List ByteArray
 | 0,_,o=>o
 | n+1,i,o=>if i<o.length then Kl d n (i+1) ((MA d (o.getD i ByteArray.empty)).foldl L9 o) else o
def MB (l:List ByteArray):List ByteArray:=l.foldl Dm []
theorem ZC (l:List ByteArray):(MB l).length<=l.length:=by
 have key:∀(l o:List ByteArray),(l.foldl Dm o).length<=o.length+l.length:=by
  intro l;induction l with
  | nil=>intro o;simp
  | cons x l a =>
   intro o;have h1:=a (Dm o x);have b:=L8 o x;simp only[SU,IF];omega
 have:=key l [];simpa[MB] using this
def Od (d:List AJ) (s:ByteArray):List ByteArray:=if BN d s<0 then [] else MB (Kl d d.length 0 [s])
def WW (d:List AJ):Prop:=∀x∈d,∀s∈x.2.1,0<=BN d s
theorem ZD (s:ByteArray):∀(l:List AJ) (k:Nat),Cn s k l=-1\/((k:Int)<=Cn s k l/\Cn s k l<(k:Int)+l.length/\Ac (l.getD ((Cn s k l).toNat-k) d0).1 s=true)
 | [],_=>.inl rfl
 | x :: l,k=>by
  simp only[Cn];split
  .rename_i h;right;refine⟨by omega,by simp only[IF];omega,?_⟩;have:((k:Int).toNat-k)=0:=by omega
   rw[this];exact h
  rcases ZD s l (k+1) with h|⟨h1,b,a⟩
  .exact .inl h
  right;refine⟨by omega,by simp only[IF];omega,?_⟩;have:((Cn s (k+1) l).toNat-k)=((Cn s (k+1) l).toNat-(k+1))+1:=by omega
  rw[this];exact a
theorem Df (d:List AJ) (s:ByteArray):BN d s<0\/(0<=BN d s/\BN d s<(d.length:Int)/\Ac (d.getD (BN d s).toNat d0).1 s=true):=by
 rcases ZD s d 0 with h|⟨h1,a,b⟩
 .left;show Cn s 0 d<0;omega
 have a:BN d s<((0:Nat):Int)+d.length:=a;exact .inr ⟨h1,by omega,b⟩
theorem Jv {a b:ByteArray}:Ac a b=true↔a.toList=b.toList:=by unfold Ac;simp
theorem FO {a b:ByteArray} (h:Ac a b=true):Ac b a=true:=Jv.2 (Jv.1 h).symm
theorem DG {a b c:ByteArray} (h:Ac a b=true) (g:Ac b c=true):Ac a c=true:=Jv.2 ((Jv.1 h).trans (Jv.1 g))
structure d5 (d:List AJ) (o:List ByteArray):Prop where
 decl:∀s∈o,0<=BN d s
 nd:o.Pairwise λa b=>Ac a b=false
theorem Km (d:List AJ):∀ {o:List ByteArray},d5 d o->(o.map λs=>(BN d s).toNat).Nodup
 | [],_=>by simp
 | s :: o,h=>by
  rw[Sj,UN];have b:=Sm.1 h.nd;refine⟨λf=>?_,Km d ⟨λx hx=>h.decl x (by simp[hx]),b.2⟩⟩;obtain⟨x,hx,e⟩:=Y1.1 f;have h1:=h.decl s sc;have i:=h.decl x (by simp[hx]);rcases Df d s with g|⟨_,_,c⟩
  .omega
  rcases Df d x with g|⟨_,_,a⟩
  .omega
  rw[e]at a;have:=b.1 x hx;rw[DG (FO c) a]at this;cases this
theorem d5.len {d:List AJ} {o:List ByteArray} (h:d5 d o):o.length<=d.length:=by
 have:=DY d.length (o.map λs=>(BN d s).toNat) (Km d h) (λj a=>by
  obtain⟨s,hs,rfl⟩:=Y1.1 a;have h1:=h.decl s hs;rcases Df d s with g|⟨_,g,_⟩<;>omega)
 simpa using this
theorem QH {o:List ByteArray} {s:ByteArray} (h:Ae o s=false):∀x∈o,Ac x s=false:=λx hx=>by
 cases hh:Ac x s with
 | false=>rfl
 | true=>exact absurd h (by rw[show Ae o s=true from To.2 ⟨x,hx,hh⟩];simp)
theorem sO {d:List AJ} {o:List ByteArray} (h:d5 d o) {s:ByteArray} (hs:0<=BN d s):d5 d (L9 o s):=by
 unfold L9;split
 .exact h
 rename_i c;have c:Ae o s=false:=by simpa using c
 refine⟨λx hx=>?_,?_⟩
 .rcases Do.1 hx with hx|hx
  .exact h.decl x hx
  have:x=s:=by simpa using hx
  rw[this];exact hs
 rw[AAq];refine⟨h.nd,by simp,λa ha b hb=>?_⟩;have:b=s:=by simpa using hb
 rw[this];exact QH c a ha
theorem gP {d:List AJ}:∀ {l o:List ByteArray},(∀s∈l,0<=BN d s)->d5 d o->d5 d (l.foldl L9 o)/\o.length<=(l.foldl L9 o).length
 | [],o,_,h=>⟨h,No _⟩
 | s :: l,o,hl,h=>by
  obtain⟨a,b⟩:=gP (l:=l) (λx hx=>hl x (by simp[hx])) (sO h (hl s sc));refine⟨a,SX ?_ b⟩;unfold L9;split<;>simp
theorem gR {d:List AJ} (hd:WW d) (s:ByteArray):∀x∈MA d s,0<=BN d x:=by
 intro x hx;unfold MA at hx;by_cases h:(BN d s).toNat<d.length
 .exact hd _ (AE d d0 h) x hx
 rw[AS,Si oa]at hx;cases hx
def nJ:Ab:={ ins:=[FC,T9],pre:=λ(d,_,_)=>WW d/\List.length d<=256,out:=λ(d,s,_)=>[.p GC (Od d s)] }
theorem A1L:Ag Tryz.prog 222 nJ:=by
 refine fK [0,1,4,5,6,7,8,9,10,14,20,36,45,56] Tryz.func222 Tryz.ntmps222 (AF L5 (AF Gq (AF Rd AI))) ?_;rintro w0 O0 ⟨d,s,u⟩ b ⟨⟨N,D⟩,-⟩ ⟨L,hd⟩;have hd:d.length<=256:=hd;simp only[nJ,AN];repeat'(first|exact trivial|apply eS rfl|refine rX b ?_ ?_|refine rC ?_ ?_<;>intro a<;>try(cases a;done))
 .have h1:Od d s=[]:=by unfold Od;rw[DO a]
  exact fI b [.tmp 4] (by rw[h1];exact eR)
 have h1:Od d s=MB (Kl d d.length 0 [s]):=by unfold Od;rw[BY (AAB.2 a)]
 have C:d5 d [s]:=⟨λx hx=>by
  have:x=s:=by simpa using hx
  rw[this];exact a,by simp⟩
 refine AL (ι:={x:Nat×List ByteArray//x.1<=x.2.length/\d5 d x.2/\Kl d (d.length-x.1) x.1 x.2=Kl d d.length 0 [s]}) (λx=>⟨[(0,.p FC d),(1,.p T9 s),(5,.sr 16 T9 0 x.1.2.length),(6,.p (.int .i64) (x.1.1:Int))],[(16,.arr 9 T9 x.1.2)]⟩) (λx=>d.length-x.1.1) ⟨(0,[s]),by simp,C,rfl⟩ (eW [(16,.nm 16)]) (λx=>?_)
 obtain⟨⟨i,o⟩,hi,c,r⟩:=x;simp only at hi c r;have R:=c.len;simp only;repeat'(first|exact trivial|apply eS rfl|refine rX b ?_ ?_|refine rC ?_ ?_<;>intro a<;>try(cases a;done))
 .have q:i<o.length:=by exact eV
  have w:=c.decl _ (AE o ByteArray.empty q);refine⟨a,w,?_⟩;rcases Df d (o.getD i ByteArray.empty) with g|⟨_,g,_⟩
  .omega
  exact g
 .have q:i<o.length:=by exact eV
  have w:=c.decl _ (AE o ByteArray.empty q);have H:=gR L (o.getD i ByteArray.empty);have z:Kl d (d.length-(i+1)) (i+1) ((MA d (o.getD i ByteArray.empty)).foldl L9 o)=Kl d d.length 0 [s]:=by
   rw[<-r];obtain⟨m,y⟩:∃m,d.length-i=m+1:=⟨d.length-i-1,by omega⟩;have E:d.length-(i+1)=m:=by omega
   rw[y,E];show _=if i<o.length then Kl d m (i+1) ((MA d (o.getD i ByteArray.empty)).foldl L9 o) else o
   rw[DO q]
  have J:(MA d (o.getD i ByteArray.empty)).length<=AP:=by
   rcases Df d (o.getD i ByteArray.empty) with g|⟨_,g,_⟩
   .omega
   exact(D _ (AE d d0 (k:=(BN d (o.getD i ByteArray.empty)).toNat) oa)).2.1.1
  have K:(List.getD d (BN d (o.getD i ByteArray.empty)).toNat (ByteArray.empty,[],[])).2.1=MA d (o.getD i ByteArray.empty):=rfl;rw[K];generalize MA d (o.getD i ByteArray.empty)=sup at *;simp only[AP]at J;refine AL (ι:={k:Nat//k<=sup.length}) (λk=>⟨[(0,.p FC d),(1,.p T9 s),(5,.sr 16 T9 0 ((sup.take k.1).foldl L9 o).length),(6,.p (.int .i64) (i:Int)),(7,.p GC sup),(8,.p (.int .i64) (k.1:Int))],[(16,.arr 9 T9 ((sup.take k.1).foldl L9 o))]⟩) (λk=>sup.length-k.1) ⟨0,ON _⟩ (AD [(16,.nm 16)] rfl rfl ?_ ?_) (λk=>?_)
  .refine eM ?_;rfl
  .refine eM ?_;rfl
  obtain⟨k,hk⟩:=k;have v:=gP (l:=sup.take k) (o:=o) (λx hx=>H x (iS hx)) c;have P:=v.1.len;have B:=λh:k<sup.length=>Ep L9 sup ByteArray.empty o h;simp only;generalize A:(sup.take k).foldl L9 o=n at *;repeat'(first|exact trivial|apply eS rfl|apply AC|refine rX b ?_ ?_|refine rC ?_ ?_<;>intro a<;>try(cases a;done))
  .exact a
  .refine⟨by exact eV,?_⟩;simp only[AP];dsimp only[Ty.den]at *;omega
  .exact eV
  .have f:k<sup.length:=by exact eV
   have e:=B f;have e2:L9 n (sup.getD k ByteArray.empty)=n++[sup.getD k ByteArray.empty]:=by unfold L9;rw[BY (by rw[a];simp)]
   rw[e2]at e;refine⟨⟨k+1,by omega⟩,by simp only;omega,AD [(16,.nm 16)] rfl rfl ?_ ?_⟩
   .simp only[e];exact eN
   simp only[e];exact eN
  .exact eV
  .have f:k<sup.length:=by exact eV
   have e:=B f;have e2:L9 n (sup.getD k ByteArray.empty)=n:=by unfold L9;rw[DO a]
   rw[e2]at e;refine⟨⟨k+1,by omega⟩,by simp only;omega,AD [(16,.nm 16)] rfl rfl ?_ ?_⟩
   .simp only[e];exact eN
   simp only[e];exact eN
  .exact eV
  have f:sup.take k=sup:=By (by exact eV);rw[f]at A;rw[A]at z;have G:=v.1;have Q:=v.2;exact⟨⟨(i+1,n),by simp only;omega,G,z⟩,by simp only;omega,eW [(16,.nm 16)]⟩
 have F:o=Kl d d.length 0 [s]:=by
  rw[<-r];cases y:d.length-i with
  | zero=>rfl
  | succ m =>
   show _=if i<o.length then _ else o
   rw[BY (by exact eV)]
 rw[<-F]at h1;refine AL (ι:={j:Nat//j<=o.length}) (λj=>⟨[(0,.p FC d),(5,.sr 16 T9 0 o.length),(9,.p GC ((o.take j.1).foldl Dm [])),(10,.p (.int .i64) (j.1:Int))],[(16,.arr 9 T9 o)]⟩) (λj=>o.length-j.1) ⟨0,ON _⟩ (AD [(16,.nm 16)] rfl rfl ?_ ?_) (λj=>?_)
 .exact eN
 .refine eM ?_;rfl
 obtain⟨j,O⟩:=j;have I:=λh:j<o.length=>Ep Dm o ByteArray.empty [] h;simp only;repeat'(first|exact trivial|apply eS rfl|apply AC|refine rX b ?_ ?_|refine rC ?_ ?_<;>intro a<;>try(cases a;done))
 .refine⟨a,?_⟩;have:=ZC (o.take j);have M:=AA7 j o;unfold MB at this;dsimp only[Ty.den]at *;omega
 .exact eV
 .have t:j<o.length:=by exact eV
  have e:=I t;refine⟨⟨j+1,by omega⟩,by simp only;omega,AD [(16,.nm 16)] rfl rfl ?_ ?_⟩
  .exact eN
  simp only[e];exact eN
 have t:o.take j=o:=By (by exact eV);rw[t];exact fI b [.tmp 4] (by rw[h1];unfold MB;exact eR)
end
section
attribute [local go_sem] Oa JS bO
def Ff (s:ByteArray) (o:List ByteArray) (x:AJ):List ByteArray:=if (Ae x.2.1 s&&!Ae o x.1)=true then o++[x.1] else o
def Dq (d:List AJ):Nat->Nat->List ByteArray->List ByteArray
 | 0,_,o=>o
 | n+1,i,o=>if i<o.length then Dq d n (i+1) (d.foldl (Ff (o.getD i ByteArray.empty)) o) else o
def Dr (d:List AJ) (s:ByteArray):List ByteArray:=if BN d s<0 then [] else MB (Dq d d.length 0 [s])
theorem WX (s:ByteArray):∀(l:List AJ) (k:Nat) (x:AJ),x∈l->Ac x.1 s=true->0<=Cn s k l
 | y :: l,k,x,hx,h=>by
  simp only[Cn];split
  .omega
  rename_i a;rcases At.1 hx with rfl|hx
  .exact absurd h a
  exact WX s l (k+1) x hx h
theorem FP {d:List AJ} {x:AJ} (hx:x∈d):0<=BN d x.1:=WX x.1 d 0 x hx (FN _)
theorem A4L {d:List AJ} {o:List ByteArray} (h:d5 d o) (s:ByteArray) {x:AJ} (hx:x∈d):d5 d (Ff s o x):=by
 unfold Ff;split
 .rename_i a;rw[An,Sa]at a;have:=sO h (FP hx);unfold L9 at this
  rwa [BY (by rw[a.2];simp)]at this
 exact h
theorem WY {d:List AJ} (s:ByteArray):∀ {l:List AJ} {o:List ByteArray},(∀x∈l,x∈d)->d5 d o->d5 d (l.foldl (Ff s) o)/\o.length<=(l.foldl (Ff s) o).length
 | [],o,_,h=>⟨h,No _⟩
 | x :: l,o,hl,h=>by
  obtain⟨a,b⟩:=WY s (l:=l) (λy hy=>hl y (by simp[hy])) (A4L h s (hl x sc));refine⟨a,SX ?_ b⟩;unfold Ff;split<;>simp
theorem Rh (s:ByteArray) {i:Nat}:∀ {l:List AJ} {o:List ByteArray},i<o.length->(l.foldl (Ff s) o).getD i ByteArray.empty=o.getD i ByteArray.empty
 | [],_,_=>rfl
 | x :: l,o,h=>by
  have a:i<(Ff s o x).length/\(Ff s o x).getD i ByteArray.empty=o.getD i ByteArray.empty:=by
   unfold Ff;split
   .refine⟨by rw[As];omega,?_⟩;simp only[AS];rw[Se h]
   exact⟨h,rfl⟩
  rw[SU,Rh s a.1,a.2]
def bV:Ab:={ ins:=[FC,T9],pre:=λ(d,_,_)=>List.length d<=256,out:=λ(d,s,_)=>[.p GC (Dr d s)] }
attribute [local go_sem] bV
theorem A1M:Ag Tryz.prog 200 bV:=by
 refine fK [0,1,4,5,6,7,8,9,13,19,25,47,59] Tryz.func200 Tryz.ntmps200 (AF L5 (AF Gq (AF Rd AI))) ?_;rintro w0 O0 ⟨d,s,u⟩ b-hd;have hd:d.length<=256:=hd;simp only[bV,AN];repeat'(first|exact trivial|apply eS rfl|refine rX b ?_ ?_|refine rC ?_ ?_<;>intro a<;>try(cases a;done))
 .have h1:Dr d s=[]:=by unfold Dr;rw[DO a]
  exact fI b [.tmp 4] (by rw[h1];exact eR)
 have h1:Dr d s=MB (Dq d d.length 0 [s]):=by unfold Dr;rw[BY (AAB.2 a)]
 have C:d5 d [s]:=⟨λx hx=>by
  have:x=s:=by simpa using hx
  rw[this];exact a,by simp⟩
 refine AL (ι:={x:Nat×List ByteArray//x.1<=x.2.length/\d5 d x.2/\Dq d (d.length-x.1) x.1 x.2=Dq d d.length 0 [s]}) (λx=>⟨[(0,.p FC d),(5,.sr 15 T9 0 x.1.2.length),(6,.p (.int .i64) (x.1.1:Int))],[(15,.arr 9 T9 x.1.2)]⟩) (λx=>d.length-x.1.1) ⟨(0,[s]),by simp,C,rfl⟩ (eW [(15,.nm 15)]) (λx=>?_)
 obtain⟨⟨i,o⟩,hi,n,q⟩:=x;simp only at hi n q;have L:=n.len;simp only;repeat'(first|exact trivial|apply eS rfl|refine rX b ?_ ?_|refine rC ?_ ?_<;>intro a<;>try(cases a;done))
 .have v:i<o.length:=by exact eV
  have y:Dq d (d.length-(i+1)) (i+1) (d.foldl (Ff (o.getD i ByteArray.empty)) o)=Dq d d.length 0 [s]:=by
   rw[<-q];obtain⟨m,w⟩:∃m,d.length-i=m+1:=⟨d.length-i-1,by omega⟩;have D:d.length-(i+1)=m:=by omega
   rw[w,D];show _=if i<o.length then Dq d m (i+1) (d.foldl (Ff (o.getD i ByteArray.empty)) o) else o
   rw[DO v]
  refine AL (ι:={k:Nat//k<=d.length}) (λk=>⟨[(0,.p FC d),(5,.sr 15 T9 0 ((d.take k.1).foldl (Ff (o.getD i ByteArray.empty)) o).length),(6,.p (.int .i64) (i:Int)),(7,.p (.int .i64) (k.1:Int))],[(15,.arr 9 T9 ((d.take k.1).foldl (Ff (o.getD i ByteArray.empty)) o))]⟩) (λk=>d.length-k.1) ⟨0,ON _⟩ (AD [(15,.nm 15)] rfl rfl ?_ ?_) (λk=>?_)
  .refine eM ?_;rfl
  .refine eM ?_;rfl
  obtain⟨k,hk⟩:=k;have g:=WY (o.getD i ByteArray.empty) (l:=d.take k) (o:=o) (λx hx=>iS hx) n;have J:=g.1.len;have B:=λh:k<d.length=>Ep (Ff (o.getD i ByteArray.empty)) d d0 o h;have A:((d.take k).foldl (Ff (o.getD i ByteArray.empty)) o).getD i ByteArray.empty=o.getD i ByteArray.empty:=Rh _ v;simp only;generalize z:(d.take k).foldl (Ff (o.getD i ByteArray.empty)) o=f at *;repeat'(first|exact trivial|apply eS rfl|apply AC|refine rX b ?_ ?_|refine rC ?_ ?_<;>intro a<;>try(cases a;done))
  .have hl:=g.2;refine⟨a,?_,λ_=>a⟩;dsimp only[Ty.den]at *;omega
  .refine⟨by assumption,?_⟩;simp only[AP];dsimp only[Ty.den]at *;omega
  .exact eV
  .have c:k<d.length:=by exact eV
   have e:=B c;rw[A]at a;have e2:Ff (o.getD i ByteArray.empty) f (d.getD k d0)=f++[(d.getD k d0).1]:=by
    unfold Ff;rw[DO (by rw[An,Sa];exact a)]
   rw[e2]at e;refine⟨⟨k+1,by omega⟩,by simp only;omega,AD [(15,.nm 15)] rfl rfl ?_ ?_⟩
   .simp only[e];exact eN
   simp only[e];exact eN
  .exact eV
  .have c:k<d.length:=by exact eV
   have e:=B c;rw[A]at a;have e2:Ff (o.getD i ByteArray.empty) f (d.getD k d0)=f:=by
    unfold Ff;rw[BY];rw[An,Sa];rintro⟨h1,t⟩;rw[a h1]at t;cases t
   rw[e2]at e;refine⟨⟨k+1,by omega⟩,by simp only;omega,AD [(15,.nm 15)] rfl rfl ?_ ?_⟩
   .simp only[e];exact eN
   simp only[e];exact eN
  .exact eV
  have c:d.take k=d:=By (by exact eV);rw[c]at z;rw[z]at y;have F:=g.1;have K:=g.2;exact⟨⟨(i+1,f),by simp only;omega,F,y⟩,by simp only;omega,eW [(15,.nm 15)]⟩
 have E:o=Dq d d.length 0 [s]:=by
  rw[<-q];cases w:d.length-i with
  | zero=>rfl
  | succ m =>
   show _=if i<o.length then _ else o
   rw[BY (by exact eV)]
 rw[<-E]at h1;refine AL (ι:={j:Nat//j<=o.length}) (λj=>⟨[(0,.p FC d),(5,.sr 15 T9 0 o.length),(8,.p GC ((o.take j.1).foldl Dm [])),(9,.p (.int .i64) (j.1:Int))],[(15,.arr 9 T9 o)]⟩) (λj=>o.length-j.1) ⟨0,ON _⟩ (AD [(15,.nm 15)] rfl rfl ?_ ?_) (λj=>?_)
 .exact eN
 .refine eM ?_;rfl
 obtain⟨j,I⟩:=j;have G:=λh:j<o.length=>Ep Dm o ByteArray.empty [] h;simp only;repeat'(first|exact trivial|apply eS rfl|apply AC|refine rX b ?_ ?_|refine rC ?_ ?_<;>intro a<;>try(cases a;done))
 .refine⟨a,?_⟩;have:=ZC (o.take j);have H:=AA7 j o;unfold MB at this;dsimp only[Ty.den]at *;omega
 .exact eV
 .have r:j<o.length:=by exact eV
  have e:=G r;refine⟨⟨j+1,by omega⟩,by simp only;omega,AD [(15,.nm 15)] rfl rfl ?_ ?_⟩
  .exact eN
  simp only[e];exact eN
 have r:o.take j=o:=By (by exact eV);rw[r];exact fI b [.tmp 4] (by rw[h1];unfold MB;exact eR)
end
section
attribute [local go_sem] Oa bO nJ JS
def LH (d:List AJ) (o:List ByteArray) (x:ByteArray):List ByteArray:=if 0<=BN d x then Dm o x else o
def Ci (d:List AJ) (l:List ByteArray):List ByteArray:=l.foldl (LH d) []
theorem JU (d:List AJ) (l:List ByteArray):(Ci d l).length<=l.length:=by
 have key:∀(l o:List ByteArray),(l.foldl (LH d) o).length<=o.length+l.length:=by
  intro l;induction l with
  | nil=>intro o;simp
  | cons x l a =>
   intro o;have h1:=a (LH d o x);have b:(LH d o x).length<=o.length+1:=by
    unfold LH;split
    .exact L8 o x
    omega
   simp only[SU,IF];omega
 have:=key l [];simpa[Ci] using this
def Ri:Ab:={ ins:=[FC,GC],pre:=λ(_,l,_)=>List.length l<=100000,out:=λ(d,l,_)=>[.p GC (Ci d l)] }
attribute [local go_sem] Ri
theorem gS:Ag Tryz.prog 221 Ri:=by
 refine fK [0,1,4,5,6,10,19] Tryz.func221 Tryz.ntmps221 (AF L5 (AF Rd AI)) ?_;rintro w0 O0 ⟨d,l,u⟩ c-hl;have hl:l.length<=100000:=hl;simp only[Ri,AN];repeat'(first|exact trivial|apply eS rfl|refine rX c ?_ ?_)
 refine AL (ι:={k:Nat//k<=l.length}) (λk=>⟨[(0,.p FC d),(1,.p GC l),(5,.p GC (Ci d (l.take k.1))),(6,.p (.int .i64) (k.1:Int))],[]⟩) (λk=>l.length-k.1) ⟨0,ON _⟩ (AD [] rfl rfl ?_ ?_) (λk=>?_)
 .exact eN
 .refine eM ?_;rfl
 obtain⟨k,hk⟩:=k;have hn:=JU d (l.take k);have f:=AA7 k l;have hs:=λh:k<l.length=>Ep (LH d) l ByteArray.empty [] h;simp only;repeat'(first|exact trivial|apply eS rfl|apply AC|refine rX c ?_ ?_|refine rC ?_ ?_<;>intro b<;>try(cases b;done))
 .exact b
 .exact⟨by assumption,by omega⟩
 .exact eV
 .have a:k<l.length:=by exact eV
  have e:Ci d (l.take (k+1))=LH d (Ci d (l.take k)) (l.getD k ByteArray.empty):=hs a;unfold LH at e;rw[DO b]at e;refine⟨⟨k+1,by omega⟩,by simp only;omega,AD [] rfl rfl ?_ ?_⟩
  .exact eN
  simp only[e];exact eN
 .exact eV
 .have a:k<l.length:=by exact eV
  have e:Ci d (l.take (k+1))=LH d (Ci d (l.take k)) (l.getD k ByteArray.empty):=hs a;unfold LH at e;rw[BY (ACe.2 b)]at e;refine⟨⟨k+1,by omega⟩,by simp only;omega,AD [] rfl rfl ?_ ?_⟩
  .exact eN
  simp only[e];exact eN
 have a:l.take k=l:=By (by exact eV);rw[a];exact fI c [.tmp 4]
def A1N (d:List AJ) (all:List ByteArray) (i:Nat) (k:Nat):Bool:=(k:Int)==(i:Int)||!Ae (Od d (all.getD i ByteArray.empty)) (all.getD k ByteArray.empty)
def ZE (d:List AJ) (all:List ByteArray) (i n:Nat):Bool:=(List.range n).all (A1N d all i)
def UD (d:List AJ) (all:List ByteArray) (n:Nat):List ByteArray:=((List.range n).filter λi=>ZE d all i all.length).map λi=>all.getD i ByteArray.empty
def CD (d:List AJ) (l:List ByteArray):List ByteArray:=UD d (Ci d l) (Ci d l).length
theorem xF (d:List AJ) (all:List ByteArray) (n:Nat):UD d all (n+1)=UD d all n++if ZE d all n all.length=true then [all.getD n ByteArray.empty] else []:=by
 unfold UD;rw[oF,ABf,UK]
 congr 1
 rw[AA5,ABu];split<;>rfl
theorem gT (d:List AJ) (all:List ByteArray) (n:Nat):(UD d all n).length<=n:=by
 unfold UD;rw[OF];exact SX (AAb _ _) sc
theorem nK (d:List AJ) (all:List ByteArray) (i n:Nat):ZE d all i (n+1)=(ZE d all i n&&A1N d all i n):=by
 unfold ZE;rw[oF,AB7];simp
def MC:Ab:={ ins:=[FC,GC],pre:=λ(d,l,_)=>WW d/\List.length d<=256/\List.length l<=100000,out:=λ(d,l,_)=>[.p GC (CD d l)] }
attribute [local go_sem] MC
theorem WZ:Ag Tryz.prog 206 MC:=by
 refine fK [0,1,4,5,6,7,8,9,10,17,29,47] Tryz.func206 Tryz.ntmps206 (AF gS (AF A1L (AF Gq AI))) ?_;rintro w0 O0 ⟨d,l,u⟩ c-⟨j,hd,hl⟩;have hd:d.length<=256:=hd;have hl:l.length<=100000:=hl;have h:CD d l=UD d (Ci d l) (Ci d l).length:=rfl;have m:=JU d l;simp only[MC,AN];repeat'(first|exact trivial|apply eS rfl|refine rX c ?_ ?_)
 .exact hl
 rw[h];generalize Ci d l=all at *;refine AL (ι:={i:Nat//i<=all.length}) (λi=>⟨[(0,.p FC d),(5,.sr 54 T9 0 (UD d all i.1).length),(6,.p GC all),(7,.p (.int .i64) (i.1:Int))],[(54,.arr 9 T9 (UD d all i.1))]⟩) (λi=>all.length-i.1) ⟨0,ON _⟩ (AD [(54,.nil)] rfl rfl ?_ ?_) (λi=>?_)
 .refine eM ?_;rfl
 .refine eM ?_;rfl
 obtain⟨i,hi⟩:=i;have n:=gT d all i;have b:=xF d all i;simp only;repeat'(first|exact trivial|apply eS rfl|refine rX c ?_ ?_|refine rC ?_ ?_<;>intro a<;>try(cases a;done))
 .exact⟨a,j,hd⟩
 .have f:i<all.length:=by exact eV
  refine AL (ι:={k:Nat//k<=all.length}) (λk=>⟨[(0,.p FC d),(5,.sr 54 T9 0 (UD d all i).length),(6,.p GC all),(7,.p (.int .i64) (i:Int)),(8,.p GC (Od d (all.getD i ByteArray.empty))),(9,.p .bool (ZE d all i k.1)),(10,.p (.int .i64) (k.1:Int))],[(54,.arr 9 T9 (UD d all i))]⟩) (λk=>all.length-k.1) ⟨0,ON _⟩ (AD [(54,.nm 54)] rfl rfl ?_ ?_) (λk=>?_)
  .exact eN
  .refine eM ?_;rfl
  obtain⟨k,hk⟩:=k;have g:=nK d all i k;simp only;repeat'(first|exact trivial|apply eS rfl|apply AC|refine rX c ?_ ?_|refine rC ?_ ?_<;>intro a<;>try(cases a;done))
  .exact λ_=>a
  .exact eV
  .have e:k<all.length:=by exact eV
   refine⟨⟨k+1,by omega⟩,by simp only;omega,AD [(54,.nm 54)] rfl rfl ?_ ?_⟩
   .exact eN
   simp only[g];unfold A1N;exact eN
  .refine⟨by assumption,?_⟩;simp only[AP];omega
  .exact eV
  .have e:k=all.length:=by exact eV
   subst e;rw[a,DO rfl]at b;refine⟨⟨i+1,by omega⟩,by simp only;omega,AD [(54,.nm 54)] rfl rfl ?_ ?_⟩
   .simp only[b];exact eN
   simp only[b];exact eN
  .exact eV
  have e:k=all.length:=by exact eV
  subst e;rw[a,BY sc,UL]at b;refine⟨⟨i+1,by omega⟩,by simp only;omega,AD [(54,.nm 54)] rfl rfl ?_ ?_⟩
  .simp only[b];exact eN
  simp only[b];exact eN
 have f:i=all.length:=by exact eV
 subst f;refine GB [54] ?_;exact fI c [.tmp 4]
end
section
attribute [local go_sem] Ki
def xG (b:List Int) (x:Int):List Int:=b.set (x.tdiv 64).toNat (Cf .or .u64 (b.getD (x.tdiv 64).toNat 0) (aE .u64 1 (x.tmod 64)))
def zN (l:List Int):List Int:=l.foldl xG (List.replicate 64 0)
def okB (x:Int):Bool:=!(decide (x<0)||decide (4095<x))
def ofF (l:List Int):List Int×Int:=if l.all okB=true then (BP (zN l),0) else ([],2)
theorem QI (l:List Int):(zN l).length=64:=by
 have key:∀(l b:List Int),(l.foldl xG b).length=b.length:=by
  intro l;induction l with
  | nil=>intro b;rfl
  | cons x l a =>
   intro b;rw[SU,a];simp[xG]
 unfold zN;rw[key];simp
def ofS:Ab:={ ins:=[G0],pre:=λ_=>True,out:=λ(l,_)=>[.p BR (ofF l).1,.p HD (ofF l).2] }
theorem A94:Ag Tryz.prog 202 ofS:=by
 refine fK [0,2,3,4,5,10,24] Tryz.func202 Tryz.ntmps202 (AF M7 AI) ?_;rintro w0 O0 ⟨l,u⟩ c ⟨⟨hl,-⟩,-⟩ -;simp only[AP]at hl;simp only[ofS,AN];repeat'(first|exact trivial|apply eS rfl|refine rX c ?_ ?_)
 .simp only[AP];omega
 refine AL (ι:={k:Nat//k<=l.length/\(l.take k).all okB=true}) (λk=>⟨[(0,.p G0 l),(4,.sr 6 Rb 0 (zN (l.take k.1)).length),(5,.p (.int .i64) (k.1:Int))],[(6,.arr 186 Rb (zN (l.take k.1)))]⟩) (λk=>l.length-k.1) ⟨0,ON _,rfl⟩ (AD [(6,.nm 6)] rfl rfl ?_ ?_) (λk=>?_)
 .refine eM ?_;rfl
 .refine eM ?_;rfl
 obtain⟨k,hk,hf⟩:=k;have d:=QI (l.take k);have hs:∀h:k<l.length,zN (l.take (k+1))=xG (zN (l.take k)) (l.getD k 0):=λh=>Ep xG l 0 _ h;simp only;repeat'(first|exact trivial|apply eS rfl|apply AC|refine rX c ?_ ?_|refine rC ?_ ?_<;>intro a<;>try(cases a;done))
 .exact⟨a,λ_=>a⟩
 .have b:k<l.length:=by exact eV
  have h1:ofF l=([],2):=by
   unfold ofF;rw[BY];intro h;have:=NO.1 h _ (AE l 0 b);unfold okB at this;rw[Sa,AA2,Sd,Sd]at this;rcases a with h|h
   .exact this.1 h
   exact this.2 h
  exact fI c [.tmp 2,.tmp 3] (by rw[h1];exact eR)
 .obtain⟨h0,h1⟩:=a;have e1:Int.tdiv (l.getD k 0) 64=l.getD k 0 / 64:=AAD h0;have e2:Int.tmod (l.getD k 0) 64=l.getD k 0 % 64:=AAT h0;rw[e1,e2,d];refine⟨?_,⟨by decide,?_,?_⟩,?_,⟨by decide,?_,?_⟩,⟨?_,?_⟩,?_,⟨by decide,?_,?_⟩,⟨?_,?_⟩,?_,?_,?_⟩<;>exact eV
 .exact eV
 .have b:k<l.length:=by exact eV
  have e:=hs b;refine⟨⟨k+1,by omega,?_⟩,by simp only;omega,AD [(6,.nm 6)] rfl rfl ?_ ?_⟩
  .rw[Ju l 0 _ b,hf,ABK];unfold okB;rw[Sa,AA2,Sd,Sd];exact⟨AAB.2 a.1,AAB.2 a.2⟩
  .simp only[e];refine eM ?_;rfl
  simp only[e];refine eM ?_;rw[<-e,QI,QI]
 have b:l.take k=l:=By (by exact eV);rw[b]at hf ⊢;have h1:ofF l=(BP (zN l),0):=by unfold ofF;rw[DO hf]
 have f:=QI l;refine GB [6] ?_;repeat'(first|apply eS rfl|refine rX c ?_ ?_)
 .rw[f];decide
 exact fI c [.tmp 2,.tmp 3] (by rw[h1];exact eR)
end
section
attribute [local go_sem] WV QF
def nL (l:List (List Int)) (b:List Int):Bool:=l.any λx=>Jt x b
def A7s:Ab:={ ins:=[UB,BR],pre:=λ_=>True,out:=λ(l,b,_)=>[.p .bool (nL l b)],lend:=true }
theorem A7t:Ag Tryz.prog 203 A7s:=by
 refine fK [0,1,4,5,9,17] Tryz.func203 Tryz.ntmps203 (AF sM AI) ?_;rintro w0 O0 ⟨l,n,u⟩ a ⟨⟨hl,-⟩,-⟩ -;simp only[AP]at hl;simp only[A7s,AN];repeat'(first|exact trivial|apply eS rfl|refine rX a ?_ ?_)
 refine AL (ι:={k:Nat//k<=l.length/\(l.take k).any (λx=>Jt x n)=false}) (λk=>⟨[(0,.p UB l),(1,.p BR n),(5,.p (.int .i64) (k.1:Int))],[]⟩) (λk=>l.length-k.1) ⟨0,by simp⟩ (eW []) (λk=>?_)
 obtain⟨k,hk,c⟩:=k;repeat'(first|exact trivial|apply eS rfl|apply AC|refine rX a ?_ ?_|refine rC ?_ ?_<;>intro b<;>try(cases b;done))
 .exact eV
 .have d:k<l.length:=by exact eV
  have h1:nL l n=true:=Iy l [] _ d b;exact fI a [.tmp 4] (by rw[h1];exact eR)
 .exact eV
 .have d:k<l.length:=by exact eV
  refine⟨⟨k+1,by exact eV,?_⟩,by simp only;exact eV,AD [] rfl rfl ?_ ?_⟩
  .rw[M6 l [] _ d,c];exact b
  .exact eN
  exact eN
 have hk:l.take k=l:=By (by exact eV);rw[hk]at c;have h1:nL l n=false:=c;exact fI a [.tmp 4] (by rw[h1];exact eR)
abbrev AQ:=ByteArray×List Int
abbrev c0:AQ:=(ByteArray.empty,[])
def Np (l:List AQ) (i j:Int):Bool:=Eo (l.getD j.toNat c0).2 (l.getD i.toNat c0).2
def sP:Ab:={ ins:=[Js,T3,T3],pre:=λ(l,i,j,_)=>((0:Int)<=i/\i<(List.length l:Int))/\((0:Int)<=j/\j<(List.length l:Int))/\(∀x∈(l:List AQ),x.2.length<=100000),out:=λ(l,i,j,_)=>[.p .bool (Np l i j)],lend:=true }
theorem sQ:Ag Tryz.prog 166 sP:=by
 refine fK [0,1,2,6] Tryz.func166 Tryz.ntmps166 (AF Rf AI) ?_;rintro w0 O0 ⟨l,i,j,u⟩ a-⟨hi,b,hx⟩;simp only[sP,AN];repeat'(first|exact trivial|apply eS rfl|refine rX a ?_ ?_)
 .exact⟨b,hi,hx _ (AE (l:List AQ) c0 (by exact eV))⟩
 exact fI a [.tmp 6] (by unfold Np;exact eR)
end
section
attribute [local go_sem] WV
def Rj (s:ByteArray):Nat->List AQ->Int
 | _,[]=>-1
 | k,x :: l=>if Ac x.1 s=true then (k:Int) else Rj s (k+1) l
def DV (l:List AQ) (s:ByteArray):Int:=Rj s 0 l
theorem ZF (s:ByteArray) (l:List AQ) {k:Nat} (h:k<l.length):Rj s k (l.drop k)=if Ac (l.getD k c0).1 s=true then (k:Int) else Rj s (k+1) (l.drop (k+1)):=by
 rw[SR h];have e:l.getD k c0=l[k]:=by simp[AS,h]
 rw[e];rfl
def Up:Ab:={ ins:=[Js,T9],pre:=λ_=>True,out:=λ(l,s,_)=>[.p T3 (DV l s)],lend:=true }
theorem ZG:Ag Tryz.prog 168 Up:=by
 refine fK [0,1,4,5,9,18] Tryz.func168 Tryz.ntmps168 AI ?_;rintro w0 O0 ⟨l,s,u⟩ c ⟨⟨hl,-⟩,-⟩ -;simp only[AP]at hl;simp only[Up,AN];repeat'(first|exact trivial|apply eS rfl|refine rX c ?_ ?_)
 refine AL (ι:={k:Nat//k<=l.length/\Rj s k (l.drop k)=DV l s}) (λk=>⟨[(0,.p Js l),(1,.p T9 s),(5,.p (.int .i64) (k.1:Int))],[]⟩) (λk=>l.length-k.1) ⟨0,ON _,rfl⟩ (eW []) (λk=>?_)
 obtain⟨k,hk,hf⟩:=k;simp only;repeat'(first|exact trivial|apply eS rfl|apply AC|refine rX c ?_ ?_|refine rC ?_ ?_<;>intro b<;>try(cases b;done))
 .exact b
 .have a:k<l.length:=by exact eV
  rw[ZF s l a,DO b]at hf;exact fI c [.tmp 4] (by rw[<-hf];exact eR)
 .exact eV
 .have a:k<l.length:=by exact eV
  rw[ZF s l a,BY (by rw[b];simp)]at hf;exact⟨⟨k+1,by omega,hf⟩,by simp only;omega,eW []⟩
 have a:l.drop k=[]:=SV (by exact eV);rw[a]at hf;exact fI c [.tmp 4] (by rw[<-hf];first|exact eR|refine Y6 ?_;rfl)
end
section
attribute [local go_sem] WV Ki
def Wa (s:List Int):Nat->List AQ->Int
 | _,[]=>-1
 | k,x :: l=>if Jt x.2 s=true then (k:Int) else Wa s (k+1) l
def bW (l:List AQ) (b:List Int):Int:=Wa (BP b) 0 l
theorem Wb (s:List Int) (l:List AQ) {k:Nat} (h:k<l.length):Wa s k (l.drop k)=if Jt (l.getD k c0).2 s=true then (k:Int) else Wa s (k+1) (l.drop (k+1)):=by
 rw[SR h];have e:l.getD k c0=l[k]:=by simp[AS,h]
 rw[e];rfl
def nM:Ab:={ ins:=[Js,BR],pre:=λ(_,b,_)=>List.length b<=100000,out:=λ(l,b,_)=>[.p T3 (bW l b)],lend:=true }
theorem A1O:Ag Tryz.prog 159 nM:=by
 refine fK [0,1,4,5,6,12,21] Tryz.func159 Tryz.ntmps159 (AF M7 (AF sM AI)) ?_;rintro w0 O0 ⟨l,b,u⟩ d ⟨⟨hl,-⟩,-⟩ hb;simp only[AP]at hl;simp only[nM,AN];repeat'(first|exact trivial|apply eS rfl|refine rX d ?_ ?_)
 .exact hb
 have e:bW l b=Wa (BP b) 0 l:=rfl;rw[e];generalize BP b=s at *;refine AL (ι:={k:Nat//k<=l.length/\Wa s k (l.drop k)=Wa s 0 l}) (λk=>⟨[(0,.p Js l),(5,.p BR s),(6,.p (.int .i64) (k.1:Int))],[]⟩) (λk=>l.length-k.1) ⟨0,ON _,rfl⟩ (eW []) (λk=>?_)
 obtain⟨k,hk,hf⟩:=k;simp only;repeat'(first|exact trivial|apply eS rfl|apply AC|refine rX d ?_ ?_|refine rC ?_ ?_<;>intro c<;>try(cases c;done))
 .exact c
 .have a:k<l.length:=by exact eV
  rw[Wb s l a,DO c]at hf;exact fI d [.tmp 4] (by rw[<-hf];exact eR)
 .exact eV
 .have a:k<l.length:=by exact eV
  rw[Wb s l a,BY (by rw[c];simp)]at hf;exact⟨⟨k+1,by omega,hf⟩,by simp only;omega,eW []⟩
 have a:l.drop k=[]:=SV (by exact eV);rw[a]at hf;exact fI d [.tmp 4] (by rw[<-hf];first|exact eR|refine Y6 ?_;rfl)
end
section
attribute [local go_sem] WV
def gU (s:ByteArray):List (ByteArray×ByteArray)->ByteArray×Bool
 | []=>(ByteArray.empty,false)
 | x :: l=>if Ac x.1 s=true then (x.2,true) else gU s l
def GT (x:AJ) (s:ByteArray):ByteArray×Bool:=gU s x.2.2
theorem ZH (s:ByteArray) (l:List (ByteArray×ByteArray)) {k:Nat} (h:k<l.length):gU s (l.drop k)=if Ac (l.getD k (ByteArray.empty,ByteArray.empty)).1 s=true then ((l.getD k (ByteArray.empty,ByteArray.empty)).2,true) else gU s (l.drop (k+1)):=by
 rw[SR h];have e:l.getD k (ByteArray.empty,ByteArray.empty)=l[k]:=by simp[AS,h]
 rw[e];rfl
def bX:Ab:={ ins:=[wW,T9],pre:=λ_=>True,out:=λ(x,s,_)=>[.p T9 (GT x s).1,.p .bool (GT x s).2],lend:=true }
theorem gV:Ag Tryz.prog 195 bX:=by
 refine fK [0,1,2,4,5,6,11,21] Tryz.func195 Tryz.ntmps195 AI ?_;rintro w0 O0 ⟨⟨nm,sup,a⟩,s,u⟩ d ⟨⟨-,-,f,-⟩,-⟩ -;simp only[AP]at f;simp only[bX,AN];repeat'(first|exact trivial|apply eS rfl|refine rX d ?_ ?_)
 have e:({ data:=#[] }:ByteArray).size<=AP:=by decide
 rw[DO e];refine AL (ι:={k:Nat//k<=a.length/\gU s (a.drop k)=GT (nm,sup,a) s}) (λk=>⟨[(1,.p T9 s),(2,.bp 2 [] 0),(6,.p (.int .i64) (k.1:Int))],[(2,.box 158 true [.p T9 nm,.p GC sup,.p m9 a])]⟩) (λk=>a.length-k.1) ⟨0,ON _,rfl⟩ (eW [(2,.nm 2)]) (λk=>?_)
 obtain⟨k,hk,hf⟩:=k;simp only;repeat'(first|exact trivial|apply eS rfl|apply AC|refine rX d ?_ ?_|refine rC ?_ ?_<;>intro c<;>try(cases c;done))
 .exact c
 .assumption
 .have b:k<a.length:=by exact eV
  rw[ZH s a b,DO c]at hf;exact fI d [.tmp 4,.tmp 5] (by rw[<-hf];exact eR)
 .exact eV
 .have b:k<a.length:=by exact eV
  rw[ZH s a b,BY (by rw[c];simp)]at hf;exact⟨⟨k+1,by omega,hf⟩,by simp only;omega,eW [(2,.nm 2)]⟩
 have b:a.drop k=[]:=SV (by exact eV);rw[b]at hf;rw[DO e];exact fI d [.tmp 4,.tmp 5] (by rw[<-hf];first|exact eR|refine Y6 ?_;exact⟨rfl,rfl⟩)
end
section
attribute [local go_sem] nI
def Fz (a b:AQ):Bool:=decide (((II b.2).length:Int)<((II a.2).length:Int))||((II a.2).length:Int)==((II b.2).length:Int)&&Ce a.1 b.1
def bZ:Ab:={ ins:=[bN,bN],pre:=λ(a,b,_)=>List.length (a:AQ).2<=100000/\List.length (b:AQ).2<=100000,out:=λ(a,b,_)=>[.p .bool (Fz a b)],lend:=true }
theorem xH:Ag Tryz.prog 165 bZ:=by
 refine fK [0,1,2,3,4,5,6] Tryz.func165 Tryz.ntmps165 (AF A1H AI) ?_;rintro w0 O0 ⟨⟨b,ac⟩,⟨d,c⟩,u⟩ a-⟨ha,hb⟩;simp only[bZ,AN];repeat'(first|exact trivial|apply eS rfl|refine rX a ?_ ?_)
 .exact ha
 .exact hb
 exact fI a [.tmp 4] (by unfold Fz;exact eR)
end
section
attribute [local go_sem] bV JS ofS
def Oe (low all:List ByteArray) (n:Nat):List Int:=((List.range n).filter λ(i:Nat)=>Ae low (all.getD i ByteArray.empty)).map λ(i:Nat)=>(i:Int)
theorem xI (low all:List ByteArray) (n:Nat):Oe low all (n+1)=Oe low all n++if Ae low (all.getD n ByteArray.empty)=true then [(n:Int)] else []:=by
 unfold Oe;rw[oF,ABf,UK]
 congr 1
 rw[AA5,ABu];split<;>rfl
theorem A1P (low all:List ByteArray) (n:Nat):(Oe low all n).length<=n:=by
 unfold Oe;rw[OF];exact SX (AAb _ _) sc
def HP (d:List AJ) (all:List ByteArray) (s:ByteArray):List Int:=(ofF (Oe (Dr d s) all all.length)).1
def A1Q:Ab:={ ins:=[FC,GC,T9],pre:=λ(d,l,_,_)=>List.length d<=256/\List.length l<=100000,out:=λ(d,l,s,_)=>[.p BR (HP d l s)] }
theorem A4N:Ag Tryz.prog 162 A1Q:=by
 refine fK [0,1,2,6,7,8,9,10,18,26] Tryz.func162 Tryz.ntmps162 (AF A1M (AF Gq (AF A94 AI))) ?_;rintro w0 O0 ⟨d,l,s,u⟩ b-⟨hd,hl⟩;have hl:l.length<=100000:=hl;have e:HP d l s=(ofF (Oe (Dr d s) l l.length)).1:=rfl;simp only[A1Q,AN];repeat'(first|exact trivial|apply eS rfl|refine rX b ?_ ?_)
 .exact hd
 rw[e];generalize Dr d s=low at *;refine AL (ι:={n:Nat//n<=l.length}) (λn=>⟨[(0,.p FC d),(1,.p GC l),(2,.p T9 s),(7,.p GC low),(8,.sr 30 T3 0 (Oe low l n.1).length),(9,.p (.int .i64) (n.1:Int))],[(30,.arr 3 T3 (Oe low l n.1))]⟩) (λn=>l.length-n.1) ⟨0,ON _⟩ (AD [(30,.nil)] rfl rfl ?_ ?_) (λn=>?_)
 .refine eM ?_;rfl
 .refine eM ?_;rfl
 obtain⟨n,hn⟩:=n;have f:=A1P low l n;have hs:=xI low l n;simp only;repeat'(first|exact trivial|apply eS rfl|apply AC|refine rX b ?_ ?_|refine rC ?_ ?_<;>intro a<;>try(cases a;done))
 .exact a
 .rw[a,DO rfl]at hs;simp only[AP];dsimp only[Ty.den]at *;omega
 .exact eV
 .have c:n<l.length:=by exact eV
  rw[a,DO rfl]at hs;refine⟨⟨n+1,by omega⟩,by simp only;omega,AD [(30,.nm 30)] rfl rfl ?_ ?_⟩
  .simp only[hs];exact eN
  simp only[hs];exact eN
 .exact eV
 .have c:n<l.length:=by exact eV
  rw[a,BY sc,UL]at hs;refine⟨⟨n+1,by omega⟩,by simp only;omega,AD [(30,.nm 30)] rfl rfl ?_ ?_⟩
  .simp only[hs];exact eN
  simp only[hs];exact eN
 have c:n=l.length:=by exact eV
 subst c;refine GB [30] ?_;repeat'(first|exact trivial|apply eS rfl|refine rX b ?_ ?_)
 exact fI b [.tmp 6]
end
section
attribute [local go_sem] bO
def Nq (o:List ByteArray) (f:ByteArray×ByteArray):List ByteArray:=Dm o f.1
def Og (o:List ByteArray) (x:AJ):List ByteArray:=x.2.2.foldl Nq o
def DQ (d:List AJ):List ByteArray:=d.foldl Og []
theorem ZI (l:List (ByteArray×ByteArray)):∀o:List ByteArray,(l.foldl Nq o).length<=o.length+l.length:=by
 induction l with
 | nil=>intro o;simp
 | cons x l a =>
  intro o;have h1:=a (Nq o x);have b:(Nq o x).length<=o.length+1:=L8 o x.1;simp only[SU,IF];omega
theorem nN {d:List AJ} (h:∀x∈d,x.2.2.length<=256):∀(l:List AJ),(∀x∈l,x∈d)->∀o:List ByteArray,(l.foldl Og o).length<=o.length+256*l.length:=by
 intro l;induction l with
 | nil=>intro _ o;simp
 | cons x l a =>
  intro hl o;have h1:=a (λy hy=>hl y (by simp[hy])) (Og o x);have b:=ZI x.2.2 o;have c:=h x (hl x sc);have e:(Og o x).length=(x.2.2.foldl Nq o).length:=rfl;simp only[SU,IF];omega
def Wc:Ab:={ ins:=[FC],pre:=λ(d,_)=>List.length d<=256/\(∀x∈(d:List AJ),x.2.2.length<=256),out:=λ(d,_)=>[.p GC (DQ d)] }
theorem Wd:Ag Tryz.prog 157 Wc:=by
 refine fK [0,2,3,4,5,9,19] Tryz.func157 Tryz.ntmps157 (AF Rd AI) ?_;rintro w0 O0 ⟨d,u⟩ c-⟨hd,hx⟩;have hd:d.length<=256:=hd;simp only[Wc,AN];repeat'(first|exact trivial|apply eS rfl|refine rX c ?_ ?_)
 refine AL (ι:={i:Nat//i<=d.length}) (λi=>⟨[(0,.p FC d),(3,.p GC (DQ (d.take i.1))),(4,.p (.int .i64) (i.1:Int))],[]⟩) (λi=>d.length-i.1) ⟨0,ON _⟩ (AD [] rfl rfl ?_ ?_) (λi=>?_)
 .exact eN
 .refine eM ?_;rfl
 obtain⟨i,hi⟩:=i;have j:=nN hx (d.take i) (λx h=>iS h) [];have r:=AA7 i d;have hs:=λh:i<d.length=>Ep Og d d0 [] h;have f:∀e,DQ e=e.foldl Og []:=λ_=>rfl;simp only;repeat'(first|exact trivial|apply eS rfl|refine rX c ?_ ?_|refine rC ?_ ?_<;>intro a<;>try(cases a;done))
 .have g:i<d.length:=by exact eV
  have s:=hx _ (AE d d0 g);have hs:=hs g;rw[<-f,<-f]at hs;rw[<-f]at j;generalize DQ (d.take i)=o at *;refine AL (ι:={k:Nat//k<=(d.getD i d0).2.2.length}) (λk=>⟨[(0,.p FC d),(3,.p GC (((d.getD i d0).2.2.take k.1).foldl Nq o)),(4,.p (.int .i64) (i:Int)),(5,.p (.int .i64) (k.1:Int))],[]⟩) (λk=>(d.getD i d0).2.2.length-k.1) ⟨0,ON _⟩ (AD [] rfl rfl ?_ ?_) (λk=>?_)
  .exact eN
  .refine eM ?_;rfl
  obtain⟨k,hk⟩:=k;have n:k<=(d.getD i d0).2.2.length:=hk;have m:=ZI ((d.getD i d0).2.2.take k) o;have q:=AA7 k (d.getD i d0).2.2;have l:=λh:k<(d.getD i d0).2.2.length=>Ep Nq (d.getD i d0).2.2 (ByteArray.empty,ByteArray.empty) o h;simp only;repeat'(first|apply eS rfl|apply AC|refine rX c ?_ ?_|refine rC ?_ ?_<;>intro a<;>try(cases a;done))
  .assumption
  .refine⟨by assumption,a,?_⟩;simp only[AA1]at j;dsimp only[Ty.den]at *;omega
  .have h1:(k:Int)<((d.getD i d0).2.2.length:Int):=a;exact eV
  .have b:k<(d.getD i d0).2.2.length:=IN.1 a;have e:=l b;refine⟨⟨k+1,b⟩,by simp only;omega,AD [] rfl rfl ?_ ?_⟩
   .exact eN
   simp only[e];unfold Nq;exact eN
  .have:=hd;exact eV
  have b:(d.getD i d0).2.2.take k=(d.getD i d0).2.2:=By (SY.1 a);have e:DQ (d.take (i+1))=((d.getD i d0).2.2.take k).foldl Nq o:=by rw[b];exact hs
  refine⟨⟨i+1,g⟩,by simp only;omega,AD [] rfl rfl ?_ ?_⟩
  .exact eN
  simp only[e];exact eN
 have b:d.take i=d:=By (by exact eV);rw[b];exact fI c [.tmp 2]
end
theorem ZJ {d:List AJ} {l:List ByteArray}:∀ {r:List ByteArray} {k:Nat},UC d l k r=0->∀s∈r,0<=BN d s
 | [],_,_,s,hs=>by cases hs
 | x :: r,k,h,s,hs=>by
  simp only[UC]at h;split at h
  .cases h
  rename_i h1;split at h
  .cases h
  rcases At.1 hs with rfl|hs
  .omega
  exact ZJ h s hs
theorem QJ {d:List AJ}:∀ {l:List AJ},Kj d l=0->∀x∈l,∀s∈x.2.1,0<=BN d s
 | [],_,x,hx=>by cases hx
 | y :: l,h,x,hx=>by
  simp only[Kj]at h;split at h
  .rename_i h1;exact absurd h h1
  rename_i h1;rcases At.1 hx with rfl|hx
  .exact ZJ (IS h1)
  exact QJ h x hx
theorem A1R {d:List AJ} (h:Kk d=0):WW d:=QJ h
theorem BH {d:List AJ} (h:BW d=0):WW d/\d.length<=256/\IL d=1/\Dp d=0/\d.length<=(Bl d).length:=by
 unfold BW at h;split at h
 .rename_i h1;exact absurd h h1
 rename_i h1;split at h
 .rename_i a;exact absurd h a
 rename_i a;split at h
 .rename_i b;exact absurd h b
 rename_i b;split at h
 .cases h
 rename_i c;split at h
 .cases h
 rename_i e;exact⟨A1R (IS b),TN (IS h1),IS c,IS a,by omega⟩
section
attribute [local go_sem] A7s A1D
def HE (l:List (List Int)) (i k:Nat):List (List Int) :=
 if (decide (0<((GS (l.getD i []) (l.getD k [])).length:Int))&&!nL l (GS (l.getD i []) (l.getD k [])))=true then l++[GS (l.getD i []) (l.getD k [])] else l
def HF (i:Nat):Nat->Nat->List (List Int)->List (List Int)
 | 0,_,l=>l
 | n+1,k,l=>if l.length<=256 then HF i n (k+1) (HE l i k) else l
def JV:Nat->Nat->List (List Int)->List (List Int)
 | 0,_,l=>l
 | n+1,i,l=>if i<l.length/\l.length<=256 then JV n (i+1) (HF i i 0 l) else l
def BD (c:List (List Int)):List (List Int):=JV 257 0 c
theorem gW (a b:List Int):(GS a b).length<=a.length:=by
 unfold GS BP;have:=Ea .and a b a.length;rw[OS];omega
structure A6k (l:List (List Int)):Prop where
 len:l.length<=257
 wid:∀c∈l,c.length<=64
theorem MD {l:List (List Int)} (h:∀c∈l,c.length<=64) (k:Nat):(l.getD k []).length<=64:=by
 rw[AS];cases hh:l[k]? with
 | none=>simp
 | some x=>exact h x (UR hh)
theorem gX {l:List (List Int)} (h:∀c∈l,c.length<=64) (i k:Nat):∀c∈HE l i k,c.length<=64:=by
 unfold HE;split
 .intro c a;rcases Do.1 a with a|a
  .exact h c a
  have:c=GS (l.getD i []) (l.getD k []):=by simpa using a
  rw[this];exact SX (gW _ _) (MD h i)
 exact h
theorem A1S (l:List (List Int)) (i k:Nat):l.length<=(HE l i k).length/\(HE l i k).length<=l.length+1:=by
 unfold HE;split
 .simp
 exact⟨No _,Nat.le_succ _⟩
def b6:Ab:={ ins:=[UB],pre:=λ(c,_)=>List.length c<=256/\∀x∈(c:List (List Int)),x.length<=64,out:=λ(c,_)=>[.p UB (BD c)] }
theorem xJ:Ag Tryz.prog 163 b6:=by
 refine fK [0,2,3,4,5,6,18,28,48] Tryz.func163 Tryz.ntmps163 (AF A1E (AF A7t AI)) ?_;rintro w0 O0 ⟨c,u⟩ d-⟨n,t⟩;have n:c.length<=256:=n;simp only[b6,AN];repeat'(first|exact trivial|apply eS rfl|refine rX d ?_ ?_)
 .simp only[AP];dsimp only[Ty.den]at *;omega
 refine AL (ι:={x:Nat×List (List Int)//x.1<=256/\A6k x.2/\JV (257-x.1) x.1 x.2=BD c}) (λx=>⟨[(3,.sr 7 BR 0 x.1.2.length),(4,.p (.int .i64) (x.1.1:Int))],[(7,.arr 140 BR x.1.2)]⟩) (λx=>257-x.1.1) ⟨(0,c),by simp,⟨by simp only;omega,t⟩,rfl⟩ (eW [(7,.nm 7)]) (λx=>?_)
 obtain⟨⟨i,l⟩,hi,⟨q,s⟩,f⟩:=x;simp only at hi q s f;simp only;repeat'(first|exact trivial|apply eS rfl|refine rX d ?_ ?_|refine rC ?_ ?_<;>intro a<;>try(cases a;done))
 .have w:i<l.length:=by omega
  have z:l.length<=256:=by omega
  have o:JV (256-i) (i+1) (HF i i 0 l)=BD c:=by
   have e:257-i=(256-i)+1:=by omega
   rw[<-f,e];show _=if i<l.length/\l.length<=256 then JV (256-i) (i+1) (HF i i 0 l) else l
   rw[DO ⟨w,z⟩]
  refine AL (ι:={y:Nat×List (List Int)//y.1<=i/\A6k y.2/\l.length<=y.2.length/\HF i (i-y.1) y.1 y.2=HF i i 0 l}) (λy=>⟨[(3,.sr 7 BR 0 y.1.2.length),(4,.p (.int .i64) (i:Int)),(5,.p (.int .i64) (y.1.1:Int))],[(7,.arr 140 BR y.1.2)]⟩) (λy=>i-y.1.1) ⟨(0,l),by simp,⟨q,s⟩,No _,rfl⟩ (eW [(7,.nm 7)]) (λy=>?_)
  obtain⟨⟨k,m⟩,hk,⟨g,b⟩,r,hf⟩:=y;simp only at hk g b r hf;simp only;repeat'(first|exact trivial|apply eS rfl|apply AC|refine rX d ?_ ?_|refine rC ?_ ?_<;>intro a<;>try(cases a;done))
  .exact⟨by exact eV,by exact eV,SX (MD b i) dc⟩
  .simp only[AP];omega
  .omega
  .have e:HE m i k=m++[GS (m.getD i []) (m.getD k [])]:=by
    unfold HE;rw[DO];rw[An,Is,Sa];exact a
   have C:=gX b i k;have D:=A1S m i k;refine⟨⟨(k+1,HE m i k),by simp only;omega,⟨by simp only;omega,C⟩,by simp only;omega,?_⟩,by simp only;omega,AD [(7,.nm 7)] rfl rfl ?_ ?_⟩
   .simp only;rw[<-hf,show i-k=(i-(k+1))+1 by omega];show _=if m.length<=256 then HF i (i-(k+1)) (k+1) (HE m i k) else m
    rw[DO oa]
   .simp only[e];exact eN
   simp only[e];exact eN
  .omega
  .have e:HE m i k=m:=by
    unfold HE;rw[BY];rw[An,Is,Sa];intro h;rw[a h.1]at h;exact absurd h.2 sc
   refine⟨⟨(k+1,m),by simp only;omega,⟨g,b⟩,r,?_⟩,by simp only;omega,AD [(7,.nm 7)] rfl rfl ?_ ?_⟩
   .simp only;rw[<-hf,show i-k=(i-(k+1))+1 by omega];show _=if m.length<=256 then HF i (i-(k+1)) (k+1) (HE m i k) else m
    rw[DO oa,e]
   .exact eN
   exact eN
  .omega
  have B:m=HF i i 0 l:=by
   rw[<-hf];cases A:i-k with
   | zero=>rfl
   | succ j =>
    show _=if m.length<=256 then _ else m
    rw[BY oa]
  rw[<-B]at o;refine⟨⟨(i+1,m),by simp only;omega,⟨g,b⟩,?_⟩,by simp only;omega,AD [(7,.nm 7)] rfl rfl ?_ ?_⟩
  .simp only;rw[show 257-(i+1)=256-i by omega];exact o
  .exact eN
  exact eN
 have v:l=BD c:=by
  rw[<-f];cases A:257-i with
  | zero=>rfl
  | succ m =>
   show _=if i<l.length/\l.length<=256 then _ else l
   rw[BY oa]
 rw[<-v];refine GB [7] ?_;exact fI d [.tmp 2]
theorem cs0 {α:Type} (x y:α):(if ({ data:=#[] }:ByteArray).size<=AP then x else y)=x:=DO (by show 0<=AP;decide)
theorem cs1 {α:Type} (a:UInt8) (x y:α):(if ({ data:=#[a] }:ByteArray).size<=AP then x else y)=x:=DO (by show 1<=AP;decide)
theorem cs2 {α:Type} (a b:UInt8) (x y:α):(if ({ data:=#[a,b] }:ByteArray).size<=AP then x else y)=x:=DO (by show 2<=AP;decide)
theorem cs3 {α:Type} (a b c:UInt8) (x y:α):(if ({ data:=#[a,b,c] }:ByteArray).size<=AP then x else y)=x:=DO (by show 3<=AP;decide)
theorem zO {α:Type} (a b c d:UInt8) (x y:α):(if ({ data:=#[a,b,c,d] }:ByteArray).size<=AP then x else y)=x:=DO (by show 4<=AP;decide)
theorem zP {α:Type} (a b c d e:UInt8) (x y:α):(if ({ data:=#[a,b,c,d,e] }:ByteArray).size<=AP then x else y)=x:=DO (by show 5<=AP;decide)
theorem cs6 {α:Type} (a b c d e f:UInt8) (x y:α):(if ({ data:=#[a,b,c,d,e,f] }:ByteArray).size<=AP then x else y)=x:=DO (by show 6<=AP;decide)
theorem cs7 {α:Type} (a b c d e f g:UInt8) (x y:α):(if ({ data:=#[a,b,c,d,e,f,g] }:ByteArray).size<=AP then x else y)=x:=DO (by show 7<=AP;decide)
theorem cs8 {α:Type} (a b c d e f g h:UInt8) (x y:α):(if ({ data:=#[a,b,c,d,e,f,g,h] }:ByteArray).size<=AP then x else y)=x:=DO (by show 8<=AP;decide)
end
def Bb (b:List Int) (i:Nat):Bool:=(b.getD (i / 64) 0).toNat.testBit (i % 64)
def U64 (x:Int):Prop:=0<=x/\x<18446744073709551616
theorem FX {x:Int} (h:U64 x):(BitVec.ofInt 64 x).toNat=x.toNat:=by
 rw[BitVec.toNat_ofInt];have h1:=h.1;have a:=h.2;rw[Int.emod_eq_of_lt h1 (by simpa using a)]
theorem QK {n:Nat} (h:n<18446744073709551616):IntKind.u64.wrap (n:Int)=n:=KV (by rw[Kb];omega)
theorem A4O {x y:Int} (hx:U64 x) (hy:U64 y):Cf .or .u64 x y=((x.toNat ||| y.toNat:Nat):Int):=by
 have h1:(BitVec.ofInt IntKind.u64.bits x ||| BitVec.ofInt IntKind.u64.bits y).toNat=x.toNat ||| y.toNat:=by
  rw[BitVec.toNat_or];show (BitVec.ofInt 64 x).toNat ||| (BitVec.ofInt 64 y).toNat=_
  rw[FX hx,FX hy]
 unfold Cf;simp only;rw[h1];have e:(18446744073709551616:Nat)=2 ^ 64:=by decide
 refine QK ?_;rw[e];refine Nat.or_lt_two_pow ?_ ?_
 .have:=hx.2;have:=hx.1;omega
 have:=hy.2;have:=hy.1;omega
theorem IM {x y:Int} (hx:U64 x) (hy:U64 y):Cf .and .u64 x y=((x.toNat &&& y.toNat:Nat):Int):=by
 have h1:(BitVec.ofInt IntKind.u64.bits x &&& BitVec.ofInt IntKind.u64.bits y).toNat=x.toNat &&& y.toNat:=by
  rw[BitVec.toNat_and];show (BitVec.ofInt 64 x).toNat &&& (BitVec.ofInt 64 y).toNat=_;rw[FX hx,FX hy]
 unfold Cf;simp only;rw[h1];refine QK (ABN ABL ?_);have:=hx.2;have:=hx.1;omega
theorem Rk {x y:Int}:Cf .andNot .u64 x y=((BitVec.ofInt 64 x &&& ~~~BitVec.ofInt 64 y).toNat:Int):=by
 show IntKind.u64.wrap ((BitVec.ofInt 64 x &&& ~~~BitVec.ofInt 64 y).toNat:Int)=_;exact QK (BitVec.isLt _)
theorem TP {x y:Int} (hx:U64 x) (hy:U64 y) (h:Cf .andNot .u64 x y=0) {r:Nat} (b:r<64) (hb:x.toNat.testBit r=true):y.toNat.testBit r=true:=by
 rw[Rk]at h;have h1:(BitVec.ofInt 64 x &&& ~~~BitVec.ofInt 64 y).toNat=0:=by omega
 have a:(BitVec.ofInt 64 x &&& ~~~BitVec.ofInt 64 y).toNat.testBit r=false:=by rw[h1];exact Nat.zero_testBit r
 rw[AB3,BitVec.getLsbD_and,BitVec.getLsbD_not,<-AB3,<-AB3,FX hx,FX hy,hb]at a;simpa[b] using a
theorem TQ {x:Int}:Cf .andNot .u64 x x=0:=by
 rw[Rk];simp
theorem Oh {b:List Int}:∀ {n:Nat},∀k,Cm b n<=k->k<n->b.getD k 0=0
 | 0,k,_,h=>by omega
 | n+1,k,h1,c=>by
  unfold Cm at h1;split at h1
  .rename_i a;by_cases hk:k=n
   .rw[hk];exact a
   exact Oh k h1 oa
  omega
theorem QL (b:List Int) (k:Nat):(BP b).getD k 0=b.getD k 0:=by
 unfold BP;by_cases h:k<Cm b b.length
 .simp[AS,UP,h]
 have h1:(List.take (Cm b b.length) b).getD k 0=0:=by
  rw[AS,UP,BY h];rfl
 rw[h1];by_cases a:k<b.length
 .exact(Oh k oa a).symm
 rw[AS,Si oa];rfl
theorem Oi (b:List Int) (i:Nat):Bb (BP b) i=Bb b i:=by unfold Bb;rw[QL]
def I8 (b:List Int):Prop:=∀x∈b,U64 x
theorem BI {b:List Int} (h:I8 b) (k:Nat):U64 (b.getD k 0):=by
 rw[AS];cases hh:b[k]? with
 | none=>exact⟨by simp,by simp⟩
 | some x=>exact h x (UR hh)
theorem Oj {b:List Int} (h:I8 b):I8 (BP b):=λx hx=>h x (iS hx)
theorem Ht (b:List Int) (k:Nat):GE b (k:Int)=b.getD k 0:=by
 unfold GE;split
 .simp
 rename_i h;rw[AS,Si oa];rfl
theorem M8 (op:BinOp) (a b:List Int) {n k:Nat} (h:k<n):(GR op a b n).getD k 0=Cf op .u64 (a.getD k 0) (b.getD k 0):=by
 unfold GR;rw[AS,nO,AAE h];show Cf op .u64 (a.getD k 0) (GE b (k:Int))=_;rw[Ht]
theorem b7 {a b:List Int} (h:Eo a b=true) {k:Nat} (hk:k<a.length):Cf .andNot .u64 (a.getD k 0) (b.getD k 0)=0:=by
 unfold Eo Re BP at h;have h1:(List.take (Cm (GR .andNot a b a.length) (GR .andNot a b a.length).length) (GR .andNot a b a.length)).length=0:=by
  have:=UQ.1 h;omega
 rw[OS,Ea]at h1;have d:=WT (GR .andNot a b a.length) a.length;have c:=Oh (b:=GR .andNot a b a.length) (n:=a.length) k oa hk;rw[M8 _ _ _ hk]at c;exact c
theorem ME {a b:List Int} (ha:I8 a) (hb:I8 b) (h:Eo a b=true) {i:Nat} (hi:Bb a i=true):Bb b i=true:=by
 by_cases hk:i / 64<a.length
 .exact TP (BI ha _) (BI hb _) (b7 h hk) (ACd _ dc) hi
 exfalso;unfold Bb at hi;rw[AS,Si oa]at hi;simp at hi
theorem Rl {b:List Int}:∀ {n:Nat},(∀k,k<n->b.getD k 0=0)->Cm b n=0
 | 0,_=>rfl
 | n+1,h=>by
  unfold Cm;rw[DO (h n oa)];exact Rl λk hk=>h k oa
theorem gY (a:List Int):Eo a a=true:=by
 unfold Eo Re BP;have h1:Cm (GR .andNot a a a.length) (GR .andNot a a a.length).length=0:=by
  rw[Ea];exact Rl λk hk=>by rw[M8 _ _ _ hk];exact TQ
 rw[h1];rfl
theorem gZ (a:List Int):Fy a a=true:=by unfold Fy;rw[gY];rfl
theorem A4P {b:List Int} (hb:I8 b) (hl:b.length=64) {x:Int} (h0:0<=x) (h1:x<=4095) (i:Nat):Bb (xG b x) i=(Bb b i||decide (x=(i:Int))):=by
 have e1:Int.tdiv x 64=x / 64:=AAD h0;have e2:Int.tmod x 64=x % 64:=AAT h0;obtain⟨n,rfl⟩:∃n:Nat,x=(n:Int):=⟨x.toNat,by omega⟩;have hs:aE .u64 1 ((n:Int) % 64)=((2 ^ (n % 64):Nat):Int):=by
  unfold aE;have c:min ((n:Int) % 64).toNat IntKind.u64.bits=n % 64:=by
   have:((n:Int) % 64).toNat=n % 64:=by omega
   rw[this];have:IntKind.u64.bits=64:=rfl;omega
  rw[c,Int.one_mul];have:(2:Int) ^ (n % 64)=((2 ^ (n % 64):Nat):Int):=by simp
  rw[this];refine QK ?_;have a:(2:Nat) ^ (n % 64)<2 ^ 64:=Nat.pow_lt_pow_right dc (ACd _ dc);exact a
 have hu:U64 (aE .u64 1 ((n:Int) % 64)):=by
  rw[hs];have a:(2:Nat) ^ (n % 64)<2 ^ 64:=Nat.pow_lt_pow_right dc (ACd _ dc);have d:(2:Nat) ^ 64=18446744073709551616:=by decide
  refine⟨AAr _,?_⟩;rw[d]at a;exact IN.2 a
 have hn:((n:Int) / 64).toNat=n / 64:=by omega
 unfold xG Bb;rw[e1,e2,hn];by_cases hd:i / 64=n / 64
 .have e:n / 64<b.length:=by omega
  rw[hd];have:(b.set (n / 64) (Cf .or .u64 (b.getD (n / 64) 0) (aE .u64 1 ((n:Int) % 64)))).getD (n / 64) 0=Cf .or .u64 (b.getD (n / 64) 0) (aE .u64 1 ((n:Int) % 64)):=by
   simp[AS,e]
  rw[this,A4O (BI hb _) hu,hs];simp only[Sc,Nat.testBit_or,Nat.testBit_two_pow]
  congr 1
  rw[ABE];omega
 have:(b.set (n / 64) (Cf .or .u64 (b.getD (n / 64) 0) (aE .u64 1 ((n:Int) % 64)))).getD (i / 64) 0=b.getD (i / 64) 0:=by
  simp[AS,AAh,Ne.symm hd]
 rw[this];have:decide ((n:Int)=(i:Int))=false:=by
  rw[Sd];intro h;exact hd oa
 rw[this,Bool.or_false]
theorem A4Q {b:List Int} (hb:I8 b) (x:Int):I8 (xG b x):=by
 intro y hy;unfold xG at hy;rcases AAI hy with h|h
 .exact hb y h
 rw[h];have:=Mq .u64 ((BitVec.ofInt IntKind.u64.bits (b.getD (x.tdiv 64).toNat 0) ||| BitVec.ofInt IntKind.u64.bits (aE .u64 1 (x.tmod 64))).toNat:Int);rw[Kb]at this;exact⟨this.1,by have:=this.2;show _<_;exact ABW this dc⟩
theorem A4R {l:List Int} (h:l.all okB=true) (i:Nat):Bb (zN l) i=decide ((i:Int)∈l)/\I8 (zN l):=by
 have key:∀(l b:List Int),l.all okB=true->I8 b->b.length=64->Bb (l.foldl xG b) i=(Bb b i||decide ((i:Int)∈l))/\I8 (l.foldl xG b):=by
  intro l;induction l with
  | nil=>intro b _ hb _;simp[hb]
  | cons x l f =>
   intro b a hb hl;rw[AAz,An]at a;have hx:=a.1;unfold okB at hx;rw[Sa,AA2,Sd,Sd]at hx;obtain⟨c,d⟩:=f (xG b x) a.2 (A4Q hb x) (by simp[xG,hl]);rw[SU];refine⟨?_,d⟩;rw[c,A4P hb hl oa oa,Bool.or_assoc]
   congr 1
   rw[<-Bool.decide_or,ABE,At,eq_comm]
 have e:I8 (List.replicate 64 (0:Int)):=by
  intro y hy;rw[(List.mem_replicate.1 hy).2];exact⟨by decide,by decide⟩
 have h1:=key l (List.replicate 64 0) h e sc;refine⟨?_,h1.2⟩;unfold zN;rw[h1.1];have:Bb (List.replicate 64 (0:Int)) i=false:=by
  unfold Bb;have:(List.replicate 64 (0:Int)).getD (i / 64) 0=0:=by
   rw[AS,AAN];split<;>rfl
  rw[this];simp
 rw[this,Bool.false_or]
theorem A1U {low all:List ByteArray} {n i:Nat}:((i:Int)∈Oe low all n)↔i<n/\Ae low (all.getD i ByteArray.empty)=true:=by
 unfold Oe;rw[Y1];constructor
 .rintro⟨j,a,e⟩;have:j=i:=by omega
  subst this;rw[AAe,UJ]at a;exact a
 rintro⟨h1,b⟩;exact⟨i,by rw[AAe,UJ];exact⟨h1,b⟩,rfl⟩
theorem A4S {low all:List ByteArray} {n:Nat} (hn:n<=4096):(Oe low all n).all okB=true:=by
 rw[NO];intro x hx;unfold Oe at hx;obtain⟨j,a,rfl⟩:=Y1.1 hx;rw[AAe,UJ]at a;unfold okB;rw[Sa,AA2,Sd,Sd];exact⟨by omega,by omega⟩
theorem Eb {d:List AJ} {all:List ByteArray} (hl:all.length<=4096) (s:ByteArray) (i:Nat):(Bb (HP d all s) i=true↔i<all.length/\Ae (Dr d s) (all.getD i ByteArray.empty)=true)/\I8 (HP d all s)/\(HP d all s).length<=64:=by
 have h1:=A4S (low:=Dr d s) (all:=all) hl;have b:=A4R h1 i;have a:HP d all s=BP (zN (Oe (Dr d s) all all.length)):=by
  unfold HP ofF;rw[DO h1]
 refine⟨?_,?_,?_⟩
 .rw[a,Oi,b.1,Is,A1U]
 .rw[a];exact Oj b.2
 rw[a];unfold BP;have:=QI (Oe (Dr d s) all all.length);rw[OS];omega
theorem TR (d:List AJ) {s t:ByteArray} (h:Ac s t=true):BN d s=BN d t:=by
 have key:∀(l:List AJ) (k:Nat),Cn s k l=Cn t k l:=by
  intro l;induction l with
  | nil=>intro k;rfl
  | cons x l a =>
   intro k;simp only[Cn];have:Ac x.1 s=Ac x.1 t:=by grind [Ac,DG,FO]
   rw[this,a]
 exact key d 0
theorem Da {α:Type} {l:List α} {d:α} {k:Nat} (h:k<l.length):l.getD k d∈l:=by grind
theorem Co {α:Type} {l:List α} (d:α) {x:α} (h:x∈l):∃k,k<l.length/\l.getD k d=x:=by
 obtain⟨k,hk,e⟩:=AAi.1 h;exact⟨k,hk,by rw[AS,AT hk];exact e⟩
theorem MF {d:List AJ}:∀ {r:List AJ} {k:Nat},Ob d k r=0->∀j,j<r.length->¬BN d (r.getD j d0).1<((k+j:Nat):Int)/\Ez (r.getD j d0).1 false=true
 | [],_,_,j,a=>by simp at a
 | x :: r,k,h,j,a=>by
  simp only[Ob]at h;split at h
  .cases h
  rename_i h1;split at h
  .cases h
  rename_i b;cases j with
  | zero=>exact⟨b,by simpa using h1⟩
  | succ j =>
   have:=MF h j (by simpa using a);have e:k+(j+1)=k+1+j:=by omega
   rw[e];exact this
theorem QM (s:ByteArray):∀(l:List AJ) (k j:Nat),j<l.length->Ac (l.getD j d0).1 s=true->Cn s k l<=((k+j:Nat):Int)
 | [],_,j,h,_=>by simp at h
 | x :: l,k,j,h,e=>by
  simp only[Cn];split
  .omega
  rename_i h1;cases j with
  | zero=>exact absurd e h1
  | succ j =>
   have:=QM s l (k+1) j (by simpa using h) e;omega
theorem We {d:List AJ} (h:Dp d=0) {j:Nat} (b:j<d.length):BN d (d.getD j d0).1=(j:Int):=by
 have h1:=(MF h j b).1;have a:=QM (d.getD j d0).1 d 0 j b (FN _);rw[AAC]at h1 a;have a:BN d (d.getD j d0).1<=(j:Int):=a;omega
theorem g9 {d:List AJ} (h:Dp d=0) {x y:AJ} (hx:x∈d) (hy:y∈d) (e:Ac x.1 y.1=true):x=y:=by
 obtain⟨i,hi,rfl⟩:=Co d0 hx;obtain⟨j,a,rfl⟩:=Co d0 hy;grind [We,TR]
theorem nP (d:List AJ) (out:List ByteArray) (h:(IJ d out).1=true):∃x∈d,x.1=(IJ d out).2/\Ae out x.1=false/\JT x out=true:=by
 have key:∀(l:List AJ) (s:Bool×ByteArray),(∀x∈l,x∈d)->(s.1=true->∃x∈d,x.1=s.2/\Ae out x.1=false/\JT x out=true)->(l.foldl (Iz out) s).1=true ->
   ∃x∈d,x.1=(l.foldl (Iz out) s).2/\Ae out x.1=false/\JT x out=true:=by
  intro l;induction l with
  | nil=>intro s _ hs h;exact hs h
  | cons y l b =>
   intro s hl hs h;rw[SU]at h ⊢;refine b _ (λx hx=>hl x (by simp[hx])) (λa=>?_) h;unfold Iz at a ⊢;split
   .grind
   grind
 exact key d _ (λ_ h=>h) (λh=>by cases h) h
def PL (d:List AJ) (o:List ByteArray):Prop:=∀j,j<o.length->∃x∈d,x.1=o.getD j ByteArray.empty/\Ae (o.take j) x.1=false/\JT x (o.take j)=true
theorem PL.snoc {d:List AJ} {o:List ByteArray} (h:PL d o) {x:AJ} (hx:x∈d) (h1:Ae o x.1=false) (c:JT x o=true):PL d (o++[x.1]):=by
 intro j e;by_cases a:j<o.length
 .obtain⟨y,hy,e1,e2,b⟩:=h j a;grind
 grind
theorem Wf {d:List AJ}:∀ {n:Nat} {o:List ByteArray},PL d o->PL d (I0 d n o)
 | 0,_,h=>h
 | n+1,o,h=>by
  unfold I0;split
  .rename_i b;obtain⟨x,hx,e,h1,a⟩:=nP d o b;rw[<-e];exact Wf (h.snoc hx h1 a)
  exact h
theorem ZK (d:List AJ):PL d (Bl d):=Wf λj a=>by simp at a
theorem PL.ok {d:List AJ} {o:List ByteArray} (h:PL d o):d5 d o:=by
 refine⟨λs hs=>?_,?_⟩
 .obtain⟨j,a,rfl⟩:=Co ByteArray.empty hs;obtain⟨x,hx,e,-⟩:=h j a;rw[<-e];exact FP hx
 rw[Sl];intro i j hi a c;obtain⟨x,hx,e,h1,-⟩:=h j a;have b:=QH h1 o[i] (by rw[AB1];exact⟨i,by omega,rfl⟩);grind
theorem nQ {n:Nat} {l:List Nat} (h:l.Nodup) (hl:∀j∈l,j<n) (hn:n<=l.length) {k:Nat} (hk:k<n):k∈l:=by
 refine IS λb=>?_;have:=DY n (k :: l) (UN.2 ⟨b,h⟩) (λj a=>by
  rcases At.1 a with rfl|a
  .exact hk
  exact hl j a)
 simp at this;omega
theorem nS {d:List AJ} (hl:d.length<=(Bl d).length) {x:AJ} (hx:x∈d):∃s∈Bl d,Ac s x.1=true:=by
 have a:=(ZK d).ok;have h1:=Km d a;have h0:=FP hx;have hd:=Df d x.1;have b:=nQ (n:=d.length) h1 (λj c=>by
  obtain⟨s,hs,rfl⟩:=Y1.1 c;have h1:=a.decl s hs;rcases Df d s with g|⟨_,g,_⟩<;>omega) (by simpa using hl) (k:=(BN d x.1).toNat) oa
 obtain⟨s,hs,e⟩:=Y1.1 b;refine⟨s,hs,?_⟩;rcases Df d s with g|⟨_,_,f⟩
 .have:=a.decl s hs;omega
 grind [DG,FO]
def X1 (d:List AJ) (s:ByteArray):Nat:=(Bl d).findIdx λx=>Ac x s
theorem Ol (d:List AJ) {s t:ByteArray} (h:Ac s t=true):X1 d s=X1 d t:=by grind [X1,Ac,DG,FO]
theorem Om {d:List AJ} (hn:Dp d=0) (hl:d.length<=(Bl d).length) {x:AJ} (hx:x∈d) {s:ByteArray} (hs:Ae x.2.1 s=true):X1 d s<X1 d x.1:=by
 obtain⟨t,ht,e⟩:=nS hl hx;have b:X1 d x.1<(Bl d).length:=List.findIdx_lt_length_of_exists ⟨t,ht,e⟩;have heq:Ac ((Bl d)[X1 d x.1]) x.1=true:=List.findIdx_getElem (w:=b);obtain⟨y,hy,e1,-,g⟩:=ZK d (X1 d x.1) b;rw[AS,AT b]at e1;have e1:y.1=(Bl d)[X1 d x.1]:=e1;rw[<-e1]at heq;have m:=g9 hn hy hx heq;subst m;obtain⟨u,hu,f⟩:=To.1 hs;have h:Ae ((Bl d).take (X1 d y.1)) u=true:=NO.1 g u hu;obtain⟨v,c,ev⟩:=To.1 h;rw[AB1]at c;obtain⟨i,hi,rfl⟩:=c;have l:i<X1 d y.1:=by omega
 refine ABN ?_ l;refine IS λk=>?_;have a:=List.not_of_lt_findIdx (p:=λx=>Ac x s) (xs:=Bl d) (i:=i) (by unfold X1 at k;omega);have j:Ac ((Bl d)[i]) s=true:=DG ev f;try simp only at a
 rw[j]at a;exact absurd a sc
def YP (d:List AJ) (s x:ByteArray):Prop:=Ac s x=true\/X1 d s<X1 d x
theorem xL {d:List AJ} (hn:Dp d=0) (hl:d.length<=(Bl d).length) {s c:ByteArray} (a:YP d s c) {o:List ByteArray} (b:∀x∈o,YP d s x) {x:AJ} (hx:x∈d):∀y∈Ff c o x,YP d s y:=by
 intro y hy;unfold Ff at hy;split at hy
 .rename_i h;rw[An]at h;rcases Do.1 hy with hy|hy
  .exact b y hy
  have:y=x.1:=by simpa using hy
  subst this;have h1:=Om hn hl hx h.1;right;rcases a with a|a
  .rw[Ol d a];exact h1
  omega
 exact b y hy
theorem Wg {d:List AJ} (hn:Dp d=0) (hl:d.length<=(Bl d).length) {s c:ByteArray} (b:YP d s c):∀ {l:List AJ} {o:List ByteArray},(∀x∈l,x∈d)->(∀x∈o,YP d s x)->∀y∈l.foldl (Ff c) o,YP d s y
 | [],_,_,a=>a
 | x :: l,o,hx,a=>by
  rw[SU];exact Wg hn hl b (λy hy=>hx y (by simp[hy])) (xL hn hl b a (hx x sc))
theorem TS {d:List AJ} (hn:Dp d=0) (hl:d.length<=(Bl d).length) {s:ByteArray}:∀ {n i:Nat} {o:List ByteArray},(∀x∈o,YP d s x)->∀y∈Dq d n i o,YP d s y
 | 0,_,_,a=>a
 | n+1,i,o,a=>by
  unfold Dq;split
  .rename_i hi;exact TS hn hl (Wg hn hl (a _ (Da hi)) (λ_ h=>h) a)
  exact a
theorem A1V {c:ByteArray} {o:List ByteArray} {x:AJ} {y:ByteArray} (h:y∈o):y∈Ff c o x:=by grind [Ff]
theorem M9 {c:ByteArray} {y:ByteArray}:∀ {l:List AJ} {o:List ByteArray},y∈o->y∈l.foldl (Ff c) o
 | [],_,h=>h
 | x :: l,o,h=>by rw[SU];exact M9 (A1V h)
theorem Oo {d:List AJ} {y:ByteArray}:∀ {n i:Nat} {o:List ByteArray},y∈o->y∈Dq d n i o
 | 0,_,_,h=>h
 | n+1,i,o,h=>by
  unfold Dq;split
  .exact Oo (M9 h)
  exact h
theorem QN {l:List ByteArray} {s x:ByteArray} (h:x∈Dm l s):x∈l\/x=s:=by grind [Dm]
theorem ZL {l:List ByteArray} {s x:ByteArray} (h:x∈l):x∈Dm l s:=by
 unfold Dm;split
 .exact h
 have a:x∈l.take (YE l s)\/x∈l.drop (YE l s):=Do.1 (by rw[AAL];exact h);grind
theorem hZ {l:List ByteArray} {s:ByteArray}:Ae (Dm l s) s=true:=by
 unfold Dm;grind [Iy,YE,Ac,Ae,FN]
theorem NA {l:List ByteArray} {s:ByteArray} (h:s∈l):Ae l s=true:=To.2 ⟨s,h,FN s⟩
theorem NB {l m:List ByteArray} {s:ByteArray} (hs:∀x∈l,x∈m) (h:Ae l s=true):Ae m s=true:=by
 obtain⟨x,hx,e⟩:=To.1 h;exact To.2 ⟨x,hs x hx,e⟩
theorem iC:∀ {l o:List ByteArray} {x:ByteArray},x∈l.foldl Dm o->x∈o\/x∈l
 | [],_,_,h=>.inl h
 | y :: l,o,x,h=>by
  rw[SU]at h;rcases iC h with h|h
  .grind [QN]
  grind
theorem ZM:∀ {l o:List ByteArray} {x:ByteArray},x∈o->x∈l.foldl Dm o
 | [],_,_,h=>h
 | y :: l,o,x,h=>by rw[SU];exact ZM (ZL h)
theorem Wh:∀ {l o:List ByteArray} {x:ByteArray},x∈l->Ae (l.foldl Dm o) x=true
 | [],_,_,h=>by cases h
 | y :: l,o,x,h=>by
  rw[SU];rcases At.1 h with rfl|h
  .grind [NB,ZM,hZ]
  exact Wh h
theorem Oq {d:List AJ} {s:ByteArray} (h:0<=BN d s):Ae (Dr d s) s=true:=by
 unfold Dr;rw[BY oa];exact Wh (Oo sc)
theorem Wi {d:List AJ} (hn:Dp d=0) (hl:d.length<=(Bl d).length) {s x:ByteArray} (h:Ae (Dr d s) x=true):YP d s x:=by
 obtain⟨y,hy,e⟩:=To.1 h;have hb:YP d s y:=by
  unfold Dr at hy;split at hy
  .cases hy
  rcases iC hy with hy|hy
  .cases hy
  refine TS hn hl (λz a=>?_) y hy;have:z=s:=by simpa using a
  rw[this];exact .inl (FN s)
 rcases hb with hb|hb
 .exact .inl (DG hb e)
 rw[Ol d e]at hb;exact .inr hb
theorem GU {d:List AJ} {s:ByteArray} (h:s∈AW d):∃x∈d,x.1=s:=by
 have key:∀(l:List AJ) (o:List ByteArray),s∈l.foldl (λo x=>Dm o x.1) o->s∈o\/∃x∈l,x.1=s:=by
  intro l;induction l with
  | nil=>intro o h;exact .inl h
  | cons x l a =>
   intro o h;rw[SU]at h;rcases a _ h with h|⟨y,hy,e⟩
   .grind [QN]
   grind
 rcases key d [] h with h|h
 .cases h
 exact h
theorem Wj {d:List AJ} {x:AJ} (h:x∈d):Ae (AW d) x.1=true:=by
 have b:∀(l:List AJ) (o:List ByteArray),∀y∈o,y∈l.foldl (λo x=>Dm o x.1) o:=by
  intro l;induction l with
  | nil=>intro o y h;exact h
  | cons x l a=>intro o y h;rw[SU];exact a _ y (ZL h)
 have key:∀(l:List AJ) (o:List ByteArray),x∈l->Ae (l.foldl (λo x=>Dm o x.1) o) x.1=true:=by
  intro l;induction l with
  | nil=>intro o h;cases h
  | cons y l a =>
   intro o h;rw[SU];rcases At.1 h with rfl|h
   .grind [NB,hZ]
   exact a _ h
 exact key d [] h
theorem iD {d:List AJ} (hn:Dp d=0) (hl:d.length<=(Bl d).length) (o:d.length<=256) {i j:Nat} (hi:i<(AW d).length) (b:j<(AW d).length)
  (h:Fy (HP d (AW d) ((AW d).getD i ByteArray.empty)) (HP d (AW d) ((AW d).getD j ByteArray.empty))=true):Ac ((AW d).getD i ByteArray.empty) ((AW d).getD j ByteArray.empty)=true:=by
 have l:=FM d d.length;rw[SW]at l;have a:(AW d).length<=4096:=by omega
 generalize hs:(AW d).getD i ByteArray.empty=s at *;generalize ht:(AW d).getD j ByteArray.empty=t at *;have m:0<=BN d s:=by
  obtain⟨x,hx,e⟩:=GU (s:=s) (by rw[<-hs];exact Da hi);rw[<-e];exact FP hx
 have n:0<=BN d t:=by
  obtain⟨x,hx,e⟩:=GU (s:=t) (by rw[<-ht];exact Da b);rw[<-e];exact FP hx
 obtain⟨c1,c,-⟩:=Eb (d:=d) a s i;obtain⟨c2,f,-⟩:=Eb (d:=d) a t i;obtain⟨g,-,-⟩:=Eb (d:=d) a s j;obtain⟨k,-,-⟩:=Eb (d:=d) a t j;unfold Fy at h;rw[An]at h;have b1:=Wi hn hl (c2.1 (ME c f h.1 (c1.2 ⟨hi,by rw[hs];exact Oq m⟩))).2;have b2:=Wi hn hl (g.1 (ME f c h.2 (k.2 ⟨b,by rw[ht];exact Oq n⟩))).2;rw[hs]at b1;rw[ht]at b2;rcases b1 with b1|b1
 .exact FO b1
 rcases b2 with b2|b2
 .exact b2
 omega
section
attribute [local go_sem] bP A1B MC cs0 cs1
def nmG (d:List AJ) (all:List ByteArray) (codes:List (List Int)) (b:List Int):Nat->Nat->List ByteArray->ByteArray ⊕ List ByteArray
 | 0,_,l=>.inr l
 | n+1,i,l=>if Fy (codes.getD i []) b=true then .inl (all.getD i ByteArray.empty) else nmG d all codes b n (i+1) (if WU b (i:Int)=true then l++[all.getD i ByteArray.empty] else l)
def iE (l:List ByteArray) (s:ByteArray) (i:Nat):ByteArray:=(if 0<(i:Int) then s++ByteArray.mk #[38] else s)++l.getD i ByteArray.empty
def A1W (l:List ByteArray):ByteArray:=(List.range l.length).foldl (iE l) ByteArray.empty
def IP (d:List AJ) (all:List ByteArray) (codes:List (List Int)) (b:List Int):ByteArray :=
 match nmG d all codes b all.length 0 [] with
 | .inl s=>s
 | .inr l=>A1W (CD d l)
theorem Nr {d:List AJ} {x:ByteArray}:∀ {l o:List ByteArray},x∈l.foldl (LH d) o->x∈o\/x∈l
 | [],_,h=>.inl h
 | y :: l,o,h=>by
  rw[SU]at h;rcases Nr h with h|h
  .unfold LH at h;split at h
   .rcases QN h with h|h
    .exact .inl h
    exact .inr (by simp[h])
   exact .inl h
  exact .inr (by simp[h])
theorem b8 {d:List AJ} {l:List ByteArray} {x:ByteArray} (h:x∈CD d l):x∈l:=by
 unfold CD UD at h;obtain⟨i,hi,rfl⟩:=Y1.1 h;rw[AAe,UJ]at hi;rcases Nr (Da (d:=ByteArray.empty) hi.1) with h|h
 .cases h
 exact h
theorem b9 (d:List AJ) (l:List ByteArray):(CD d l).length<=l.length:=SX (gT _ _ _) (JU d l)
theorem nT {l:List ByteArray} (h:∀s∈l,s.size<=32) (k:Nat):(l.getD k ByteArray.empty).size<=32:=by
 rw[AS];cases hh:l[k]? with
 | none=>simp
 | some x=>exact h x (UR hh)
def Wk (l:List ByteArray) (n:Nat):ByteArray:=(List.range n).foldl (iE l) ByteArray.empty
theorem Wl (l:List ByteArray) (n:Nat):Wk l (n+1)=iE l (Wk l n) n:=by
 unfold Wk;rw[oF,AAO];rfl
theorem Wm {l:List ByteArray} (h:∀s∈l,s.size<=32):∀n,(Wk l n).size<=33*n
 | 0=>by simp[Wk]
 | n+1=>by
  have h1:=Wm h n;have a:=nT h n;rw[Wl];unfold iE;split
  .rw[AAY,AAY];have:(ByteArray.mk #[38]).size=1:=rfl;omega
  rw[AAY];omega
def cA:Ab:={ ins:=[FC,GC,UB,BR],pre:=λ(d,all,codes,b,_)=>WW d/\List.length d<=256/\List.length all<=256/\List.length codes=List.length all/\(∀s∈(all:List ByteArray),s.size<=32)/\(∀x∈(codes:List (List Int)),x.length<=64)/\List.length b<=64,out:=λ(d,all,codes,b,_)=>[.p T9 (IP d all codes b)] }
theorem xM:Ag Tryz.prog 164 cA:=by
 refine fK [0,1,2,3,8,9,10,11,12,16,24,31,45,49] Tryz.func164 Tryz.ntmps164 (AF w5 (AF A1C (AF WZ AI))) ?_;rintro w0 O0 ⟨d,all,codes,b,u⟩ e-⟨hs,hd,t,q,A,w,hb⟩;have t:all.length<=256:=t;have q:codes.length=all.length:=q;simp only[cA,AN];repeat'(first|exact trivial|apply eS rfl|refine rX e ?_ ?_)
 refine AL (ι:={x:Nat×List ByteArray//x.1<=all.length/\x.2.length<=x.1/\(∀s∈x.2,s.size<=32)/\nmG d all codes b (all.length-x.1) x.1 x.2=nmG d all codes b all.length 0 []}) (λx=>⟨[(0,.p FC d),(1,.p GC all),(2,.p UB codes),(3,.p BR b),(9,.sr 38 T9 0 x.1.2.length),(10,.p (.int .i64) (x.1.1:Int))],[(38,.arr 9 T9 x.1.2)]⟩) (λx=>all.length-x.1.1) ⟨(0,[]),by simp,by simp,by simp,rfl⟩ (eW [(38,.nil)]) (λx=>?_)
 obtain⟨⟨i,l⟩,hi,z,o,f⟩:=x;simp only at hi z o f;have r:i<all.length->nmG d all codes b (all.length-i) i l=if Fy (codes.getD i []) b=true then .inl (all.getD i ByteArray.empty) else nmG d all codes b (all.length-(i+1)) (i+1) (if WU b (i:Int)=true then l++[all.getD i ByteArray.empty] else l):=by
  intro h;rw[show all.length-i=(all.length-(i+1))+1 by omega];rfl
 simp only;repeat'(first|exact trivial|apply eS rfl|apply AC|refine rX e ?_ ?_|refine rC ?_ ?_<;>intro a<;>try(cases a;done))
 .exact⟨by rw[q];exact a,SX (MD w i) dc,SX hb dc⟩
 .assumption
 .have c:i<all.length:=by exact eV
  have j:IP d all codes b=all.getD i ByteArray.empty:=by
   unfold IP;rw[<-f,r c,DO a]
  exact fI e [.tmp 8] (by rw[j];exact eR)
 .have c:i<all.length:=by exact eV
  exact⟨IN.2 c,by simp only[AP];omega⟩
 .exact eV
 .have c:i<all.length:=by exact eV
  have hn:=r c;rw[BY (by rw[‹Fy _ _=false›];simp),DO a]at hn;refine⟨⟨(i+1,l++[all.getD i ByteArray.empty]),by simp only;omega,by simp only[As,If];omega,?_,hn.symm.trans f⟩,by simp only;omega,AD [(38,.nm 38)] rfl rfl ?_ ?_⟩
  .intro s hs;rcases Do.1 hs with hs|hs
   .exact o s hs
   have:s=all.getD i ByteArray.empty:=by simpa using hs
   rw[this];exact nT A i
  .exact eN
  exact eN
 .exact eV
 .have c:i<all.length:=by exact eV
  have hn:=r c;rw[BY (by rw[‹Fy _ _=false›];simp),BY (by rw[a];simp)]at hn;exact⟨⟨(i+1,l),by simp only;omega,by simp only;omega,o,hn.symm.trans f⟩,by simp only;omega,eW [(38,.nm 38)]⟩
 have j:IP d all codes b=A1W (CD d l):=by
  unfold IP;rw[<-f];have:all.length-i=0:=by exact eV
  rw[this];rfl
 refine GB [38] ?_;repeat'(first|exact trivial|apply eS rfl|refine rX e ?_ ?_)
 .exact⟨hs,hd,by omega⟩
 have v:∀s∈CD d l,s.size<=32:=λs h=>o s (b8 h);have C:=b9 d l;have y:A1W (CD d l)=Wk (CD d l) (CD d l).length:=rfl;rw[y]at j;generalize CD d l=m at *;refine AL (ι:={k:Nat//k<=m.length}) (λk=>⟨[(9,.p GC m),(11,.p T9 (Wk m k.1)),(12,.p (.int .i64) (k.1:Int))],[]⟩) (λk=>m.length-k.1) ⟨0,ON _⟩ (AD [] rfl rfl ?_ ?_) (λk=>?_)
 .exact eN
 .refine eM ?_;rfl
 obtain⟨k,hk⟩:=k;have hk:k<=m.length:=hk;have B:=Wm v k;have n:=Wl m k;have D:=nT v k;unfold iE at n;simp only;repeat'(first|exact trivial|apply eS rfl|apply AC|refine rX e ?_ ?_|refine rC ?_ ?_<;>intro a<;>try(cases a;done))
 .have h1:(ByteArray.mk #[38]).size=1:=rfl;rw[h1];simp only[AP];exact eV
 .refine⟨by assumption,?_⟩;have h1:(ByteArray.mk #[38]).size=1:=rfl;rw[AAY,h1];simp only[AP];exact eV
 .exact eV
 .have g:k<m.length:=by exact eV
  rw[DO a]at n;refine⟨⟨k+1,g⟩,by simp only;omega,AD [] rfl rfl ?_ ?_⟩
  .exact eN
  simp only[n];exact eN
 .refine⟨by assumption,?_⟩;simp only[AP];exact eV
 .exact eV
 .have g:k<m.length:=by exact eV
  rw[BY (AAB.2 a)]at n;refine⟨⟨k+1,g⟩,by simp only;omega,AD [] rfl rfl ?_ ?_⟩
  .exact eN
  simp only[n];exact eN
 have g:k=m.length:=by exact eV
 rw[<-g]at j;exact fI e [.tmp 8] (by rw[j];exact eR)
end
section
attribute [local go_sem] Uo QG A1Q b6 cA bZ
def FY (x:AQ) (out:List AQ):Nat->Nat
 | 0=>0
 | n+1=>if Fz x (out.getD n c0)=true then FY x out n else n+1
def cB (out:List AQ) (x:AQ):List AQ:=out.take (FY x out out.length)++[x]++out.drop (FY x out out.length)
def Ai (d:List AJ):List (List Int):=(AW d).map λs=>HP d (AW d) s
def GV (d:List AJ) (all:List ByteArray) (codes:List (List Int)) (out:List AQ) (b:List Int):List AQ:=cB out (IP d all codes b,b)
def Rm (d:List AJ):List AQ->List Int->List AQ:=GV d (AW d) (Ai d)
theorem Ot (d:List AJ) (all:List ByteArray) (codes:List (List Int)):∀(l:List (List Int)) (o:List AQ),(l.foldl (GV d all codes) o).length=o.length+l.length
 | [],o=>by simp
 | b :: l,o=>by
  rw[SU,Ot d all codes l];unfold GV cB;simp only[As,OS,aS,IF,AA1];omega
theorem Wn {d:List AJ} {all:List ByteArray} {codes:List (List Int)}:∀ {l:List (List Int)} {o:List AQ},(∀c∈l,c.length<=64)->(∀y∈o,y.2.length<=64)->∀y∈l.foldl (GV d all codes) o,y.2.length<=64
 | [],_,_,a=>a
 | b :: l,o,hl,a=>by
  rw[SU];refine Wn (λc e=>hl c (by simp[e])) (λy hy=>?_);unfold GV cB at hy;simp only[Do,SQ]at hy;rcases hy with (hy|hy)|hy
  .exact a y (iS hy)
  .rw[hy];exact hl b sc
  exact a y (AAA hy)
theorem iG (x:AQ) (out:List AQ):∀n,FY x out n<=n
 | 0=>No _
 | n+1=>by
  unfold FY;split
  .exact Nat.le_succ_of_le (iG x out n)
  exact No _
def A9 (d:List AJ):List AQ:=(BD (Ai d)).foldl (Rm d) []
def CB (d:List AJ):List AQ×Int :=
 if BW d≠0 then ([],BW d) else if 256<(BD (Ai d)).length then ([],7) else (A9 d,0)
theorem nU {s:ByteArray} {b:Bool} (h:Ez s b=true):s.size<=32:=by
 unfold Ez at h;rw[An]at h;have h1:=h.1;unfold Rc at h1;simp only[Sa,AA2,Sd]at h1;have:=h1.1.1.2;omega
theorem iH {d:List AJ} (hn:Dp d=0):∀s∈AW d,s.size<=32:=by
 intro s hs;obtain⟨x,hx,rfl⟩:=GU hs;obtain⟨j,a,rfl⟩:=Co d0 hx;exact nU (MF hn j a).2
def Kn (d:List AJ) (n:Nat):List (List Int):=((AW d).take n).map λs=>HP d (AW d) s
theorem nV {d:List AJ} {n:Nat} (h:n<=(AW d).length):(Kn d n).length=n:=by simp[Kn,h]
theorem iI {d:List AJ} {n:Nat} (h:n<(AW d).length):Kn d (n+1)=Kn d n++[HP d (AW d) ((AW d).getD n ByteArray.empty)]:=by
 unfold Kn;rw[Aw _ ByteArray.empty h,UK];rfl
theorem nW (d:List AJ):Kn d (AW d).length=Ai d:=by simp[Kn,Ai]
theorem nX (d:List AJ):(Ai d).length=(AW d).length:=by simp[Ai]
theorem Ou {d:List AJ} (h:d.length<=256):∀c∈Ai d,c.length<=64:=by
 intro c a;unfold Ai at a;obtain⟨s,-,rfl⟩:=Y1.1 a;have b:=FM d d.length;rw[SW]at b;exact(Eb (d:=d) (all:=AW d) oa s 0).2.2
theorem iJ {i:Nat}:∀ {n k:Nat} {l:List (List Int)},(∀c∈l,c.length<=64)->∀c∈HF i n k l,c.length<=64
 | 0,_,_,h=>h
 | n+1,k,l,h=>by
  unfold HF;split
  .exact iJ (gX h i k)
  exact h
theorem QO:∀ {n i:Nat} {l:List (List Int)},(∀c∈l,c.length<=64)->∀c∈JV n i l,c.length<=64
 | 0,_,_,h=>h
 | n+1,i,l,h=>by
  unfold JV;split
  .exact QO (iJ h)
  exact h
theorem iK {out:List AQ} {x y:AQ}:y∈cB out x↔y=x\/y∈out:=by
 unfold cB;rw[Do,Do,SQ];have h:=Do (a:=y) (s:=out.take (FY x out out.length)) (t:=out.drop (FY x out out.length));rw[AAL]at h;rw[h];constructor
 .rintro ((h|h)|h)
  .exact .inr (.inl h)
  .exact .inl h
  exact .inr (.inr h)
 rintro (h|h|h)
 .exact .inl (.inr h)
 .exact .inl (.inl h)
 exact .inr h
def Rn:Ab:={ ins:=[FC],pre:=λ_=>True,out:=λ(d,_)=>[.p Js (CB d).1,.p HD (CB d).2] }
theorem QP:Ag Tryz.prog 118 Rn:=by
 refine fK [0,2,3,4,5,6,7,8,9,10,11,12,13,17,24,41,45,73] Tryz.func118 Tryz.ntmps118 (AF xE (AF ZB (AF A4N (AF xJ (AF xM (AF xH AI)))))) ?_;rintro w0 O0 ⟨d,u⟩ g - -;simp only[Rn,AN];repeat'(first|exact trivial|apply eS rfl|refine rX g ?_ ?_|refine rC ?_ ?_<;>intro a<;>try(cases a;done))
 .have h1:CB d=([],BW d):=by unfold CB;rw[DO a]
  exact fI g [.tmp 2,.tmp 3] (by rw[h1];exact eR)
 .have i:BW d=0:=by simpa using a
  obtain⟨-,C,-⟩:=BH i;exact SX C dc
 have i:BW d=0:=by simpa using a
 obtain⟨K,hd,-,hn,-⟩:=BH i;have D:=FM d d.length;rw[SW]at D;have L:=iH hn;refine AL (ι:={n:Nat//n<=(AW d).length}) (λn=>⟨[(0,.p FC d),(5,.p GC (AW d)),(6,.sr 36 BR 0 (Kn d n.1).length),(7,.p (.int .i64) (n.1:Int))],[(36,.arr 140 BR (Kn d n.1))]⟩) (λn=>(AW d).length-n.1) ⟨0,ON _⟩ (AD [(36,.nil)] rfl rfl ?_ ?_) (λn=>?_)
 .refine eM ?_;rfl
 .refine eM ?_;rfl
 obtain⟨n,G⟩:=n;have O:=nV G;have hs:=λh=>iI (d:=d) (n:=n) h;simp only;repeat'(first|exact trivial|apply eS rfl|apply AC|refine rX g ?_ ?_|refine rC ?_ ?_<;>intro a<;>try(cases a;done))
 .refine⟨a,⟨hd,by dsimp only[Ty.den]at *;omega⟩,?_⟩;simp only[AP];dsimp only[Ty.den]at *;omega
 .exact eV
 .have v:n<(AW d).length:=by exact eV
  have e:=hs v;refine⟨⟨n+1,by omega⟩,by simp only;omega,AD [(36,.nm 36)] rfl rfl ?_ ?_⟩
  .simp only[e];exact eN
  simp only[e];exact eN
 have v:n=(AW d).length:=by exact eV
 subst v;rw[nW];have F:=nX d;have w:=Ou hd;have s:∀c∈BD (Ai d),c.length<=64:=QO w;refine GB [36] ?_;repeat'(first|exact trivial|apply eS rfl|refine rX g ?_ ?_|refine rC ?_ ?_<;>intro a<;>try(cases a;done))
 .exact⟨by omega,w⟩
 .have h1:CB d=([],7):=by
   unfold CB;rw[BY (by rw[i];simp),DO oa]
  exact fI g [.tmp 2,.tmp 3] (by rw[h1];exact eR)
 have B:CB d=((BD (Ai d)).foldl (GV d (AW d) (Ai d)) [],0):=by
  unfold CB;rw[BY (by rw[i];simp),BY oa];rfl
 generalize BD (Ai d)=f at *;generalize Ai d=codes at *;generalize AW d=all at *;refine AL (ι:={k:Nat//k<=f.length}) (λk=>⟨[(0,.p FC d),(5,.p GC all),(6,.p UB codes),(8,.p UB f),(9,.sr 9 bN 0 ((f.take k.1).foldl (GV d all codes) []).length),(10,.p (.int .i64) (k.1:Int))],[(9,.arr 152 bN ((f.take k.1).foldl (GV d all codes) []))]⟩) (λk=>f.length-k.1) ⟨0,ON _⟩ (AD [(9,.nil)] rfl rfl ?_ ?_) (λk=>?_)
 .refine eM ?_;rfl
 .refine eM ?_;rfl
 obtain⟨k,hk⟩:=k;have A:=Ot d all codes (f.take k) [];have M:(f.take k).length=k:=by rw[OS];exact AAK hk
 have H:=Wn (d:=d) (all:=all) (codes:=codes) (l:=f.take k) (o:=[]) (λc g=>s c (iS g)) sc;have J:=λh:k<f.length=>Ep (GV d all codes) f [] [] h;rw[M]at A;simp only[AA1,AAC]at A;generalize z:(f.take k).foldl (GV d all codes) []=out at *;simp only;repeat'(first|exact trivial|apply eS rfl|refine rX g ?_ ?_|refine rC ?_ ?_<;>intro a<;>try(cases a;done))
 .exact⟨a,⟨K,hd,by omega,F,L,w,MD s k⟩,a⟩
 .have t:k<f.length:=by exact eV
  have e:=J t;have E:=MD s k;generalize f.getD k []=b at *;unfold GV at e;generalize IP d all codes b=nm at *;refine AL (ι:={q:Nat//q<=out.length/\FY (nm,b) out q=FY (nm,b) out out.length}) (λq=>⟨[(0,.p FC d),(5,.p GC all),(6,.p UB codes),(8,.p UB f),(9,.sr 9 bN 0 out.length),(10,.p (.int .i64) (k:Int)),(11,.bp 11 [] 0),(12,.p (.int .i64) (q.1:Int))],[(9,.arr 152 bN out),(11,.box 152 true [.p T9 nm,.p BR b])]⟩) (λq=>q.1) ⟨out.length,No _,rfl⟩ (eW [(9,.nm 9),(11,.nm 11)]) (λq=>?_)
  obtain⟨q,j,y⟩:=q;have j:q<=out.length:=j;simp only;repeat'(first|exact trivial|apply eS rfl|apply AC|refine rX g ?_ ?_|refine rC ?_ ?_<;>intro a<;>try(cases a;done))
  .refine⟨λh=>by omega,λh=>by exact eV,λh=>⟨SX E dc,SX (H _ (AE out c0 (k:=((q:Int)-1).toNat) oa)) dc⟩⟩
  .omega
  .obtain⟨N,x⟩:=a;obtain⟨q,rfl⟩:∃r,q=r+1:=⟨q-1,by omega⟩;have m:((q+1:Nat):Int)-1=(q:Int):=by omega
   refine⟨⟨q,by omega,?_⟩,Nat.lt_succ_self q,AD [(9,.nm 9),(11,.nm 11)] rfl rfl ?_ ?_⟩
   .rw[<-y];rw[m,Sc]at x;show _=if Fz (nm,b) (out.getD q c0)=true then FY (nm,b) out q else q+1
    rw[DO x]
   .exact eN
   refine eM ?_;show (q:Int)+1-1=q;omega
  .refine⟨SY.2 j,?_⟩;rw[OS];simp only[AP];omega
  .rw[OS];simp only[AP];omega
  .refine⟨SY.2 j,?_⟩;rw[OS,aS];simp only[AP];omega
  .omega
  have I:FY (nm,b) out q=q:=by
   cases q with
   | zero=>rfl
   | succ q =>
    have m:((q+1:Nat):Int)-1=(q:Int):=by omega
    have:=a oa;rw[m,Sc]at this;show (if Fz (nm,b) (out.getD q c0)=true then FY (nm,b) out q else q+1)=q+1;rw[BY (by rw[this];simp)]
  unfold cB at e;rw[<-y,I]at e;refine⟨⟨k+1,by omega⟩,by simp only;omega,AD [(9,.nm 80)] rfl rfl ?_ ?_⟩
  .refine eM ?_;exact e.symm
  refine eM ?_;have e2:=oN List.length e;rw[As,As]at e2;exact e2.symm
 have t:k=f.length:=by exact eV
 rw[t,SW]at z;rw[z]at B;refine GB [9] ?_;exact fI g [.tmp 2,.tmp 3] (by rw[B];exact eR)
end
theorem ZN {d:List AJ}:∀ {l:List (List Int)} {o:List AQ} {y:AQ},y∈l.foldl (Rm d) o↔y∈o\/∃b∈l,y=(IP d (AW d) (Ai d) b,b)
 | [],o,y=>by simp
 | b :: l,o,y=>by
  rw[SU,ZN];unfold Rm GV;rw[iK];simp only[At];constructor
  .rintro ((h|h)|⟨c,a,e⟩)
   .exact .inr ⟨b,.inl rfl,h⟩
   .exact .inl h
   exact .inr ⟨c,.inr a,e⟩
  rintro (h|⟨c,rfl|a,e⟩)
  .exact .inl (.inr h)
  .exact .inl (.inl e)
  exact .inr ⟨c,a,e⟩
theorem Ec {d:List AJ} {y:AQ}:y∈A9 d↔∃b∈BD (Ai d),y=(IP d (AW d) (Ai d) b,b):=by
 unfold A9;rw[ZN];simp
theorem IQ (d:List AJ):(A9 d).length=(BD (Ai d)).length:=by
 have h:=Ot d (AW d) (Ai d) (BD (Ai d)) [];rw[AA1,AAC]at h;exact h
theorem A1X {l:List (List Int)} {i k:Nat} {c:List Int} (h:c∈l):c∈HE l i k:=by
 unfold HE;split
 .exact Do.2 (.inl h)
 exact h
theorem iL {i:Nat} {c:List Int}:∀ {n k:Nat} {l:List (List Int)},c∈l->c∈HF i n k l
 | 0,_,_,h=>h
 | n+1,k,l,h=>by
  unfold HF;split
  .exact iL (A1X h)
  exact h
theorem iM {c:List Int}:∀ {n i:Nat} {l:List (List Int)},c∈l->c∈JV n i l
 | 0,_,_,h=>h
 | n+1,i,l,h=>by
  unfold JV;split
  .exact iM (iL h)
  exact h
theorem TT (d:List AJ) {i:Nat} (h:i<(AW d).length):(Ai d).getD i []=HP d (AW d) ((AW d).getD i ByteArray.empty):=by
 unfold Ai;simp[AS,h]
theorem sR {d:List AJ} (hn:Dp d=0) (hl:d.length<=(Bl d).length) (c:d.length<=256) {j:Nat} (b:j<(AW d).length):∀(m i:Nat) (l:List ByteArray),i+m=(AW d).length->i<=j ->
  ∃s,nmG d (AW d) (Ai d) ((Ai d).getD j []) m i l=.inl s/\Ac s ((AW d).getD j ByteArray.empty)=true
 | 0,i,l,h,f=>by omega
 | m+1,i,l,h,f=>by
  unfold nmG;split
  .rename_i a;refine⟨_,rfl,?_⟩;rw[TT d oa,TT d b]at a;exact iD hn hl c oa b a
  rename_i a;have g:i≠j:=by
   intro e;subst e;exact a (gZ _)
  exact sR hn hl c b m (i+1) _ oa oa
theorem sS (s:ByteArray):∀(l:List AQ) (k:Nat),Rj s k l<((k+l.length:Nat):Int)
 | [],k=>by simp only[Rj];omega
 | x :: l,k=>by
  simp only[Rj];split
  .simp only[IF];omega
  have:=sS s l (k+1);simp only[IF];omega
theorem sT (s:ByteArray):∀(l:List AQ) (k:Nat) (x:AQ),x∈l->Ac x.1 s=true->0<=Rj s k l
 | [],_,_,h,_=>by cases h
 | y :: l,k,x,h,e=>by
  simp only[Rj];split
  .omega
  rename_i hy;rcases At.1 h with rfl|h
  .exact absurd e hy
  exact sT s l (k+1) x h e
theorem nY (l:List AQ) (s:ByteArray):DV l s<(l.length:Int):=by
 have:=sS s l 0;rw[AAC]at this;exact this
theorem TV {d:List AJ} (h:BW d=0) {s:ByteArray} (hs:Ae (AW d) s=true):0<=DV (A9 d) s:=by
 obtain⟨-,b,-,hn,hl⟩:=BH h;obtain⟨t,ht,e⟩:=To.1 hs;obtain⟨j,c,rfl⟩:=Co ByteArray.empty ht;obtain⟨u,hu,a⟩:=sR hn hl b c (AW d).length 0 [] oa oa;have f:(Ai d).length=(AW d).length:=by simp[Ai]
 refine sT s (A9 d) 0 (u,(Ai d).getD j []) ?_ (DG a e);rw[Ec];refine⟨(Ai d).getD j [],iM (Da oa),?_⟩;unfold IP;rw[hu]
theorem TW {d:List AJ} (h:BW d=0) {x:AJ} (hx:x∈d):0<=DV (A9 d) x.1:=TV h (Wj hx)
theorem B9 {d:List AJ} (h:(CB d).2=0):BW d=0/\(BD (Ai d)).length<=256/\(CB d).1=A9 d:=by
 unfold CB at h ⊢;split at h
 .rename_i h1;exact absurd h h1
 rename_i h1;split at h
 .cases h
 rename_i a;exact⟨IS h1,by omega,by rw[BY h1,BY a]⟩
theorem A4T {d:List AJ} (h:BW d=0):0<(A9 d).length:=by
 obtain⟨-,-,a,-,-⟩:=BH h;cases d with
 | nil=>cases a
 | cons x d =>
  have:=TW h (x:=x) sc;have b:=nY (A9 (x :: d)) x.1;omega
section
attribute [local go_sem] sP
def A7u (l:List AQ) (i k:Int) (m:Nat):Bool:=(m:Int)==i||(m:Int)==k||!Np l k (m:Int)||!Np l (m:Int) i
def xN (l:List AQ) (i k:Int) (n:Nat):Bool:=(List.range n).all (A7u l i k)
def xO (l:List AQ) (i:Int) (k:Nat):Bool:=!((k:Int)==i||!Np l (k:Int) i)&&xN l i (k:Int) l.length
def Ns (l:List AQ) (i:Int) (n:Nat):List Int:=((List.range n).filter λ(k:Nat)=>xO l i k).map λ(k:Nat)=>(k:Int)
def iO (l:List AQ) (i:Int):List Int:=Ns l i l.length
theorem nZ (l:List AQ) (i:Int) (n:Nat):Ns l i (n+1)=Ns l i n++if xO l i n=true then [(n:Int)] else []:=by
 unfold Ns;rw[oF,ABf,UK]
 congr 1
 rw[AA5,ABu];split<;>rfl
theorem xQ (l:List AQ) (i:Int) (n:Nat):(Ns l i n).length<=n:=by
 unfold Ns;rw[OF];exact SX (AAb _ _) sc
theorem xR (l:List AQ) (i k:Int) (n:Nat):xN l i k (n+1)=(xN l i k n&&A7u l i k n):=by
 unfold xN;rw[oF,AB7];simp
def A1Y:Ab:={ ins:=[Js,T3],pre:=λ(l,i,_)=>((0:Int)<=i/\i<(List.length l:Int))/\List.length l<=256/\(∀x∈(l:List AQ),x.2.length<=64),out:=λ(l,i,_)=>[.p G0 (iO l i)] }
theorem A4U:Ag Tryz.prog 119 A1Y:=by
 refine fK [0,1,4,5,6,7,8,12,24,28,56] Tryz.func119 Tryz.ntmps119 (AF sQ AI) ?_;rintro w0 O0 ⟨l,i,u⟩ b-⟨hi,hl,hx⟩;have hl:l.length<=256:=hl;have e:∀x∈(l:List AQ),x.2.length<=100000:=λx h=>SX (hx x h) dc;simp only[A1Y,AN];repeat'(first|exact trivial|apply eS rfl|refine rX b ?_ ?_)
 refine AL (ι:={k:Nat//k<=l.length}) (λk=>⟨[(0,.p Js l),(1,.p T3 i),(5,.sr 60 T3 0 (Ns l i k.1).length),(6,.p (.int .i64) (k.1:Int))],[(60,.arr 3 T3 (Ns l i k.1))]⟩) (λk=>l.length-k.1) ⟨0,ON _⟩ (AD [(60,.nil)] rfl rfl ?_ ?_) (λk=>?_)
 .refine eM ?_;rfl
 .refine eM ?_;rfl
 obtain⟨k,hk⟩:=k;have hk:k<=l.length:=hk;have j:=xQ l i k;have hs:=nZ l i k;simp only;repeat'(first|exact trivial|apply eS rfl|apply AC|refine rX b ?_ ?_|refine rC ?_ ?_<;>intro a<;>try(cases a;done))
 .intro h;exact⟨by assumption,hi,e⟩
 .exact eV
 .have d:k<l.length:=by exact eV
  have hb:xO l i k=false:=by
   unfold xO;rw[AAZ];left;rw[ABg,UO,UQ,Sa];exact a
  rw[hb,BY sc,UL]at hs;refine⟨⟨k+1,by omega⟩,by simp only;omega,AD [(60,.nm 60)] rfl rfl ?_ ?_⟩
  .simp only[hs];exact eN
  simp only[hs];exact eN
 .have d:k<l.length:=by exact eV
  have hb:xO l i k=xN l i (k:Int) l.length:=by
   unfold xO;rw[show ((k:Int)==i||!Np l (k:Int) i)=false by
    rw[AA2,AAs,ABg];exact a]
   rfl
  refine AL (ι:={m:Nat//m<=l.length}) (λm=>⟨[(0,.p Js l),(1,.p T3 i),(5,.sr 60 T3 0 (Ns l i k).length),(6,.p (.int .i64) (k:Int)),(7,.p .bool (xN l i (k:Int) m.1)),(8,.p (.int .i64) (m.1:Int))],[(60,.arr 3 T3 (Ns l i k))]⟩) (λm=>l.length-m.1) ⟨0,ON _⟩ (AD [(60,.nm 60)] rfl rfl ?_ ?_) (λm=>?_)
  .exact eN
  .refine eM ?_;rfl
  obtain⟨m,f⟩:=m;have f:m<=l.length:=f;have g:=xR l i (k:Int) m;simp only;repeat'(first|exact trivial|apply eS rfl|apply AC|refine rX b ?_ ?_|refine rC ?_ ?_<;>intro a<;>try(cases a;done))
  .exact⟨λh=>⟨by assumption,a,e⟩,λh=>⟨a,hi,e⟩⟩
  .exact eV
  .have c:m<l.length:=by exact eV
   refine⟨⟨m+1,by omega⟩,by simp only;omega,AD [(60,.nm 60)] rfl rfl ?_ ?_⟩
   .exact eN
   simp only[g];unfold A7u;exact eN
  .simp only[AP];dsimp only[Ty.den]at *;omega
  .exact eV
  .have c:m=l.length:=by exact eV
   subst c;rw[hb,DO a]at hs;refine⟨⟨k+1,by omega⟩,by simp only;omega,AD [(60,.nm 60)] rfl rfl ?_ ?_⟩
   .simp only[hs];exact eN
   simp only[hs];exact eN
  .exact eV
  have c:m=l.length:=by exact eV
  subst c;rw[hb,BY (by rw[a];simp),UL]at hs;refine⟨⟨k+1,by omega⟩,by simp only;omega,AD [(60,.nm 60)] rfl rfl ?_ ?_⟩
  .simp only[hs];exact eN
  simp only[hs];exact eN
 have d:k=l.length:=by exact eV
 subst d;refine GB [60] ?_;exact fI b [.tmp 4] (by unfold iO;exact eR)
end
section
attribute [local go_sem] QG WR JS
abbrev FV:=ByteArray×ByteArray
abbrev f0V:FV:=(ByteArray.empty,ByteArray.empty)
def zQ (all:List ByteArray) (l:List FV):Nat->List FV->Int
 | _,[]=>0
 | k,x :: r=>if Ez x.1 true=false then 1 else if ((l.take k).any λy=>Ac y.1 x.1)=true then 4 else if Ae all x.2=false then 5 else zQ all l (k+1) r
def cC (all:List ByteArray):List AJ->Int
 | []=>0
 | x :: l=>if zQ all x.2.2 0 x.2.2≠0 then zQ all x.2.2 0 x.2.2 else cC all l
def MG (d:List AJ):Int:=cC (AW d) d
theorem A1Z (all:List ByteArray) (l:List FV) {k:Nat} (h:k<l.length):zQ all l k (l.drop k)=if Ez (l.getD k f0V).1 true=false then 1 else if ((l.take k).any λy=>Ac y.1 (l.getD k f0V).1)=true then 4 else if Ae all (l.getD k f0V).2=false then 5 else zQ all l (k+1) (l.drop (k+1)):=by
 rw[SR h];have e:l.getD k f0V=l[k]:=by simp[AS,h]
 rw[e];rfl
theorem xS (all:List ByteArray) (l:List AJ) {k:Nat} (h:k<l.length):cC all (l.drop k)=if zQ all (l.getD k d0).2.2 0 (l.getD k d0).2.2≠0 then zQ all (l.getD k d0).2.2 0 (l.getD k d0).2.2 else cC all (l.drop (k+1)):=by
 rw[SR h];have e:l.getD k d0=l[k]:=by simp[AS,h]
 rw[e];rfl
def n7:Ab:={ ins:=[FC],pre:=λ(d,_)=>List.length d<=256,out:=λ(d,_)=>[.p HD (MG d)] }
theorem A20:Ag Tryz.prog 193 n7:=by
 refine fK [0,2,3,4,5,6,7,13,24,33,36,49,57] Tryz.func193 Tryz.ntmps193 (AF ZB (AF nE (AF Gq AI))) ?_;rintro w0 O0 ⟨d,u⟩ c ⟨⟨w,t⟩,-⟩ hd;have hd:d.length<=256:=hd;simp only[n7,AN];repeat'(first|exact trivial|apply eS rfl|refine rX c ?_ ?_)
 .exact SX hd dc
 have v:MG d=cC (AW d) d:=rfl;rw[v];generalize AW d=all at *;refine AL (ι:={i:Nat//i<=d.length/\cC all (d.drop i)=cC all d}) (λi=>⟨[(0,.p FC d),(3,.p GC all),(4,.p (.int .i64) (i.1:Int))],[]⟩) (λi=>d.length-i.1) ⟨0,ON _,rfl⟩ (eW []) (λi=>?_)
 obtain⟨i,hi,hf⟩:=i;simp only;repeat'(first|exact trivial|apply eS rfl|refine rX c ?_ ?_|refine rC ?_ ?_<;>intro a<;>try(cases a;done))
 .exact a
 .have n:i<d.length:=by exact eV
  rw[xS all d n]at hf;have z:(d.getD i d0).2.2.length<=AP:=(t _ (AE d d0 n)).2.2.1;have x:(List.getD d i (ByteArray.empty,[],[])).2.2=(d.getD i d0).2.2:=rfl;rw[x];generalize (d.getD i d0).2.2=l at *;simp only[AP]at z;refine AL (ι:={k:Nat//k<=l.length/\zQ all l k (l.drop k)=zQ all l 0 l}) (λk=>⟨[(0,.p FC d),(3,.p GC all),(4,.p (.int .i64) (i:Int)),(5,.p m9 l),(6,.p (.int .i64) (k.1:Int))],[]⟩) (λk=>l.length-k.1) ⟨0,ON _,rfl⟩ (eW []) (λk=>?_)
  obtain⟨k,hk,b⟩:=k;have q:=λh:k<l.length=>A1Z all l h;simp only;repeat'(first|exact trivial|apply eS rfl|apply AC|refine rX c ?_ ?_|refine rC ?_ ?_<;>intro a<;>try(cases a;done))
  .exact a
  .have e:k<l.length:=by exact eV
   rw[q e,DO a]at b;rw[<-b,DO dc]at hf;exact fI c [.tmp 2] (by rw[<-hf];exact eR)
  .have e:k<l.length:=by exact eV
   have o:(k:Int)<(l.length:Int):=IN.2 e;rw[q e,BY (by rw[a];simp)]at b;refine AL (ι:={m:Nat//m<=k/\((l.take m).any λy=>Ac y.1 (l.getD k f0V).1)=false}) (λm=>⟨[(0,.p FC d),(3,.p GC all),(4,.p (.int .i64) (i:Int)),(5,.p m9 l),(6,.p (.int .i64) (k:Int)),(7,.p (.int .i64) (m.1:Int))],[]⟩) (λm=>k-m.1) ⟨0,ON _,rfl⟩ (eW []) (λm=>?_)
   obtain⟨m,A,g⟩:=m;have r:=λh:m<l.length=>M6 l f0V (λy=>Ac y.1 (l.getD k f0V).1) h;simp only;repeat'(first|exact trivial|apply eS rfl|apply AC|refine rX c ?_ ?_|refine rC ?_ ?_<;>intro a<;>try(cases a;done))
   .have h1:(m:Int)<(k:Int):=a;exact⟨by exact eV,o⟩
   .have f:m<k:=IN.1 (by assumption);have j:=r oa;have s:((l.take k).any λy=>Ac y.1 (l.getD k f0V).1)=true:=by
     rw[To];exact⟨l.getD m f0V,by
      rw[AB1];refine⟨m,by omega,?_⟩;simp[AS,show m<l.length by omega],a⟩
    rw[DO s]at b;rw[<-b,DO dc]at hf;exact fI c [.tmp 2] (by rw[<-hf];exact eR)
   .omega
   .have f:m<k:=IN.1 (by assumption);have j:=r oa;refine⟨⟨m+1,by omega,?_⟩,by simp only;omega,AD [] rfl rfl ?_ ?_⟩
    .rw[j,g];exact a
    .exact eN
    exact eN
   .exact o
   .have f:m=k:=by omega
    subst f;rw[BY (by rw[g];simp),DO a]at b;rw[<-b,DO dc]at hf;exact fI c [.tmp 2] (by rw[<-hf];exact eR)
   .have:=w;simp only[AP]at this;omega
   have f:m=k:=by omega
   subst f;rw[BY (by rw[g];simp),BY (by rw[a];simp)]at b;exact⟨⟨m+1,by omega,b⟩,by simp only;omega,eW []⟩
  .omega
  have e:l.drop k=[]:=SV (SY.1 a);rw[e]at b;rw[<-b,BY (by simp[zQ])]at hf;exact⟨⟨i+1,by omega,hf⟩,by simp only;omega,eW []⟩
 have e:d.drop i=[]:=SV (by exact eV);rw[e]at hf;exact fI c [.tmp 2] (by rw[<-hf];first|exact eR|refine Y6 ?_;rfl)
end
section
attribute [local go_sem] bX bO MC cs0
def TX (s:ByteArray) (o:List ByteArray) (x:AJ):List ByteArray:=if (GT x s).2=true then Dm o x.1 else o
def JW (d:List AJ) (s:ByteArray):List ByteArray:=d.foldl (TX s) []
theorem n8 (s:ByteArray) (d:List AJ) (k:Nat):(JW (d.take k) s).length<=k:=by
 have key:∀(l:List AJ) (o:List ByteArray),(l.foldl (TX s) o).length<=o.length+l.length:=by
  intro l;induction l with
  | nil=>intro o;simp
  | cons x l b =>
   intro o;have h1:=b (TX s o x);have a:(TX s o x).length<=o.length+1:=by
    unfold TX;split
    .exact L8 o x.1
    omega
   simp only[SU,IF];omega
 have h1:=key (d.take k) [];have a:=AA7 k d;unfold JW;simp only[AA1]at h1;omega
def GW (d:List AJ) (s:ByteArray):ByteArray×Bool:=if (CD d (JW d s)).length=1 then ((CD d (JW d s)).getD 0 ByteArray.empty,true) else (ByteArray.empty,false)
def cD:Ab:={ ins:=[FC,T9],pre:=λ(d,_,_)=>WW d/\List.length d<=256,out:=λ(d,s,_)=>[.p T9 (GW d s).1,.p .bool (GW d s).2] }
theorem iP:Ag Tryz.prog 167 cD:=by
 refine fK [0,1,4,5,6,7,9,10,14,26,39] Tryz.func167 Tryz.ntmps167 (AF gV (AF Rd (AF WZ AI))) ?_;rintro w0 O0 ⟨d,s,u⟩ c-⟨k,hd⟩;have hd:d.length<=256:=hd;simp only[cD,AN];repeat'(first|exact trivial|apply eS rfl|refine rX c ?_ ?_)
 refine AL (ι:={i:Nat//i<=d.length}) (λi=>⟨[(0,.p FC d),(1,.p T9 s),(6,.p GC (JW (d.take i.1) s)),(7,.p (.int .i64) (i.1:Int))],[]⟩) (λi=>d.length-i.1) ⟨0,ON _⟩ (AD [] rfl rfl ?_ ?_) (λi=>?_)
 .exact eN
 .refine eM ?_;rfl
 obtain⟨i,hi⟩:=i;have hi:i<=d.length:=hi;have hn:=n8 s d i;have hs:=λh:i<d.length=>Ep (TX s) d d0 [] h;have g:∀e,JW e s=e.foldl (TX s) []:=λ_=>rfl;rw[<-g,<-g]at hs;unfold TX at hs;simp only;repeat'(first|exact trivial|apply eS rfl|apply AC|refine rX c ?_ ?_|refine rC ?_ ?_<;>intro a<;>try(cases a;done))
 .exact a
 .exact⟨by assumption,by omega⟩
 .exact eV
 .have b:i<d.length:=by exact eV
  have e:=hs b;rw[DO a]at e;refine⟨⟨i+1,by omega⟩,by simp only;omega,AD [] rfl rfl ?_ ?_⟩
  .exact eN
  simp only[e];exact eN
 .exact eV
 .have b:i<d.length:=by exact eV
  have e:=hs b;rw[BY (by rw[a];simp)]at e;refine⟨⟨i+1,by omega⟩,by simp only;omega,AD [] rfl rfl ?_ ?_⟩
  .exact eN
  simp only[e];exact eN
 .exact⟨k,hd,by omega⟩
 .have b:d.take i=d:=By (by exact eV);rw[b]at a ⊢;have h1:GW d s=(ByteArray.empty,false):=by
   unfold GW;rw[BY oa]
  exact fI c [.tmp 4,.tmp 5] (by rw[h1];first|exact eR|refine Y6 ?_;first|rfl|exact⟨rfl,rfl⟩)
 .have f:((CD d (JW (d.take i) s)).length:Int)=1:=by simpa using a
  have j:(0:Int)<((CD d (JW (d.take i) s)).length:Int):=by rw[f];decide
  exact j
 have b:d.take i=d:=By (by exact eV);rw[b]at a ⊢;have f:((CD d (JW d s)).length:Int)=1:=by simpa using a
 have h1:GW d s=((CD d (JW d s)).getD 0 ByteArray.empty,true):=by
  unfold GW;rw[DO oa]
 exact fI c [.tmp 4,.tmp 5] (by rw[h1];exact eR)
end
section
attribute [local go_sem] bX Up sP A1D
def YQ (l:List AQ) (t:Int) (s:ByteArray) (o:List Int×Bool) (x:AJ):List Int×Bool :=
 if (!(GT x s).2||!Np l (DV l x.1) t)=true then o else (GS o.1 (l.getD (DV l (GT x s).1).toNat c0).2,true)
def Wo (d:List AJ) (l:List AQ) (t:Int) (s:ByteArray):List Int×Bool:=d.foldl (YQ l t s) ((l.getD 0 c0).2,false)
def A4W (d:List AJ) (l:List AQ):Prop:=(∀x∈d,0<=DV l x.1)/\∀x∈d,∀y∈x.2.2,0<=DV l y.2
theorem iQ (s:ByteArray):∀(l:List (ByteArray×ByteArray)),(gU s l).2=true->∃y∈l,y.2=(gU s l).1
 | [],h=>by cases h
 | x :: l,h=>by
  simp only[gU]at h ⊢;split at h
  .rename_i h1;rw[DO h1];exact⟨x,by simp,rfl⟩
  rename_i h1;rw[BY h1];obtain⟨y,hy,e⟩:=iQ s l h;exact⟨y,by simp[hy],e⟩
theorem A4W.value {d:List AJ} {l:List AQ} (h:A4W d l) {x:AJ} (hx:x∈d) {s:ByteArray} (a:(GT x s).2=true):0<=DV l (GT x s).1:=by
 obtain⟨y,hy,e⟩:=iQ s x.2.2 a;have:=h.2 x hx y hy;rw[e]at this;exact this
theorem A21 {l:List AQ} (t:Int) (s:ByteArray) (x:AJ) {o:List Int×Bool} (h:o.1.length<=64):(YQ l t s o x).1.length<=64:=by
 unfold YQ;split
 .exact h
 exact SX (gW _ _) h
theorem Wp {l:List AQ} (t:Int) (s:ByteArray):∀(d:List AJ) {o:List Int×Bool},o.1.length<=64->(d.foldl (YQ l t s) o).1.length<=64
 | [],_,h=>h
 | x :: d,_,h=>by rw[SU];exact Wp t s d (A21 t s x h)
theorem iR (s:ByteArray):∀(l:List AQ) (k:Nat),Rj s k l<((k+l.length:Nat):Int)
 | [],k=>by simp only[Rj];omega
 | x :: l,k=>by
  simp only[Rj];split
  .simp only[IF];omega
  have:=iR s l (k+1);simp only[IF];omega
theorem TY (l:List AQ) (s:ByteArray):DV l s<(l.length:Int):=by
 have:=iR s l 0;rw[AAC]at this;exact this
def A4X:Ab:={ ins:=[FC,Js,T3,T9],pre:=λ(d,l,t,_,_)=>A4W d l/\((0:Int)<=t/\t<(List.length l:Int))/\List.length l<=256/\(∀x∈(l:List AQ),x.2.length<=64),out:=λ(d,l,t,s,_)=>[.p BR (Wo d l t s).1,.p .bool (Wo d l t s).2] }
theorem A22:Ag Tryz.prog 158 A4X:=by
 refine fK [0,1,2,3,8,9,10,11,12,13,14,22,48] Tryz.func158 Tryz.ntmps158 (AF gV (AF ZG (AF sQ (AF A1E AI)))) ?_;rintro w0 O0 ⟨d,l,t,s,u⟩ f ⟨⟨w,D⟩,-⟩ ⟨n,ht,hl,hx⟩;have hl:l.length<=256:=hl;have C:∀x∈(l:List AQ),x.2.length<=100000:=λx h=>SX (hx x h) dc;have m:0<List.length l:=IN.1 (ABW ht.1 ht.2);simp only[AP]at w;simp only[A4X,AN];repeat'(first|exact trivial|apply eS rfl|refine rX f ?_ ?_)
 .exact IN.2 m
 have k:Wo d l t s=d.foldl (YQ l t s) ((l.getD 0 c0).2,false):=rfl;have r:(l.getD 0 c0).2.length<=64:=hx _ (AE l c0 m);have v:(List.getD l 0 (ByteArray.empty,[])).2=(l.getD 0 c0).2:=rfl;rw[v];generalize (l.getD 0 c0).2=c at *;refine AL (ι:={i:Nat//i<=d.length}) (λi=>⟨[(0,.p FC d),(1,.p Js l),(2,.p T3 t),(3,.p T9 s),(10,.p .bool ((d.take i.1).foldl (YQ l t s) (c,false)).2),(11,.p BR ((d.take i.1).foldl (YQ l t s) (c,false)).1),(12,.p (.int .i64) (i.1:Int))],[]⟩) (λi=>d.length-i.1) ⟨0,ON _⟩ (AD [] rfl rfl ?_ ?_) (λi=>?_)
 .exact eN
 .refine eM ?_;exact⟨rfl,rfl⟩
 obtain⟨i,hi⟩:=i;have hi:i<=d.length:=hi;have y:=Wp (l:=l) t s (d.take i) (o:=(c,false)) r;have hs:=λh:i<d.length=>Ep (YQ l t s) d d0 (c,false) h;have B:=λh:i<d.length=>n.1 _ (AE d d0 h);have A:=λ(h:i<d.length) (g:(GT (d.getD i d0) s).2=true)=>n.value (AE d d0 h) g;have j:∀o x,YQ l t s o x=(if (!(GT x s).2||!Np l (DV l x.1) t)=true then o else (GS o.1 (l.getD (DV l (GT x s).1).toNat c0).2,true)):=λ_ _=>rfl;generalize q:(d.take i).foldl (YQ l t s) (c,false)=o at *;simp only;repeat'(first|exact trivial|apply eS rfl|apply AC|refine rX f ?_ ?_|refine rC ?_ ?_<;>intro a<;>try(cases a;done))
 .exact a
 .have b:i<d.length:=IN.1 a;exact⟨λ_=>a,λ_=>⟨⟨B b,TY _ _⟩,ht,C⟩⟩
 .exact eV
 .have b:i<d.length:=IN.1 (by assumption);have e:=hs b;rw[j,DO (by rw[UO,Sa,Sa];exact a)]at e;refine⟨⟨i+1,by omega⟩,by simp only;omega,AD [] rfl rfl ?_ ?_⟩
  .exact eN
  refine eM ?_;rw[e];exact⟨rfl,rfl⟩
 .have b:i<d.length:=IN.1 (by assumption);exact⟨⟨A b a.1,TY _ _⟩,SX y dc⟩
 .exact eV
 .have b:i<d.length:=IN.1 (by assumption);have e:=hs b;have z:¬(!(GT (d.getD i d0) s).2||!Np l (DV l (d.getD i d0).1) t)=true:=by
   rw[UO,Sa,Sa];rintro (h|h)
   .rw[show (GT (d.getD i d0) s).2=true from a.1]at h;cases h
   rw[show Np l (DV l (d.getD i d0).1) t=true from a.2]at h;cases h
  rw[j,BY z]at e;refine⟨⟨i+1,by omega⟩,by simp only;omega,AD [] rfl rfl ?_ ?_⟩
  .exact eN
  refine eM ?_;rw[e];exact⟨rfl,rfl⟩
 have b:d.take i=d:=By (SY.1 a);rw[b]at q;rw[q]at k;exact fI f [.tmp 8,.tmp 9] (by rw[k];exact eR)
end
theorem TZ:∀ {l:List AJ},L6 l=0->∀x∈l,x.2.1.length<=256/\x.2.2.length<=256
 | [],_,x,hx=>by cases hx
 | y :: l,h,x,hx=>by
  simp only[L6]at h;split at h
  .cases h
  rename_i h1;rcases At.1 hx with rfl|hx
  .exact⟨by omega,by omega⟩
  exact TZ h x hx
theorem Ko {d:List AJ} (h:BW d=0):∀x∈d,x.2.1.length<=256/\x.2.2.length<=256:=by
 have h1:E0 d=0:=by
  unfold BW at h;split at h
  .rename_i h1;exact absurd h h1
  rename_i h1;exact IS h1
 unfold E0 at h1;split at h1
 .cases h1
 exact TZ h1
theorem Ov {d:List AJ} (h:BW d=0):∀x∈A9 d,x.2.length<=64:=by
 intro x hx;obtain⟨-,a,-⟩:=BH h;obtain⟨b,hb,rfl⟩:=Ec.1 hx;exact QO (Ou a) b hb
theorem iT {all:List ByteArray} {l:List FV}:∀ {r:List FV} {k:Nat},zQ all l k r=0->∀y∈r,Ae all y.2=true
 | [],_,_,y,hy=>by cases hy
 | x :: r,k,h,y,hy=>by
  simp only[zQ]at h;split at h
  .cases h
  split at h
  .cases h
  split at h
  .cases h
  rename_i a;rcases At.1 hy with rfl|hy
  .simpa using a
  exact iT h y hy
theorem ZO {all:List ByteArray}:∀ {l:List AJ},cC all l=0->∀x∈l,∀y∈x.2.2,Ae all y.2=true
 | [],_,x,hx=>by cases hx
 | z :: l,h,x,hx=>by
  simp only[cC]at h;split at h
  .rename_i h1;exact absurd h h1
  rename_i h1;rcases At.1 hx with rfl|hx
  .exact iT (IS h1)
  exact ZO h x hx
theorem sU {d:List AJ} (h:BW d=0) (a:MG d=0):A4W d (A9 d) :=
 ⟨λx hx=>TW h hx,λx hx y hy=>TV h (ZO a x hx y hy)⟩
theorem Wq (l:List (List Int)) (i k:Nat):l <+: HE l i k:=by
 unfold HE;split
 .exact ABR _ _
 exact AAn _
theorem Wr (i:Nat):∀(n k:Nat) (l:List (List Int)),l <+: HF i n k l
 | 0,_,l=>AAn l
 | n+1,k,l=>by
  unfold HF;split
  .exact(Wq l i k).trans (Wr i n (k+1) _)
  exact AAn l
theorem Ws:∀(n i:Nat) (l:List (List Int)),l <+: JV n i l
 | 0,_,l=>AAn l
 | n+1,i,l=>by
  unfold JV;split
  .exact(Wr i i 0 l).trans (Ws n (i+1) _)
  exact AAn l
theorem QQ {l m:List (List Int)} (h:l <+: m) {k:Nat} (hk:k<l.length):m.getD k []=l.getD k []:=by
 obtain⟨t,rfl⟩:=h;simp only[AS];rw[Se hk]
def LI (l:List (List Int)) (q p:Nat):Prop:=GS (l.getD q []) (l.getD p [])=[]\/GS (l.getD q []) (l.getD p [])∈l
theorem LI.pre {l m:List (List Int)} (h:l <+: m) {q p:Nat} (c:q<l.length) (b:p<l.length) (a:LI l q p):LI m q p:=by
 unfold LI at a ⊢;rw[QQ h c,QQ h b];rcases a with a|a
 .exact .inl a
 exact .inr (h.subset a)
theorem A4Y {l:List (List Int)} {b:List Int} (h:nL l b=true):b∈l:=by
 obtain⟨x,hx,e⟩:=To.1 h;have:x=b:=by simpa[Jt] using e
 rw[<-this];exact hx
theorem n9 {l:List (List Int)} {i k:Nat} (hi:i<l.length) (hk:k<l.length):LI (HE l i k) i k:=by
 have b:=Wq l i k;unfold LI;rw[QQ b hi,QQ b hk];unfold HE;split
 .right;simp
 rename_i a;rw[An,Is,Sa]at a;by_cases h0:0<((GS (l.getD i []) (l.getD k [])).length:Int)
 .right;cases hh:nL l (GS (l.getD i []) (l.getD k [])) with
  | true=>exact A4Y hh
  | false=>exact absurd ⟨h0,hh⟩ a
 left;exact Sk oa
theorem Wu {i:Nat}:∀ {n k:Nat} {l:List (List Int)},n+k=i->i<l.length->(HF i n k l).length<=256->(∀p,p<k->LI l i p)->∀p,p<i->LI (HF i n k l) i p
 | 0,k,l,hn,hi,hl,h=>λp b=>h p oa
 | n+1,k,l,hn,hi,hl,h=>by
  unfold HF at hl ⊢;split at hl
  .rename_i a;rw[DO a];have b:=Wq l i k;refine Wu oa (AAj hi b.length_le) hl λp c=>?_;by_cases e:p=k
   .subst e;exact n9 hi oa
   exact(h p oa).pre b hi oa
  rename_i a;exact absurd (by omega:l.length<=256) a
theorem Wv:∀ {n i:Nat} {l:List (List Int)},257<=n+i->(JV n i l).length<=256->i<=l.length->(∀q p,p<q->q<i->LI l q p)->∀q p,p<q->q<(JV n i l).length->LI (JV n i l) q p
 | 0,i,l,hn,hl,f,h=>λq p b d=>by
  have j:l.length<=256:=hl;omega
 | n+1,i,l,hn,hl,f,h=>by
  unfold JV at hl ⊢;split at hl
  .rename_i a;rw[DO a];have c:=Wr i i 0 l;have k:=c.length_le;have g:=(Ws n (i+1) (HF i i 0 l)).length_le;refine Wv oa hl oa λq p b d=>?_;by_cases e:q=i
   .subst e;exact Wu oa a.1 oa (λp c=>by omega) p b
   exact(h q p b oa).pre c oa oa
  rename_i a;rw[BY a];intro q p b d;exact h q p b (by
   refine IS λhh=>a ⟨by omega,hl⟩)
theorem cE {c:List (List Int)} (hl:(BD c).length<=256):∀q p,p<q->q<(BD c).length->LI (BD c) q p :=
 Wv oa hl (ON _) (λq p _ h=>by omega)
theorem A23 (a b:List Int) (k:Nat):(GS a b).getD k 0=if k<a.length then Cf .and .u64 (a.getD k 0) (b.getD k 0) else 0:=by
 unfold GS;rw[QL];split
 .rename_i h;exact M8 .and a b h
 rename_i h;rw[AS,Si (by rw[Ea];omega)];rfl
theorem Gr {b:List Int} {k:Nat} (h:¬k<b.length):b.getD k 0=0:=by
 rw[AS,Si oa];rfl
theorem sV {a b:List Int} (ha:I8 a) (hb:I8 b) (i:Nat):Bb (GS a b) i=(Bb a i&&Bb b i):=by
 unfold Bb;rw[A23];split
 .rw[IM (BI ha _) (BI hb _),Sc,Nat.testBit_and]
 rename_i h;rw[Gr h];simp
theorem sW {a b:List Int} (ha:I8 a) (hb:I8 b):I8 (GS a b):=by
 refine Oj λx hx=>?_;unfold GR at hx;obtain⟨i,-,rfl⟩:=Y1.1 hx;rw[Ht,IM (BI ha _) (BI hb _)];have h1:=BI ha i;have c:(a.getD i 0).toNat &&& (b.getD i 0).toNat<=(a.getD i 0).toNat:=ABL;have d:=h1.1;have e:=h1.2;exact⟨AAr _,by omega⟩
theorem Ro (b:List Int):∀n,Cm b n=0\/b.getD (Cm b n-1) 0≠0
 | 0=>.inl rfl
 | n+1=>by
  unfold Cm;split
  .exact Ro b n
  rename_i h;right;simpa using h
theorem A4Z {n:Nat} (h0:n≠0) (h1:n<18446744073709551616):∃r,r<64/\n.testBit r=true:=by
 refine IS λa=>h0 ?_;refine Nat.eq_of_testBit_eq λr=>?_;rw[Nat.zero_testBit];by_cases b:r<64
 .cases hb:n.testBit r with
  | false=>rfl
  | true=>exact absurd ⟨r,b,hb⟩ a
 have e:(18446744073709551616:Nat)=2 ^ 64:=by decide
 rw[e]at h1;exact Nat.testBit_lt_two_pow (AAj h1 (Nat.pow_le_pow_right dc oa))
theorem A24 {b:List Int} (hb:I8 b) {k:Nat} (h:b.getD k 0≠0):∃i,Bb b i=true:=by
 have hu:=BI hb k;have h1:=hu.1;have a:=hu.2;obtain⟨r,c,ht⟩:=A4Z (n:=(b.getD k 0).toNat) oa oa;refine⟨64*k+r,?_⟩;unfold Bb;rw[show (64*k+r) / 64=k by omega,show (64*k+r) % 64=r by omega];exact ht
theorem oC {b:List Int} (hb:I8 b) (h:BP b≠[]):∃i,Bb b i=true:=by
 rcases Ro b b.length with h1|h1
 .exact absurd (by unfold BP;rw[h1];rfl) h
 exact A24 hb h1
theorem ZP {a b:List Int} (ha:I8 a) (hb:I8 b) (h:∀i,Bb a i=true->Bb b i=true) (k:Nat):Cf .andNot .u64 (a.getD k 0) (b.getD k 0)=0:=by
 rw[Rk];have:(BitVec.ofInt 64 (a.getD k 0) &&& ~~~BitVec.ofInt 64 (b.getD k 0))=0#64:=by
  apply BitVec.eq_of_getLsbD_eq;intro r c;rw[BitVec.getLsbD_and,BitVec.getLsbD_not,<-AB3,<-AB3,FX (BI ha k),FX (BI hb k)];have hk:=h (64*k+r);unfold Bb at hk;rw[show (64*k+r) / 64=k by omega,show (64*k+r) % 64=r by omega]at hk;cases hx:(a.getD k 0).toNat.testBit r with
  | false=>simp
  | true=>rw[hk hx];simp
 rw[this];rfl
theorem Ww {a b:List Int} (ha:I8 a) (hb:I8 b):Eo a b=true↔∀i,Bb a i=true->Bb b i=true:=by
 constructor
 .exact λh i hi=>ME ha hb h hi
 intro h;unfold Eo Re BP;have h1:Cm (GR .andNot a b a.length) (GR .andNot a b a.length).length=0:=by
  rw[Ea];exact Rl λk hk=>by rw[M8 _ _ _ hk];exact ZP ha hb h k
 rw[h1];rfl
section
attribute [local go_sem] Rn Wc n7 cD A4X
def Ow (d:List AJ) (l:List AQ) (t:Nat) (s:ByteArray):Bool:=(Wo d l (t:Int) s).2&&((Wo d l (t:Int) s).1.length:Int)==0
def sY (d:List AJ) (l:List AQ) (f:List ByteArray) (t:Nat):Bool:=f.any (Ow d l t)
def MH (d:List AJ) (l:List AQ) (f:List ByteArray) (n:Nat):Bool:=(List.range n).any (sY d l f)
theorem iU (d:List AJ) (l:List AQ) (f:List ByteArray) (n:Nat):MH d l f (n+1)=(MH d l f n||sY d l f n):=by
 unfold MH;rw[oF,ABk];simp
def Bc (d:List AJ):Int :=
 if (CB d).2≠0 then (CB d).2 else if 64<(DQ d).length then 7 else if MG d≠0 then MG d else
 if ((DQ d).all λs=>(GW d s).2)=false then 10 else if MH d (CB d).1 (DQ d) (CB d).1.length=true then 11 else 0
def Uq:Ab:={ ins:=[FC],pre:=λ_=>True,out:=λ(d,_)=>[.p HD (Bc d)] }
theorem ZQ:Ag Tryz.prog 156 Uq:=by
 refine fK [0,2,3,4,5,6,7,9,10,11,12,13,20,26,30,35,48,52,58,77] Tryz.func156 Tryz.ntmps156 (AF QP (AF Wd (AF A20 (AF iP (AF A22 AI))))) ?_;rintro w0 O0 ⟨d,u⟩ b - -;simp only[Uq,AN];repeat'(first|exact trivial|apply eS rfl|refine rX b ?_ ?_|refine rC ?_ ?_<;>intro a<;>try(cases a;done))
 .have h1:Bc d=(CB d).2:=by unfold Bc;rw[DO a]
  exact fI b [.tmp 2] (by rw[h1];exact eR)
 .have c:(CB d).2=0:=by simpa using a
  obtain⟨e,-,-⟩:=B9 c;obtain⟨-,hd,-⟩:=BH e;exact⟨hd,λx hx=>(Ko e x hx).2⟩
 .have c:(CB d).2=0:=by simpa using ‹((CB d).2 != 0)=false›
  have h1:Bc d=7:=by
   unfold Bc;rw[BY (by rw[c];simp),DO oa]
  exact fI b [.tmp 2] (by rw[h1];exact eR)
 .have c:(CB d).2=0:=by simpa using ‹((CB d).2 != 0)=false›
  obtain⟨e,-,-⟩:=B9 c;exact(BH e).2.1
 .have c:(CB d).2=0:=by simpa using ‹((CB d).2 != 0)=false›
  have h1:Bc d=MG d:=by
   unfold Bc;rw[BY (by rw[c];simp),BY oa,DO a]
  exact fI b [.tmp 2] (by rw[h1];exact eR)
 have c:(CB d).2=0:=by simpa using ‹((CB d).2 != 0)=false›
 have q:MG d=0:=by simpa using a
 obtain⟨e,z,hl⟩:=B9 c;obtain⟨E,hd,-⟩:=BH e;have B:=sU e q;have H:=Ov e;have I:=A4T e;have A:(A9 d).length<=256:=by rw[IQ];exact z
 have g:Bc d=if ((DQ d).all λs=>(GW d s).2)=false then 10 else if MH d (CB d).1 (DQ d) (CB d).1.length=true then 11 else 0:=by
  unfold Bc;rw[BY (by rw[c];simp),BY oa,BY (by rw[q];simp)]
 rw[hl]at g ⊢;generalize A9 d=l at *;generalize DQ d=f at *;refine AL (ι:={i:Nat//i<=f.length/\((f.take i).all λs=>(GW d s).2)=true}) (λi=>⟨[(0,.p FC d),(3,.p Js l),(5,.p GC f),(7,.p (.int .i64) (i.1:Int))],[]⟩) (λi=>f.length-i.1) ⟨0,ON _,rfl⟩ (eW []) (λi=>?_)
 obtain⟨i,hi,n⟩:=i;have D:=λh:i<f.length=>Ju f ByteArray.empty (λs=>(GW d s).2) h;simp only;repeat'(first|exact trivial|apply eS rfl|apply AC|refine rX b ?_ ?_|refine rC ?_ ?_<;>intro a<;>try(cases a;done))
 .exact⟨a,E,hd⟩
 .have j:i<f.length:=IN.1 (by assumption);have w:(f.all λs=>(GW d s).2)=false:=by
   rw[AAH];intro h;have:=NO.1 h _ (AE f ByteArray.empty j);rw[show (GW d (f.getD i ByteArray.empty)).2=false from a]at this;cases this
  rw[DO w]at g;exact fI b [.tmp 2] (by rw[g];exact eR)
 .omega
 .have j:i<f.length:=IN.1 (by assumption);refine⟨⟨i+1,j,?_⟩,by simp only;omega,AD [] rfl rfl ?_ ?_⟩
  .rw[D j,n];exact a
  .exact eN
  exact eN
 have j:f.take i=f:=By (SY.1 a);rw[j]at n;rw[BY (by rw[n];simp)]at g;refine AL (ι:={t:Nat//t<=l.length/\MH d l f t=false}) (λt=>⟨[(0,.p FC d),(3,.p Js l),(5,.p GC f),(10,.p (.int .i64) (t.1:Int))],[]⟩) (λt=>l.length-t.1) ⟨0,ON _,rfl⟩ (eW []) (λt=>?_)
 obtain⟨t,ht,v⟩:=t;have G:=iU d l f t;simp only;repeat'(first|exact trivial|apply eS rfl|refine rX b ?_ ?_|refine rC ?_ ?_<;>intro a<;>try(cases a;done))
 .have r:t<l.length:=IN.1 a;refine AL (ι:={k:Nat//k<=f.length/\(f.take k).any (Ow d l t)=false}) (λk=>⟨[(0,.p FC d),(3,.p Js l),(5,.p GC f),(10,.p (.int .i64) (t:Int)),(11,.p (.int .i64) (k.1:Int))],[]⟩) (λk=>f.length-k.1) ⟨0,ON _,rfl⟩ (eW []) (λk=>?_)
  obtain⟨k,hk,o⟩:=k;have C:=λh:k<f.length=>M6 f ByteArray.empty (Ow d l t) h;simp only;repeat'(first|exact trivial|apply eS rfl|apply AC|refine rX b ?_ ?_|refine rC ?_ ?_<;>intro a<;>try(cases a;done))
  .exact⟨a,B,by assumption,A,H⟩
  .have m:k<f.length:=IN.1 (by assumption);have hb:Ow d l t (f.getD k ByteArray.empty)=true:=by
    unfold Ow;rw[An,UQ];exact a
   have y:MH d l f l.length=true:=by
    unfold MH;rw[To];exact⟨t,UJ.2 r,Iy f ByteArray.empty _ m hb⟩
   rw[DO y]at g;exact fI b [.tmp 2] (by rw[g];exact eR)
  .omega
  .have m:k<f.length:=IN.1 (by assumption);have hb:Ow d l t (f.getD k ByteArray.empty)=false:=by
    rw[AAH];unfold Ow;intro h;rw[An,UQ]at h;exact a h.1 h.2
   refine⟨⟨k+1,m,?_⟩,by simp only;omega,AD [] rfl rfl ?_ ?_⟩
   .rw[C m,o,hb];rfl
   .exact eN
   exact eN
  .omega
  have m:f.take k=f:=By (SY.1 a);rw[m]at o;refine⟨⟨t+1,r,?_⟩,by simp only;omega,AD [] rfl rfl ?_ ?_⟩
  .rw[G,v];exact o
  .exact eN
  exact eN
 have F:t=l.length:=by exact eV
 subst F;rw[BY (by rw[v];simp)]at g;exact fI b [.tmp 2] (by rw[g];exact eR)
end
section
attribute [local go_sem] Uq Rn Wc cD Up
abbrev Wx:=ByteArray×Int
theorem DH {d:List AJ} (h:Bc d=0):(CB d).2=0/\(DQ d).length<=64/\MG d=0:=by
 unfold Bc at h;split at h
 .rename_i h1;exact absurd h h1
 rename_i h1;split at h
 .cases h
 rename_i b;split at h
 .rename_i a;exact absurd h a
 rename_i a;exact⟨IS h1,by omega,IS a⟩
def Ta (d:List AJ) (s:ByteArray):Wx:=(s,DV (A9 d) (GW d s).1)
def Db (d:List AJ):List Wx×Int:=if Bc d≠0 then ([],Bc d) else ((DQ d).map (Ta d),0)
theorem CK {α β:Type} (f:α->β) (l:List α) (d:α) {k:Nat} (h:k<l.length):(l.take (k+1)).map f=(l.take k).map f++[f (l.getD k d)]:=by
 rw[Aw l d h,UK];rfl
theorem cF {α β:Type} (f:α->β) (l:List α) {k:Nat} (h:k<=l.length):((l.take k).map f).length=k:=by simp[h]
def Rp:Ab:={ ins:=[FC],pre:=λ_=>True,out:=λ(d,_)=>[.p T29 (Db d).1,.p HD (Db d).2] }
theorem iV:Ag Tryz.prog 120 Rp:=by
 refine fK [0,2,3,4,5,7,8,9,10,15,27] Tryz.func120 Tryz.ntmps120 (AF ZQ (AF QP (AF Wd (AF iP (AF ZG AI))))) ?_;rintro w0 O0 ⟨d,u⟩ g - -;simp only[Rp,AN];repeat'(first|exact trivial|apply eS rfl|refine rX g ?_ ?_|refine rC ?_ ?_<;>intro a<;>try(cases a;done))
 .have h1:Db d=([],Bc d):=by unfold Db;rw[DO a]
  exact fI g [.tmp 2,.tmp 3] (by rw[h1];exact eR)
 .have c:Bc d=0:=by simpa using a
  obtain⟨k,-,-⟩:=DH c;obtain⟨b,-,-⟩:=B9 k;exact⟨(BH b).2.1,λx hx=>(Ko b x hx).2⟩
 have c:Bc d=0:=by simpa using a
 obtain⟨k,o,-⟩:=DH c;obtain⟨b,-,hl⟩:=B9 k;obtain⟨n,hd,-⟩:=BH b;have m:Db d=((DQ d).map (Ta d),0):=by unfold Db;rw[BY (by rw[c];simp)]
 rw[hl];generalize DQ d=f at *;refine AL (ι:={i:Nat//i<=f.length}) (λi=>⟨[(0,.p FC d),(5,.p Js (A9 d)),(7,.p GC f),(8,.sr 49 A0F 0 ((f.take i.1).map (Ta d)).length),(9,.p (.int .i64) (i.1:Int))],[(49,.arr 163 A0F ((f.take i.1).map (Ta d)))]⟩) (λi=>f.length-i.1) ⟨0,ON _⟩ (eW [(49,.nil)]) (λi=>?_)
 obtain⟨i,hi⟩:=i;have l:=cF (Ta d) f hi;have hs:=λh:i<f.length=>CK (Ta d) f ByteArray.empty h;simp only;repeat'(first|exact trivial|apply eS rfl|apply AC|refine rX g ?_ ?_|refine rC ?_ ?_<;>intro a<;>try(cases a;done))
 .exact⟨a,n,hd⟩
 .refine⟨a,?_⟩;rw[l];simp only[AP];omega
 .omega
 .have j:i<f.length:=IN.1 a;have e:=hs j;refine⟨⟨i+1,j⟩,by simp only;omega,AD [(49,.nm 49)] rfl rfl ?_ ?_⟩
  .simp only[e];refine eM ?_;rfl
  simp only[e];exact eN
 have j:f.take i=f:=By (SY.1 a);rw[j];refine GB [49] ?_;exact fI g [.tmp 2,.tmp 3] (by rw[m];exact eR)
end
section
attribute [local go_sem] Uq Rn Wc A4X nM
def cH (d:List AJ) (l:List AQ) (f:List ByteArray) (t:Nat) (n:Nat):List (Int×Int) :=
 ((List.range n).filter λ(i:Nat)=>(Wo d l (t:Int) (f.getD i ByteArray.empty)).2).map λ(i:Nat)=>((i:Int),bW l (Wo d l (t:Int) (f.getD i ByteArray.empty)).1)
def MJ (d:List AJ) (l:List AQ) (f:List ByteArray) (n:Nat):List (List (Int×Int)):=(List.range n).map λt=>cH d l f t f.length
def Bm (d:List AJ):List (List (Int×Int))×Int:=if Bc d≠0 then ([],Bc d) else (MJ d (A9 d) (DQ d) (A9 d).length,0)
theorem xT (d:List AJ) (l:List AQ) (f:List ByteArray) (t n:Nat):cH d l f t (n+1)=cH d l f t n++if (Wo d l (t:Int) (f.getD n ByteArray.empty)).2=true then [((n:Int),bW l (Wo d l (t:Int) (f.getD n ByteArray.empty)).1)] else []:=by
 unfold cH;rw[oF,ABf,UK]
 congr 1
 rw[AA5,ABu];split<;>rfl
theorem A25 (d:List AJ) (l:List AQ) (f:List ByteArray) (t n:Nat):(cH d l f t n).length<=n:=by
 unfold cH;rw[OF];exact SX (AAb _ _) sc
theorem oD (d:List AJ) (l:List AQ) (f:List ByteArray) (n:Nat):MJ d l f (n+1)=MJ d l f n++[cH d l f n f.length]:=by simp[MJ,oF]
theorem ZR (d:List AJ) (l:List AQ) (f:List ByteArray) (n:Nat):(MJ d l f n).length=n:=by simp[MJ]
theorem A26 {d:List AJ} {l:List AQ} (h:∀x∈l,x.2.length<=64) (t:Int) (s:ByteArray):(Wo d l t s).1.length<=64:=by
 unfold Wo;refine Wp t s d ?_;rw[AS];cases hh:l[0]? with
 | none=>simp
 | some x=>exact h x (UR hh)
def Wy:Ab:={ ins:=[FC],pre:=λ_=>True,out:=λ(d,_)=>[.p A4G (Bm d).1,.p HD (Bm d).2] }
theorem oE:Ag Tryz.prog 117 Wy:=by
 refine fK [0,2,3,4,5,7,8,9,10,11,12,13,17,29,35,49] Tryz.func117 Tryz.ntmps117 (AF ZQ (AF QP (AF Wd (AF A22 (AF A1O AI))))) ?_;rintro w0 O0 ⟨d,u⟩ e - -;simp only[Wy,AN];repeat'(first|exact trivial|apply eS rfl|refine rX e ?_ ?_|refine rC ?_ ?_<;>intro a<;>try(cases a;done))
 .have h1:Bm d=([],Bc d):=by unfold Bm;rw[DO a]
  exact fI e [.tmp 2,.tmp 3] (by rw[h1];exact eR)
 .have h:Bc d=0:=by simpa using a
  obtain⟨m,-,-⟩:=DH h;obtain⟨b,-,-⟩:=B9 m;exact⟨(BH b).2.1,λx hx=>(Ko b x hx).2⟩
 have h:Bc d=0:=by simpa using a
 obtain⟨m,y,o⟩:=DH h;obtain⟨b,j,hl⟩:=B9 m;obtain⟨A,hd,-⟩:=BH b;have w:Bm d=(MJ d (A9 d) (DQ d) (A9 d).length,0):=by unfold Bm;rw[BY (by rw[h];simp)]
 have v:=sU b o;have n:=Ov b;have r:(A9 d).length<=256:=by rw[IQ];exact j
 rw[hl];generalize A9 d=l at *;generalize DQ d=f at *;have q:=λt s=>A26 (d:=d) n t s;refine AL (ι:={t:Nat//t<=l.length}) (λt=>⟨[(0,.p FC d),(5,.p Js l),(7,.p GC f),(8,.sr 61 gE 0 (MJ d l f t.1).length),(9,.p (.int .i64) (t.1:Int))],[(61,.arr 142 gE (MJ d l f t.1))]⟩) (λt=>l.length-t.1) ⟨0,ON _⟩ (AD [(61,.nil)] rfl rfl ?_ ?_) (λt=>?_)
 .refine eM ?_;rfl
 .refine eM ?_;rfl
 obtain⟨t,ht⟩:=t;have j:=ZR d l f t;have hs:=oD d l f t;simp only;repeat'(first|exact trivial|apply eS rfl|refine rX e ?_ ?_|refine rC ?_ ?_<;>intro a<;>try(cases a;done))
 .refine AL (ι:={i:Nat//i<=f.length}) (λi=>⟨[(0,.p FC d),(5,.p Js l),(7,.p GC f),(8,.sr 61 gE 0 (MJ d l f t).length),(9,.p (.int .i64) (t:Int)),(10,.sr 57 A0G 0 (cH d l f t i.1).length),(11,.p (.int .i64) (i.1:Int))],[(61,.arr 142 gE (MJ d l f t)),(57,.arr 170 A0G (cH d l f t i.1))]⟩) (λi=>f.length-i.1) ⟨0,ON _⟩ (AD [(61,.nm 61),(57,.nil)] rfl rfl ?_ ?_) (λi=>?_)
  .refine eM ?_;rfl
  .refine eM ?_;rfl
  obtain⟨i,hi⟩:=i;have z:=A25 d l f t i;have c:=xT d l f t i;simp only;repeat'(first|exact trivial|apply eS rfl|apply AC|refine rX e ?_ ?_|refine rC ?_ ?_<;>intro a<;>try(cases a;done))
  .exact⟨a,v,by assumption,r,n⟩
  .refine⟨SX (q _ _) dc,?_⟩;simp only[AP];omega
  .omega
  .have g:i<f.length:=IN.1 (by assumption);rw[DO a]at c;refine⟨⟨i+1,g⟩,by simp only;omega,AD [(61,.nm 61),(57,.nm 57)] rfl rfl ?_ ?_⟩
   .simp only[c];exact eN
   simp only[c];exact eN
  .omega
  .have g:i<f.length:=IN.1 (by assumption);rw[BY (by rw[a];simp),UL]at c;refine⟨⟨i+1,g⟩,by simp only;omega,AD [(61,.nm 61),(57,.nm 57)] rfl rfl ?_ ?_⟩
   .simp only[c];exact eN
   simp only[c];exact eN
  .rw[j];simp only[AP];omega
  .omega
  have k:t<l.length:=IN.1 (by assumption);have g:i=f.length:=by omega
  subst g;refine⟨⟨t+1,k⟩,by simp only;omega,AD [(61,.nm 61)] rfl rfl ?_ ?_⟩
  .simp only[hs];exact eN
  simp only[hs];exact eN
 have k:t=l.length:=by omega
 subst k;refine GB [61] ?_;exact fI e [.tmp 2,.tmp 3] (by rw[w];exact eR)
end
section
attribute [local go_sem] cs0
def LJ (l:List ByteArray) (n:Nat):List FV:=(List.range n).map λk=>(l.getD (2*k) ByteArray.empty,l.getD (2*k+1) ByteArray.empty)
theorem Wz (l:List ByteArray) (n:Nat):LJ l (n+1)=LJ l n++[(l.getD (2*n) ByteArray.empty,l.getD (2*n+1) ByteArray.empty)]:=by simp[LJ,oF]
theorem ZS (l:List ByteArray) (n:Nat):(LJ l n).length=n:=by simp[LJ]
def cI (s:ByteArray):List ByteArray:=if Ac s ByteArray.empty=true then [] else [s]
def GF (n s:ByteArray) (l:List ByteArray):AJ:=(n,cI s,LJ l (l.length / 2))
def A27:Ab:={ ins:=[T9,T9,GC],pre:=λ(_,_,l,_)=>List.length l<=1000,out:=λ(n,s,l,_)=>[.p wW (GF n s l)] }
theorem A50:Ag Tryz.prog 121 A27:=by
 refine fK [0,1,2,6,7,8,12,20] Tryz.func121 Tryz.ntmps121 AI ?_;rintro w0 O0 ⟨n,s,l,u⟩ b-hl;have hl:l.length<=1000:=hl;simp only[A27,AN];repeat'(first|exact trivial|apply eS rfl|apply AC|refine rX b ?_ ?_|refine rC ?_ ?_<;>intro a<;>try(cases a;done))
 .have e:=a;refine GB [14] ?_;refine AL (ι:={k:Nat//2*k<=l.length}) (λk=>⟨[(2,.p GC l),(6,.bp 6 [] 0),(7,.bp 7 [] 0),(8,.p (.int .i64) ((2*k.1:Nat):Int))],[(6,.box 158 true [.p T9 ByteArray.empty,.raw (.slice none 0 0),.raw (.slice none 0 0)]),(7,.box 158 true [.p T9 n,.p GC [s],.sr 36 mZ 0 (LJ l k.1).length]),(36,.arr 161 mZ (LJ l k.1))]⟩) (λk=>l.length-2*k.1) ⟨0,ON _⟩ (AD [(6,.nm 6),(7,.nm 7),(36,.nil)] rfl rfl ?_ ?_) (λk=>?_)
  .first|exact eN|refine eM ?_
   exact⟨rfl,rfl⟩
  .first|exact eN|refine eM ?_
  obtain⟨k,hk⟩:=k;have f:=ZS l k;have d:=Wz l k;simp only;repeat'(first|exact trivial|apply eS rfl|apply AC|refine rX b ?_ ?_|refine rC ?_ ?_<;>intro a<;>try(cases a;done))
  .exact eV
  .refine⟨by exact eV,⟨by exact eV,by exact eV⟩,⟨by exact eV,by exact eV⟩,?_⟩;rw[f];simp only[AP];exact eV
  .exact eV
  .have c:2*k+1<l.length:=by exact eV
   have e1:((2*k:Nat):Int)+1=((2*k+1:Nat):Int):=by omega
   refine⟨⟨k+1,by omega⟩,by simp only;omega,AD [(6,.nm 6),(7,.nm 7),(36,.nm 36)] rfl rfl ?_ ?_⟩
   .simp only[d];first|exact eN|refine eM ?_
    rw[e1];rfl
   simp only[d];first|exact eN|refine eM ?_
   show ((2*k:Nat):Int)+2=((2*(k+1):Nat):Int);omega
  have c:k=l.length / 2:=by exact eV
  refine GB [36] ?_;have g:GF n s l=(n,[s],LJ l k):=by
   unfold GF cI;rw[<-c,BY (by rw[show Ac s ByteArray.empty=false from e];simp)]
  exact fI b [.cell 6 158] (by rw[g];exact eR)
 have e:=a;refine AL (ι:={k:Nat//2*k<=l.length}) (λk=>⟨[(2,.p GC l),(6,.bp 6 [] 0),(7,.bp 7 [] 0),(8,.p (.int .i64) ((2*k.1:Nat):Int))],[(6,.box 158 true [.p T9 ByteArray.empty,.raw (.slice none 0 0),.raw (.slice none 0 0)]),(7,.box 158 true [.p T9 n,.p GC ([]:List ByteArray),.sr 36 mZ 0 (LJ l k.1).length]),(36,.arr 161 mZ (LJ l k.1))]⟩) (λk=>l.length-2*k.1) ⟨0,ON _⟩ (AD [(6,.nm 6),(7,.nm 7),(36,.nil)] rfl rfl ?_ ?_) (λk=>?_)
 .first|exact eN|refine eM ?_
  exact⟨rfl,rfl⟩
 .first|exact eN|refine eM ?_
 obtain⟨k,hk⟩:=k;have f:=ZS l k;have d:=Wz l k;simp only;repeat'(first|exact trivial|apply eS rfl|apply AC|refine rX b ?_ ?_|refine rC ?_ ?_<;>intro a<;>try(cases a;done))
 .exact eV
 .refine⟨by exact eV,⟨by exact eV,by exact eV⟩,⟨by exact eV,by exact eV⟩,?_⟩;rw[f];simp only[AP];exact eV
 .exact eV
 .have c:2*k+1<l.length:=by exact eV
  have e1:((2*k:Nat):Int)+1=((2*k+1:Nat):Int):=by omega
  refine⟨⟨k+1,by omega⟩,by simp only;omega,AD [(6,.nm 6),(7,.nm 7),(36,.nm 36)] rfl rfl ?_ ?_⟩
  .simp only[d];first|exact eN|refine eM ?_
   rw[e1];rfl
  simp only[d];first|exact eN|refine eM ?_
  show ((2*k:Nat):Int)+2=((2*(k+1):Nat):Int);omega
 have c:k=l.length / 2:=by exact eV
 refine GB [36] ?_;have g:GF n s l=(n,([]:List ByteArray),LJ l k):=by
  unfold GF cI;rw[<-c,DO (show Ac s ByteArray.empty=true from e)]
 exact fI b [.cell 6 158] (by rw[g];exact eR)
end
section
attribute [local go_sem] A27 cs0 cs1 cs2 cs3 zO zP cs6 cs7 cs8
def Jw:List AJ:=[
 GF { data:=#[116,111,112] } { data:=#[] } [],
 GF { data:=#[108,105,115,116] } { data:=#[116,111,112] } [],
 GF { data:=#[99,111,110,115] } { data:=#[108,105,115,116] } [{ data:=#[70,73,82,83,84] },{ data:=#[116,111,112] },{ data:=#[82,69,83,84] },{ data:=#[108,105,115,116] }],
 GF { data:=#[110,117,108,108] } { data:=#[108,105,115,116] } [],
 GF { data:=#[100,108,105,115,116] } { data:=#[116,111,112] } [{ data:=#[76,73,83,84] },{ data:=#[108,105,115,116] },{ data:=#[76,65,83,84] },{ data:=#[108,105,115,116] }],
 GF { data:=#[105,110,100,101,120] } { data:=#[116,111,112] } [],
 GF { data:=#[104,97,110,100,108,101] } { data:=#[105,110,100,101,120] } [],
 GF { data:=#[101,118,101,110,116] } { data:=#[105,110,100,101,120] } [],
 GF { data:=#[101,110,116,105,116,121] } { data:=#[105,110,100,101,120] } [],
 GF { data:=#[114,101,108] } { data:=#[116,111,112] } [{ data:=#[76,65,66,69,76] },{ data:=#[104,97,110,100,108,101] }],
 GF { data:=#[113,101,113] } { data:=#[116,111,112] } [{ data:=#[72,73,71,72] },{ data:=#[104,97,110,100,108,101] },{ data:=#[76,79,87] },{ data:=#[104,97,110,100,108,101] }],
 GF { data:=#[115,101,109] } { data:=#[116,111,112] } [{ data:=#[84,79,80] },{ data:=#[104,97,110,100,108,101] },{ data:=#[73,78,68,69,88] },{ data:=#[105,110,100,101,120] },{ data:=#[82,69,76,83] },{ data:=#[100,108,105,115,116] },{ data:=#[67,79,78,83] },{ data:=#[100,108,105,115,116] }],
 GF { data:=#[115,105,103,110] } { data:=#[116,111,112] } [{ data:=#[83,69,77] },{ data:=#[115,101,109] },{ data:=#[65,82,71,83] },{ data:=#[108,105,115,116] }]]
def MK:Ab:={ ins:=[],pre:=λ_=>True,out:=λ_=>[.p FC Jw] }
theorem oG:Ag Tryz.prog 63 MK:=by
 refine fKP [0] [3,6,12,14,16,18,20] [] Tryz.func63 Tryz.ntmps63 (AF A50 AI) ?_;rintro w0 O0 u a - -;simp only[MK,AN];repeat'(first|exact trivial|apply eS rfl|refine rX a ?_ ?_)
 exact fI a [.tmp 0] (by unfold Jw;exact eR)
end
section
attribute [local go_sem] Wy Rn A1Y Rp
abbrev HQ:=ByteArray×List Int×List Int×List (Int×Int)
abbrev AG:=List HQ×List Wx
def F0 (l:List AQ) (v:List (List (Int×Int))) (n:Nat):List HQ:=(List.range n).map λi=>((l.getD i c0).1,(l.getD i c0).2,iO l (i:Int),v.getD i [])
theorem oH (l:List AQ) (v:List (List (Int×Int))) (n:Nat):F0 l v (n+1)=F0 l v n++[((l.getD n c0).1,(l.getD n c0).2,iO l (n:Int),v.getD n [])]:=by simp[F0,oF]
theorem NC (l:List AQ) (v:List (List (Int×Int))) (n:Nat):(F0 l v n).length=n:=by simp[F0]
def IR (d:List AJ):AG:=(F0 (A9 d) (Bm d).1 (A9 d).length,(Db d).1)
def BF (d:List AJ):AG×Int:=if (Bm d).2≠0 then (([],[]),(Bm d).2) else (IR d,0)
def Jx:Ab:={ ins:=[FC],pre:=λ_=>True,out:=λ(d,_)=>[.p Ey (BF d).1,.p HD (BF d).2] }
theorem oI:Ag Tryz.prog 62 Jx:=by
 refine fK [0,2,3,4,5,6,8,9,10,18,29] Tryz.func62 Tryz.ntmps62 (AF oE (AF QP (AF A4U (AF iV AI)))) ?_;rintro w0 O0 ⟨d,u⟩ b - -;simp only[Jx,AN];repeat'(first|exact trivial|apply eS rfl|refine rX b ?_ ?_|refine rC ?_ ?_<;>intro a<;>try(cases a;done))
 .have h1:BF d=(([],[]),(Bm d).2):=by unfold BF;rw[DO a]
  exact fI b [.cell 2 31,.tmp 3] (by rw[h1];exact eR)
 have c:(Bm d).2=0:=by simpa using a
 have f:Bc d=0:=by
  unfold Bm at c;split at c
  .rename_i h;exact absurd c h
  rename_i h;exact IS h
 obtain⟨s,w,t⟩:=DH f;obtain⟨j,k,hl⟩:=B9 s;have g:BF d=(IR d,0):=by unfold BF;rw[BY (by rw[c];simp)]
 have q:(Bm d).1.length=(A9 d).length:=by
  unfold Bm;rw[BY (by rw[f];simp)];exact ZR _ _ _ _
 have r:=Ov j;have m:(A9 d).length<=256:=by rw[IQ];exact k
 unfold IR at g;rw[hl];generalize A9 d=l at *;generalize (Bm d).1=v at *;refine AL (ι:={n:Nat//n<=l.length}) (λn=>⟨[(0,.p FC d),(2,.bp 2 [] 0),(4,.p A4G v),(6,.p Js l),(8,.bp 8 [] 0),(9,.p (.int .i64) (n.1:Int))],[(2,.box 31 true [.raw (.slice none 0 0),.raw (.slice none 0 0)]),(8,.box 31 true [.sr 53 m8 0 (F0 l v n.1).length,.raw (.slice none 0 0)]),(53,.arr 144 m8 (F0 l v n.1))]⟩) (λn=>l.length-n.1) ⟨0,ON _⟩ (AD [(2,.nm 2),(8,.nm 8),(53,.nil)] rfl rfl ?_ ?_) (λn=>?_)
 .refine eM ?_;exact⟨rfl,rfl⟩
 .exact eN
 obtain⟨n,hn⟩:=n;have o:=NC l v n;have i:=oH l v n;simp only;repeat'(first|exact trivial|apply eS rfl|apply AC|refine rX b ?_ ?_|refine rC ?_ ?_<;>intro a<;>try(cases a;done))
 .refine⟨a,a,⟨a,m,r⟩,by rw[q];exact a,?_⟩;rw[o];simp only[AP];omega
 .omega
 .have e:n<l.length:=IN.1 a;refine⟨⟨n+1,e⟩,by simp only;omega,AD [(2,.nm 2),(8,.nm 8),(53,.nm 53)] rfl rfl ?_ ?_⟩
  .simp only[i];exact eN
  simp only[i];exact eN
 have e:n=l.length:=by omega
 subst e;refine GB [53] ?_;exact fI b [.cell 2 31,.tmp 3] (by rw[g];exact eR)
def HR (d:List AJ):AG:=if d.length<=20/\(BF d).2=0 then (BF d).1 else (BF Jw).1
end
section
def oJ:Ab:={ ins:=[BR,T3],pre:=λ(_,i,_)=>(0:Int)<=i,out:=λ(b,i,_)=>[.p Rb (GE b i)],lend:=true }
attribute [local go_sem] oJ
theorem A28:Ag Tryz.prog 175 oJ:=by
 refine fK [0,1,4,8] Tryz.func175 Tryz.ntmps175 AI ?_;rintro w0 O0 ⟨b,i,u⟩ c-hi;simp only[oJ,AN];repeat'(first|exact trivial|apply eS rfl|refine rX c ?_ ?_|refine rC ?_ ?_<;>intro a<;>try(cases a;done))
 .exact⟨hi,a⟩
 .have h1:GE b i=b.getD i.toNat 0:=by unfold GE;rw[DO a]
  exact fI c [.tmp 4] (by rw[h1];exact eR)
 have h1:GE b i=0:=by unfold GE;rw[BY (AAB.2 a)]
 exact fI c [.tmp 4] (by rw[h1];exact eR)
def ML (a b:List Int):Bool:=(List.range a.length).all λi=>Cf .andNot .u64 (a.getD i 0) (GE b (i:Int))==0
def iW (a b:List Int) (n:Nat):Bool:=(List.range n).all λi=>Cf .andNot .u64 (a.getD i 0) (GE b (i:Int))==0
theorem oK (a b:List Int) (n:Nat):iW a b (n+1)=(iW a b n&&Cf .andNot .u64 (a.getD n 0) (GE b (n:Int))==0):=by
 unfold iW;rw[oF,AB7];simp
def QR:Ab:={ ins:=[BR,BR],pre:=λ_=>True,out:=λ(a,b,_)=>[.p .bool (ML a b)],lend:=true }
attribute [local go_sem] QR
theorem W8:Ag Tryz.prog 133 QR:=by
 refine fK [0,1,4,5,6,7,8,9,10,19] Tryz.func133 Tryz.ntmps133 (AF A28 AI) ?_;rintro w0 O0 ⟨a,b,u⟩ e ⟨⟨g,-⟩,-⟩ -;simp only[AP]at g;simp only[QR,AN];repeat'(first|exact trivial|apply eS rfl|refine rX e ?_ ?_)
 have h:ML a b=iW a b a.length:=rfl;refine AL (ι:={n:Nat//n<=a.length/\iW a b n=true}) (λn=>⟨[(1,.p BR b),(7,.p BR a),(8,.p (.int .i64) (a.length:Int)),(9,.p (.int .i64) (n.1:Int))],[]⟩) (λn=>a.length-n.1) ⟨0,ON _,rfl⟩ (eW []) (λn=>?_)
 obtain⟨n,hn,f⟩:=n;have hs:=oK a b n;simp only;repeat'(first|exact trivial|apply eS rfl|apply AC|refine rX e ?_ ?_|refine rC ?_ ?_<;>intro d<;>try(cases d;done))
 .exact d
 .have c:n<a.length:=by exact eV
  have h1:ML a b=false:=by
   unfold ML;rw[AB6];exact⟨n,UJ.2 c,by simpa using d⟩
  exact fI e [.tmp 4] (by rw[h1];exact eR)
 .exact eV
 .have c:n<a.length:=by exact eV
  refine⟨⟨n+1,c,?_⟩,by simp only;omega,AD [] rfl rfl ?_ ?_⟩
  .rw[hs,f];simpa using d
  .exact eN
  exact eN
 have c:n=a.length:=by exact eV
 subst c;exact fI e [.tmp 4] (by rw[h,f];exact eR)
abbrev YF:HQ:=(ByteArray.empty,[],[],[])
def A3 (h:AG) (a b:Int):Bool:=ML (h.1.getD b.toNat YF).2.1 (h.1.getD a.toNat YF).2.1
def W9:Ab:={ ins:=[Ey,T3,T3],pre:=λ(h,a,b,_)=>((0:Int)<=a/\a<(List.length (h:AG).1:Int))/\((0:Int)<=b/\b<(List.length (h:AG).1:Int)),out:=λ(h,a,b,_)=>[.p .bool (A3 h a b)],lend:=true }
theorem sZ:Ag Tryz.prog 84 W9:=by
 refine fK [0,1,2,3,6] Tryz.func84 Tryz.ntmps84 (AF W8 AI) ?_;rintro w0 O0 ⟨⟨ht,hf⟩,a,b,u⟩ c-⟨ha,hb⟩;simp only[W9,AN];repeat'(first|exact trivial|apply eS rfl|refine rX c ?_ ?_)
 .exact⟨hb,ha⟩
 exact fI c [.tmp 6] (by unfold A3;exact eR)
end
section
attribute [local go_sem] QR
def XA:Ab:={ ins:=[BR],pre:=λ(b,_)=>List.length b<=100000,out:=λ(b,_)=>[.p BR (BP b)] }
attribute [local go_sem] XA
theorem oL:Ag Tryz.prog 212 XA:=by
 refine fK [0,2,3,15] Tryz.func212 Tryz.ntmps212 AI ?_;rintro w0 O0 ⟨b,u⟩ d-hb;have hb:b.length<=100000:=hb;simp only[XA,AN];repeat'(first|exact trivial|apply eS rfl|refine rX d ?_ ?_)
 refine AL (ι:={n:Nat//n<=b.length/\Cm b n=Cm b b.length}) (λn=>⟨[(0,.p BR b),(3,.p (.int .i64) (n.1:Int))],[]⟩) (λn=>n.1) ⟨b.length,No _,rfl⟩ (eW []) (λn=>?_)
 obtain⟨n,hn,f⟩:=n;simp only;repeat'(first|apply eS rfl|apply AC|refine rX d ?_ ?_|refine rC ?_ ?_<;>intro c<;>try(cases c;done))
 .constructor
  .exact eV
  intro h;refine⟨?_,?_⟩<;>exact eV
 .exact eV
 .obtain⟨h1,a⟩:=c;obtain⟨m,rfl⟩:∃m,n=m+1:=⟨n-1,by omega⟩;have e:(((m+1:Nat):Int)-1)=(m:Int):=by omega
  rw[e]at a;have a:b.getD m 0=0:=a;have i:Cm b m=Cm b b.length:=by
   rw[<-f];show _=if b.getD m 0=0 then Cm b m else m+1
   rw[DO a]
  refine⟨⟨m,by omega,i⟩,by simp,AD [] rfl rfl ?_ ?_⟩
  .exact eN
  simp only[e];exact eN
 .exact SY.2 hn
 have g:Cm b n=n:=by
  cases n with
  | zero=>rfl
  | succ m =>
   have e:(((m+1:Nat):Int)-1)=(m:Int):=by omega
   rw[e]at c;have a:=c oa;have a:¬b.getD m 0=0:=a;show (if b.getD m 0=0 then Cm b m else m+1)=m+1;rw[BY a]
 have h1:BP b=b.take n:=by unfold BP;rw[<-f,g]
 rw[<-h1];exact fI d [.tmp 2]
def Gt (g:Nat->Int) (n i:Nat):List Int:=(List.range n).map λj=>if j<i then g j else 0
theorem ZT (g:Nat->Int) (n i:Nat):(Gt g n i).length=n:=by simp[Gt]
theorem oM (g:Nat->Int) (n:Nat):Gt g n 0=List.replicate n 0:=by
 apply AA6
 .simp[Gt]
 intro j h1 a;simp[Gt]
theorem xV (g:Nat->Int) (n i:Nat):(Gt g n i).set i (g i)=Gt g n (i+1):=by
 apply AA6
 .simp[Gt]
 intro j h1 b;simp only[Gt,List.getElem_set,AAU,AAX];split
 .rename_i e;rw[DO oa,e]
 rename_i e;by_cases a:j<i
 .rw[DO a,DO oa]
 rw[BY a,BY oa]
def cJ (a b:List Int) (i:Nat):Int:=Cf .and .u64 (a.getD i 0) (b.getD i 0)
def F1 (a b:List Int):List Int:=BP (Gt (cJ a b) (min a.length b.length) (min a.length b.length))
def A29:Ab:={ ins:=[BR,BR],pre:=λ(a,_,_)=>List.length a<=100000,out:=λ(a,b,_)=>[.p BR (F1 a b)] }
attribute [local go_sem] A29
theorem A51:Ag Tryz.prog 176 A29:=by
 refine fK [0,1,4,5,6,14,15,16] Tryz.func176 Tryz.ntmps176 (AF oL AI) ?_;rintro w0 O0 ⟨a,b,u⟩ d-ha;have ha:a.length<=100000:=ha;simp only[A29,AN];repeat'(first|exact trivial|apply eS rfl|refine rX d ?_ ?_)
 .split<;>simp only[AP]<;>dsimp only[Ty.den]at *<;>omega
 have g:Int.toNat (if ((List.length b:Nat):Int)<((List.length a:Nat):Int) then ((List.length b:Nat):Int) else ((List.length a:Nat):Int))=min (List.length a) (List.length b):=by split<;>omega
 rw[g];have h:F1 a b=BP (Gt (cJ a b) (min a.length b.length) (min a.length b.length)):=rfl;have j:min a.length b.length<=a.length:=Nat.min_le_left _ _;have k:min a.length b.length<=b.length:=Nat.min_le_right _ _;generalize min a.length b.length=n at *;refine AL (ι:={i:Nat//i<=n}) (λi=>⟨[(0,.p BR a),(1,.p BR b),(5,.sr 12 Rb 0 n),(14,.p (.int .i64) (n:Int)),(15,.p (.int .i64) (i.1:Int))],[(12,.arr 186 Rb (Gt (cJ a b) n i.1))]⟩) (λi=>n-i.1) ⟨0,ON _⟩ (AD [(12,.nm 12)] rfl rfl ?_ ?_) (λi=>?_)
 .refine eM ?_;rw[oM]
 .exact eN
 obtain⟨i,hi⟩:=i;have f:=ZT (cJ a b) n i;simp only;repeat'(first|exact trivial|apply eS rfl|apply AC|refine rX d ?_ ?_|refine rC ?_ ?_<;>intro c<;>try(cases c;done))
 .have e:i<n:=IN.1 c;exact⟨by exact eV,by exact eV,c⟩
 .exact eV
 .have e:i<n:=IN.1 c;refine⟨⟨i+1,e⟩,by simp only;omega,AD [(12,.nm 12)] rfl rfl ?_ ?_⟩
  .simp only[<-xV];refine eM ?_;rfl
  exact eN
 have e:i=n:=by omega
 subst e;have ht:(Gt (cJ a b) i i).take i=Gt (cJ a b) i i:=By (by rw[f];exact No _);refine GB [12] ?_;repeat'(first|apply eS rfl|refine rX d ?_ ?_)
 .rw[ht,f];dsimp only[Ty.den]at *;omega
 rw[ht];exact fI d [.tmp 4] (by rw[h];exact eR)
def Ds (a b:List Int):Bool:=ML a b&&ML b a
def cK:Ab:={ ins:=[BR,BR],pre:=λ_=>True,out:=λ(a,b,_)=>[.p .bool (Ds a b)],lend:=true }
attribute [local go_sem] cK
theorem xW:Ag Tryz.prog 179 cK:=by
 refine fK [0,1,4] Tryz.func179 Tryz.ntmps179 (AF W8 AI) ?_;rintro w0 O0 ⟨a,b,u⟩ c - -;simp only[cK,AN];repeat'(first|exact trivial|apply eS rfl|refine rX c ?_ ?_)
 exact fI c [.tmp 4] (by unfold Ds;exact eR)
def Es (c:List Int):Nat->List HQ->Int
 | _,[]=>-1
 | k,t :: l=>if Ds t.2.1 c=true then (k:Int) else Es c (k+1) l
theorem oO (c:List Int) (l:List HQ) {k:Nat} (h:k<l.length):Es c k (l.drop k)=if Ds (l.getD k YF).2.1 c=true then (k:Int) else Es c (k+1) (l.drop (k+1)):=by
 rw[SR h];have e:l.getD k YF=l[k]:=by simp[AS,h]
 rw[e];rfl
theorem A2a (c:List Int) (t:HQ):BT Tryz.prog 178 [.p m8 t,.bp 1 [] 0] [(1,.box 140 false [.p BR c])] [1] (λres b=>res=.p .bool (Ds t.2.1 c)/\b=[(1,.box 140 false [.p BR c])]):=by
 refine Nk [0,1,2,3] [] [] Tryz.func178 Tryz.ntmps178 (AF xW AI) ?_;intro w0 K O0 ρ0 a d e;simp only[A1];repeat'(first|exact trivial|apply eS rfl|refine rX a ?_ ?_)
 refine Ev.ent (σ':=⟨[(3,.p .bool (Ds t.2.1 c))],[(1,.box 140 false [.p BR c])]⟩) ?_ (AD [(1,.nm 1)] rfl rfl ?_ ?_)
 .exact fM a [.tmp 3] (.p .bool (Ds t.2.1 c)) eT ⟨rfl,rfl⟩
 .exact eN
 exact eN
theorem xX (l:List HQ) (c:List Int) (hl:l.length<=100000):BT Tryz.prog 177 [.p wX l,.clo 178 [1]] [(1,.box 140 false [.p BR c])] [1] (λres g=>res=.p T3 (Es c 0 l)/\g=[(1,.box 140 false [.p BR c])]):=by
 refine Nk [0,1,4,5,7,8,9,16] [] [] Tryz.func177 Tryz.ntmps177 AI ?_;intro w0 K O0 ρ0 b i j;simp only[A1];repeat'(first|exact trivial|apply eS rfl|refine rX b ?_ ?_)
 refine AL (ι:={k:Nat//k<=l.length/\Es c k (l.drop k)=Es c 0 l}) (λk=>⟨[(0,.p wX l),(1,.clo 178 [1]),(7,.p (.int .i64) (l.length:Int)),(8,.p (.int .i64) (k.1:Int))],[(1,.box 140 false [.p BR c])]⟩) (λk=>l.length-k.1) ⟨0,ON _,rfl⟩ (eW [(1,.nm 1)]) (λk=>?_)
 obtain⟨k,hk,hf⟩:=k;have f:=λh:k<l.length=>oO c l h;simp only;repeat'(first|exact trivial|apply eS rfl|refine rX b ?_ ?_|refine rC ?_ ?_<;>intro a<;>try(cases a;done))
 .have d:k<l.length:=IN.1 a;have e:=f d;refine cP 5 b ?_ ?_
  .exact a
  refine rM b (A2a c (l.getD k YF)) [(1,.nm 1)] [] ?_ ?_ ?_
  .exact eN
  .exact eN
  rintro _ _ ⟨rfl,rfl⟩;refine⟨[(1,.nm 1)],.p .bool (Ds (l.getD k YF).2.1 c),[(1,.box 140 false [.p BR c])],rfl,rfl,?_,?_,rfl,rfl,Cu ?_⟩
  .exact eN
  .exact eN
  repeat'(first|exact trivial|apply eS rfl|apply AC|refine rX b ?_ ?_|refine rC ?_ ?_<;>intro a<;>try(cases a;done))
  .have a:Ds (l.getD k YF).2.1 c=true:=a;rw[DO a,hf]at e;refine Ev.ent (σ':=⟨[(4,.p (.int .i64) (k:Int))],[(1,.box 140 false [.p BR c])]⟩) ?_ (AD [(1,.nm 1)] rfl rfl ?_ ?_)
   .exact fM b [.tmp 4] (.p T3 (k:Int)) eT ⟨by rw[e],rfl⟩
   .exact eN
   exact eN
  .omega
  have a:Ds (l.getD k YF).2.1 c=false:=a;rw[BY (by rw[a];simp)]at e;exact⟨⟨k+1,d,e.symm.trans hf⟩,by simp only;omega,eW [(1,.nm 1)]⟩
 have d:l.drop k=[]:=SV (SY.1 a);rw[d]at hf;have hf:(-1:Int)=Es c 0 l:=hf;refine Ev.ent (σ':=⟨[(4,.p (.int .i64) (-1))],[(1,.box 140 false [.p BR c])]⟩) ?_ (AD [(1,.nm 1)] rfl rfl ?_ ?_)
 .exact fM b [.tmp 4] (.p T3 (-1)) eT ⟨by rw[hf],rfl⟩
 .exact eN
 exact eN
def Bn (h:AG) (t:Int):List Int:=(h.1.getD t.toNat YF).2.1
def Bt (h:AG) (a b:Int):Int×Bool :=
 if (F1 (Bn h a) (Bn h b)).length=0 then (0,false) else if Es (F1 (Bn h a) (Bn h b)) 0 h.1<0 then (0,false) else (Es (F1 (Bn h a) (Bn h b)) 0 h.1,true)
def s7:Ab:={ ins:=[Ey,T3,T3],pre:=λ(h,a,b,_)=>((0:Int)<=a/\a<(List.length (h:AG).1:Int))/\((0:Int)<=b/\b<(List.length (h:AG).1:Int))/\List.length (h:AG).1<=100000/\(∀x∈(h:AG).1,x.2.1.length<=100000),out:=λ(h,a,b,_)=>[.p T3 (Bt h a b).1,.p .bool (Bt h a b).2],lend:=true }
theorem A52:Ag Tryz.prog 135 s7:=by
 refine fK [0,1,2,3,6,7,8,9,25,31] Tryz.func135 Tryz.ntmps135 (AF A51 AI) ?_;rintro w0 O0 ⟨⟨ht,hf⟩,a,b,u⟩ d-⟨ha,hb,hl,hx⟩;simp only[s7,AN];refine Ev.ent (σ':=⟨[(0,.p Ey (ht,hf)),(1,.p T3 a),(2,.p T3 b)],[]⟩) ?_ (AD [] rfl rfl ?_ ?_)
 .repeat'(first|exact trivial|apply eS rfl|refine rX d ?_ ?_|refine rC ?_ ?_<;>intro e<;>try(cases e;done))
  .refine⟨ha,hb,?_⟩;have h1:Int.toNat a<List.length ht:=(Int.toNat_lt ha.1).2 ha.2;exact hx _ (AE (ht:List HQ) YF h1)
  .have i:Bt (ht,hf) a b=(0,false):=by
    unfold Bt;rw[DO (by unfold Bn;exact ABJ e)]
   exact fI d [.tmp 6,.tmp 7] (by rw[i];exact eR)
  have g:∀c,c=F1 (List.getD ht (Int.toNat a) (ByteArray.empty,[],[],[])).2.1 (List.getD ht (Int.toNat b) (ByteArray.empty,[],[],[])).2.1->c=F1 (Bn (ht,hf) a) (Bn (ht,hf) b):=λc h=>h;have f:Bt (ht,hf) a b=if Es (F1 (Bn (ht,hf) a) (Bn (ht,hf) b)) 0 ht<0 then (0,false) else (Es (F1 (Bn (ht,hf) a) (Bn (ht,hf) b)) 0 ht,true):=by
   unfold Bt;rw[BY (λh=>e (by unfold Bn at h;exact oN Int.ofNat h))]
  generalize j:F1 (List.getD ht (Int.toNat a) (ByteArray.empty,[],[],[])).2.1 (List.getD ht (Int.toNat b) (ByteArray.empty,[],[],[])).2.1=c at *;rw[<-g c rfl]at f;refine cP 3 d ?_ ?_
  .trivial
  refine rM d (xX ht c hl) [(1,.nm 8)] [] ?_ ?_ ?_
  .exact eN
  .exact eN
  rintro _ _ ⟨rfl,rfl⟩;refine⟨[(8,.nm 1)],.p T3 (Es c 0 ht),[(8,.box 140 false [.p BR c])],rfl,rfl,?_,?_,rfl,rfl,?_⟩
  .exact eN
  .exact eN
  generalize Es c 0 ht=m at *;refine rL d ?_ ?_
  .trivial
  repeat'(first|exact trivial|apply eS rfl|refine rX d ?_ ?_|refine rC ?_ ?_<;>intro e<;>try(cases e;done))
  .rw[DO e]at f;exact fI d [.tmp 6,.tmp 7] (by rw[f];exact eR)
  rw[BY (AAB.2 e)]at f;exact fI d [.tmp 6,.tmp 7] (by rw[f];exact eR)
 .exact eN
 exact eN
end
structure s8 (l:List (List Int)):Prop where
 wds:∀c∈l,I8 c
 some:∀c∈l,∃i,Bb c i=true
 wid:∀c∈l,c.length<=64
 meet:∀a∈l,∀b∈l,(∃i,Bb a i=true/\Bb b i=true)->∃t∈l,∀i,Bb t i=(Bb a i&&Bb b i)
structure Bs (l:List (List Int)):Prop where
 wds:∀c∈l,I8 c
 some:∀c∈l,∃i,Bb c i=true
theorem ZU {l:List (List Int)} {k:Nat} (h:¬k<l.length):l.getD k []=[]:=by
 rw[AS,Si oa];rfl
theorem Bs.get {l:List (List Int)} (h:Bs l) (k:Nat):I8 (l.getD k []):=by
 by_cases hk:k<l.length
 .exact h.wds _ (Da hk)
 rw[ZU hk];intro x hx;cases hx
theorem A53 {l:List (List Int)} (h:Bs l) (i k:Nat):Bs (HE l i k):=by
 unfold HE;split
 .rename_i b;rw[An,Is]at b;refine⟨λc a=>?_,λc a=>?_⟩
  .rcases Do.1 a with a|a
   .exact h.wds c a
   have:c=GS (l.getD i []) (l.getD k []):=by simpa using a
   rw[this];exact sW (h.get i) (h.get k)
  rcases Do.1 a with a|a
  .exact h.some c a
  have:c=GS (l.getD i []) (l.getD k []):=by simpa using a
  rw[this];have f:GS (l.getD i []) (l.getD k [])≠[]:=by
   intro e;rw[e]at b;exact absurd b.1 sc
  have g:I8 (GR .and (l.getD i []) (l.getD k []) (l.getD i []).length):=by
   intro x hx;unfold GR at hx;obtain⟨j,-,rfl⟩:=Y1.1 hx;rw[Ht,IM (BI (h.get i) _) (BI (h.get k) _)];have h1:=BI (h.get i) j;have m:((l.getD i []).getD j 0).toNat &&& ((l.getD k []).getD j 0).toNat<=((l.getD i []).getD j 0).toNat:=ABL;have n:=h1.1;have o:=h1.2;exact⟨AAr _,by omega⟩
  obtain⟨j,d⟩:=oC g f;exact⟨j,by unfold GS;rw[Oi];exact d⟩
 exact h
theorem s9 {i:Nat}:∀ {n k:Nat} {l:List (List Int)},Bs l->Bs (HF i n k l)
 | 0,_,_,h=>h
 | n+1,k,l,h=>by
  unfold HF;split
  .exact s9 (A53 h i k)
  exact h
theorem tA:∀ {n i:Nat} {l:List (List Int)},Bs l->Bs (JV n i l)
 | 0,_,_,h=>h
 | n+1,i,l,h=>by
  unfold JV;split
  .exact tA (s9 h)
  exact h
theorem xY {d:List AJ} (f:BW d=0):Bs (Ai d):=by
 obtain⟨-,k,-⟩:=BH f;have h:=FM d d.length;rw[SW]at h;have b:(AW d).length<=4096:=by omega
 refine⟨λc a=>?_,λc a=>?_⟩
 .unfold Ai at a;obtain⟨s,-,rfl⟩:=Y1.1 a;exact(Eb (d:=d) b s 0).2.1
 unfold Ai at a;obtain⟨s,hs,rfl⟩:=Y1.1 a;obtain⟨j,g,e⟩:=Co ByteArray.empty hs;have i:0<=BN d s:=by
  obtain⟨x,hx,e⟩:=GU hs;rw[<-e];exact FP hx
 exact⟨j,(Eb (d:=d) b s j).1.2 ⟨g,by rw[e];exact Oq i⟩⟩
theorem oP {d:List AJ} (l:BW d=0) (hl:(BD (Ai d)).length<=256):s8 (BD (Ai d)):=by
 obtain⟨-,o,-⟩:=BH l;have hb:Bs (BD (Ai d)):=tA (xY l);have n:=cE hl;refine⟨hb.wds,hb.some,QO (Ou o),λa ha b r hi=>?_⟩;obtain⟨q,f,rfl⟩:=Co [] ha;obtain⟨p,g,rfl⟩:=Co [] r;have key:∀q p,q<(BD (Ai d)).length->p<(BD (Ai d)).length->LI (BD (Ai d)) q p->(∃i,Bb ((BD (Ai d)).getD q []) i=true/\Bb ((BD (Ai d)).getD p []) i=true) ->
   ∃t∈BD (Ai d),∀i,Bb t i=(Bb ((BD (Ai d)).getD q []) i&&Bb ((BD (Ai d)).getD p []) i):=by
  intro q p f g c hi;have m:=sV (hb.get q) (hb.get p);rcases c with c|c
  .obtain⟨i,j,k⟩:=hi;have:=m i;rw[c,j,k]at this;unfold Bb at this;simp at this
  exact⟨_,c,m⟩
 rcases ABy p q with h|h|h
 .exact key q p f g (n q p h f) hi
 .subst h;exact⟨_,Da f,λi=>by rw[Bool.and_self]⟩
 obtain⟨t,ht,e⟩:=key p q g f (n p q h g) (by obtain⟨i,j,k⟩:=hi;exact⟨i,k,j⟩);exact⟨t,ht,λi=>by rw[e i,Bool.and_comm]⟩
def Hu (h:AG):Prop:=s8 (h.1.map λt=>t.2.1)/\h.1.length<=256
theorem MM (d:List AJ):Hu (BF d).1:=by
 unfold BF;split
 .exact⟨⟨λc h=>(by cases h),λc h=>(by cases h),λc h=>(by cases h),λc h=>(by cases h)⟩,by simp⟩
 rename_i g;have g:(Bm d).2=0:=IS g;have l:Bc d=0:=by
  unfold Bm at g;split at g
  .rename_i h;exact absurd g h
  rename_i h;exact IS h
 obtain⟨m,-,-⟩:=DH l;obtain⟨k,j,-⟩:=B9 m;have hf:=oP k j;have f:∀c,c∈((IR d).1.map λt=>t.2.1)↔c∈BD (Ai d):=by
  intro c;have e:((IR d).1.map λt=>t.2.1)=(A9 d).map λx=>x.2:=by
   show ((F0 _ _ _).map λt=>t.2.1)=_;unfold F0;rw[bY];apply AA6
   .simp
   intro i h1 n;simp[AS,show i<(A9 d).length by simpa using h1]
  rw[e];constructor
  .intro h;obtain⟨x,hx,rfl⟩:=Y1.1 h;obtain⟨b,hb,rfl⟩:=Ec.1 hx;exact hb
  intro h;exact Y1.2 ⟨_,Ec.2 ⟨c,h,rfl⟩,rfl⟩
 refine⟨⟨λc h=>hf.wds c ((f c).1 h),λc h=>hf.some c ((f c).1 h),λc h=>hf.wid c ((f c).1 h),λa ha b hb hi=>?_⟩,?_⟩
 .obtain⟨t,ht,e⟩:=hf.meet a ((f a).1 ha) b ((f b).1 hb) hi;exact⟨t,(f t).2 ht,e⟩
 show (F0 _ _ _).length<=256;rw[NC,IQ];exact j
theorem Cp {h:AG} {t:Int} (a:0<=t) (b:t<(h.1.length:Int)):Bn h t∈h.1.map λt=>t.2.1 :=
 Y1.2 ⟨_,AE h.1 YF (k:=t.toNat) oa,rfl⟩
theorem XB {a b:List Int} (ha:I8 a) (hb:I8 b):ML a b=true↔∀i,Bb a i=true->Bb b i=true:=by
 constructor
 .intro h i hi;by_cases hk:i / 64<a.length
  .have h1:=NO.1 h (i / 64) (UJ.2 hk);rw[UQ,Ht]at h1;exact TP (BI ha _) (BI hb _) h1 (ACd _ dc) hi
  exfalso;unfold Bb at hi;rw[Gr hk]at hi;simp at hi
 intro h;unfold ML;rw[NO];intro k _;rw[UQ,Ht];exact ZP ha hb h k
theorem A2b {a b:List Int} (ha:I8 a) (hb:I8 b) (i:Nat):Bb (F1 a b) i=(Bb a i&&Bb b i):=by
 unfold F1;rw[Oi];unfold Bb;have:(Gt (cJ a b) (min a.length b.length) (min a.length b.length)).getD (i / 64) 0=Cf .and .u64 (a.getD (i / 64) 0) (b.getD (i / 64) 0):=by
  by_cases h:i / 64<min a.length b.length
  .unfold Gt;rw[AS,nO,AAE h];show (if i / 64<min a.length b.length then cJ a b (i / 64) else 0)=_;rw[DO h];rfl
  rw[Gr (by rw[ZT];exact h),IM (BI ha _) (BI hb _)];by_cases h1:i / 64<a.length
  .rw[Gr (b:=b) oa];simp
  rw[Gr (b:=a) h1];simp
 rw[this,IM (BI ha _) (BI hb _),Sc,Nat.testBit_and]
theorem A2c {a b:List Int} (ha:I8 a) (hb:I8 b):I8 (F1 a b):=by
 refine Oj λx hx=>?_;unfold Gt at hx;obtain⟨j,-,rfl⟩:=Y1.1 hx;split
 .unfold cJ;rw[IM (BI ha _) (BI hb _)];have h1:=BI ha j;have c:(a.getD j 0).toNat &&& (b.getD j 0).toNat<=(a.getD j 0).toNat:=ABL;have d:=h1.1;have e:=h1.2;exact⟨AAr _,by omega⟩
 exact⟨by decide,by decide⟩
theorem XC (c:List Int):∀(l:List HQ) (k:Nat),(Es c k l=-1/\∀t∈l,Ds t.2.1 c=false)\/((k:Int)<=Es c k l/\Es c k l<(k:Int)+l.length/\Ds (l.getD ((Es c k l).toNat-k) YF).2.1 c=true)
 | [],k=>.inl ⟨rfl,λt ht=>by cases ht⟩
 | x :: l,k=>by
  simp only[Es];split
  .rename_i h;right;refine⟨by omega,by simp only[IF];omega,?_⟩;rw[show ((k:Int).toNat-k)=0 by omega];exact h
  rename_i h;have h:Ds x.2.1 c=false:=by simpa using h
  rcases XC c l (k+1) with ⟨h1,a⟩|⟨h1,a,b⟩
  .left;refine⟨h1,λt ht=>?_⟩;rcases At.1 ht with rfl|ht
   .exact h
   exact a t ht
  right;refine⟨by omega,by simp only[IF];omega,?_⟩;rw[show ((Es c (k+1) l).toNat-k)=((Es c (k+1) l).toNat-(k+1))+1 by omega];exact b
def Tb2 (h:AG) (t:Int) (i:Nat):Bool:=Bb (Bn h t) i
theorem Cb {h:AG} (hk:Hu h) {a b:Int} (c:0<=a) (d:a<(h.1.length:Int)) (e:0<=b) (b1:b<(h.1.length:Int)):A3 h a b=true↔∀i,Tb2 h b i=true->Tb2 h a i=true :=
 XB (hk.1.wds _ (Cp e b1)) (hk.1.wds _ (Cp c d))
theorem A2d {h:AG} (hk:Hu h) {a b:Int} (f:0<=a) (g:a<(h.1.length:Int)) (j:0<=b) (b1:b<(h.1.length:Int)) :
  ((Bt h a b).2=true->0<=(Bt h a b).1/\(Bt h a b).1<(h.1.length:Int)/\∀i,Tb2 h (Bt h a b).1 i=(Tb2 h a i&&Tb2 h b i))/\((∃i,Tb2 h a i=true/\Tb2 h b i=true)->(Bt h a b).2=true):=by
 have q:=hk.1.wds _ (Cp f g);have r:=hk.1.wds _ (Cp j b1);have c:=A2b q r;have n:=A2c q r;have heq:∀t∈h.1,Ds t.2.1 (F1 (Bn h a) (Bn h b))=true↔∀i,Bb t.2.1 i=Bb (F1 (Bn h a) (Bn h b)) i:=by
  intro t ht;have wt:=hk.1.wds t.2.1 (Y1.2 ⟨t,ht,rfl⟩);unfold Ds;rw[An,XB wt n,XB n wt];constructor
  .rintro⟨e1,e2⟩ i;rw[ABl];exact⟨e1 i,e2 i⟩
  intro e;exact⟨λi hi=>by rw[<-e i];exact hi,λi hi=>by rw[e i];exact hi⟩
 unfold Bt;by_cases d:(F1 (Bn h a) (Bn h b)).length=0
 .rw[DO d];refine⟨λe=>(by cases e),?_⟩;rintro⟨i,o,p⟩;exfalso;have:=c i;rw[Sk d]at this;unfold Tb2 at o p;rw[o,p]at this;unfold Bb at this;simp at this
 rw[BY d];rcases XC (F1 (Bn h a) (Bn h b)) h.1 0 with ⟨h1,l⟩|⟨h1,l,m⟩
 .rw[DO oa];refine⟨λe=>(by cases e),λhi=>?_⟩;exfalso;obtain⟨t,ht,e⟩:=hk.1.meet _ (Cp f g) _ (Cp j b1) hi;obtain⟨x,hx,rfl⟩:=Y1.1 ht;have:=(heq x hx).2 (λi=>by rw[c i];exact e i);rw[l x hx]at this;cases this
 have h1:0<=Es (F1 (Bn h a) (Bn h b)) 0 h.1:=by omega
 rw[BY oa];refine⟨λ_=>⟨h1,by simp only;omega,λi=>?_⟩,λ_=>rfl⟩;rw[Nat.sub_zero]at m;have s:=AE h.1 YF (k:=(Es (F1 (Bn h a) (Bn h b)) 0 h.1).toNat) oa;have:=(heq _ s).1 m i;rw[c i]at this;exact this
theorem MN {h:AG} (hk:Hu h) {a b:Int} (l:0<=a) (m:a<(h.1.length:Int)) (n:0<=b) (b1:b<(h.1.length:Int)) :
  ((Bt h a b).2=true->0<=(Bt h a b).1/\(Bt h a b).1<(h.1.length:Int)/\A3 h a (Bt h a b).1=true/\A3 h b (Bt h a b).1=true) /\
  ∀x,0<=x->x<(h.1.length:Int)->A3 h a x=true->A3 h b x=true->(Bt h a b).2=true/\A3 h (Bt h a b).1 x=true:=by
 obtain⟨r,u⟩:=A2d hk l m n b1;refine⟨λe=>?_,λx g k s t=>?_⟩
 .obtain⟨c,d,f⟩:=r e;refine⟨c,d,(Cb hk l m c d).2 λi hi=>?_,(Cb hk n b1 c d).2 λi hi=>?_⟩
  .rw[f i,An]at hi;exact hi.1
  rw[f i,An]at hi;exact hi.2
 have o:=(Cb hk l m g k).1 s;have p:=(Cb hk n b1 g k).1 t;obtain⟨i,hi⟩:=hk.1.some _ (Cp g k);have e:=u ⟨i,o i hi,p i hi⟩;obtain⟨c,d,f⟩:=r e;refine⟨e,(Cb hk c d g k).2 λj q=>?_⟩;rw[f j,An];exact⟨o j q,p j q⟩
abbrev A95:=Int×List (Int×Int)
def HG (f:List A95):Bool:=decide (f.length<=12)&&f.all λn=>decide (n.2.length<=12)
def Rq:Ab:={ ins:=[D7],pre:=λ_=>True,out:=λ(f,_)=>[.p .bool (HG f)] }
theorem A2e:Ag Tryz.prog 18 Rq:=by
 refine fK [0,1,2,3,7,12,22] Tryz.func18 Tryz.ntmps18 AI ?_;rintro w0 O0 ⟨l,u⟩ a e f;simp only[Rq,AN];repeat'(first|exact trivial|apply eS rfl|refine rX a ?_ ?_|refine rC ?_ ?_<;>intro b<;>try(cases b;done))
 .have h1:HG l=false:=by
   have h:¬(List.length l<=12):=by exact eV
   unfold HG;rw[ABh h];rfl
  exact fI a [.tmp 2] (by rw[h1];exact eR)
 refine AL (ι:={k:Nat//k<=l.length/\(l.take k).all (λn=>decide (n.2.length<=12))=true}) (λk=>⟨[(0,.p D7 l),(1,.bp 1 [] 0),(3,.p (.int .i64) (k.1:Int))],[(1,.box 25 true [.p G2 l])]⟩) (λk=>l.length-k.1) ⟨0,by simp⟩ (AD [(1,.nm 1)] rfl rfl ?_ ?_) (λk=>?_)
 .exact eN
 .exact eN
 obtain⟨k,hk,c⟩:=k;repeat'(first|exact trivial|apply eS rfl|apply AC|refine rX a ?_ ?_|refine rC ?_ ?_<;>intro b<;>try(cases b;done))
 .exact eV
 .have h1:HG l=false:=by
   have hk:k<l.length:=by exact eV
   have h:=AE l (0,[]) hk;unfold HG;rw[AAZ];right;rw[AB6];exact⟨_,h,by simp only[Is];exact eV⟩
  exact fI a [.tmp 2] (by rw[h1];exact eR)
 .exact eV
 .have hk:k<l.length:=by exact eV
  refine⟨⟨k+1,by exact eV,?_⟩,by simp only;exact eV,AD [(1,.nm 1)] rfl rfl ?_ ?_⟩
  .have h1:=Aw l (0,[]) hk;have d:((l.take (k+1)).all λn=>decide (n.2.length<=12))=_:=oN (λx=>List.all x λn=>decide (n.2.length<=12)) h1;rw[d,AB7,c];simp only[AAz,List.all_nil,AC5,ABK,Is];exact eV
  .exact eN
  exact eN
 have h1:HG l=true:=by
  have hk:l.take k=l:=By (by exact eV);rw[hk]at c;unfold HG;rw[c,AB0 (by exact eV)];rfl
 exact fI a [.tmp 2] (by rw[h1];exact eR)
def F2 (n:Int) (seen:List (Int×Int)):List (Int×Int)->Int
 | []=>0
 | x :: r=>if x.1<0\/x.2<0\/n<=x.2 then 2 else if (seen.any λy=>y.1==x.1)=true then 4 else F2 n (seen++[x]) r
def Gu (l:List (Int×Int)) (n:Int):Int:=F2 n [] l
def iX:Ab:={ ins:=[DK,T3],pre:=λ_=>True,out:=λ(l,n,_)=>[.p HD (Gu l n)] }
theorem Ox (n:Int) (l:List (Int×Int)) {k:Nat} (h:k<l.length):F2 n (l.take k) (l.drop k)=if (l.getD k (0,0)).1<0\/(l.getD k (0,0)).2<0\/n<=(l.getD k (0,0)).2 then 2 else if ((l.take k).any λy=>y.1==(l.getD k (0,0)).1)=true then 4 else F2 n (l.take (k+1)) (l.drop (k+1)):=by
 rw[Aw l (0,0) h,SR h,AS,AT h];rfl
theorem YR (l:List (Int×Int)) (f:Int) {k:Nat} (h:k<l.length):((l.take (k+1)).any λy=>y.1==f)=((l.take k).any (λy=>y.1==f)||((l.getD k (0,0)).1==f)):=by
 rw[Aw l (0,0) h,ABk];simp
theorem A54:Ag Tryz.prog 174 iX:=by
 refine fK [0,1,4,5,6,10,35,38,51] Tryz.func174 Tryz.ntmps174 AI ?_;rintro w0 O0 ⟨l,n,u⟩ b ⟨⟨hl,-⟩,-⟩ -;simp only[AP]at hl;simp only[iX,AN];repeat'(first|exact trivial|apply eS rfl|refine rX b ?_ ?_)
 refine AL (ι:={k:Nat//k<=l.length/\F2 n (l.take k) (l.drop k)=Gu l n}) (λk=>⟨[(0,.p DK l),(1,.p T3 n),(5,.p (.int .i64) (k.1:Int))],[]⟩) (λk=>l.length-k.1) ⟨0,by simp[Gu]⟩ (AD [] rfl rfl ?_ ?_) (λk=>?_)
 .exact eN
 .exact eN
 obtain⟨k,hk,c⟩:=k;repeat'(first|exact trivial|apply eS rfl|refine rX b ?_ ?_|refine rC ?_ ?_<;>intro a<;>try(cases a;done))
 .exact eV
 .have hk:k<l.length:=by exact eV
  have h1:Gu l n=2:=by
   rw[<-c,Ox n l hk,DO (by rw[<-or_assoc];exact a)]
  exact fI b [.tmp 4] (by rw[h1];exact eR)
 .have hk:k<l.length:=by exact eV
  have hn:¬((l.getD k (0,0)).1<0\/(l.getD k (0,0)).2<0\/n<=(l.getD k (0,0)).2):=by
   have:=a;generalize l.getD k (0,0)=x at this;exact eV
  rw[Ox n l hk,BY hn]at c;refine AL (ι:={j:Nat//j<=k/\((l.take j).any λy=>y.1==(l.getD k (0,0)).1)=false}) (λj=>⟨[(0,.p DK l),(1,.p T3 n),(5,.p (.int .i64) (k:Int)),(6,.p (.int .i64) (j.1:Int))],[]⟩) (λj=>k-j.1) ⟨0,by simp⟩ (AD [] rfl rfl ?_ ?_) (λj=>?_)
  .exact eN
  .exact eN
  obtain⟨j,h,f⟩:=j;repeat'(first|exact trivial|apply eS rfl|apply AC|refine rX b ?_ ?_|refine rC ?_ ?_<;>intro a<;>try(cases a;done))
  .exact eV
  .have e:j<l.length:=by exact eV
   have h1:Gu l n=4:=by
    have d:((l.take k).any λy=>y.1==(l.getD k (0,0)).1)=true:=by
     rw[To];refine⟨l.getD j (0,0),?_,by simpa using a⟩;rw[AS,AT e];exact AB1.2 ⟨j,by exact eV,rfl⟩
    rw[<-c,DO d]
   exact fI b [.tmp 4] (by rw[h1];exact eR)
  .exact eV
  .have e:j<l.length:=by exact eV
   refine⟨⟨j+1,by exact eV,?_⟩,by simp only;exact eV,AD [] rfl rfl ?_ ?_⟩
   .have d:=YR l (l.getD k (0,0)).1 e;refine d.trans ?_;rw[f];simpa using a
   .exact eN
   exact eN
  .exact eV
  have g:j=k:=by exact eV
  subst g;refine⟨⟨j+1,by exact eV,?_⟩,by simp only;exact eV,AD [] rfl rfl ?_ ?_⟩
  .rw[<-c,BY (by rw[f];simp)]
  .exact eN
  exact eN
 have h1:Gu l n=0:=by
  have hk:l.length<=k:=by exact eV
  rw[<-c,SV hk];rfl
 exact fI b [.tmp 4] (by rw[h1];exact eR)
def XD (n:Int×List (Int×Int)):List Int:=n.1 :: (n.2.length:Int) :: n.2.flatMap λa=>[a.1,a.2]
def Bu (f:List (Int×List (Int×Int))):List Int:=(f.length:Int) :: f.flatMap XD
def YS (l:List (Int×List (Int×Int))) (k:Nat):List Int:=(l.length:Int) :: (l.take k).flatMap XD
def XE (l:List (Int×List (Int×Int))) (k j:Nat):List Int:=YS l k++[(l.getD k (0,[])).1,((l.getD k (0,[])).2.length:Int)]++((l.getD k (0,[])).2.take j).flatMap λa=>[a.1,a.2]
theorem Rr:∀l:List (Int×Int),(l.flatMap λa=>[a.1,a.2]).length=2*l.length
 | []=>rfl
 | x :: l=>by simp[Rr l];omega
theorem A2f (n:Int×List (Int×Int)):(XD n).length=2+2*n.2.length:=by
 have:=Rr n.2;simp only[XD,IF];omega
theorem XF:∀l:List (Int×List (Int×Int)),(∀n∈l,n.2.length<=100000)->(l.flatMap XD).length<=l.length*200002
 | [],_=>by simp
 | x :: l,h=>by
  have h1:=h x sc;have a:=XF l (λn hn=>h n (by simp[hn]));have b:=A2f x;simp only[ABn,As,IF];omega
theorem iY {l:List (Int×List (Int×Int))} (h:∀n∈l,n.2.length<=100000) {k:Nat} (hk:k<=l.length):(YS l k).length<=1+k*200002:=by
 have h1:=XF (l.take k) (λn hn=>h n (iS hn));rw[OS,AAK hk]at h1;simp only[YS,IF];omega
theorem A2g {l:List (Int×List (Int×Int))} (h:∀n∈l,n.2.length<=100000) {k j:Nat} (hk:k<l.length) (b:j<=(l.getD k (0,[])).2.length):(XE l k j).length<=3+k*200002+2*j:=by
 have h1:=iY h (ABO hk);have a:=Rr ((l.getD k (0,[])).2.take j);rw[OS,AAK b]at a;simp only[XE,As,IF,AA1];omega
theorem ZV {l:List (Int×List (Int×Int))} {k:Nat} (hk:k<l.length):YS l (k+1)=XE l k (l.getD k (0,[])).2.length:=by
 unfold YS XE;rw[Aw l (0,[]) hk,List.flatMap_append,SW];simp[XD,YS]
theorem ZW {l:List (Int×List (Int×Int))} {k j:Nat} (a:j<(l.getD k (0,[])).2.length):XE l k (j+1)=XE l k j++[((l.getD k (0,[])).2.getD j (0,0)).1,((l.getD k (0,[])).2.getD j (0,0)).2]:=by
 unfold XE;rw[Aw _ (0,0) a,List.flatMap_append];simp
def XG:Ab:={ ins:=[D7],pre:=λ(f,_)=>f.length<=100000/\∀n∈f,n.2.length<=100000,out:=λ(f,_)=>[.p G0 (Bu f)] }
theorem oQ:Ag Tryz.prog 130 XG:=by
 refine fK [0,1,2,3,4,5,6,15,38] Tryz.func130 Tryz.ntmps130 AI ?_;rintro w0 O0 ⟨l,u⟩ a ⟨hl,-⟩ ⟨m,d⟩;simp only[XG,AN];repeat'(first|exact trivial|apply eS rfl|refine rX a ?_ ?_)
 refine AL (ι:={k:Nat//k<=l.length}) (λk=>⟨[(0,.p D7 l),(1,.bp 1 [] 0),(3,.sr 10 T3 0 (YS l k.1).length),(4,.p (.int .i64) (k.1:Int))],[(1,.box 25 true [.p G2 l]),(10,.arr 3 T3 (YS l k.1))]⟩) (λk=>l.length-k.1) ⟨0,by simp⟩ (AD [(1,.nm 1),(10,.nm 10)] rfl rfl ?_ ?_) (λk=>?_)
 .refine eM ?_;rfl
 .refine eM ?_;rfl
 obtain⟨k,hk⟩:=k;have h:=iY d hk;repeat'(first|exact trivial|apply eS rfl|refine rX a ?_ ?_|refine rC ?_ ?_<;>intro c<;>try(cases c;done))
 .exact eV
 .refine⟨by exact eV,?_⟩;simp only[AP];exact eV
 .have b:k<l.length:=by exact eV
  have n:=d _ (AE l (0,[]) b);refine AL (ι:={j:Nat//j<=(l.getD k (0,[])).2.length}) (λj=>⟨[(0,.p D7 l),(1,.bp 1 [] 0),(3,.sr 10 T3 0 (XE l k j.1).length),(4,.p (.int .i64) (k:Int)),(5,.p DK (l.getD k (0,[])).2),(6,.p (.int .i64) (j.1:Int))],[(1,.box 25 true [.p G2 l]),(10,.arr 3 T3 (XE l k j.1))]⟩) (λj=>(l.getD k (0,[])).2.length-j.1) ⟨0,by simp⟩ (AD [(1,.nm 1),(10,.nm 10)] rfl rfl ?_ ?_) (λj=>?_)
  .refine eM ?_;simp[XE]
  .refine eM ?_;simp[XE]
  obtain⟨j,f⟩:=j;have i:=A2g d b f;repeat'(first|exact trivial|apply eS rfl|apply AC|refine rX a ?_ ?_|refine rC ?_ ?_<;>intro c<;>try(cases c;done))
  .refine⟨by exact eV,by exact eV,?_⟩;simp only[AP];exact eV
  .exact eV
  .have e:j<(l.getD k (0,[])).2.length:=by exact eV
   refine⟨⟨j+1,by exact eV⟩,by simp only;exact eV,AD [(1,.nm 1),(10,.nm 10)] rfl rfl ?_ ?_⟩
   .refine eM ?_;exact(ZW e).symm
   refine eM ?_;have:=oN List.length (ZW (l:=l) e);rw[As]at this;exact this.symm
  .exact eV
  have g:j=(l.getD k (0,[])).2.length:=by exact eV
  subst g;refine⟨⟨k+1,by exact eV⟩,by simp only;exact eV,AD [(1,.nm 1),(10,.nm 10)] rfl rfl ?_ ?_⟩
  .refine eM ?_;exact(ZV b).symm
  refine eM ?_;exact oN List.length (ZV b).symm
 have hk:l.take k=l:=By (by exact eV);have h1:YS l k=Bu l:=by unfold YS Bu;rw[hk]
 exact fI a [.tmp 2] (by first|exact eR|refine Y6 ?_;exact h1)
section
attribute [local go_sem] XG
def Kp:List Int->List Int->Int
 | x :: xs,y :: ys=>if x<y then -1 else if y<x then 1 else Kp xs ys
 | _,_=>0
theorem Rs (xs ys:List Int) {k:Nat} (h1:k<xs.length) (a:k<ys.length):Kp (xs.drop k) (ys.drop k)=if xs.getD k 0<ys.getD k 0 then -1 else if ys.getD k 0<xs.getD k 0 then 1 else Kp (xs.drop (k+1)) (ys.drop (k+1)):=by
 rw[SR h1,SR a,AS,AT h1,AS,AT a];rfl
theorem A2h (xs ys:List Int) {k:Nat} (h:xs.length<=k\/ys.length<=k):Kp (xs.drop k) (ys.drop k)=0:=by
 rcases h with h|h
 .rw[SV h];simp[Kp]
 rw[SV h];simp[Kp]
def CN (a b:List (Int×List (Int×Int))):Int:=Kp (Bu a) (Bu b)
def E1 (f:List (Int×List (Int×Int))):Prop:=f.length<=100000/\∀n∈f,n.2.length<=100000
def XH:Ab:={ ins:=[D7,D7],pre:=λ(a,b,_)=>E1 a/\E1 b,out:=λ(a,b,_)=>[.p T3 (CN a b)] }
theorem QT {f:List (Int×List (Int×Int))} (h:E1 f):(Bu f).length<=1+f.length*200002:=by
 have:=XF f h.2;simp only[Bu,IF];omega
theorem oT:Ag Tryz.prog 78 XH:=by
 refine fK [0,1,2,3,4,5,6,7,21,32,41] Tryz.func78 Tryz.ntmps78 (AF oQ AI) ?_;rintro w0 O0 ⟨a,b,u⟩ e-⟨⟨g,i⟩,⟨j,l⟩⟩;have m:=QT ⟨g,i⟩;have n:=QT ⟨j,l⟩;simp only[XH,AN];repeat'(first|exact trivial|apply eS rfl|refine rX e ?_ ?_)
 .exact⟨g,i⟩
 .exact⟨j,l⟩
 refine AL (ι:={k:Nat//Kp ((Bu a).drop k) ((Bu b).drop k)=CN a b}) (λk=>⟨[(5,.p G0 (Bu a)),(6,.p G0 (Bu b)),(7,.p (.int .i64) (k.1:Int))],[]⟩) (λk=>(Bu a).length-k.1) ⟨0,by simp[CN]⟩ (AD [] rfl rfl ?_ ?_) (λk=>?_)
 .exact eN
 .exact eN
 obtain⟨k,hk⟩:=k;repeat'(first|exact trivial|apply eS rfl|apply AC|refine rX e ?_ ?_|refine rC ?_ ?_<;>intro f<;>try(cases f;done))
 .exact eV
 .obtain⟨h1,c⟩:k<(Bu a).length/\k<(Bu b).length:=by exact eV
  have d:CN a b=-1:=by rw[<-hk,Rs _ _ h1 c,DO f]
  exact fI e [.tmp 4] (by rw[d];exact eR)
 .exact eV
 .obtain⟨h1,c⟩:k<(Bu a).length/\k<(Bu b).length:=by exact eV
  have d:CN a b=1:=by rw[<-hk,Rs _ _ h1 c,BY (by exact eV),DO f]
  exact fI e [.tmp 4] (by rw[d];exact eR)
 .exact eV
 .obtain⟨h1,c⟩:k<(Bu a).length/\k<(Bu b).length:=by exact eV
  refine⟨⟨k+1,?_⟩,by simp only;exact eV,AD [] rfl rfl ?_ ?_⟩
  .rw[<-hk,Rs _ _ h1 c,BY (by exact eV),BY (by exact eV)]
  .exact eN
  exact eN
 have d:CN a b=0:=by
  rw[<-hk];apply A2h;by_cases h:k<(Bu a).length
  .right;have:=f (by exact eV);exact eV
  left;exact eV
 exact fI e [.tmp 4] (by rw[d];exact eR)
def Kq:Ab:={ ins:=[D7,D7],pre:=λ(a,b,_)=>E1 a/\E1 b,out:=λ(a,b,_)=>[.p .bool (CN a b==0)] }
end
section
attribute [local go_sem] XH iX
theorem QU:Ag Tryz.prog 25 Kq:=by
 refine fK [0,1,2,3,4] Tryz.func25 Tryz.ntmps25 (AF oT AI) ?_;rintro w0 O0 ⟨a,b,u⟩ c-d;simp only[Kq,AN];repeat'(first|exact trivial|apply eS rfl|refine rX c ?_ ?_)
 .exact d
 exact fI c [.tmp 4]
def GG (m:Int):List (Int×List (Int×Int))->Int
 | []=>0
 | n :: r=>if n.1<0 then 2 else if Gu n.2 m≠0 then Gu n.2 m else GG m r
def CE (f:List (Int×List (Int×Int))):Int:=if f.length=0 then 1 else if 4096<f.length then 7 else GG f.length f
def A2i:Ab:={ ins:=[D7],pre:=λ_=>True,out:=λ(f,_)=>[.p HD (CE f)] }
theorem IT (m:Int) (l:List (Int×List (Int×Int))) {k:Nat} (h:k<l.length):GG m (l.drop k)=if (l.getD k (0,[])).1<0 then 2 else if Gu (l.getD k (0,[])).2 m≠0 then Gu (l.getD k (0,[])).2 m else GG m (l.drop (k+1)):=by
 rw[SR h,AS,AT h];rfl
theorem A55:Ag Tryz.prog 132 A2i:=by
 refine fK [0,1,2,3,4,8,12,17,26,38] Tryz.func132 Tryz.ntmps132 (AF A54 AI) ?_;rintro w0 O0 ⟨l,u⟩ a ⟨hl,-⟩ -;simp only[A2i,AN];repeat'(first|exact trivial|apply eS rfl|refine rX a ?_ ?_|refine rC ?_ ?_<;>intro b<;>try(cases b;done))
 .have h1:CE l=1:=by
   have h:l.length=0:=by exact eV
   unfold CE;rw[DO h]
  exact fI a [.tmp 2] (by rw[h1];exact eR)
 .have h1:CE l=7:=by
   have h:¬l.length=0:=by exact eV
   have e:4096<l.length:=by exact eV
   unfold CE;rw[BY h,DO e]
  exact fI a [.tmp 2] (by rw[h1];exact eR)
 have h1:CE l=GG l.length l:=by
  have h:¬l.length=0:=by exact eV
  have e:¬4096<l.length:=by exact eV
  unfold CE;rw[BY h,BY e]
 refine AL (ι:={k:Nat//k<=l.length/\GG l.length (l.drop k)=CE l}) (λk=>⟨[(1,.bp 1 [] 0),(3,.p (.int .i64) (k.1:Int))],[(1,.box 25 true [.p G2 l])]⟩) (λk=>l.length-k.1) ⟨0,by simp[h1]⟩ (AD [(1,.nm 1)] rfl rfl ?_ ?_) (λk=>?_)
 .exact eN
 .exact eN
 obtain⟨k,hk,hf⟩:=k;repeat'(first|exact trivial|apply eS rfl|apply AC|refine rX a ?_ ?_|refine rC ?_ ?_<;>intro b<;>try(cases b;done))
 .exact eV
 .have d:k<l.length:=by exact eV
  have c:CE l=2:=by rw[<-hf,IT _ _ d,DO b]
  exact fI a [.tmp 2] (by rw[c];exact eR)
 .exact eV
 .have d:k<l.length:=by exact eV
  have c:CE l=Gu (l.getD k (0,[])).2 l.length:=by rw[<-hf,IT _ _ d,BY (by exact eV),DO b]
  exact fI a [.tmp 2] (by rw[c];exact eR)
 .exact eV
 .have d:k<l.length:=by exact eV
  refine⟨⟨k+1,by exact eV,?_⟩,by simp only;exact eV,AD [(1,.nm 1)] rfl rfl ?_ ?_⟩
  .rw[<-hf,IT _ _ d,BY (by exact eV),BY (by simpa using b)]
  .exact eN
  exact eN
 have c:CE l=0:=by
  have hk:l.length<=k:=by exact eV
  rw[<-hf,SV hk];rfl
 exact fI a [.tmp 2] (by rw[c];exact eR)
end
def Hf (x:Int×Int) (s:List (Int×Int)):Nat->Nat
 | 0=>0
 | n+1=>if x.1<(s.getD n (0,0)).1 then Hf x s n else n+1
def NT (s:List (Int×Int)) (x:Int×Int):List (Int×Int):=s.take (Hf x s s.length)++[x]++s.drop (Hf x s s.length)
def AZ (l:List (Int×Int)):List (Int×Int):=l.foldl NT []
theorem Ur (x:Int×Int) (s:List (Int×Int)):∀n,Hf x s n<=n
 | 0=>No _
 | n+1=>by
  unfold Hf;have:=Ur x s n;split<;>omega
theorem A2j (s:List (Int×Int)) (x:Int×Int):(NT s x).length=s.length+1:=by
 have:=Ur x s s.length;simp[NT];omega
theorem Hg (l:List (Int×Int)) (x:Int×Int):AZ (l++[x])=NT (AZ l) x:=by simp[AZ]
theorem MO:∀(l s:List (Int×Int)),(l.foldl NT s).length=s.length+l.length
 | [],s=>by simp
 | x :: l,s=>by simp[MO l,A2j];omega
theorem CO (l:List (Int×Int)):(AZ l).length=l.length:=by simp[AZ,MO]
def QV:Ab:={ ins:=[DK],pre:=λ(l,_)=>l.length<=1000000,out:=λ(l,_)=>[.own 106 A2 (AZ l)] }
theorem ZX:Ag Tryz.prog 152 QV:=by
 refine fK [0,2,3,4,5,6,10,30] Tryz.func152 Tryz.ntmps152 AI ?_;rintro w0 O0 ⟨l,u⟩ c o j;simp only[QV]at j;simp only[QV,AN];repeat'(first|exact trivial|apply eS rfl|refine rX c ?_ ?_)
 refine AL (ι:={p:Nat//p<=l.length}) (λk=>⟨[(0,.p DK l),(3,.sr 10 A2 0 (AZ (l.take k.1)).length),(4,.p (.int .i64) (k.1:Int))],[(10,.arr 106 A2 (AZ (l.take k.1)))]⟩) (λk=>l.length-k.1) ⟨0,by omega⟩ (AD [(10,.nil)] rfl rfl ?_ ?_) (λk=>?_)
 .refine eM ?_;rfl
 .refine eM ?_;rfl
 obtain⟨k,g⟩:=k;have n:(AZ (l.take k)).length=k:=by rw[CO,OS];exact AAK g
 repeat'(first|exact trivial|apply eS rfl|refine rX c ?_ ?_|refine rC ?_ ?_<;>intro b<;>try(cases b;done))
 .refine AL (ι:={q:Nat//q<=(AZ (l.take k)).length/\Hf (l.getD k (0,0)) (AZ (l.take k)) q=Hf (l.getD k (0,0)) (AZ (l.take k)) (AZ (l.take k)).length}) (λq=>⟨[(0,.p DK l),(3,.sr 10 A2 0 (AZ (l.take k)).length),(4,.p (.int .i64) (k:Int)),(5,.p (.int .i64) (q.1:Int))],[(10,.arr 106 A2 (AZ (l.take k)))]⟩) (λq=>q.1) ⟨(AZ (l.take k)).length,by simp⟩ (eW [(10,.nm 10)]) (λq=>?_)
  obtain⟨q,m,f⟩:=q;have h:k<l.length:=by omega
  have e1:=l.length_take_le k;have e2:(List.take q (AZ (List.take k l))).length=q:=by rw[OS];exact AAK m
  repeat'(first|exact trivial|apply eS rfl|apply AC|refine rX c ?_ ?_|refine rC ?_ ?_<;>intro b<;>try(cases b;done))
  .exact eV
  .exact eV
  .obtain⟨h1,a⟩:=b;obtain⟨q,rfl⟩:∃r,q=r+1:=⟨q-1,by omega⟩;have d:((q+1:Nat):Int)-1=(q:Int):=by omega
   refine⟨⟨q,by omega,?_⟩,Nat.lt_succ_self q,AD [(10,.nm 10)] rfl rfl ?_ ?_⟩
   .rw[<-f];simp only[Hf];rw[d,Sc]at a;rw[DO a]
   .exact eN
   refine eM ?_;show (q:Int)+1-1=q;omega
  .refine⟨by exact eV,?_⟩;rw[e2];unfold AP;omega
  .refine⟨by exact eV,?_⟩;rw[e2];simp only[AP];omega
  .refine⟨by exact eV,?_⟩;rw[e2];simp only[AP,aS];omega
  .exact eV
  have i:Hf (l.getD k (0,0)) (AZ (l.take k)) q=q:=by
   cases q with
   | zero=>rfl
   | succ q =>
    have d:((q+1:Nat):Int)-1=(q:Int):=by omega
    have:=b oa;rw[d,Sc]at this;simp only[Hf];rw[BY oa]
  have h1:=Aw l (0,0) h;have a:AZ (l.take (k+1))=_:=(oN AZ h1).trans (Hg _ _);unfold NT at a;rw[<-f,i]at a;refine⟨⟨k+1,by exact eV⟩,by simp only;exact eV,AD [(10,.nm 37)] rfl rfl ?_ ?_⟩
  .refine eM ?_;exact a.symm
  refine eM ?_;have e:=oN List.length a;rw[As,As]at e;exact e.symm
 have hk:l.take k=l:=By (by exact eV);refine mD c (.inl rfl) (rv:=.tmp 2) rfl ?_;simp only[Nf,KZ,Jk,go_sem,Nat.reduceEqDiff,reduceCtorEq,Nat.reduceAdd,Nat.reduceSub,Nat.reduceMul,Nat.reduceLeDiff,Nat.reduceLT,Int.reduceLE,Int.reduceToNat,Int.reduceNeg,↓reduceIte];rw[hk];first|rfl|exact⟨rfl,rfl⟩|exact⟨rfl,rfl,rfl⟩
section
attribute [local go_sem] QV
abbrev AB:=Int×List (Int×Int)
def Dt (f:List AB):Nat->List Int×List Int->Int->List Int×List Int
 | 0,s,_=>s
 | k+1,s,n=>(AZ (f.getD n.toNat (0,[])).2).foldl (λs a=>if s.1.getD a.2.toNat 0<0 then Dt f k s a.2 else s) (s.1.set n.toNat (s.2.length:Int),s.2++[n])
def LR (l:List Int):Nat:=l.countP (λx=>decide (x<0))
def AO (f:List AB):Prop:=f.length<=100000/\∀x∈f,x.2.length<=100000/\∀a∈x.2,0<=a.2/\a.2<(f.length:Int)
def UE (f:List AB) (s:List Int×List Int):Prop:=s.1.length=f.length/\s.2.length+LR s.1<=f.length
theorem A2k {l:List Int} {n:Nat} {v:Int} (hn:n<l.length) (a:l.getD n 0<0) (c:0<=v):LR (l.set n v)+1=LR l:=by
 induction l generalizing n with
 | nil=>simp at hn
 | cons x r b =>
  cases n with
  | zero =>
   have hx:x<0:=by simpa using a
   have:¬v<0:=by omega
   simp[LR,AAW,hx,this]
  | succ n =>
   have h1:=b (n:=n) (by simpa using hn) (by simpa using a);simp only[LR,ABQ,AAW]at h1 ⊢;omega
theorem oU {f:List AB} {s:List Int×List Int} {n:Int} (h:UE f s) (d:0<=n) (hn:n<f.length) (b:s.1.getD n.toNat 0<0) :
  UE f (s.1.set n.toNat (s.2.length:Int),s.2++[n])/\LR (s.1.set n.toNat (s.2.length:Int))+1=LR s.1:=by
 obtain⟨h1,c⟩:=h;have a:=A2k (l:=s.1) (n:=n.toNat) (v:=(s.2.length:Int)) oa b oa;refine⟨⟨by simpa using h1,?_⟩,a⟩;simp only[As,If];omega
theorem xZ (s:List (Int×Int)) (x:Int×Int):(NT s x).Perm (x :: s):=by
 unfold NT;refine(List.perm_append_comm.append_right _).trans ?_;simp
theorem LK:∀(l s:List (Int×Int)),(l.foldl NT s).Perm (l++s)
 | [],s=>List.Perm.refl _
 | x :: l,s=>by
  refine(LK l (NT s x)).trans ?_;refine(List.Perm.append_left l (xZ s x)).trans ?_;exact AC6
theorem Eq (l:List (Int×Int)):(AZ l).Perm l:=by
 have:=LK l [];simpa[AZ] using this
theorem MP {f:List AB} (hf:AO f) (n:Int):List.length (f.getD n.toNat (0,[])).2<=100000:=by
 by_cases h:n.toNat<f.length
 .have a:f.getD n.toNat (0,[])∈f:=by
   rw[AS,AT h];exact aT h
  exact(hf.2 _ a).1
 rw[AS,Si oa];simp
theorem Us {f:List AB} (hf:AO f) {n:Int} {a:Int×Int} (ha:a∈AZ (f.getD n.toNat (0,[])).2):0<=a.2/\a.2<f.length:=by
 have ha:=(Eq _).mem_iff.1 ha;by_cases h:n.toNat<f.length
 .have b:f.getD n.toNat (0,[])∈f:=by
   rw[AS,AT h];exact aT h
  exact(hf.2 _ b).2 a ha
 rw[AS,Si oa]at ha;simp at ha
def EU (f:List AB) (k:Nat) (s:List Int×List Int) (a:Int×Int):List Int×List Int:=if s.1.getD a.2.toNat 0<0 then Dt f k s a.2 else s
theorem FZ (f:List AB) (k:Nat) (s:List Int×List Int) (n:Int):Dt f (k+1) s n=(AZ (f.getD n.toNat (0,[])).2).foldl (EU f k) (s.1.set n.toNat (s.2.length:Int),s.2++[n]):=rfl
theorem Ut {f:List AB} {k:Nat} (d:∀(s:List Int×List Int) (n:Int),UE f s->0<=n->n<f.length->s.1.getD n.toNat 0<0->UE f (Dt f k s n)/\LR (Dt f k s n).1<=LR s.1) :
  ∀(l:List (Int×Int)) (t:List Int×List Int),(∀a∈l,0<=a.2/\a.2<(f.length:Int))->UE f t->UE f (l.foldl (EU f k) t)/\LR (l.foldl (EU f k) t).1<=LR t.1
 | [],t,_,ht=>⟨ht,No _⟩
 | a :: l,t,hl,ht=>by
  simp only[SU];by_cases c:t.1.getD a.2.toNat 0<0
  .obtain⟨g,h⟩:=d t a.2 ht (hl a sc).1 (hl a sc).2 c;have e:EU f k t a=Dt f k t a.2:=DO c;rw[e];obtain⟨i,j⟩:=Ut d l _ (λb hb=>hl b (by simp[hb])) g;exact⟨i,SX j h⟩
  have e:EU f k t a=t:=BY c;rw[e];exact Ut d l t (λb hb=>hl b (by simp[hb])) ht
theorem Ru {f:List AB} (hf:AO f):∀(k:Nat) (s:List Int×List Int) (n:Int),UE f s->0<=n->n<f.length->s.1.getD n.toNat 0<0->UE f (Dt f k s n)/\LR (Dt f k s n).1<=LR s.1
 | 0,s,n,h,_,_,_=>⟨h,No _⟩
 | k+1,s,n,h,h0,h1,d=>by
  obtain⟨e,g⟩:=oU h h0 h1 d;obtain⟨b,c⟩:=Ut (Ru hf k) _ _ (λa ha=>Us hf ha) e;rw[FZ];exact⟨b,by simp only at c g;omega⟩
theorem Jy {α β:Type} (g:β->α->β) (l:List α) (d:α) (t:β) {i:Nat} (hi:i<l.length):(l.take (i+1)).foldl g t=g ((l.take i).foldl g t) (l.getD i d):=by
 rw[Aw l d hi,AAO];rfl
def LL (f:List AB) (s:List Int×List Int):List (Nat×Obj):=[(1,.box 184 true [.p D7 f,.sr 2 T3 0 s.1.length,.sr 3 T3 0 s.2.length]),(2,.arr 3 T3 s.1),(3,.arr 3 T3 s.2)]
theorem A2l (f:List AB) (hf:AO f):∀(k:Nat) (s:List Int×List Int) (n:Int),UE f s->0<=n->n<f.length->s.1.getD n.toNat 0<0->LR s.1<=k ->
  BT Tryz.prog 151 [.bp 1 [] 0,.p T3 n] (LL f s) [1] (λres M=>res=.raw (.tuple #[])/\M=LL f (Dt f k s n)):=by
 intro k;induction k with
 | zero =>
  intro s n h0 h1 u B N;obtain⟨_,O⟩:=oU h0 h1 u B;omega
 | succ k J =>
  intro s n A w m x hk;obtain⟨num,g⟩:=s;obtain⟨t,v⟩:=oU A w m x;obtain⟨G,H⟩:=A;simp only at G H x t v hk;refine Nk [0,1,4,5,40,54] [] [] Tryz.func151 Tryz.ntmps151 (AF ZX AI) ?_;intro w0 K O0 ρ0 c Q R;simp only[LL,A1];repeat'(first|exact trivial|apply eS rfl|refine rX c ?_ ?_)
  .exact eV
  .have:=hf.1;simp only[AP];omega
  .have I:=MP hf n;exact⟨⟨w,m⟩,SX I oa⟩
  have l:=λa (ha:a∈AZ (f.getD n.toNat (0,[])).2)=>Us hf ha;have D:(AZ (f.getD n.toNat (0,[])).2).length<=100000:=by rw[CO];exact MP hf n
  generalize C:AZ (f.getD n.toNat (0,[])).2=L at l D;generalize o:(num.set n.toNat (g.length:Int),g++[n])=s1 at t;have F:∀i,UE f ((L.take i).foldl (EU f k) s1)/\LR ((L.take i).foldl (EU f k) s1).1<=LR s1.1:=λi=>Ut (Ru hf k) _ _ (λa ha=>l a (iS ha)) t;have m:num.set n.toNat (g.length:Int)=s1.1:=by rw[<-o]
  have P:g++[n]=s1.2:=by rw[<-o]
  rw[m]at v;refine AL (ι:={i:Nat//i<=L.length}) (λi=>⟨[(0,.bp 1 [] 0),(1,.p T3 n),(4,.p DK L),(5,.p (.int .i64) (i.1:Int))],LL f ((L.take i.1).foldl (EU f k) s1)⟩) (λi=>L.length-i.1) ⟨0,by omega⟩ (A8C [36] (AD [(1,.nm 1),(2,.nm 2),(3,.nm 3)] rfl rfl ?_ ?_)) (λi=>?_)
  .simp only[LL];refine eM ?_;simp only[ABZ];rw[<-o];simp
  .exact eN
  obtain⟨i,hi⟩:=i;obtain⟨r,E⟩:=F i;have q:=λ(h:i<L.length)=>Jy (EU f k) L (0,0) s1 h;generalize z:(L.take i).foldl (EU f k) s1=b at r E q;simp only[LL];repeat'(first|exact trivial|apply eS rfl|apply AC|refine rX c ?_ ?_|refine rC ?_ ?_<;>intro j<;>try(cases j;done))
  .have d:i<L.length:=by exact eV
   have:=l _ (AE L (0,0) d);obtain⟨h1,u⟩:=r;refine⟨by exact eV,this.1,?_⟩;rw[h1];exact this.2
  .have d:i<L.length:=by exact eV
   have y:=l _ (AE L (0,0) d);refine cP 6 c ?_ ?_
   .exact eV
   refine rM c (J b (L.getD i (0,0)).2 r y.1 y.2 (by simpa using j) oa) [(1,.nm 1),(2,.nm 2),(3,.nm 3)] [2,3] ?_ ?_ ?_
   .exact eN
   .simp only[LL];exact eN
   rintro _ _ ⟨rfl,rfl⟩;refine⟨[(1,.nm 1),(2,.nm 2),(3,.nm 3)],.raw (.tuple #[]),LL f (Dt f k b (L.getD i (0,0)).2),rfl,rfl,?_,?_,rfl,rfl,Cu ?_⟩
   .simp only[LL];exact eN
   .exact eN
   repeat'(first|apply eS rfl|apply AC|refine rX c ?_ ?_)
   .exact eV
   have e:EU f k b (L.getD i (0,0))=Dt f k b (L.getD i (0,0)).2:=DO (by simpa using j);refine⟨⟨i+1,by omega⟩,by simp only;omega,AD [(1,.nm 1),(2,.nm 2),(3,.nm 3)] rfl rfl ?_ ?_⟩
   .simp only[LL,q d,e];exact eN
   exact eN
  .exact eV
  .have d:i<L.length:=by exact eV
   have e:EU f k b (L.getD i (0,0))=b:=BY (by simpa using j);refine⟨⟨i+1,by omega⟩,by simp only;omega,AD [(1,.nm 1),(2,.nm 2),(3,.nm 3)] rfl rfl ?_ ?_⟩
   .simp only[q d,e];exact eN
   exact eN
  have hk:L.take i=L:=By (by exact eV);rw[hk]at z;have h1:Dt f (k+1) (num,g) n=b:=by rw[FZ,C,<-z,<-o]
  rw[h1];exact fM c [] (.raw (.tuple #[])) rfl ⟨rfl,rfl⟩
end
section
attribute [local go_sem] QV
def iZ (f:List AB) (s:List Int×List Int):Prop:=∀n∈s.2,0<=n/\n<(f.length:Int)
theorem XI {f:List AB} (hf:AO f):∀(k:Nat) (s:List Int×List Int) (n:Int),iZ f s->0<=n->n<f.length->iZ f (Dt f k s n)
 | 0,s,n,h,_,_=>h
 | k+1,s,n,h,h0,h1=>by
  rw[FZ];have key:∀(l:List (Int×Int)) (t:List Int×List Int),(∀a∈l,0<=a.2/\a.2<(f.length:Int))->iZ f t->iZ f (l.foldl (EU f k) t):=by
   intro l;induction l with
   | nil=>intro t _ ht;exact ht
   | cons a l d =>
    intro t hl ht;simp only[SU];refine d _ (λb hb=>hl b (by simp[hb])) ?_;unfold EU;split
    .exact XI hf k t a.2 ht (hl a sc).1 (hl a sc).2
    exact ht
  refine key _ _ (λa ha=>Us hf ha) ?_;intro m c;simp only[Do,SQ]at c;rcases c with c|rfl
  .exact h m c
  exact⟨h0,h1⟩
def GH (f:List AB) (root:Int):List Int×List Int:=Dt f f.length (List.replicate f.length (-1),[]) root
def YT (num:List Int) (a:Int×Int):Int×Int:=(a.1,num.getD a.2.toNat 0)
def MQ (f:List AB) (num:List Int) (n:Int):AB:=((f.getD n.toNat (0,[])).1,(AZ (f.getD n.toNat (0,[])).2).map (YT num))
def I9 (f:List AB) (root:Int):List AB:=(GH f root).2.map (MQ f (GH f root).1)
theorem i5 (m:Nat):LR (List.replicate m (-1))=m:=by
 induction m with
 | zero=>rfl
 | succ m a=>simp only[LR,AAR,AAW]at a ⊢;simp[a]
theorem tr0 (f:List AB):UE f (List.replicate f.length (-1),[]):=⟨by simp,by simp[i5]⟩
theorem tB {f:List AB} {n:Int} (h0:0<=n) (h1:n<f.length):(List.replicate f.length (-1:Int)).getD n.toNat 0<0:=by
 have:n.toNat<f.length:=by omega
 simp[AS,AAN,this]
theorem tC {f:List AB} (hf:AO f) {n:Int} (h0:0<=n) (h1:n<f.length):UE f (GH f n)/\iZ f (GH f n) :=
 ⟨(Ru hf _ _ n (tr0 f) h0 h1 (tB h0 h1)).1,XI hf _ _ n (λm a=>by simp at a) h0 h1⟩
theorem XJ {α β:Type} (g:α->β) (h:β->α) (L:List α) (d:α) {k:Nat} (hk:k<L.length) (u:α->α):((L.take k).map u++L.drop k).set k (u (L.getD k d))=(L.take (k+1)).map u++L.drop (k+1)/\((L.take k).map u++L.drop k).getD k d=L.getD k d:=by
 have h1:((L.take k).map u).length=k:=by simp;omega
 have a:L.drop k=L.getD k d :: L.drop (k+1):=by
  rw[SR hk,AS,AT hk];rfl
 constructor
 .rw[Aw L d hk,ABi _ _ oa,h1,AAJ,a];simp
 rw[AS,Sf oa,h1,AAJ,a];rfl
def ZY:Ab:={ ins:=[D7,T3],pre:=λ(f,n,_)=>AO f/\0<=n/\n<(List.length f:Int),out:=λ(f,n,_)=>[.p D7 (I9 f n)] }
theorem A56:Ag Tryz.prog 114 ZY:=by
 refine fK [0,1,2,4,5,6,7,8,9,10,11,19,40,60] Tryz.func114 Tryz.ntmps114 (AF ZX AI) ?_;rintro w0 O0 ⟨f,root,u⟩ d-⟨hf,l,m⟩;simp only[ZY,AN];have G:=hf.1;repeat'(first|exact trivial|apply eS rfl|refine rX d ?_ ?_)
 refine AL (ι:={i:Nat//i<=f.length}) (λi=>⟨[(1,.p T3 root),(2,.bp 2 [] 0),(4,.bp 4 [] 0),(5,.bp 14 [] 0),(6,.p (.int .i64) (i.1:Int))],[(2,.box 25 true [.p G2 f]),(4,.box 25 true [.raw (.slice none 0 0)]),(14,.box 184 true [.p D7 f,.sr 10 T3 0 i.1,.raw (.slice none 0 0)]),(10,.arr 3 T3 (List.replicate i.1 (-1)))]⟩) (λi=>f.length-i.1) ⟨0,by omega⟩ (AD [(2,.nm 2),(4,.nm 4),(14,.nm 14),(10,.nil)] rfl rfl ?_ ?_) (λi=>?_)
 .refine eM ?_;rfl
 .exact eN
 obtain⟨i,hi⟩:=i;repeat'(first|exact trivial|apply eS rfl|apply AC|refine rX d ?_ ?_|refine rC ?_ ?_<;>intro h<;>try(cases h;done))
 .simp only[AP];omega
 .exact eV
 .have hi:i<List.length f:=by exact eV
  refine⟨⟨i+1,by omega⟩,by simp only;omega,AD [(2,.nm 2),(4,.nm 4),(14,.nm 14),(10,.nm 10)] rfl rfl ?_ ?_⟩
  .refine eM ?_;rw[List.replicate_succ'];simp
  exact eN
 have A:i=List.length f:=by exact eV
 subst A;have w:=tC hf l m;refine cP 2 d ?_ ?_
 .trivial
 refine rM d (A2l f hf (List.length f) (List.replicate (List.length f) (-1),[]) root (tr0 f) l m (tB l m) (by rw[i5];exact No _)) [(1,.nm 14),(2,.nm 10),(3,.nil)] [10] ?_ ?_ ?_
 .exact eN
 .simp only[LL];refine eM ?_;simp
 rintro _ _ ⟨rfl,rfl⟩;refine⟨[(14,.nm 1),(101,.nm 2),(102,.nm 3)],.raw (.tuple #[]),[(14,.box 184 true [.p D7 f,.sr 101 T3 0 (GH f root).1.length,.sr 102 T3 0 (GH f root).2.length]),(101,.arr 3 T3 (GH f root).1),(102,.arr 3 T3 (GH f root).2)],rfl,rfl,?_,?_,rfl,rfl,Cu ?_⟩
 .simp only[LL,GH];exact eN
 .exact eN
 have z:I9 f root=(GH f root).2.map (MQ f (GH f root).1):=rfl;rw[z];generalize GH f root=s at w;obtain⟨num,c⟩:=s;obtain⟨⟨r,t⟩,j⟩:=w;simp only at r t;have j:∀n∈c,0<=n/\n<(List.length f:Int):=j;repeat'(first|exact trivial|apply eS rfl|refine rX d ?_ ?_)
 refine AL (ι:={i:Nat//i<=c.length}) (λi=>⟨[(2,.bp 2 [] 0),(4,.bp 4 [] 0),(5,.bp 14 [] 0),(7,.bp 7 [] 0),(8,.p (.int .i64) (i.1:Int))],[(2,.box 25 true [.p G2 f]),(4,.box 25 true [.raw (.slice none 0 0)]),(14,.box 184 true [.p D7 f,.sr 101 T3 0 num.length,.sr 102 T3 0 c.length]),(101,.arr 3 T3 num),(102,.arr 3 T3 c),(7,.box 25 true [.sr 200 He 0 i.1]),(200,.arr 93 He ((c.take i.1).map (MQ f num)))]⟩) (λi=>c.length-i.1) ⟨0,by omega⟩ (eW [(2,.nm 2),(4,.nm 4),(14,.nm 14),(101,.nm 101),(102,.nm 102),(7,.nm 7),(200,.nil)]) (λi=>?_)
 obtain⟨i,hi⟩:=i;repeat'(first|exact trivial|apply eS rfl|refine rX d ?_ ?_|refine rC ?_ ?_<;>intro h<;>try(cases h;done))
 .have hi:i<c.length:=by exact eV
  exact⟨by exact eV,j _ (AE c 0 hi)⟩
 .exact SX (MP hf _) oa
 .have hi:i<c.length:=by exact eV
  have q:=λa (ha:a∈AZ (f.getD (Int.toNat (c.getD i 0)) (0,[])).2)=>Us hf ha;have v:MQ f num (c.getD i 0)=((f.getD (Int.toNat (c.getD i 0)) (0,[])).1,(AZ (f.getD (Int.toNat (c.getD i 0)) (0,[])).2).map (YT num)):=rfl;have B:=MP hf (c.getD i 0);generalize List.getD f (Int.toNat (c.getD i 0)) (0,[])=x at *;obtain⟨E,o⟩:=x;simp only at q v B;have F:=CO o;generalize AZ o=L at *;refine AL (ι:={k:Nat//k<=L.length}) (λk=>⟨[(2,.bp 2 [] 0),(4,.bp 4 [] 0),(5,.bp 14 [] 0),(7,.bp 7 [] 0),(8,.p (.int .i64) (i:Int)),(9,.bp 9 [] 0),(10,.sr 56 A2 0 L.length),(11,.p (.int .i64) (k.1:Int))],[(56,.arr 106 A2 ((L.take k.1).map (YT num)++L.drop k.1)),(9,.box 93 true [.p T3 E,.p DK o]),(2,.box 25 true [.p G2 f]),(4,.box 25 true [.raw (.slice none 0 0)]),(14,.box 184 true [.p D7 f,.sr 101 T3 0 num.length,.sr 102 T3 0 c.length]),(101,.arr 3 T3 num),(102,.arr 3 T3 c),(7,.box 25 true [.sr 200 He 0 i]),(200,.arr 93 He ((c.take i).map (MQ f num)))]⟩) (λk=>L.length-k.1) ⟨0,by omega⟩ (eW [(2,.nm 2),(4,.nm 4),(14,.nm 14),(101,.nm 101),(102,.nm 102),(7,.nm 7),(200,.nm 200),(9,.nm 9),(56,.nm 56)]) (λk=>?_)
  obtain⟨k,hk⟩:=k;repeat'(first|exact trivial|apply eS rfl|apply AC|refine rX d ?_ ?_|refine rC ?_ ?_<;>intro h<;>try(cases h;done))
  .have g:k<L.length:=by exact eV
   have e:=(XJ (YT num) (λb=>b) L (0,0) g (YT num)).2;rw[e];have:=q _ (AE L (0,0) g);rw[r];exact⟨by exact eV,this,by exact eV⟩
  .exact eV
  .have g:k<L.length:=by exact eV
   have e:=XJ (YT num) (λb=>b) L (0,0) g (YT num);refine⟨⟨k+1,by omega⟩,by simp only;omega,AD [(2,.nm 2),(4,.nm 4),(14,.nm 14),(101,.nm 101),(102,.nm 102),(7,.nm 7),(200,.nm 200),(9,.nm 9),(56,.nm 56)] rfl rfl ?_ ?_⟩
   .refine eM ?_;rw[e.2];exact e.1
   exact eN
  .simp only[AP];have:=t;omega
  .exact eV
  have g:L.take k=L:=By (by exact eV);have y:L.drop k=[]:=SV (by exact eV);refine⟨⟨i+1,by omega⟩,by simp only;omega,AD [(2,.nm 2),(4,.nm 4),(14,.nm 14),(101,.nm 101),(102,.nm 102),(7,.nm 7),(200,.nm 200)] rfl rfl ?_ ?_⟩
  .refine eM ?_;rw[g,y,UL,Aw c 0 hi,UK,Sj,ABj,v];have C:List.take i ((c.take i).map (MQ f num))=(c.take i).map (MQ f num):=By (by rw[OF,OS];omega);have D:List.take L.length (L.map (YT num))=L.map (YT num):=By (by rw[OF];omega);rw[C,D]
  exact eN
 have hk:c.take i=c:=By (by exact eV);rw[hk];refine fI d [.cell 4 25] (by first|exact eR|refine Y6 ?_;exact By (by rw[OF];exact eV))
end
section
attribute [local go_sem] A2i ZY
theorem XK {n:Int}:∀ {l seen:List (Int×Int)},F2 n seen l=0->∀a∈l,0<=a.1/\0<=a.2/\a.2<n
 | [],_,_,a,ha=>by cases ha
 | x :: l,seen,h,a,ha=>by
  simp only[F2]at h;split at h
  .cases h
  split at h
  .cases h
  rename_i h1 _;rcases At.1 ha with rfl|ha
  .omega
  exact XK h a ha
theorem Kr {m:Int}:∀ {f:List (Int×List (Int×Int))},GG m f=0->∀x∈f,0<=x.1/\∀a∈x.2,0<=a.1/\0<=a.2/\a.2<m
 | [],_,x,hx=>by cases hx
 | y :: f,h,x,hx=>by
  simp only[GG]at h;split at h
  .cases h
  split at h
  .rename_i h1 b;exact absurd h b
  rename_i h1 b;have b:Gu y.2 m=0:=IS b;rcases At.1 hx with rfl|hx
  .exact⟨by omega,XK b⟩
  exact Kr h x hx
def Rv (f:List (Int×List (Int×Int))):Prop:=∀x∈f,x.2.length<=100000
theorem IU {f:List (Int×List (Int×Int))} (h:CE f=0) (hs:Rv f):AO f/\0<f.length:=by
 unfold CE at h;split at h
 .cases h
 split at h
 .cases h
 refine⟨⟨by omega,λx hx=>⟨hs x hx,λa ha=>?_⟩⟩,by omega⟩;have:=(Kr h x hx).2 a ha;exact⟨this.2.1,this.2.2⟩
def BA (f:List AB):List AB×Int:=if CE f=0 then (I9 f 0,0) else ([],CE f)
def Rw:Ab:={ ins:=[D7],pre:=λ(f,_)=>Rv f,out:=λ(f,_)=>[.p D7 (BA f).1,.p HD (BA f).2] }
theorem A2m:Ag Tryz.prog 82 Rw:=by
 refine fK [0,1,2,3,4,8] Tryz.func82 Tryz.ntmps82 (AF A55 (AF A56 AI)) ?_;rintro w0 O0 ⟨f,u⟩ b-hs;simp only[Rw,AN];repeat'(first|exact trivial|apply eS rfl|refine rX b ?_ ?_|refine rC ?_ ?_<;>intro a<;>try(cases a;done))
 .have h:¬CE f=0:=by simpa using a
  have e:BA f=([],CE f):=BY h;exact fI b [.cell 2 25,.tmp 3] (by rw[e];exact eR)
 .have h:CE f=0:=by simpa using a
  have:=IU h hs;exact⟨this.1,by exact eV⟩
 have h:CE f=0:=by simpa using a
 have e:BA f=(I9 f 0,0):=DO h;exact fI b [.cell 2 25,.tmp 3] (by rw[e];exact eR)
end
def inF (l:List Int) (n:Int):Bool:=l.any λx=>x==n
def i6:Ab:={ ins:=[T3],pre:=λ_=>True,out:=λ(t,_)=>[.p D7 [(t,[])]] }
theorem A57:Ag Tryz.prog 27 i6:=by
 refine fK [0,2] Tryz.func27 Tryz.ntmps27 AI ?_;rintro w0 O0 ⟨t,u⟩ a - -;simp only[i6,AN];repeat'(first|exact trivial|apply eS rfl|apply AC|refine rX a ?_ ?_|refine rC ?_ ?_<;>intro b<;>try(cases b;done))
 exact fI a [.cell 2 25]
section
attribute [local go_sem] Rq Rw Kq
def ftB (a:Int×Int):Bool:=decide (a.1<64)
def ndB (x:AB):Bool:=decide (x.1<256)&&x.2.all ftB
def Du (f:List AB):Bool:=HG f&&f.all ndB&&((BA f).2==0&&(CN (BA f).1 f==0))
theorem MR {f:List AB} (h:HG f=true):f.length<=12/\∀x∈f,x.2.length<=12:=by
 unfold HG at h;simp only[An,Is,NO]at h;exact h
theorem oV {f:List AB} (hf:AO f) {n:Int} (h0:0<=n) (h1:n<f.length):E1 (I9 f n):=by
 obtain⟨⟨a,b⟩,_⟩:=tC hf h0 h1;have c:=hf.1;refine⟨?_,λx hx=>?_⟩
 .unfold I9;rw[OF];omega
 obtain⟨m,_,rfl⟩:=Y1.1 hx;unfold MQ;simp only[OF,CO];exact MP hf m
theorem i7 {f:List AB} (hs:Rv f):E1 (BA f).1:=by
 unfold BA;split
 .rename_i h;obtain⟨h1,a⟩:=IU h hs;exact oV h1 oa oa
 exact⟨by simp,λx hx=>by cases hx⟩
end
section
variable {α:Type}
structure SO (o:α->α->Int):Prop where
 anti:∀a b,o b a=- o a b
 trans:∀ {a b c},o a b<0->o b c<0->o a c<0
variable {o:α->α->Int} {d:α}
def i8 (d:α) (l:List α) (i j:Nat):List α:=(l.set i (l.getD j d)).set j (l.getD i d)
theorem i9 {l:List α} {i j:Nat} (hi:i<l.length) (a:j<l.length) (k:Nat):(i8 d l i j).getD k d=if k=j then l.getD i d else if k=i then l.getD j d else l.getD k d:=by
 unfold i8;simp only[AS,AAh,oS];by_cases e1:j=k
 .rw[DO e1,DO oa,DO e1.symm];rfl
 rw[BY e1,BY (show ¬k=j by omega)];by_cases e2:i=k
 .rw[DO e2,DO oa,DO e2.symm];rfl
 rw[BY e2,BY (show ¬k=i by omega)]
theorem x5 {l:List α} {i j:Nat} (hi:i<l.length) (a:j<l.length):(i8 d l i j).Perm l:=by
 have e1:l.getD i d=l[i]:=by rw[AS,AT hi];rfl
 have e2:l.getD j d=l[j]:=by rw[AS,AT a];rfl
 unfold i8;rw[e1,e2];exact List.set_set_perm hi a
structure ZZ (d:α) (a b:Nat) (l r:List α):Prop where
 perm:r.Perm l
 out:∀k,k<a\/b<=k->r.getD k d=l.getD k d
 inn:∀i,a<=i->i<b->∃j,a<=j/\j<b/\r.getD i d=l.getD j d
theorem ZZ.len {a b:Nat} {l r:List α} (h:ZZ d a b l r):r.length=l.length:=h.perm.length_eq
theorem ZZ.refl (a b:Nat) (l:List α):ZZ d a b l l:=⟨List.Perm.refl _,λ_ _=>rfl,λi h1 c=>⟨i,h1,c,rfl⟩⟩
theorem ZZ.trans {a b:Nat} {l r s:List α} (h:ZZ d a b l r) (c:ZZ d a b r s):ZZ d a b l s:=⟨c.perm.trans h.perm,λk hk=>(c.out k hk).trans (h.out k hk),λi h1 f=>by
 obtain⟨j,g,m,e⟩:=c.inn i h1 f;obtain⟨k,n,o,e2⟩:=h.inn j g m;exact⟨k,n,o,e.trans e2⟩⟩
theorem ZZ.mono {a b c f:Nat} {l r:List α} (h:ZZ d a b l r) (ha:c<=a) (hb:b<=f):ZZ d c f l r:=⟨h.perm,λk hk=>h.out k oa,λi h1 g=>by
 by_cases hi:a<=i/\i<b
 .obtain⟨j,m,n,e⟩:=h.inn i hi.1 hi.2;exact⟨j,by omega,by omega,e⟩
 exact⟨i,h1,g,h.out i oa⟩⟩
theorem ZZ.swap {a b:Nat} (l:List α) {i j:Nat} (e:a<=i) (f:i<b) (g:a<=j) (h:j<b) (hb:b<=l.length):ZZ d a b l (i8 d l i j):=by
 have c:=i9 (d:=d) (l:=l) (i:=i) (j:=j) oa oa;refine⟨x5 oa oa,λk hk=>?_,λk m n=>?_⟩
 .rw[c k,BY oa,BY oa]
 rw[c k];by_cases e1:k=j
 .rw[DO e1];exact⟨i,e,f,rfl⟩
 rw[BY e1];by_cases e2:k=i
 .rw[DO e2];exact⟨j,g,h,rfl⟩
 rw[BY e2];exact⟨k,m,n,rfl⟩
def Dst (o:α->α->Int) (d:α) (l:List α):Prop:=∀i j,i<l.length->j<l.length->i≠j->o (l.getD i d) (l.getD j d)≠0
theorem tD (g:SO o) (l:List α):Dst o d l↔l.Pairwise λa b=>o a b≠0:=by
 have e:∀i (h:i<l.length),l.getD i d=l[i]:=λi h=>by rw[AS,AT h];rfl
 rw[Sl];constructor
 .intro h i j hi c f;have:=h i j hi c oa
  rwa [e i hi,e j c]at this
 intro h i j hi c f;rw[e i hi,e j c];rcases Nat.lt_or_gt_of_ne f with h1|h1
 .exact h i j hi c h1
 have k:=h j i c hi h1;rw[g.anti];omega
theorem Dst.perm (c:SO o) {l r:List α} (h:Dst o d l) (e:r.Perm l):Dst o d r:=by
 rw[tD c]at h ⊢;refine(e.symm.pairwise_iff ?_).1 h;intro a b f;rw[c.anti];omega
theorem Dst.lt (c:SO o) {l:List α} (h:Dst o d l) {i j:Nat} (hi:i<l.length) (b:j<l.length) (a:i≠j) (hn:¬o (l.getD i d) (l.getD j d)<0):o (l.getD j d) (l.getD i d)<0:=by
 have h1:=h i j hi b a;rw[c.anti];omega
def tE (o:α->α->Int) (d:α) (a b:Nat) (l:List α):Prop:=∀i j,a<=i->i<j->j<b->o (l.getD i d) (l.getD j d)<0
theorem A58 (a:Nat) (l:List α):tE o d a (a+1) l:=λi j h1 b c=>by omega
theorem Za {a b:Nat} {l r:List α} (h:tE o d a b l) (e:∀k,a<=k->k<b->r.getD k d=l.getD k d):tE o d a b r:=λi j h1 f c=>by
 rw[e i h1 oa,e j oa c];exact h i j h1 f c
def A2n (o:α->α->Int) (d:α) (a i j:Nat) (m:List α):Prop:=(∀x y,a<=x->x<y->y<=i->x≠j->y≠j->o (m.getD x d) (m.getD y d)<0)/\∀y,j<y->y<=i->o (m.getD j d) (m.getD y d)<0
theorem oW {a i:Nat} {m:List α} (h:tE o d a i m):A2n o d a i i m:=⟨λx y h0 h1 b c e=>h x y h0 h1 oa,λy h1 b=>by omega⟩
theorem A2o (e:SO o) {a i j:Nat} {m:List α} (h:A2n o d a i j m) (g:a<=j) (k:j<=i) (b:j=a\/o (m.getD (j-1) d) (m.getD j d)<0):tE o d a (i+1) m:=by
 intro x y h0 h1 f;by_cases e1:x=j
 .subst e1;exact h.2 y h1 oa
 by_cases e2:y=j
 .subst e2;rcases b with b|b
  .omega
  by_cases c:x=y-1
  .subst c;exact b
  exact e.trans (h.1 x (y-1) h0 oa oa e1 oa) b
 exact h.1 x y h0 h1 oa e1 e2
theorem x6 {a i j:Nat} {m:List α} (h:A2n o d a i j m) (h0:a<j) (k:j<=i) (hi:i<m.length) (g:o (m.getD j d) (m.getD (j-1) d)<0):A2n o d a i (j-1) (i8 d m j (j-1)):=by
 have c:=i9 (d:=d) (l:=m) (i:=j) (j:=j-1) oa oa;refine⟨λx y hx h1 b e f=>?_,λy h1 b=>?_⟩
 .rw[c x,c y,BY e,BY f];by_cases e1:x=j
  .subst e1;rw[DO rfl,BY oa];exact h.1 (x-1) y oa oa b oa oa
  rw[BY e1];by_cases e2:y=j
  .rw[DO e2];exact h.1 x (j-1) hx oa oa e1 oa
  rw[BY e2];exact h.1 x y hx h1 b e1 e2
 rw[c (j-1),c y,DO rfl,BY oa];by_cases e2:y=j
 .rw[DO e2];exact g
 rw[BY e2];exact h.2 y oa b
structure PtE (o:α->α->Int) (d:α) (a b p:Nat) (m:List α):Prop where
 l:a<=p
 r:p<b
 lo:∀x,a<=x->x<p->o (m.getD x d) (m.getD p d)<0
 hi:∀x,p<x->x<b->o (m.getD p d) (m.getD x d)<0
structure Cut (o:α->α->Int) (d:α) (a0 b0 a b:Nat) (m:List α):Prop where
 s1:tE o d a0 a m
 s2:tE o d b b0 m
 c1:∀x y,a0<=x->x<a->a<=y->y<b0->o (m.getD x d) (m.getD y d)<0
 c2:∀x y,a0<=x->x<b->b<=y->y<b0->o (m.getD x d) (m.getD y d)<0
 ab:a0<=a/\a<=b/\b<=b0
theorem Cut.pin {n p a b:Nat} {m r:List α} (h:Cut o d n p a b m) (g:ZZ d a b m r):Cut o d n p a b r:=by
 obtain⟨A,C,B⟩:=h.ab;have key:∀(P:α->Prop) (lo hi:Nat),lo<=a->b<=hi->(∀y,lo<=y->y<hi->P (m.getD y d))->∀y,lo<=y->y<hi->P (r.getD y d):=λP lo hi h1 q s y c f=>by
  obtain⟨j,t,u,e⟩:=(g.mono h1 q).inn y c f;rw[e];exact s j t u
 refine⟨Za h.s1 λk v w=>g.out k oa,Za h.s2 λk v w=>g.out k oa,λx y i l c f=>?_,λx y i l c f=>?_,h.ab⟩
 .rw[g.out x oa];exact key (λz=>o (m.getD x d) z<0) a p (No _) B (λy c f=>h.c1 x y i l c f) y c f
 rw[g.out y oa];exact key (λz=>o z (m.getD y d)<0) n b A (No _) (λx i l=>h.c2 x y i l c f) x i l
theorem Cut.done {g k a b:Nat} {m:List α} (h:Cut o d g k a b m) (hs:tE o d a b m):tE o d g k m:=by
 obtain⟨n,p,q⟩:=h.ab;intro i j h1 c e;by_cases hi:i<a
 .by_cases f:j<a
  .exact h.s1 i j h1 c f
  exact h.c1 i j h1 hi oa e
 by_cases f:j<b
 .exact hs i j oa c f
 by_cases l:i<b
 .exact h.c2 i j h1 l oa e
 exact h.s2 i j oa c e
theorem Cut.left (t:SO o) {f g a b p:Nat} {m:List α} (h:Cut o d f g a b m) (c:PtE o d a b p m) (hs:tE o d a p m):Cut o d f g (p+1) b m:=by
 obtain⟨w,z,A⟩:=h.ab;have hl:=c.l;have v:=c.r;refine⟨λi j h1 k u=>?_,h.s2,λx y n B C q=>?_,h.c2,by omega⟩
 .by_cases hi:i<a
  .by_cases e:j<a
   .exact h.s1 i j h1 k e
   exact h.c1 i j h1 hi oa oa
  by_cases e:j=p
  .rw[e];exact c.lo i oa oa
  exact hs i j oa k oa
 by_cases hx:x<a
 .exact h.c1 x y n hx oa q
 by_cases hy:y<b
 .by_cases s:x=p
  .rw[s];exact c.hi y oa hy
  exact t.trans (c.lo x oa oa) (c.hi y oa hy)
 exact h.c2 x y n oa oa q
theorem Cut.right (w:SO o) {k n a b p:Nat} {m:List α} (h:Cut o d k n a b m) (c:PtE o d a b p m) (hs:tE o d (p+1) b m):Cut o d k n a p m:=by
 obtain⟨A,B,C⟩:=h.ab;have hl:=c.l;have z:=c.r;refine⟨h.s1,λi j h1 q s=>?_,λx y e f u g=>h.c1 x y e f u g,λx y e f u g=>?_,by omega⟩
 .by_cases t:j<b
  .by_cases hi:i=p
   .rw[hi];exact c.hi j oa t
   exact hs i j oa q t
  by_cases v:i<b
  .exact h.c2 i j oa v oa s
  exact h.s2 i j oa q s
 by_cases hy:y<b
 .by_cases hx:x<a
  .exact h.c1 x y e hx oa g
  by_cases hyp:y=p
  .rw[hyp];exact c.lo x oa f
  exact w.trans (c.lo x oa f) (c.hi y oa hy)
 exact h.c2 x y e oa oa g
def Bf (o:α->α->Int) (d:α) (a b:Nat) (m:List α):Prop:=a=0\/∀y,a<=y->y<b->o (m.getD (a-1) d) (m.getD y d)<0
theorem Bf.pin {a b:Nat} {m r:List α} (h:Bf o d a b m) (c:ZZ d a b m r):Bf o d a b r:=by
 rcases h with h|h
 .exact .inl h
 by_cases h0:a=0
 .exact .inl h0
 right;intro y i k;rw[c.out (a-1) oa];obtain⟨j,f,g,e⟩:=c.inn y i k;rw[e];exact h j f g
theorem Bf.sub {a b c:Nat} {m:List α} (h:Bf o d a b m) (hb:c<=b):Bf o d a c m:=h.imp id λh y e f=>h y e oa
end
section
def oX:Ab:={ ins:=[T3],pre:=λ_=>True,out:=λ_=>[.p .bool false] }
attribute [local go_sem] oX
def QW (a b:Int):Int:=if a<b then -1 else if b<a then 1 else 0
def Gv:Ab:={ ins:=[T3,T3],pre:=λ_=>True,out:=λ(a,b,_)=>[.p T3 (QW a b)] }
attribute [local go_sem] Gv
def IV:Ab:={ ins:=[A2,A2],pre:=λ_=>True,out:=λ(a,b,_)=>[.p T3 (QW (Prod.fst a) (Prod.fst b))] }
attribute [local go_sem] IV
theorem A2q:Ag Tryz.prog 224 oX:=by
 refine fK [0,2] Tryz.func224 Tryz.ntmps224 AI ?_;rintro w0 O0 ⟨x,u⟩ a - -;simp only[oX,AN];repeat'(first|exact trivial|apply eS rfl|refine rX a ?_ ?_)
 exact fI a [.tmp 2]
theorem YU:Ag Tryz.prog 208 Gv:=by
 refine fK [0,1,4,5,6,11,12,13,16,19] Tryz.func208 Tryz.ntmps208 (AF A2q AI) ?_;rintro w0 O0 ⟨a,b,u⟩ c - -;simp only[Gv,AN];repeat'(first|exact trivial|apply eS rfl|refine rX c ?_ ?_|refine rC ?_ ?_<;>intro d<;>try(cases d;done))
 .have e:QW a b=-1:=DO d;exact fI c [.tmp 4] (by rw[e];exact eR)
 .have e:QW a b=1:=by unfold QW;rw[BY oa,DO d]
  exact fI c [.tmp 4] (by rw[e];exact eR)
 have e:QW a b=0:=by unfold QW;rw[BY oa,BY oa]
 exact fI c [.tmp 4] (by rw[e];exact eR)
theorem Ks:Ag Tryz.prog 192 IV:=by
 refine fK [0,1,2,3,4] Tryz.func192 Tryz.ntmps192 (AF YU AI) ?_;rintro w0 O0 ⟨a,b,u⟩ c - -;simp only[IV,AN];repeat'(first|exact trivial|apply eS rfl|refine rX c ?_ ?_)
 exact fI c [.tmp 4]
def MS (l:List (Int×Int)):Prop:=∀i,i+1<l.length->(l.getD i (0,0)).1<(l.getD (i+1) (0,0)).1
end
section
attribute [local go_sem] IV
def Rx (a b:Int×Int):Int:=QW a.1 b.1
theorem tF:SO Rx:=⟨λa b=>by unfold Rx QW;(repeat' split)<;>omega,λ{a b c} h1 d=>by
 unfold Rx QW at *
 (repeat' split at h1)<;>(repeat' split at d)<;>(repeat' split)<;>omega⟩
theorem A59 (l:List (Int×Int)) (hl:l.length<=100000) (z:Dst Rx (0,0) l) (a b:Nat) (H:a<=100000) (hb:b<=l.length):BT Tryz.prog 232 [.sr 1000000 A2 0 l.length,.p T3 (a:Int),.p T3 (b:Int),.fn 192] [(1000000,.arr 106 A2 l)] [1000000] (λres F=>res=.raw (.tuple #[])/\∃r,F=[(1000000,.arr 106 A2 r)]/\ZZ (0,0) a b l r/\tE Rx (0,0) a b r):=by
 refine Nk [0,1,2,3,8,9,14,34] [] [] Tryz.func232 Tryz.ntmps232 (AF Ks AI) ?_;intro w0 K O0 ρ0 d M N;simp only[A1];repeat'(first|exact trivial|apply eS rfl|apply AC|refine rX d ?_ ?_|refine rC ?_ ?_<;>intro e<;>try(cases e;done))
 .omega
 refine AL (ι:={s:Nat×List (Int×Int)//a+1<=s.1/\(s.1=a+1\/s.1<=b)/\ZZ (0,0) a b l s.2/\tE Rx (0,0) a s.1 s.2}) (λs=>⟨[(0,.sr 1000000 A2 0 l.length),(1,.p T3 (a:Int)),(2,.p T3 (b:Int)),(3,.fn 192),(8,.p (.int .i64) (s.1.1:Int))],[(1000000,.arr 106 A2 s.1.2)]⟩) (λs=>b-s.1.1) ⟨(a+1,l),No _,.inl rfl,ZZ.refl a b l,A58 a l⟩ (AD [(1000000,.nm 1000000)] rfl rfl ?_ ?_) (λs=>?_)
 .first|exact eN|refine eM ?_
 .first|exact eN|refine eM ?_
 obtain⟨⟨i,m⟩,B,C,n,hs⟩:=s;simp only at B C n hs ⊢;have L:=n.len;repeat'(first|exact trivial|apply eS rfl|apply AC|refine rX d ?_ ?_|refine rC ?_ ?_<;>intro e<;>try(cases e;done))
 .have D:i<b:=by exact eV
  refine AL (ι:={t:Nat×List (Int×Int)//a<=t.1/\t.1<=i/\ZZ (0,0) a b l t.2/\A2n Rx (0,0) a i t.1 t.2}) (λt=>⟨[(0,.sr 1000000 A2 0 l.length),(1,.p T3 (a:Int)),(2,.p T3 (b:Int)),(3,.fn 192),(8,.p (.int .i64) (i:Int)),(9,.p (.int .i64) (t.1.1:Int))],[(1000000,.arr 106 A2 t.1.2)]⟩) (λt=>t.1.1) ⟨(i,m),by omega,No i,n,oW hs⟩ (AD [(1000000,.nm 1000000)] rfl rfl ?_ ?_) (λt=>?_)
  .first|exact eN|refine eM ?_
  .first|exact eN|refine eM ?_
  obtain⟨⟨j,c⟩,ha,u,g,q⟩:=t;simp only at ha u g q ⊢;have I:=g.len;have A:=z.perm tF g.perm;repeat'(first|exact trivial|apply eS rfl|apply AC|refine rX d ?_ ?_)
  .dsimp only[Ty.den]at *;exact⟨λ_=>by omega,λ_=>⟨by omega,by omega⟩,λ_=>⟨by omega,by omega⟩⟩
  have o:a<j->((j:Int)-1).toNat=j-1:=λ_=>by omega
  refine Vh (by simp only[go_sem,Nat.reduceEqDiff,reduceCtorEq,Nat.reduceAdd,Nat.reduceSub,Nat.reduceMul,Nat.reduceLeDiff,Nat.reduceLT,Int.reduceLE,Int.reduceToNat,Int.reduceNeg,↓reduceIte];rfl) ?_ ?_
  .intro f;simp only[An,Is]at f;have k:a<j:=by omega
   have v:Rx (c.getD j (0,0)) (c.getD ((j:Int)-1).toNat (0,0))<0:=f.2;rw[o k]at v;have E:i8 (0,0) c j (j-1)=(c.set j (c.getD (j-1) (0,0))).set (j-1) (c.getD j (0,0)):=rfl;repeat'(first|exact trivial|apply eS rfl|apply AC|refine rP d ?_ ?_|fail)
   (refine HB drawsAny d 16 [([0,1,5,6,7,8,9,10,11,12,13,14],15)] [2,3,4] (by kernel_rfl) (Uk ?_ ?_);(next=>exact mW);refine WM d [] ?_ ?_;(next=>exact mW);refine wU d ?_ ?_ ?_;(next=>exact mW);(next=>exact mW))
   rw[o k];repeat'(first|exact trivial|apply eS rfl|apply AC|refine rX d ?_ ?_|refine rC ?_ ?_<;>intro e<;>try(cases e;done))
   .dsimp only[Ty.den]at *;omega
   refine⟨⟨(j-1,i8 (0,0) c j (j-1)),by simp only;omega,by simp only;omega,g.trans (ZZ.swap c oa oa oa oa oa),x6 q k u oa v⟩,by simp only;omega,AD [(1000000,.nm 1000000)] rfl rfl ?_ ?_⟩
   .simp only;rw[E];first|exact eN|refine eM ?_
   simp only;rw[show ((j-1:Nat):Int)=(j:Int)-1 by omega];first|exact eN|refine eM ?_
  intro f;have hd:j=a\/Rx (c.getD (j-1) (0,0)) (c.getD j (0,0))<0:=by
   by_cases k:j=a
   .exact .inl k
   right;simp only[AAZ,Sd]at f;rw[o oa]at f;rcases f with h|h
   .omega
   exact A.lt tF oa oa oa h
  repeat'(first|exact trivial|apply eS rfl|apply AC|refine rX d ?_ ?_|refine rC ?_ ?_<;>intro e<;>try(cases e;done))
  .exact eV
  refine⟨⟨(i+1,c),by simp only;omega,.inr D,g,A2o tF q ha u hd⟩,by simp only;omega,AD [(1000000,.nm 1000000)] rfl rfl ?_ ?_⟩
  .first|exact eN|refine eM ?_
  first|exact eN|refine eM ?_
 have J:b<=i:=by exact eV
 exact fM d [] (.raw (.tuple #[])) rfl ⟨rfl,m,rfl,n,λx y h1 w G=>hs x y h1 w oa⟩
end
def Ba (f:List AB):Nat->List Int->Int->List Int
 | 0,o,_=>o
 | k+1,o,n=>(f.getD n.toNat (0,[])).2.foldl (λo a=>if a.2∈o then o else Ba f k o a.2) (o++[n])
def AX (f:List AB) (k:Nat) (o:List Int) (a:Int×Int):List Int:=if a.2∈o then o else Ba f k o a.2
theorem Bv (f:List AB) (k:Nat) (o:List Int) (n:Int):Ba f (k+1) o n=(f.getD n.toNat (0,[])).2.foldl (AX f k) (o++[n]):=rfl
structure JA (f:List AB) (o:List Int):Prop where
 nd:o.Nodup
 rng:∀x∈o,0<=x/\x<(f.length:Int)
theorem JA.len {f:List AB} {o:List Int} (h:JA f o):o.length<=f.length:=by
 have h1:(o.map Int.toNat).Nodup:=by
  rw[List.Nodup,iF];refine h.nd.imp_of_mem λ{a b} ha hb d e=>d ?_;have:=h.rng a ha;have:=h.rng b hb;omega
 have:=DY f.length (o.map Int.toNat) h1 (λj c=>by
  obtain⟨x,hx,rfl⟩:=Y1.1 c;have:=h.rng x hx;omega)
 simpa using this
theorem JA.snoc {f:List AB} {o:List Int} (h:JA f o) {n:Int} (h0:0<=n) (h1:n<f.length) (hn:n∉o):JA f (o++[n]):=by
 refine⟨?_,λx hx=>?_⟩
 .rw[iN];refine⟨h.nd,by simp,λa ha b hb=>?_⟩;grind
 rcases Do.1 hx with hx|hx
 .exact h.rng x hx
 grind
theorem D8 {f:List AB} {k:Nat} (g:∀(o:List Int) (n:Int),JA f o->0<=n->n<f.length->n∉o->JA f (Ba f k o n)/\o <+: Ba f k o n) :
  ∀(l:List (Int×Int)) (o:List Int),(∀a∈l,0<=a.2/\a.2<(f.length:Int))->JA f o->JA f (l.foldl (AX f k) o)/\o <+: l.foldl (AX f k) o
 | [],o,_,h=>⟨h,AAn _⟩
 | a :: l,o,hl,h=>by
  simp only[SU];have c:JA f (AX f k o a)/\o <+: AX f k o a:=by grind [AX]
  obtain⟨d,e⟩:=D8 g l _ (λb hb=>hl b (by simp[hb])) c.1;exact⟨d,c.2.trans e⟩
theorem Af {f:List AB} (hf:AO f) {n:Int} {a:Int×Int} (ha:a∈(f.getD n.toNat (0,[])).2):0<=a.2/\a.2<f.length:=by
 by_cases h:n.toNat<f.length
 .have b:f.getD n.toNat (0,[])∈f:=by
   rw[AS,AT h];exact aT h
  exact(hf.2 _ b).2 a ha
 grind
theorem DR {f:List AB} (hf:AO f):∀(k:Nat) (o:List Int) (n:Int),JA f o->0<=n->n<f.length->n∉o->JA f (Ba f k o n)/\o <+: Ba f k o n
 | 0,o,n,h,_,_,_=>⟨h,AAn _⟩
 | k+1,o,n,h,h0,h1,d=>by
  obtain⟨b,c⟩:=D8 (DR hf k) _ _ (λa ha=>Af hf ha) (h.snoc h0 h1 d);rw[Bv];exact⟨b,(ABR o [n]).trans c⟩
theorem IW {f:List AB} (hf:AO f):∀(k:Nat) (o:List Int) (n:Int),JA f o->0<=n->n<f.length->n∉o->f.length-o.length<=k ->
  n∈Ba f k o n/\∀x∈Ba f k o n,x∈o\/∀a∈(f.getD x.toNat (0,[])).2,a.2∈Ba f k o n
 | 0,o,n,h,h0,h1,g,hk=>by
  have:=(h.snoc h0 h1 g).len;grind
 | k+1,o,n,h,h0,h1,g,hk=>by
  have key:∀(l:List (Int×Int)) (t:List Int),(∀a∈l,0<=a.2/\a.2<(f.length:Int))->JA f t->f.length-t.length<=k ->
    (∀a∈l,a.2∈l.foldl (AX f k) t)/\∀x∈l.foldl (AX f k) t,x∈t\/∀a∈(f.getD x.toNat (0,[])).2,a.2∈l.foldl (AX f k) t:=by
   intro l;induction l with
   | nil=>exact λt _ _ _=>⟨λa ha=>(by cases ha),λx hx=>.inl hx⟩
   | cons a l p =>
    intro t hl ht j;simp only[SU];have m:JA f (AX f k t a)/\t <+: AX f k t a/\a.2∈AX f k t a/\∀x∈AX f k t a,x∈t\/∀b∈(f.getD x.toNat (0,[])).2,b.2∈AX f k t a:=by
     unfold AX;split
     .grind
     rename_i hn;have q:=hl a sc;obtain⟨c,d⟩:=DR hf k t a.2 ht q.1 q.2 hn;obtain⟨e,i⟩:=IW hf k t a.2 ht q.1 q.2 hn j;exact⟨c,d,e,i⟩
    obtain⟨c,d,e,i⟩:=m;have r:=d.length_le;obtain⟨s,u⟩:=p (AX f k t a) (λb hb=>hl b (by simp[hb])) c oa;obtain⟨_,v⟩:=D8 (DR hf k) l (AX f k t a) (λb hb=>hl b (by simp[hb])) c;refine⟨λb hb=>?_,λx hx=>?_⟩
    .grind
    grind
  have hs:=h.snoc h0 h1 g;obtain⟨c,d⟩:=key (f.getD n.toNat (0,[])).2 (o++[n]) (λa ha=>Af hf ha) hs (by simp only[As,If];omega);obtain⟨_,e⟩:=D8 (DR hf k) (f.getD n.toNat (0,[])).2 (o++[n]) (λa ha=>Af hf ha) hs;rw[Bv];refine⟨e.subset sc,λx hx=>?_⟩;grind
def Ax (o:List Int) (x:Int):Int:=if x∈o then (o.idxOf x:Int) else 0
def Fg (o:List Int) (a:Int×Int):Int×Int:=(a.1,Ax o a.2)
def CG (f:List AB) (o:List Int) (n:Int):AB:=((f.getD n.toNat (0,[])).1,(f.getD n.toNat (0,[])).2.map (Fg o))
def AH (f:List AB) (root:Int):List AB:=(Ba f f.length [] root).map (CG f (Ba f f.length [] root))
def IX (f:List AB):Prop:=∀x∈f,MS x.2/\x.2.length<=200
theorem oY {f:List AB} (hf:IX f) (n:Int):MS (f.getD n.toNat (0,[])).2/\(f.getD n.toNat (0,[])).2.length<=200:=by
 by_cases h:n.toNat<f.length
 .have a:f.getD n.toNat (0,[])∈f:=by
   rw[AS,AT h];exact aT h
  exact hf _ a
 rw[AS,Si oa];exact⟨λi hi=>by simp at hi,by simp⟩
theorem Fa {l:List (Int×Int)} (h:MS l):AZ l=l:=by
 have key:∀i,i<=l.length->AZ (l.take i)=l.take i:=by
  intro i;induction i with
  | zero=>intro _;rfl
  | succ i d =>
   intro hi;rw[Aw l (0,0) oa,Hg,d oa];have b:(l.take i).length=i:=by rw[OS];omega
   have c:Hf (l.getD i (0,0)) (l.take i) (l.take i).length=(l.take i).length:=by
    rw[b];cases i with
    | zero=>rfl
    | succ i =>
     have h1:=h i oa;have a:(l.take (i+1)).getD i (0,0)=l.getD i (0,0):=by grind
     simp only[Hf];rw[a,BY oa]
   unfold NT;rw[c,SW,AAV,UL]
 have:=key l.length (No _)
 rwa [SW]at this
structure LM (f:List AB) (num o:List Int):Prop where
 len:num.length=f.length
 get:∀j,j<f.length->num.getD j 0=if (j:Int)∈o then (o.idxOf (j:Int):Int) else -1
theorem LM.neg {f:List AB} {num o:List Int} (h:LM f num o) {n:Int} (h0:0<=n) (h1:n<f.length):num.getD n.toNat 0<0↔n∉o:=by
 have:=h.get n.toNat oa;grind
theorem x7 {o:List Int} {n:Int} (h:n∉o):(o++[n]).idxOf n=o.length:=by rw[AC1,BY h];simp
theorem LM.snoc {f:List AB} {num o:List Int} (h:LM f num o) {n:Int} (h0:0<=n) (h1:n<f.length) (hn:n∉o):LM f (num.set n.toNat (o.length:Int)) (o++[n]):=by
 refine⟨by simpa using h.len,λj a=>?_⟩;have c:j<num.length:=by rw[h.len];exact a
 by_cases e:j=n.toNat
 .grind
 have en:¬(j:Int)=n:=by omega
 simp only[AS];rw[List.getElem?_set_ne (λb=>e b.symm)];have:=h.get j a;grind
theorem XL {f:List AB} (hf:AO f) (hs:IX f):∀(k:Nat) (s:List Int×List Int) (n:Int),LM f s.1 s.2->JA f s.2->0<=n->n<f.length->n∉s.2->(Dt f k s n).2=Ba f k s.2 n/\LM f (Dt f k s n).1 (Dt f k s n).2
 | 0,s,n,h,_,_,_,_=>⟨rfl,h⟩
 | k+1,s,n,h,hd,h0,h1,g=>by
  have key:∀(l:List (Int×Int)) (t:List Int×List Int),(∀a∈l,0<=a.2/\a.2<(f.length:Int))->LM f t.1 t.2->JA f t.2->(l.foldl (EU f k) t).2=l.foldl (AX f k) t.2/\LM f (l.foldl (EU f k) t).1 (l.foldl (EU f k) t).2:=by
   intro l;induction l with
   | nil=>exact λt _ ht _=>⟨rfl,ht⟩
   | cons a l u =>
    intro t hl ht i;simp only[SU];have q:=hl a sc;have o:=ht.neg q.1 q.2;have p:(EU f k t a).2=AX f k t.2 a/\LM f (EU f k t a).1 (EU f k t a).2/\JA f (EU f k t a).2:=by
     unfold EU AX;by_cases d:a.2∈t.2
     .grind
     rw[BY d,DO (by rw[o];exact d)];obtain⟨c,e⟩:=XL hf hs k t a.2 ht i q.1 q.2 d;exact⟨c,e,by rw[c];exact(DR hf k t.2 a.2 i q.1 q.2 d).1⟩
    obtain⟨c,e,m⟩:=p;obtain⟨j,r⟩:=u (EU f k t a) (λb hb=>hl b (by simp[hb])) e m;rw[c]at j;exact⟨j,r⟩
  rw[FZ,Bv,Fa (oY hs n).1];exact key _ (s.1.set n.toNat (s.2.length:Int),s.2++[n]) (λa ha=>Af hf ha) (h.snoc h0 h1 g) (hd.snoc h0 h1 g)
theorem MT {f:List AB} (hf:AO f) (hs:IX f) {root:Int} (h0:0<=root) (h1:root<f.length):I9 f root=AH f root:=by
 have h:LM f (List.replicate f.length (-1)) []:=⟨by simp,λj g=>by simp[AS,AAN,g]⟩;have d:JA f []:=⟨by simp,λx hx=>by cases hx⟩;obtain⟨c,b⟩:=XL hf hs f.length (List.replicate f.length (-1),[]) root h d h0 h1 sc;have c:(GH f root).2=Ba f f.length [] root:=c;have b:LM f (GH f root).1 (GH f root).2:=b;have i:=(IW hf f.length [] root d h0 h1 sc sc).2;have k:=(DR hf f.length [] root d h0 h1 sc).1;unfold I9 AH;rw[c]at b ⊢;generalize Ba f f.length [] root=o at *;refine Of λx hx=>?_;unfold MQ CG;rw[Fa (oY hs x).1];refine oN _ (Of λa ha=>?_);unfold YT Fg Ax;have e:a.2∈o:=by grind
 have l:=Af hf ha;have:=b.get a.2.toNat oa;rw[show ((a.2.toNat:Nat):Int)=a.2 by omega]at this;rw[this,DO e,DO e]
def lN (o:List Int):List (Int×Int):=(List.range o.length).map λi=>(o.getD i 0,(i:Int))
theorem jA (o:List Int) (n:Int):lN (o++[n])=lN o++[(n,(o.length:Int))]:=by
 unfold lN;rw[As,If,oF,UK]
 congr 1
 .refine Of λi hi=>?_;grind
 simp[AS]
theorem x8 (k:Int) (a b:List (Int×Int)):BX T3 T3 k (a++b)=(BX T3 T3 k a).or (BX T3 T3 k b):=by
 induction a with
 | nil=>rfl
 | cons x a c =>
  simp only[AAo,BX];split
  .rfl
  exact c
theorem EE {α:Type} {p:List α->Prop} (h0:p []) (h1:∀l a,p l->p (l++[a])) (l:List α):p l:=by
 have:∀n (l:List α),l.length=n->p l:=by
  intro n;induction n with
  | zero=>intro l hl;rw[List.length_eq_zero_iff.1 hl];exact h0
  | succ n c =>
   intro l hl;have b:l≠[]:=by intro e;subst e;simp at hl
   rw[<-List.dropLast_concat_getLast b];exact h1 _ _ (c _ (by simp[hl]))
 exact this _ l rfl
theorem Ry (o:List Int) (x:Int):BX T3 T3 x (lN o)=if x∈o then some (o.idxOf x:Int) else none:=by
 induction o using EE with
 | h0=>rfl
 | h1 o n a =>
  rw[jA,x8,a];by_cases hx:x∈o
  .grind
  grind [x7,BX,Ii]
theorem x9 (k v:Int) (l:List (Int×Int)) (h:BX T3 T3 k l=none):Fh T3 T3 k v l=l++[(k,v)]:=by
 induction l with
 | nil=>rfl
 | cons x l a =>
  simp only[BX]at h;simp only[Fh,AAo];split at h
  .cases h
  grind
theorem jB {o:List Int} {n:Int} (hn:n∉o):Fh T3 T3 n (o.length:Int) (lN o)=lN (o++[n]):=by grind [x9,Ry,jA]
theorem tG (o:List Int) (x:Int):(BX T3 T3 x (lN o)).getD 0=Ax o x:=by grind [Ry,Ax]
theorem Kt (o:List Int) (x:Int):(BX T3 T3 x (lN o)).isSome=decide (x∈o):=by
 rw[Ry];split<;>simp[*]
def yA (l:List (Int×Int)):Prop:=l.Pairwise λa b=>a.1≠b.1
def LtA (l:List (Int×Int)):Prop:=l.Pairwise λa b=>a.1<b.1
theorem Zb (x:Int×Int) (s:List (Int×Int)):∀n,(∀j,Hf x s n<=j->j<n->x.1<(s.getD j (0,0)).1)/\(Hf x s n=0\/¬x.1<(s.getD (Hf x s n-1) (0,0)).1)
 | 0=>⟨λj h1 a=>by omega,.inl rfl⟩
 | n+1=>by
  obtain⟨h1,a⟩:=Zb x s n;unfold Hf;split
  .rename_i h;refine⟨λj b c=>?_,a⟩;by_cases e:j=n
   .rw[e];exact h
   exact h1 j b oa
  rename_i h;exact⟨λj b c=>by omega,.inr (by simpa using h)⟩
theorem A5a {s:List (Int×Int)} (hs:LtA s) {x:Int×Int} (hx:∀a∈s,a.1≠x.1):LtA (NT s x):=by
 obtain⟨h1,c⟩:=Zb x s s.length;have l:=Ur x s s.length;unfold NT;generalize Hf x s s.length=p at *;have d:=hs;unfold LtA at d;rw[<-AAL p s,AAq]at d;have g:∀i (h:i<s.length),s.getD i (0,0)=s[i]:=λi h=>by rw[AS,AT h];rfl
 have k:∀a∈s.take p,a.1<x.1:=by
  intro a ha;rcases c with c|c
  .subst c;simp at ha
  obtain⟨i,hi,rfl⟩:=AAi.1 ha;rw[OS]at hi;rw[List.getElem_take];by_cases n:p=0
  .omega
  have f:p-1<s.length:=by omega
  rw[g (p-1) f]at c;have m:=hx s[p-1] (aT f);by_cases e:i=p-1
  .subst e;omega
  have:=(Sl.1 hs) i (p-1) oa f oa;omega
 have j:∀a∈s.drop p,x.1<a.1:=by
  intro a ha;obtain⟨i,hi,rfl⟩:=AAi.1 ha;rw[aS]at hi;rw[List.getElem_drop,<-g (p+i) oa];exact h1 (p+i) oa oa
 unfold LtA;rw[SZ,AAq];refine⟨d.1,?_,λa ha b hb=>?_⟩
 .rw[List.singleton_append,Sm];exact⟨j,d.2.1⟩
 rcases At.1 (by simpa using hb:b∈x :: s.drop p) with rfl|hb
 .exact k a ha
 exact d.2.2 a ha b hb
theorem Oy {l:List (Int×Int)} (h:yA l):LtA (AZ l):=by
 induction l using EE with
 | h0=>exact List.Pairwise.nil
 | h1 l a c =>
  unfold yA at h;rw[AAq]at h;rw[Hg];exact A5a (c h.1) λb hb=>h.2.2 b ((Eq l).mem_iff.1 hb) a sc
theorem yB {l r:List (Int×Int)} (d:r.Perm l) (h1:LtA r) (c:LtA l):r=l :=
 List.Perm.eq_of_pairwise (le:=λa b:Int×Int=>a.1<b.1) (λa b _ _ e f=>by omega) h1 c d
theorem tH {l:List (Int×Int)} (h:LtA l):MS l:=by
 intro i hi;have a:∀i (h:i<l.length),l.getD i (0,0)=l[i]:=λi h=>by rw[AS,AT h];rfl
 rw[a i oa,a (i+1) hi];exact(Sl.1 h) i (i+1) oa hi oa
theorem A2r {l:List (Int×Int)} (h:MS l):LtA l:=by
 refine Sl.2 λi j hi f k=>?_;have c:∀i (h:i<l.length),l.getD i (0,0)=l[i]:=λi h=>by rw[AS,AT h];rfl
 have key:∀d i,i+d+1<l.length->(l.getD i (0,0)).1<(l.getD (i+d+1) (0,0)).1:=by
  intro d;induction d with
  | zero=>exact λi hi=>h i hi
  | succ d g =>
   intro i hi;have a:=g i oa;have b:=h (i+d+1) oa;have e:i+(d+1)+1=i+d+1+1:=by omega
   rw[e];omega
 have:=key (j-i-1) i oa;rw[show i+(j-i-1)+1=j by omega,c i hi,c j f]at this;exact this
theorem A7v {l:List (Int×Int)} (h:LtA l):yA l:=h.imp λg=>by omega
theorem A7w {l:List (Int×Int)} (h:yA l):Dst Rx (0,0) l:=by
 rw[tD tF];refine h.imp λ{a b} g e=>g ?_;unfold Rx QW at e;split at e
 .omega
 split at e<;>omega
theorem oZ {l r:List (Int×Int)} (h:yA l) (c:r.Perm l) (hs:tE Rx (0,0) 0 l.length r):r=AZ l:=by
 refine yB (c.trans (Eq l).symm) (Sl.2 λi j hi b d=>?_) (Oy h);have a:∀i (h:i<r.length),r.getD i (0,0)=r[i]:=λi h=>by rw[AS,AT h];rfl
 have:=hs i j (ON _) d (by rw[<-c.length_eq];exact b);rw[a i hi,a j b]at this;unfold Rx QW at this;split at this
 .assumption
 split at this<;>omega
theorem MU {l:List (Int×Int)} (h:yA l):AZ (AZ l)=AZ l:=Fa (tH (Oy h))
def SS (l:List (Int×Int)):Prop:=l.length<=200/\(l.length<=12\/MS l)
def NdF (f:List AB):Prop:=∀x∈f,yA x.2/\SS x.2
def DS (f:List AB):List AB:=f.map λx=>(x.1,AZ x.2)
theorem F3 (f:List AB):(DS f).length=f.length:=OF _
theorem QX (f:List AB) (n:Nat):(DS f).getD n (0,[])=((f.getD n (0,[])).1,AZ (f.getD n (0,[])).2):=by
 unfold DS;simp only[AS,nO];cases f[n]?<;>rfl
theorem Rz {f:List AB} (h:AO f):AO (DS f):=by
 refine⟨by rw[F3];exact h.1,λx hx=>?_⟩;obtain⟨y,hy,rfl⟩:=Y1.1 hx;obtain⟨b,c⟩:=h.2 y hy;refine⟨by simp only[CO];exact b,λa ha=>?_⟩;rw[F3];exact c a ((Eq _).mem_iff.1 ha)
theorem A2s {f:List AB} (h:NdF f):IX (DS f):=by
 intro x hx;obtain⟨y,hy,rfl⟩:=Y1.1 hx;obtain⟨a,b⟩:=h y hy;exact⟨tH (Oy a),by simp only[CO];exact b.1⟩
theorem yC {f:List AB} (h:IX f):DS f=f:=by
 unfold DS
 conv=>rhs;rw[<-List.map_id f]
 refine Of λx hx=>?_;rw[Fa (h x hx).1];rfl
theorem A7x {f:List AB} (h:IX f):NdF f:=λx hx=>⟨A7v (A2r (h x hx).1),(h x hx).2,.inr (h x hx).1⟩
theorem tI {f:List AB} (hf:NdF f) (n:Int):yA (f.getD n.toNat (0,[])).2/\SS (f.getD n.toNat (0,[])).2:=by
 by_cases h:n.toNat<f.length
 .have a:f.getD n.toNat (0,[])∈f:=by
   rw[AS,AT h];exact aT h
  exact hf _ a
 rw[AS,Si oa];exact⟨List.Pairwise.nil,by simp,.inl sc⟩
theorem Tc {f:List AB} (h:NdF f):∀(k:Nat) (s:List Int×List Int) (n:Int),Dt (DS f) k s n=Dt f k s n
 | 0,_,_=>rfl
 | k+1,s,n=>by
  rw[FZ,FZ,QX];simp only;rw[MU (tI h n).1];refine oN (λg=>List.foldl g _ _) ?_;funext s a;unfold EU;rw[Tc h k s a.2]
theorem yD {f:List AB} (h:NdF f) (r:Int):I9 (DS f) r=I9 f r:=by
 have ht:GH (DS f) r=GH f r:=by
  unfold GH;rw[F3,Tc h]
 unfold I9;rw[ht];refine Of λn _=>?_;unfold MQ;rw[QX];simp only;rw[MU (tI h n).1]
theorem Td {f:List AB} (hf:AO f) (hn:NdF f) {root:Int} (h0:0<=root) (h1:root<f.length):I9 f root=AH (DS f) root:=by
 rw[<-yD hn];exact MT (Rz hf) (A2s hn) h0 (by rw[F3];exact h1)
section
attribute [local go_sem] IV
theorem A2t {l:List (Int×Int)} (h:MS l) {i j:Nat} (c:i<j) (a:j<l.length):(l.getD i (0,0)).1<(l.getD j (0,0)).1:=by
 induction j with
 | zero=>omega
 | succ j b =>
  have h1:=h j a;by_cases e:i=j
  .rw[e];exact h1
  exact Int.lt_trans (b oa oa) h1
theorem o0 {x y:Int} (h:y<x) (a:QW x y<0):False:=by
 unfold QW at a
 (repeat' split at a)<;>omega
def GX (l:List (Int×Int)) (s:Nat):List (Nat×Obj):=[(1000000,.arr 106 A2 l),(70,.box 3 false [.p T3 (s:Int)])]
theorem XM (l:List (Int×Int)) (h:MS l) (a b s:Nat) (ab:a<b) (f:b<l.length) (hs:s<=1000):BT Tryz.prog 251 [.sr 1000000 A2 0 l.length,.p T3 (a:Int),.p T3 (b:Int),.bp 70 [] 0,.fn 192] (GX l s) [1000000,70] (λres g=>res=.tup [.p T3 (a:Int),.p T3 (b:Int)]/\g=GX l s):=by
 refine Nk [0,1,2,3,4,10,11,22] [] [] Tryz.func251 Tryz.ntmps251 (AF Ks AI) ?_;intro w0 K O0 ρ0 d j k;simp only[A1,GX];have i:a<l.length:=by omega
 have e:=A2t h ab f;repeat'(first|exact trivial|apply eS rfl|apply AC|refine rX d ?_ ?_|refine rC ?_ ?_<;>intro c<;>try(cases c;done))
 .exact mW
 .exact(o0 e c).elim
 .exact(o0 e c).elim
 exact fM d [.tmp 10,.tmp 11] (.tup [.p T3 (a:Int),.p T3 (b:Int)]) eT ⟨rfl,rfl⟩
theorem cL (l:List (Int×Int)) (f:MS l) (a b c s:Nat) (ab:a<b) (g:b<c) (cl:c<l.length) (hs:s<=900):BT Tryz.prog 248 [.sr 1000000 A2 0 l.length,.p T3 (a:Int),.p T3 (b:Int),.p T3 (c:Int),.bp 70 [] 0,.fn 192] (GX l s) [1000000,70] (λres h=>res=.p T3 (b:Int)/\h=GX l s):=by
 refine Nk [0,1,2,3,4,5,12] [] [] Tryz.func248 Tryz.ntmps248 AI ?_;intro w0 K O0 ρ0 d i j;simp only[A1,GX];repeat'(first|exact trivial|apply eS rfl|apply AC|refine rX d ?_ ?_|refine rC ?_ ?_<;>intro e<;>try(cases e;done))
 refine cP 5 d ?_ ?_
 .trivial
 refine rM d (XM l f a b s ab oa oa) [(1000000,.nm 1000000),(70,.nm 70)] [] ?_ ?_ ?_
 .first|exact eN|refine eM ?_
 .simp only[GX];first|exact eN|refine eM ?_
 rintro _ _ ⟨rfl,rfl⟩;refine⟨[(1000000,.nm 1000000),(70,.nm 70)],.tup [.p T3 (a:Int),.p T3 (b:Int)],[(1000000,.arr 106 A2 l),(70,.box 3 false [.p T3 (s:Int)])],rfl,rfl,?_,?_,rfl,rfl,?_⟩
 .simp only[GX];first|exact eN|refine eM ?_
 .first|exact eN|refine eM ?_
 refine rL d ?_ ?_
 .trivial
 repeat'(first|exact trivial|apply eS rfl|apply AC|refine rX d ?_ ?_|refine rC ?_ ?_<;>intro e<;>try(cases e;done))
 refine cP 5 d ?_ ?_
 .trivial
 refine rM d (XM l f b c s g cl oa) [(1000000,.nm 1000000),(70,.nm 70)] [] ?_ ?_ ?_
 .first|exact eN|refine eM ?_
 .simp only[GX];first|exact eN|refine eM ?_
 rintro _ _ ⟨rfl,rfl⟩;refine⟨[(1000000,.nm 1000000),(70,.nm 70)],.tup [.p T3 (b:Int),.p T3 (c:Int)],[(1000000,.arr 106 A2 l),(70,.box 3 false [.p T3 (s:Int)])],rfl,rfl,?_,?_,rfl,rfl,?_⟩
 .simp only[GX];first|exact eN|refine eM ?_
 .first|exact eN|refine eM ?_
 refine rL d ?_ ?_
 .trivial
 repeat'(first|exact trivial|apply eS rfl|apply AC|refine rX d ?_ ?_|refine rC ?_ ?_<;>intro e<;>try(cases e;done))
 refine cP 5 d ?_ ?_
 .trivial
 refine rM d (XM l f a b s ab oa oa) [(1000000,.nm 1000000),(70,.nm 70)] [] ?_ ?_ ?_
 .first|exact eN|refine eM ?_
 .simp only[GX];first|exact eN|refine eM ?_
 rintro _ _ ⟨rfl,rfl⟩;refine⟨[(1000000,.nm 1000000),(70,.nm 70)],.tup [.p T3 (a:Int),.p T3 (b:Int)],[(1000000,.arr 106 A2 l),(70,.box 3 false [.p T3 (s:Int)])],rfl,rfl,?_,?_,rfl,rfl,?_⟩
 .simp only[GX];first|exact eN|refine eM ?_
 .first|exact eN|refine eM ?_
 refine rL d ?_ ?_
 .trivial
 repeat'(first|exact trivial|apply eS rfl|apply AC|refine rX d ?_ ?_|refine rC ?_ ?_<;>intro e<;>try(cases e;done))
 exact fM d [.tmp 12] (.p T3 (b:Int)) eT ⟨rfl,rfl⟩
theorem cM (l:List (Int×Int)) (f:MS l) (b s:Nat) (g:1<=b) (d:b+1<l.length) (hl:l.length<=100000) (hs:s<=900):BT Tryz.prog 247 [.sr 1000000 A2 0 l.length,.p T3 (b:Int),.bp 70 [] 0,.fn 192] (GX l s) [1000000,70] (λres e=>res=.p T3 (b:Int)/\e=GX l s):=by
 refine Nk [0,1,2,3,8] [] [] Tryz.func247 Tryz.ntmps247 AI ?_;intro w0 K O0 ρ0 a h i;simp only[A1,GX];have key:=cL l f (b-1) b (b+1) s oa oa d hs;rw[show ((b-1:Nat):Int)=(b:Int)-1 by omega,show ((b+1:Nat):Int)=(b:Int)+1 by omega]at key;repeat'(first|exact trivial|apply eS rfl|apply AC|refine rX a ?_ ?_|refine rC ?_ ?_<;>intro c<;>try(cases c;done))
 refine cP 8 a ?_ ?_
 .exact mW
 refine rM a (key) [(1000000,.nm 1000000),(70,.nm 70)] [] ?_ ?_ ?_
 .first|exact eN|refine eM ?_
 .simp only[GX];first|exact eN|refine eM ?_
 rintro _ _ ⟨rfl,rfl⟩;refine⟨[(1000000,.nm 1000000),(70,.nm 70)],.p T3 (b:Int),[(1000000,.arr 106 A2 l),(70,.box 3 false [.p T3 (s:Int)])],rfl,rfl,?_,?_,rfl,rfl,?_⟩
 .simp only[GX];first|exact eN|refine eM ?_
 .first|exact eN|refine eM ?_
 refine rL a ?_ ?_
 .trivial
 repeat'(first|exact trivial|apply eS rfl|apply AC|refine rX a ?_ ?_|refine rC ?_ ?_<;>intro c<;>try(cases c;done))
 exact fM a [.tmp 8] (.p T3 (b:Int)) eT ⟨rfl,rfl⟩
theorem A5b (l:List (Int×Int)) (hl:l.length<=100000) (d:MS l) (a b:Nat) (h:a+13<=b) (hb:b<=l.length):BT Tryz.prog 235 [.sr 1000000 A2 0 l.length,.p T3 (a:Int),.p T3 (b:Int),.fn 192] [(1000000,.arr 106 A2 l)] [1000000] (λres g=>(∃j:Nat,res=.tup [.p T3 (j:Int),.p T3 (1:Int)])/\g=[(1000000,.arr 106 A2 l)]):=by
 refine Nk [0,1,2,3,8,9,10,11,12,13,14,34,36,55,57,60] [] [] Tryz.func235 Tryz.ntmps235 AI ?_;intro w0 K O0 ρ0 c i k;simp only[A1];obtain⟨t,ht⟩:∃t,t=(b-a) / 4:=⟨_,rfl⟩;have et:((b:Int)-(a:Int)).tdiv 4=(t:Int):=by
  rw[AAD oa];omega
 have m:4*t<=b-a:=by omega
 have n:3<=t:=by omega
 clear ht
 (apply eS rfl;refine rX c ?_ ?_;(next=>first|exact trivial|exact mW))
 (apply eS rfl;refine rX c ?_ ?_;(next=>first|exact trivial|exact mW))
 (apply eS rfl;refine rX c ?_ ?_;(next=>first|exact trivial|exact mW))
 (apply eS rfl;refine rX c ?_ ?_;(next=>first|exact trivial|exact mW|(rw[et];refine⟨⟨by decide,?_⟩,?_,?_⟩<;>omega)))
 (apply eS rfl;refine rX c ?_ ?_;(next=>first|exact trivial|exact mW|(rw[et];refine⟨⟨by decide,?_⟩,?_,?_⟩<;>omega)))
 (apply eS rfl;refine rX c ?_ ?_;(next=>first|exact trivial|exact mW|(rw[et];refine⟨⟨by decide,?_⟩,?_,?_⟩<;>omega)))
 rw[et,show (a:Int)+(t:Int)*1=((a+t:Nat):Int) by omega,show (a:Int)+(t:Int)*2=((a+t*2:Nat):Int) by omega,show (a:Int)+(t:Int)*3=((a+t*3:Nat):Int) by omega];refine Vf ?_;refine A4s (ι:=Unit) (λ_=>⟨[(11,.bp 11 [] 0),(13,.p T3 ((a+t*2:Nat):Int))],[(1000000,.arr 106 A2 l),(11,.box 3 false [.p T3 (0:Int)])]⟩) ?_ (λx=>?_)
 .repeat'(first|exact trivial|apply eS rfl|apply AC|refine rX c ?_ ?_)
  refine rC ?_ ?_<;>intro e
  .repeat'(first|exact trivial|apply eS rfl|apply AC|refine rX c ?_ ?_)
   refine rC (λf=>?_) (λf=>?_)
   .repeat'(first|exact trivial|apply eS rfl|apply AC|refine rP c ?_ ?_|fail)
    refine cP 3 c ?_ ?_
    .trivial
    refine rM c (cM l d (a+t) 0 oa oa hl oa) [(1000000,.nm 1000000),(70,.nm 11)] [] ?_ ?_ ?_
    .first|exact eN|refine eM ?_
    .simp only[GX];first|exact eN|refine eM ?_
    rintro _ _ ⟨rfl,rfl⟩;refine⟨[(1000000,.nm 1000000),(11,.nm 70)],.p T3 ((a+t:Nat):Int),[(1000000,.arr 106 A2 l),(11,.box 3 false [.p T3 (0:Int)])],rfl,rfl,?_,?_,rfl,rfl,?_⟩
    .simp only[GX];first|exact eN|refine eM ?_
    .first|exact eN|refine eM ?_
    refine rL c ?_ ?_
    .trivial
    repeat'(first|exact trivial|apply eS rfl|apply AC|refine rX c ?_ ?_)
    refine cP 3 c ?_ ?_
    .trivial
    refine rM c (cM l d (a+t*2) 0 oa oa hl oa) [(1000000,.nm 1000000),(70,.nm 11)] [] ?_ ?_ ?_
    .first|exact eN|refine eM ?_
    .simp only[GX];first|exact eN|refine eM ?_
    rintro _ _ ⟨rfl,rfl⟩;refine⟨[(1000000,.nm 1000000),(11,.nm 70)],.p T3 ((a+t*2:Nat):Int),[(1000000,.arr 106 A2 l),(11,.box 3 false [.p T3 (0:Int)])],rfl,rfl,?_,?_,rfl,rfl,?_⟩
    .simp only[GX];first|exact eN|refine eM ?_
    .first|exact eN|refine eM ?_
    refine rL c ?_ ?_
    .trivial
    repeat'(first|exact trivial|apply eS rfl|apply AC|refine rX c ?_ ?_)
    refine cP 3 c ?_ ?_
    .trivial
    refine rM c (cM l d (a+t*3) 0 oa oa hl oa) [(1000000,.nm 1000000),(70,.nm 11)] [] ?_ ?_ ?_
    .first|exact eN|refine eM ?_
    .simp only[GX];first|exact eN|refine eM ?_
    rintro _ _ ⟨rfl,rfl⟩;refine⟨[(1000000,.nm 1000000),(11,.nm 70)],.p T3 ((a+t*3:Nat):Int),[(1000000,.arr 106 A2 l),(11,.box 3 false [.p T3 (0:Int)])],rfl,rfl,?_,?_,rfl,rfl,?_⟩
    .simp only[GX];first|exact eN|refine eM ?_
    .first|exact eN|refine eM ?_
    refine rL c ?_ ?_
    .trivial
    repeat'(first|exact trivial|apply eS rfl|apply AC|refine rX c ?_ ?_)
    refine cP 5 c ?_ ?_
    .trivial
    refine rM c (cL l d (a+t) (a+t*2) (a+t*3) 0 oa oa oa oa) [(1000000,.nm 1000000),(70,.nm 11)] [] ?_ ?_ ?_
    .first|exact eN|refine eM ?_
    .simp only[GX];first|exact eN|refine eM ?_
    rintro _ _ ⟨rfl,rfl⟩;refine⟨[(1000000,.nm 1000000),(11,.nm 70)],.p T3 ((a+t*2:Nat):Int),[(1000000,.arr 106 A2 l),(11,.box 3 false [.p T3 (0:Int)])],rfl,rfl,?_,?_,rfl,rfl,?_⟩
    .simp only[GX];first|exact eN|refine eM ?_
    .first|exact eN|refine eM ?_
    refine rL c ?_ ?_
    .trivial
    repeat'(first|exact trivial|apply eS rfl|apply AC|refine rX c ?_ ?_)
    refine⟨(),AD [(1000000,.nm 1000000),(11,.nm 11)] rfl rfl ?_ ?_⟩
    .first|exact eN|refine eM ?_
    first|exact eN|refine eM ?_
   repeat'(first|exact trivial|apply eS rfl|apply AC|refine rP c ?_ ?_|fail)
   refine cP 5 c ?_ ?_
   .trivial
   refine rM c (cL l d (a+t) (a+t*2) (a+t*3) 0 oa oa oa oa) [(1000000,.nm 1000000),(70,.nm 11)] [] ?_ ?_ ?_
   .first|exact eN|refine eM ?_
   .simp only[GX];first|exact eN|refine eM ?_
   rintro _ _ ⟨rfl,rfl⟩;refine⟨[(1000000,.nm 1000000),(11,.nm 70)],.p T3 ((a+t*2:Nat):Int),[(1000000,.arr 106 A2 l),(11,.box 3 false [.p T3 (0:Int)])],rfl,rfl,?_,?_,rfl,rfl,?_⟩
   .simp only[GX];first|exact eN|refine eM ?_
   .first|exact eN|refine eM ?_
   refine rL c ?_ ?_
   .trivial
   repeat'(first|exact trivial|apply eS rfl|apply AC|refine rX c ?_ ?_)
   refine⟨(),AD [(1000000,.nm 1000000),(11,.nm 11)] rfl rfl ?_ ?_⟩
   .first|exact eN|refine eM ?_
   first|exact eN|refine eM ?_
  exfalso;omega
 repeat'(first|exact trivial|apply eS rfl|apply AC|refine rX c ?_ ?_|refine rC ?_ ?_<;>intro e<;>try(cases e;done))
 refine Ev.ent (σ':=⟨[(8,.p T3 ((a+t*2:Nat):Int)),(9,.p T3 (1:Int))],[(1000000,.arr 106 A2 l)]⟩) ?_ (AD [(1000000,.nm 1000000)] rfl rfl ?_ ?_)
 .exact fM c [.tmp 8,.tmp 9] (.tup [.p T3 ((a+t*2:Nat):Int),.p T3 (1:Int)]) eT ⟨⟨_,rfl⟩,rfl⟩
 .first|exact eN|refine eM ?_
 first|exact eN|refine eM ?_
theorem A5c (l:List (Int×Int)) (hl:l.length<=100000) (o:MS l) (n0:0<l.length):BT Tryz.prog 237 [.sr 1000000 A2 0 l.length,.p T3 (0:Int),.p T3 (l.length:Int),.fn 192] [(1000000,.arr 106 A2 l)] [1000000] (λres n=>res=.p .bool true/\n=[(1000000,.arr 106 A2 l)]):=by
 refine Nk [0,1,2,3,8,9,10,11,12,16,36,41,45,65,69,84,104,109,124] [] [] Tryz.func237 Tryz.ntmps237 (AF Ks AI) ?_;intro w0 K O0 ρ0 a r t;simp only[A1];repeat'(first|exact trivial|apply eS rfl|apply AC|refine rX a ?_ ?_|refine rC ?_ ?_<;>intro c<;>try(cases c;done))
 .exact mW
 refine AL (ι:=Unit) (λs=>⟨[(0,.sr 1000000 A2 0 l.length),(1,.p T3 (0:Int)),(2,.p T3 (l.length:Int)),(3,.fn 192),(9,.p (.int .i64) (1:Int)),(10,.p (.int .i64) (0:Int))],[(1000000,.arr 106 A2 l)]⟩) (λs=>0) () (AD [(1000000,.nm 1000000)] rfl rfl ?_ ?_) (λs=>?_)
 .first|exact eN|refine eM ?_
 .first|exact eN|refine eM ?_
  rfl
 repeat'(first|exact trivial|apply eS rfl|apply AC|refine rX a ?_ ?_)
 refine rC ?_ ?_<;>intro c
 .repeat'(first|exact trivial|apply eS rfl|apply AC|refine rX a ?_ ?_)
  refine AL (ι:={k:Nat//1<=k/\k<=l.length}) (λs=>⟨[(0,.sr 1000000 A2 0 l.length),(1,.p T3 (0:Int)),(2,.p T3 (l.length:Int)),(3,.fn 192),(9,.p (.int .i64) (s.1:Int)),(10,.p (.int .i64) (0:Int))],[(1000000,.arr 106 A2 l)]⟩) (λs=>l.length-s.1) ⟨1,No _,n0⟩ (AD [(1000000,.nm 1000000)] rfl rfl ?_ ?_) (λs=>?_)
  .first|exact eN|refine eM ?_
  .first|exact eN|refine eM ?_
   rfl
  obtain⟨k,e,f⟩:=s;simp only at e f ⊢;have d:((k:Int)-1).toNat=k-1:=by omega
  repeat'(first|exact trivial|apply eS rfl|apply AC|refine rX a ?_ ?_)
  .dsimp only[Ty.den];exact⟨λ_=>by omega,λ_=>by omega,λ_=>by omega⟩
  refine Vh (by simp only[go_sem,Nat.reduceEqDiff,reduceCtorEq,Nat.reduceAdd,Nat.reduceSub,Nat.reduceMul,Nat.reduceLeDiff,Nat.reduceLT,Int.reduceLE,Int.reduceToNat,Int.reduceNeg,↓reduceIte];rfl) ?_ ?_
  .intro b;simp only[An,Is,Sa,Sd]at b;obtain⟨h1,q⟩:=b;repeat'(first|exact trivial|apply eS rfl|apply AC|refine rX a ?_ ?_)
   .exact mW
   refine⟨⟨k+1,by omega,by omega⟩,by simp only;omega,AD [(1000000,.nm 1000000)] rfl rfl ?_ ?_⟩
   .first|exact eN|refine eM ?_
   first|exact eN|refine eM ?_
  intro b;rw[d]at b;have g:k=l.length:=by
   refine IS λhn=>?_;have m:=A2t o (i:=k-1) (j:=k) oa oa;simp only[AAZ,Sd,ABg,Is]at b;rcases b with h|h
   .omega
   exact o0 m h
  subst g;clear b;repeat'(first|exact trivial|apply eS rfl|apply AC|refine rX a ?_ ?_|refine rC ?_ ?_<;>intro c<;>try(cases c;done))
  exact fM a [.tmp 8] (.p .bool true) eT ⟨rfl,rfl⟩
 exfalso;simp at c
theorem A5d (l:List (Int×Int)) (hl:l.length<=200) (nd:yA l) (u:l.length<=12\/MS l) (c:Int) (m:13<=l.length->c≠0):BT Tryz.prog 229 [.sr 1000000 A2 0 l.length,.p T3 (0:Int),.p T3 (l.length:Int),.p T3 c,.fn 192] [(1000000,.arr 106 A2 l)] [1000000] (λres t=>res=.raw (.tuple #[])/\t=[(1000000,.arr 106 A2 (AZ l))]):=by
 refine Nk [0,1,2,3,4,10,11,12,13,14,15,16,17,18,19,20,25,32,39,56,75,80,97,125] [] [] Tryz.func229 Tryz.ntmps229 AI ?_;intro w0 K O0 ρ0 a v w;simp only[A1];repeat'(first|exact trivial|apply eS rfl|apply AC|refine rX a ?_ ?_)
 refine AL (ι:=Unit) (λs=>⟨[(0,.sr 1000000 A2 0 l.length),(1,.p T3 (0:Int)),(2,.p T3 (l.length:Int)),(3,.p T3 c),(4,.fn 192),(10,.p .bool true),(11,.p .bool true)],[(1000000,.arr 106 A2 l)]⟩) (λs=>0) () (AD [(1000000,.nm 1000000)] rfl rfl ?_ ?_) (λs=>?_)
 .first|exact eN|refine eM ?_
 .first|exact eN|refine eM ?_
 repeat'(first|exact trivial|apply eS rfl|apply AC|refine rX a ?_ ?_)
 .exact mW
 refine rC ?_ ?_<;>intro b
 .have key:=A59 l oa (A7w nd) 0 l.length oa (No _);rw[show ((0:Nat):Int)=0 from rfl]at key;repeat'(first|exact trivial|apply eS rfl|apply AC|refine rX a ?_ ?_)
  refine cP 4 a ?_ ?_
  .trivial
  refine rM a (key) [(1000000,.nm 1000000)] [] ?_ ?_ ?_
  .first|exact eN|refine eM ?_
  .first|exact eN|refine eM ?_
  rintro _ _ ⟨rfl,r,rfl,n,o⟩;have h:=oZ nd n.perm o;subst h;have x:=CO l;refine⟨[(1000000,.nm 1000000)],.raw (.tuple #[]),[(1000000,.arr 106 A2 (AZ l))],rfl,rfl,?_,?_,rfl,rfl,Cu ?_⟩
  .first|exact eN|refine eM ?_
  .first|exact eN|refine eM ?_
  repeat'(first|exact trivial|apply eS rfl|apply AC|refine rX a ?_ ?_|refine rC ?_ ?_<;>intro b<;>try(cases b;done))
  exact fM a [] (.raw (.tuple #[])) rfl ⟨rfl,rfl⟩
 have i:13<=l.length:=by omega
 have hs:MS l:=u.resolve_left oa;have k:=m i;rw[Fa hs];repeat'(first|exact trivial|apply eS rfl|apply AC|refine rX a ?_ ?_)
 refine rC (λd=>?_) (λd=>?_)
 .exact absurd d k
 have key:=A5b l oa hs 0 l.length oa (No _);rw[show ((0:Nat):Int)=0 from rfl]at key;have q:=A5c l oa hs oa;repeat'(first|exact trivial|apply eS rfl|apply AC|refine rX a ?_ ?_)
 refine rC (λe=>?_) (λe=>?_)
 .cases e
 repeat'(first|exact trivial|apply eS rfl|apply AC|refine rX a ?_ ?_)
 refine cP 4 a ?_ ?_
 .trivial
 refine rM a (key) [(1000000,.nm 1000000)] [] ?_ ?_ ?_
 .first|exact eN|refine eM ?_
 .first|exact eN|refine eM ?_
 rintro _ _ ⟨⟨j,rfl⟩,rfl⟩;refine⟨[(1000000,.nm 1000000)],.tup [.p T3 (j:Int),.p T3 (1:Int)],[(1000000,.arr 106 A2 l)],rfl,rfl,?_,?_,rfl,rfl,?_⟩
 .first|exact eN|refine eM ?_
 .first|exact eN|refine eM ?_
 refine rL a ?_ ?_
 .trivial
 repeat'(first|exact trivial|apply eS rfl|apply AC|refine rX a ?_ ?_)
 refine rC (λf=>?_) (λf=>?_)
 .exact absurd f dc
 repeat'(first|exact trivial|apply eS rfl|apply AC|refine rX a ?_ ?_)
 refine rC (λg=>?_) (λg=>?_)
 .repeat'(first|exact trivial|apply eS rfl|apply AC|refine rX a ?_ ?_)
  refine cP 4 a ?_ ?_
  .trivial
  refine rM a (q) [(1000000,.nm 1000000)] [] ?_ ?_ ?_
  .first|exact eN|refine eM ?_
  .first|exact eN|refine eM ?_
  rintro _ _ ⟨rfl,rfl⟩;refine⟨[(1000000,.nm 1000000)],.p .bool true,[(1000000,.arr 106 A2 l)],rfl,rfl,?_,?_,rfl,rfl,Cu ?_⟩
  .first|exact eN|refine eM ?_
  .first|exact eN|refine eM ?_
  repeat'(first|exact trivial|apply eS rfl|apply AC|refine rX a ?_ ?_|refine rC ?_ ?_<;>intro b<;>try(cases b;done))
  exact fM a [] (.raw (.tuple #[])) rfl ⟨rfl,rfl⟩
 exact absurd g dc
end
theorem QY {L:Go.Loop} (h1:L.state=.ready) (a:L.pending=none):{ { L with state:=.busy } with state:=.ready,pending:=none }=L:=by
 cases L;simp_all
theorem Zc (l:List (Int×Int)):BT Tryz.prog 191 [.p DK l] [] [] (λres b=>res=.clo 216 [1]/\b=[(1,.box 91 false [.p DK l])]):=by
 refine Nk [0,1,2] [] [] Tryz.func191 Tryz.ntmps191 AI ?_;intro w0 K O0 ρ0 a c d;simp only[A1];repeat'(first|exact trivial|apply eS rfl|refine rX a ?_ ?_)
 exact fM a [.tmp 2] (.clo 216 [1]) eT ⟨rfl,rfl⟩
def CL (l:List (Int×Int)) (L:Go.Loop) (a:Array Value) (i:Nat):List (Nat×Obj):=[(1,.box 91 false [.p DK l]),(101,.loop L),(102,.frame a [(2,.bp 2 [] 0),(6,.clo 216 [1])]),(2,.box 91 false [.sr 7 A2 0 i]),(7,.arr 106 A2 (l.take i))]
theorem o4 (l:List (Int×Int)) (hl:l.length<=100000) (L:Go.Loop) (b:Array Value) (f:∀i,i<l.length->WI Tryz.prog 101 [.p A2 (l.getD i (0,0))] (CL l L b i) [1,101,102,2] (λres e=>res=.p .bool true/\e=CL l L b (i+1))) :
  BT Tryz.prog 216 [.yl 101,.bp 1 [] 0] (CL l L b 0) [1,101,102,2] (λres e=>res=.raw (.tuple #[])/\e=CL l L b l.length):=by
 refine Nk [0,1,4,5,6,7,8,14] [] [] Tryz.func216 Tryz.ntmps216 AI ?_;intro w0 K O0 ρ0 a g h;simp only[A1,CL];repeat'(first|exact trivial|apply eS rfl|refine rX a ?_ ?_)
 refine AL (ι:={i:Nat//i<=l.length}) (λi=>⟨[(0,.yl 101),(1,.bp 1 [] 0),(5,.p DK l),(6,.p (.int .i64) (l.length:Int)),(7,.p (.int .i64) (i.1:Int))],CL l L b i.1⟩) (λi=>l.length-i.1) ⟨0,by omega⟩ (AD [(1,.nm 1),(101,.nm 101),(102,.nm 102),(2,.nm 2),(7,.nm 7)] rfl rfl ?_ ?_) (λi=>?_)
 .simp only[CL];exact eN
 .exact eN
 obtain⟨i,hi⟩:=i;simp only[CL];repeat'(first|exact trivial|apply eS rfl|refine rX a ?_ ?_|refine rC ?_ ?_<;>intro c<;>try(cases c;done))
 .exact eV
 .have d:i<l.length:=by exact eV
  refine cP 2 a ?_ ?_
  .trivial
  refine rY 101 101 a (f i d) [(1,.nm 1),(101,.nm 101),(102,.nm 102),(2,.nm 2),(7,.nm 7)] [7] ?_ ?_ ?_
  .exact eN
  .simp only[CL];exact eN
  rintro _ _ ⟨rfl,rfl⟩;refine⟨[(1,.nm 1),(101,.nm 101),(102,.nm 102),(2,.nm 2),(7,.nm 7)],.p .bool true,CL l L b (i+1),rfl,rfl,?_,?_,rfl,rfl,?_⟩
  .simp only[CL];exact eN
  .exact eN
  simp only[CL];refine Gl [0,1,5,6,7,14] a (by simp only[go_sem,Nat.reduceEqDiff,reduceCtorEq,Nat.reduceAdd,Nat.reduceSub,Nat.reduceMul,Nat.reduceLeDiff,Nat.reduceLT,Int.reduceLE,Int.reduceToNat,Int.reduceNeg,↓reduceIte];rfl) ?_ ?_
  .trivial
  repeat'(first|apply eS rfl|apply AC|refine rX a ?_ ?_|refine rC ?_ ?_<;>intro c<;>try(cases c;done))
  .exact eV
  refine⟨⟨i+1,by omega⟩,by simp only;omega,AD [(1,.nm 1),(101,.nm 101),(102,.nm 102),(2,.nm 2),(7,.nm 7)] rfl rfl ?_ ?_⟩
  .simp only[CL];exact eN
  exact eN
 have d:i=l.length:=by exact eV
 subst d;refine fM a [] (.raw (.tuple #[])) rfl ⟨rfl,?_⟩;simp only[CL,SW]
theorem cN (l:List (Int×Int)) (hl:l.length<=100000):BT Tryz.prog 228 [.raw (.slice none 0 0),.clo 216 [1]] [(1,.box 91 false [.p DK l])] [] (λres n=>res=.sr 7 A2 0 l.length/\n=[(7,.arr 106 A2 l)]):=by
 refine fKR [0,1,2,4,5,6,7] [] [] Tryz.func228 Tryz.ntmps228 AI ?_;intro w0 K O0 ρ0 a r s;simp only[A1];repeat'(first|exact trivial|apply eS rfl|refine rX a ?_ ?_)
 refine WK a rfl rfl (by simp only[go_sem,Nat.reduceEqDiff,reduceCtorEq,Nat.reduceAdd,Nat.reduceSub,Nat.reduceMul,Nat.reduceLeDiff,Nat.reduceLT,Int.reduceLE,Int.reduceToNat,Int.reduceNeg,↓reduceIte];rfl) 101 103 102 rfl rfl rfl rfl ?_;intro L c d f g h j k m;refine⟨_,CL l L c 0,[1,101,102,2],_,[(1,.nm 1),(101,.nm 101),(102,.nm 102),(2,.nm 2),(7,.nil)],[],o4 l hl L c ?_,rfl,rfl,?_,?_,rfl,?_⟩
 .intro i hi;refine WJ (fr:=102) rfl rfl d h j k g m rfl (by kernel_rfl) sc rfl rfl (by kernel_rfl) (by kernel_rfl) (tyTab_ok [] [0,1,2,4,5,6,7]) AI ?_;intro v o q w lb a t u hb;simp only[CL,HC];repeat'(first|exact trivial|apply AC|refine rX a ?_ ?_)
  refine⟨rfl,?_⟩;repeat'(first|apply eS rfl|refine rX a ?_ ?_)
  .simp only[AP];omega
  have e:List.take i (List.take i l)++[((l.getD i (0,0)).1,(l.getD i (0,0)).2)]=l.take (i+1):=by
   rw[Aw l (0,0) hi,By (Nat.le_of_eq (by rw[OS];omega):(l.take i).length<=i)]
  refine Ev.ent (σ':=⟨[],[(1,.box 91 false [.p DK l]),(101,.loop { L with state:=.busy }),(102,.frame c [(2,.bp 2 [] 0),(6,.clo 216 [1])]),(2,.box 91 false [.sr 7 A2 0 (i+1)]),(7,.arr 106 A2 (l.take (i+1)))]⟩) ?_ (AD [(1,.nm 1),(101,.nm 101),(102,.nm 102),(2,.nm 2),(7,.nm 7)] rfl rfl ?_ ?_)
  .refine M5 a (yn:=101) rfl rfl sc hb ⟨rfl,?_⟩;simp only[CL,go_sem,Nat.reduceEqDiff,reduceCtorEq,Nat.reduceAdd,Nat.reduceSub,Nat.reduceMul,Nat.reduceLeDiff,Nat.reduceLT,Int.reduceLE,Int.reduceToNat,Int.reduceNeg,↓reduceIte,QY d f]
  .refine eM ?_;exact e
  exact eN
 .simp only[BG];exact eN
 .simp only[BG,CL];exact eN
 rintro _ _ ⟨rfl,rfl⟩;refine⟨[(1,.nm 1),(101,.nm 101),(102,.nm 102),(2,.nm 2),(7,.nm 7)],CL l L c l.length,L,rfl,rfl,?_,rfl,rfl,rfl,by rw[d];rfl,?_⟩
 .simp only[CL];exact eN
 intro b;rw[f];simp only[EvJ,CL,BG,go_sem,Nat.reduceEqDiff,reduceCtorEq,Nat.reduceAdd,Nat.reduceSub,Nat.reduceMul,Nat.reduceLeDiff,Nat.reduceLT,Int.reduceLE,Int.reduceToNat,Int.reduceNeg,↓reduceIte];replace a:=Hs (dn:=103) (b:=b) a;repeat'(first|exact trivial|apply eS rfl|refine rX a ?_ ?_)
 refine Ev.ent (σ':=⟨[(4,.sr 7 A2 0 l.length)],[(7,.arr 106 A2 l),(103,.dfr)]⟩) ?_ (AD [(7,.nm 7),(103,.nm 103)] rfl rfl ?_ ?_)
 .exact Jq a [.tmp 4] rfl (.inl rfl) rfl rfl (.sr 7 A2 0 l.length) eT ⟨rfl,by simp only[go_sem,Nat.reduceEqDiff,reduceCtorEq,Nat.reduceAdd,Nat.reduceSub,Nat.reduceMul,Nat.reduceLeDiff,Nat.reduceLT,Int.reduceLE,Int.reduceToNat,Int.reduceNeg,↓reduceIte]⟩
 .exact eN
 exact eN
theorem o5 (l:List (Int×Int)) (hl:l.length<=100000):BT Tryz.prog 214 [.clo 216 [1]] [(1,.box 91 false [.p DK l])] [] (λres b=>res=.sr 7 A2 0 l.length/\b=[(7,.arr 106 A2 l)]):=by
 refine Nk [0,2] [] [] Tryz.func214 Tryz.ntmps214 AI ?_;intro w0 K O0 ρ0 a c d;simp only[A1];repeat'(first|exact trivial|apply eS rfl|refine rX a ?_ ?_)
 refine cP 1 a ?_ ?_
 .trivial
 refine rM a (cN l hl) [(1,.nm 1)] [1] ?_ ?_ ?_
 .exact eN
 .exact eN
 rintro _ _ ⟨rfl,rfl⟩;refine⟨[(7,.nm 7)],.sr 7 A2 0 l.length,[(7,.arr 106 A2 l)],rfl,rfl,?_,?_,rfl,rfl,?_⟩
 .exact eN
 .exact eN
 refine Gl [2] a (by simp only[go_sem,Nat.reduceEqDiff,reduceCtorEq,Nat.reduceAdd,Nat.reduceSub,Nat.reduceMul,Nat.reduceLeDiff,Nat.reduceLT,Int.reduceLE,Int.reduceToNat,Int.reduceNeg,↓reduceIte];rfl) ?_ ?_
 .trivial
 repeat' apply eS rfl
 exact fM a [.tmp 2] (.sr 7 A2 0 l.length) eT ⟨rfl,rfl⟩
theorem A2u (x:Int) (h0:0<=x) (h1:x<256):BT Tryz.prog 241 [.p (.int .u64) x] [] [] (λres g=>(∃n:Int,res=.p T3 n/\(13<=x->n≠0))/\g=[]):=by
 refine Nk [0,2,4,8,14] [] [] Tryz.func241 Tryz.ntmps241 AI ?_;intro w0 K O0 ρ0 a i j;simp only[A1];repeat'(first|exact trivial|apply eS rfl|refine rX a ?_ ?_|refine rC ?_ ?_<;>intro b<;>try(cases b;done))
 all_goals first|(exfalso;omega)|skip
 refine Ly [0,2] a rfl (by simp only[go_sem,Nat.reduceEqDiff,reduceCtorEq,Nat.reduceAdd,Nat.reduceSub,Nat.reduceMul,Nat.reduceLeDiff,Nat.reduceLT,Int.reduceLE,Int.reduceToNat,Int.reduceNeg,↓reduceIte,ByteArray.size,List.size_toArray,AP];rfl) ?_ ?_
 .have hu:∀u:UInt8,((u.toNat:Nat):Int)<=255:=λu=>by have:=u.toNat_lt;omega
  refine⟨⟨h0,by omega⟩,⟨h0,?_⟩,⟨?_,?_⟩,?_,?_⟩
  .have c:x<((256:Nat):Int):=h1;exact c
  .exact AAv dc (AAr _)
  .exact AAv (hu _) dc
  .rw[ACa];exact AAv dc (AAr _)
  rw[ACa];exact AAv (hu _) dc
 repeat' apply eS rfl
 refine fM a [.tmp 2] (.p T3 _) (by simp only[TE,wF,RN,Yu,KZ,KY,JJ,go_sem,Nat.reduceEqDiff,reduceCtorEq,Nat.reduceAdd,Nat.reduceSub,Nat.reduceMul,Nat.reduceLeDiff,Nat.reduceLT,Int.reduceLE,Int.reduceToNat,Int.reduceNeg,↓reduceIte];rfl) ⟨⟨_,rfl,λh=>?_⟩,rfl⟩;rw[ACa];intro e;replace e:=ABJ e;have d:x.toNat<256:=by omega
 have f:13<=x.toNat:=by omega
 generalize x.toNat=k at *;clear b;exact absurd e (by
  clear e;revert f;revert d;revert k;decide)
theorem A7y (x:Int) (h0:0<=x) (h1:x<256):BT Tryz.prog 230 [.p (.int .u64) x] [] [] (λres d=>(∃n:Int,res=.p T3 n/\(13<=x->n≠0))/\d=[]):=by
 refine Nk [0,2] [] [] Tryz.func230 Tryz.ntmps230 AI ?_;intro w0 K O0 ρ0 a e f;simp only[A1];repeat'(first|exact trivial|apply eS rfl|refine rX a ?_ ?_|refine rC ?_ ?_<;>intro b<;>try(cases b;done))
 refine cP 1 a ?_ ?_
 .trivial
 refine rM a (A2u x h0 h1) [] [] ?_ ?_ ?_
 .exact eN
 .exact eN
 rintro _ _ ⟨⟨n,rfl,c⟩,rfl⟩;refine⟨[],.p T3 n,[],rfl,rfl,?_,?_,rfl,rfl,?_⟩
 .exact eN
 .exact eN
 refine Gl [2] a (by simp only[go_sem,Nat.reduceEqDiff,reduceCtorEq,Nat.reduceAdd,Nat.reduceSub,Nat.reduceMul,Nat.reduceLeDiff,Nat.reduceLT,Int.reduceLE,Int.reduceToNat,Int.reduceNeg,↓reduceIte];rfl) ?_ ?_
 .trivial
 repeat' apply eS rfl
 exact fM a [.tmp 2] (.p T3 n) eT ⟨⟨_,rfl,c⟩,rfl⟩
theorem jC (l:List (Int×Int)) (hl:SS l) (hs:yA l):BT Tryz.prog 215 [.sr 1000000 A2 0 l.length,.fn 192] [(1000000,.arr 106 A2 l)] [1000000] (λres d=>res=.raw (.tuple #[])/\d=[(1000000,.arr 106 A2 (AZ l))]):=by
 have e:=hl.1;refine Nk [0,1,4] [] [] Tryz.func215 Tryz.ntmps215 AI ?_;intro w0 K O0 ρ0 a f g;simp only[A1];repeat'(first|exact trivial|apply eS rfl|refine rX a ?_ ?_)
 refine cP 4 a ?_ ?_
 .exact eV
 refine rM a (A7y (l.length:Int) oa oa) [] [] ?_ ?_ ?_
 .exact eN
 .exact eN
 rintro _ _ ⟨⟨n,rfl,c⟩,rfl⟩;refine⟨[],.p T3 n,[],rfl,rfl,?_,?_,rfl,rfl,?_⟩
 .exact eN
 .exact eN
 have key:=A5d l hl.1 hs hl.2 n λq=>c oa;refine Px a 1 (by simp only[go_sem,Nat.reduceEqDiff,reduceCtorEq,Nat.reduceAdd,Nat.reduceSub,Nat.reduceMul,Nat.reduceLeDiff,Nat.reduceLT,Int.reduceLE,Int.reduceToNat,Int.reduceNeg,↓reduceIte];rfl) ?_ ?_
 .trivial
 refine rM a (key) [(1000000,.nm 1000000)] [] ?_ ?_ ?_
 .exact eN
 .exact eN
 rintro _ _ ⟨rfl,rfl⟩;have h:=CO l;refine⟨[(1000000,.nm 1000000)],.raw (.tuple #[]),[(1000000,.arr 106 A2 (AZ l))],rfl,rfl,?_,?_,rfl,rfl,Cu ?_⟩
 .exact eN
 .exact eN
 repeat'(first|exact trivial|apply eS rfl|apply AC|refine rX a ?_ ?_|refine rC ?_ ?_<;>intro b<;>try(cases b;done))
 exact fM a [] (.raw (.tuple #[])) rfl ⟨rfl,rfl⟩
theorem Nt (l:List (Int×Int)) (hl:SS l) (hs:yA l):BT Tryz.prog 190 [.clo 216 [1],.fn 192] [(1,.box 91 false [.p DK l])] [] (λres b=>res=.sr 7 A2 0 l.length/\b=[(7,.arr 106 A2 (AZ l))]):=by
 have f:=CO l;have c:=hl.1;refine Nk [0,1,4,5] [] [] Tryz.func190 Tryz.ntmps190 AI ?_;intro w0 K O0 ρ0 a d e;simp only[A1];repeat'(first|exact trivial|apply eS rfl|refine rX a ?_ ?_)
 refine cP 1 a ?_ ?_
 .trivial
 refine rM a (o5 l oa) [(1,.nm 1)] [1] ?_ ?_ ?_
 .exact eN
 .exact eN
 rintro _ _ ⟨rfl,rfl⟩;refine⟨[(1000000,.nm 7)],.sr 1000000 A2 0 l.length,[(1000000,.arr 106 A2 l)],rfl,rfl,?_,?_,rfl,rfl,?_⟩
 .exact eN
 .exact eN
 refine Gl [1,5] a (by simp only[go_sem,Nat.reduceEqDiff,reduceCtorEq,Nat.reduceAdd,Nat.reduceSub,Nat.reduceMul,Nat.reduceLeDiff,Nat.reduceLT,Int.reduceLE,Int.reduceToNat,Int.reduceNeg,↓reduceIte];rfl) ?_ ?_
 .trivial
 repeat' apply eS rfl
 refine cP 2 a ?_ ?_
 .trivial
 refine rM a (jC l hl hs) [(1000000,.nm 1000000)] [] ?_ ?_ ?_
 .exact eN
 .exact eN
 rintro _ _ ⟨rfl,rfl⟩;refine⟨[(1000000,.nm 1000000)],.raw (.tuple #[]),[(1000000,.arr 106 A2 (AZ l))],rfl,rfl,?_,?_,rfl,rfl,Cu ?_⟩
 .exact eN
 .exact eN
 repeat'(first|exact trivial|apply eS rfl|refine rX a ?_ ?_)
 refine Ev.ent (σ':=⟨[(4,.sr 7 A2 0 l.length)],[(7,.arr 106 A2 (AZ l))]⟩) ?_ (AD [(7,.nm 1000000)] rfl rfl ?_ ?_)
 .exact fM a [.tmp 4] (.sr 7 A2 0 l.length) eT ⟨rfl,rfl⟩
 .exact eN
 exact eN
def LN (f:List AB) (o:List Int):List (Nat×Obj):=[(1,.box 61 false [.sr 5 T3 0 o.length]),(2,.box 177 false [.mp 6]),(3,.box 25 true [.p G2 f]),(4,.box 178 false [.clo 189 [1,2,3,4]]),(5,.arr 3 T3 o),(6,.mapo T3 T3 (lN o))]
theorem A96 {f:List AB} {o:List Int} (h:JA f o):JA (DS f) o:=⟨h.nd,λx hx=>by rw[F3];exact h.rng x hx⟩
theorem A6o {f:List AB} {o:List Int} (h:JA (DS f) o):JA f o:=⟨h.nd,λx hx=>by have:=h.rng x hx;rwa [F3]at this⟩
theorem yE (f:List AB) (hf:AO f) (hs:NdF f):∀(k:Nat) (o:List Int) (n:Int),JA f o->0<=n->n<f.length->n∉o->f.length-o.length<=k ->
  BT Tryz.prog 189 [.p T3 n,.bp 1 [] 0,.bp 2 [] 0,.bp 3 [] 0,.bp 4 [] 0] (LN f o) [1,2,3,4,6] (λres P=>res=.raw (.tuple #[])/\P=LN f (Ba (DS f) k o n)):=by
 intro k;induction k with
 | zero =>
  intro o n h0 h1 B C Q;have:=(h0.snoc h1 B C).len;simp only[As,If]at this;omega
 | succ k O =>
  intro o n hd u v w hk;have t:=hd.snoc u v w;have H:=t.len;simp only[As,If]at H;have R:=hf.1;refine Nk [0,1,2,3,4,7,9,25,26,27,28,39] [] [] Tryz.func189 Tryz.ntmps189 AI ?_;intro w0 K O0 ρ0 b T U;simp only[LN,A1];repeat'(first|exact trivial|apply eS rfl|refine rX b ?_ ?_)
  .simp only[AP];omega
  rw[jB w];obtain⟨N,A⟩:=tI hs n;have S:=A.1;have s:=λa (ha:a∈AZ (f.getD n.toNat (0,[])).2)=>Af hf ((Eq _).mem_iff.1 ha);have F:Ba (DS f) (k+1) o n=(AZ (f.getD n.toNat (0,[])).2).foldl (AX (DS f) k) (o++[n]):=by rw[Bv,QX]
  have E:=A96 (f:=f) t;refine cP 6 b ?_ ?_
  .exact⟨u,v⟩
  generalize (f.getD n.toNat (0,[])).2=g at *;refine rM b (Zc g) [] [] ?_ ?_ ?_
  .exact eN
  .exact eN
  rintro _ _ ⟨rfl,rfl⟩;refine⟨[(50,.nm 1)],.clo 216 [50],[(50,.box 91 false [.p DK g])],rfl,rfl,?_,?_,rfl,rfl,?_⟩
  .exact eN
  .exact eN
  refine rM b (Nt g A N) [(1,.nm 50)] [50] ?_ ?_ ?_
  .exact eN
  .exact eN
  rintro _ _ ⟨rfl,rfl⟩;have D:=CO g;rw[<-D];generalize AZ g=L at *;refine⟨[(51,.nm 7)],.sr 51 A2 0 L.length,[(51,.arr 106 A2 L)],rfl,rfl,?_,?_,rfl,rfl,?_⟩
  .exact eN
  .exact eN
  refine Gl [0,1,2,3,4,25,26,27] b (by simp only[go_sem,Nat.reduceEqDiff,reduceCtorEq,Nat.reduceAdd,Nat.reduceSub,Nat.reduceMul,Nat.reduceLeDiff,Nat.reduceLT,Int.reduceLE,Int.reduceToNat,Int.reduceNeg,↓reduceIte];rfl) ?_ ?_
  .trivial
  have M:∀i,JA (DS f) ((L.take i).foldl (AX (DS f) k) (o++[n]))/\o++[n] <+: (L.take i).foldl (AX (DS f) k) (o++[n]):=λi=>D8 (DR (Rz hf) k) _ _ (λa ha=>by rw[F3];exact s a (iS ha)) E;generalize I:o++[n]=q at *;have J:q.length=o.length+1:=by rw[<-I];simp
  rw[<-J];repeat' apply eS rfl
  refine AL (ι:={i:Nat//i<=L.length}) (λi=>⟨[(0,.p T3 n),(1,.bp 1 [] 0),(2,.bp 2 [] 0),(3,.bp 3 [] 0),(4,.bp 4 [] 0),(25,.p DK L),(26,.p (.int .i64) (L.length:Int)),(27,.p (.int .i64) (i.1:Int))],LN f ((L.take i.1).foldl (AX (DS f) k) q)⟩) (λi=>L.length-i.1) ⟨0,by omega⟩ (A8C [51] (AD [(1,.nm 1),(2,.nm 2),(3,.nm 3),(4,.nm 4),(5,.nm 5),(6,.nm 6)] rfl rfl ?_ ?_)) (λi=>?_)
  .simp only[LN,AAg,ABZ];exact eN
  .exact eN
  obtain⟨i,hi⟩:=i;obtain⟨j,y⟩:=M i;replace j:=A6o j;have r:=λ(h:i<L.length)=>Jy (AX (DS f) k) L (0,0) q h;have G:=y.length_le;generalize x:(L.take i).foldl (AX (DS f) k) q=c at j y r G;simp only[LN];repeat'(first|exact trivial|apply eS rfl|apply AC|refine rX b ?_ ?_|refine rC ?_ ?_<;>intro d<;>try(cases d;done))
  .exact eV
  .have l:i<L.length:=by exact eV
   have z:=s _ (AE L (0,0) l);have m:(L.getD i (0,0)).2∉c:=by rw[Kt]at d;simpa using d
   refine cP 3 b ?_ ?_
   .trivial
   refine rM b (O c (L.getD i (0,0)).2 j z.1 z.2 m oa) [(1,.nm 1),(2,.nm 2),(3,.nm 3),(4,.nm 4),(5,.nm 5),(6,.nm 6)] [5] ?_ ?_ ?_
   .exact eN
   .simp only[LN];exact eN
   rintro _ _ ⟨rfl,rfl⟩;refine⟨[(1,.nm 1),(2,.nm 2),(3,.nm 3),(4,.nm 4),(5,.nm 5),(6,.nm 6)],.raw (.tuple #[]),LN f (Ba (DS f) k c (L.getD i (0,0)).2),rfl,rfl,?_,?_,rfl,rfl,Cu ?_⟩
   .simp only[LN];exact eN
   .exact eN
   simp only[LN];repeat'(first|apply eS rfl|apply AC|refine rX b ?_ ?_)
   .exact eV
   have e:AX (DS f) k c (L.getD i (0,0))=Ba (DS f) k c (L.getD i (0,0)).2:=BY m;refine⟨⟨i+1,by omega⟩,by simp only;omega,AD [(1,.nm 1),(2,.nm 2),(3,.nm 3),(4,.nm 4),(5,.nm 5),(6,.nm 6)] rfl rfl ?_ ?_⟩
   .simp only[r l,e];exact eN
   exact eN
  .exact eV
  .have l:i<L.length:=by exact eV
   have m:(L.getD i (0,0)).2∈c:=by rw[Kt]at d;simpa using d
   have e:AX (DS f) k c (L.getD i (0,0))=c:=DO m;refine⟨⟨i+1,by omega⟩,by simp only;omega,AD [(1,.nm 1),(2,.nm 2),(3,.nm 3),(4,.nm 4),(5,.nm 5),(6,.nm 6)] rfl rfl ?_ ?_⟩
   .simp only[r l,e];exact eN
   exact eN
  have hk:L.take i=L:=By (by exact eV);rw[hk]at x;rw[F,x];exact fM b [] (.raw (.tuple #[])) rfl ⟨rfl,rfl⟩
section
def CZ:Ab:={ ins:=[D7,T3],pre:=λ(f,n,_)=>AO f/\IX f/\0<=n/\n<(List.length f:Int),out:=λ(f,n,_)=>[.p D7 (AH f n)] }
attribute [local go_sem] CZ
theorem yF {α β:Type} (g:α->β) (o:List α) (d:α) (z:β) {i:Nat} (h:i<o.length):((o.take i).map g++List.replicate (o.length-i) z).set i (g (o.getD i d))=(o.take (i+1)).map g++List.replicate (o.length-(i+1)) z:=by
 obtain⟨m,a⟩:∃m,o.length-i=m+1:=⟨o.length-i-1,by omega⟩;have b:o.length-(i+1)=m:=by omega
 have hl:((o.take i).map g).length=i:=by rw[OF,OS];omega
 rw[a,b,ABi _ _ oa,hl,AAJ,AAR,ABt,Aw o d h,UK];simp
def QZ:Ab:={ ins:=[D7,T3],pre:=λ(f,n,_)=>AO f/\NdF f/\0<=n/\n<(List.length f:Int),out:=λ(f,n,_)=>[.p D7 (AH (DS f) n)] }
attribute [local go_sem] QZ
theorem R0:Ag Tryz.prog 149 QZ:=by
 refine fK [0,1,2,4,5,6,7,8,9,10,11,12,22,23,24,25,38,39,40] Tryz.func149 Tryz.ntmps149 AI ?_;rintro w0 O0 ⟨f,root,u⟩ a-⟨hf,hs,r,s⟩;simp only[QZ,AN];have z:=hf.1;have l:JA f []:=⟨by simp,λx hx=>by cases hx⟩;obtain⟨g,H⟩:=DR (Rz hf) f.length [] root (A96 l) r (by rw[F3];exact s) sc;replace g:=A6o g;have w:AH (DS f) root=(Ba (DS f) f.length [] root).map (CG (DS f) (Ba (DS f) f.length [] root)):=by unfold AH;rw[F3]
 rw[w];repeat'(first|exact trivial|apply eS rfl|apply AC|refine rX a ?_ ?_|refine rC ?_ ?_<;>intro c<;>try(cases c;done))
 refine cP 2 a ?_ ?_
 .trivial
 refine rM a (yE f hf hs (List.length f) [] root l r s sc sc) [(1,.nm 6),(2,.nm 5),(3,.nm 2),(4,.nm 7),(5,.nil),(6,.nm 13)] [] ?_ ?_ ?_
 .exact eN
 .simp only[LN];refine eM ?_;rfl
 rintro _ _ ⟨rfl,rfl⟩;refine⟨[(6,.nm 1),(5,.nm 2),(2,.nm 3),(7,.nm 4),(101,.nm 5),(13,.nm 6)],.raw (.tuple #[]),[(6,.box 61 false [.sr 101 T3 0 (Ba (DS f) (List.length f) [] root).length]),(5,.box 177 false [.mp 13]),(2,.box 25 true [.p G2 f]),(7,.box 178 false [.clo 189 [6,5,2,7]]),(101,.arr 3 T3 (Ba (DS f) (List.length f) [] root)),(13,.mapo T3 T3 (lN (Ba (DS f) (List.length f) [] root)))],rfl,rfl,?_,?_,rfl,rfl,Cu ?_⟩
 .simp only[LN];exact eN
 .exact eN
 generalize Ba (DS f) (List.length f) [] root=o at *;have G:=g.len;repeat'(first|exact trivial|apply eS rfl|apply AC|refine rX a ?_ ?_|refine rC ?_ ?_<;>intro c<;>try(cases c;done))
 .simp only[AP];omega
 refine AL (ι:={i:Nat//i<=o.length}) (λi=>⟨[(2,.bp 2 [] 0),(4,.bp 4 [] 0),(5,.bp 5 [] 0),(8,.bp 8 [] 0),(22,.sr 101 T3 0 o.length),(23,.p (.int .i64) (o.length:Int)),(24,.p (.int .i64) (i.1:Int))],[(8,.box 25 true [.sr 20 He 0 o.length]),(20,.arr 93 He ((o.take i.1).map (CG (DS f) o)++List.replicate (o.length-i.1) (0,[]))),(5,.box 177 false [.mp 13]),(2,.box 25 true [.p G2 f]),(101,.arr 3 T3 o),(13,.mapo T3 T3 (lN o)),(4,.box 25 true [.raw (.slice none 0 0)])]⟩) (λi=>o.length-i.1) ⟨0,by omega⟩ (eW [(8,.nm 8),(20,.nm 20),(5,.nm 5),(2,.nm 2),(101,.nm 101),(13,.nm 13),(4,.nm 4)]) (λi=>?_)
 obtain⟨i,hi⟩:=i;repeat'(first|exact trivial|apply eS rfl|apply AC|refine rX a ?_ ?_|refine rC ?_ ?_<;>intro c<;>try(cases c;done))
 .exact eV
 .have m:i<o.length:=by exact eV
  have hn:=g.rng _ (AE o 0 m);have q:CG (DS f) o (o.getD i 0)=((f.getD (o.getD i 0).toNat (0,[])).1,(AZ (f.getD (o.getD i 0).toNat (0,[])).2).map (Fg o)):=by unfold CG;rw[QX]
  obtain⟨t,j⟩:=tI hs (o.getD i 0);have B:=j.1;refine cP 6 a ?_ ?_
  .exact hn
  have F:List.length f<=100000:=z;generalize C:o.getD i 0=n at *;generalize A:f.getD n.toNat (0,[])=x at *;obtain⟨I,d⟩:=x;simp only at t j B q;refine rM a (Zc d) [] [] ?_ ?_ ?_
  .exact eN
  .exact eN
  rintro _ _ ⟨rfl,rfl⟩;refine⟨[(50,.nm 1)],.clo 216 [50],[(50,.box 91 false [.p DK d])],rfl,rfl,?_,?_,rfl,rfl,?_⟩
  .exact eN
  .exact eN
  refine rM a (Nt d j t) [(1,.nm 50)] [50] ?_ ?_ ?_
  .exact eN
  .exact eN
  rintro _ _ ⟨rfl,rfl⟩;have v:=CO d;rw[<-v];generalize E:AZ d=L at *;refine⟨[(51,.nm 7)],.sr 51 A2 0 L.length,[(51,.arr 106 A2 L)],rfl,rfl,?_,?_,rfl,rfl,?_⟩
  .exact eN
  .exact eN
  refine Gl [2,4,5,8,9,10,11,22,23,24] a (by simp only[go_sem,Nat.reduceEqDiff,reduceCtorEq,Nat.reduceAdd,Nat.reduceSub,Nat.reduceMul,Nat.reduceLeDiff,Nat.reduceLT,Int.reduceLE,Int.reduceToNat,Int.reduceNeg,↓reduceIte];rfl) ?_ ?_
  .trivial
  repeat'(first|exact trivial|apply eS rfl|apply AC|refine rX a ?_ ?_|refine rC ?_ ?_<;>intro c<;>try(cases c;done))
  refine AL (ι:={k:Nat//k<=L.length}) (λk=>⟨[(2,.bp 2 [] 0),(4,.bp 4 [] 0),(5,.bp 5 [] 0),(8,.bp 8 [] 0),(9,.p (.int .i64) (i:Int)),(10,.p T3 n),(11,.sr 51 A2 0 L.length),(22,.sr 101 T3 0 o.length),(23,.p (.int .i64) (o.length:Int)),(24,.p (.int .i64) (i:Int)),(38,.p (.int .i64) (L.length:Int)),(39,.p (.int .i64) (k.1:Int))],[(51,.arr 106 A2 ((L.take k.1).map (Fg o)++L.drop k.1)),(8,.box 25 true [.sr 20 He 0 o.length]),(20,.arr 93 He ((o.take i).map (CG (DS f) o)++List.replicate (o.length-i) (0,[]))),(5,.box 177 false [.mp 13]),(2,.box 25 true [.p G2 f]),(101,.arr 3 T3 o),(13,.mapo T3 T3 (lN o)),(4,.box 25 true [.raw (.slice none 0 0)])]⟩) (λk=>L.length-k.1) ⟨0,by omega⟩ (eW [(51,.nm 51),(8,.nm 8),(20,.nm 20),(5,.nm 5),(2,.nm 2),(101,.nm 101),(13,.nm 13),(4,.nm 4)]) (λk=>?_)
  obtain⟨k,hk⟩:=k;repeat'(first|exact trivial|apply eS rfl|apply AC|refine rX a ?_ ?_|refine rC ?_ ?_<;>intro c<;>try(cases c;done))
  .exact eV
  .exact eV
  .have h:k<L.length:=by exact eV
   have e:=XJ (Fg o) (λb=>b) L (0,0) h (Fg o);refine⟨⟨k+1,by omega⟩,by simp only;omega,AD [(51,.nm 51),(8,.nm 8),(20,.nm 20),(5,.nm 5),(2,.nm 2),(101,.nm 101),(13,.nm 13),(4,.nm 4)] rfl rfl ?_ ?_⟩
   .refine eM ?_;rw[e.2];rw[<-e.1];unfold Fg;rw[<-tG]
   exact eN
  .exact⟨hn,by exact eV⟩
  .exact eV
  have h:L.take k=L:=By (by exact eV);have y:L.drop k=[]:=SV (by exact eV);refine⟨⟨i+1,by omega⟩,by simp only;omega,AD [(8,.nm 8),(20,.nm 20),(5,.nm 5),(2,.nm 2),(101,.nm 101),(13,.nm 13),(4,.nm 4)] rfl rfl ?_ ?_⟩
  .refine eM ?_;rw[h,y,UL];have e:=yF (CG (DS f) o) o 0 (0,[]) m;rw[C,q]at e;rw[<-e,A,By (by simp:(L.map (Fg o)).length<=L.length)]
  exact eN
 have hk:o.take i=o:=By (by exact eV);have D:o.length-i=0:=by exact eV
 rw[hk,D];exact fI a [.cell 4 25] (by simp only[List.replicate_zero,UL];first|exact eR|refine Y6 ?_;exact By (by rw[OF];exact eV))
theorem cO:Ag Tryz.prog 149 CZ:=by
 refine⟨R0.1,λw O i ds d h g=>?_⟩;obtain⟨f,n,u⟩:=ds;obtain⟨h1,a,b,c⟩:=g;have key:=R0.2 w O i (f,n,u) d h ⟨h1,A7x a,b,c⟩;have e:QZ.out (f,n,u)=CZ.out (f,n,u):=by
  show [RV.p D7 (AH (DS f) n)]=[RV.p D7 (AH f n)];rw[yC a]
 rw[e]at key;exact key
theorem A7z:Ag Tryz.prog 128 CZ:=by
 refine fK [0,1,2,4] Tryz.func128 Tryz.ntmps128 (AF cO AI) ?_;rintro w0 O0 ⟨f,root,u⟩ a-c;simp only[CZ,AN];repeat'(first|exact trivial|apply eS rfl|apply AC|refine rX a ?_ ?_|refine rC ?_ ?_<;>intro b<;>try(cases b;done))
 .exact c
 exact fI a [.cell 4 25]
end
section
attribute [local go_sem] CZ
def A2v (a:Int->Int×Int->Bool) (f:List AB) (i:Nat):AB:=((f.getD i (0,[])).1,(f.getD i (0,[])).2.filter (a (i:Int)))
def GI (a:Int->Int×Int->Bool) (f:List AB) (i:Nat):List AB:=(List.range i).map (A2v a f)
def XN (a:Int->Int×Int->Bool) (f:List AB):List AB:=AH (GI a f f.length) 0
theorem Jz (a:Int->Int×Int->Bool) (f:List AB) (i:Nat):(GI a f i).length=i:=by simp[GI]
theorem FD (l:List (Int×Int)):MS l↔l.Pairwise (λa b=>a.1<b.1):=by
 constructor
 .intro h;rw[Sl];have key:∀d i,i+d+1<l.length->(l.getD i (0,0)).1<(l.getD (i+d+1) (0,0)).1:=by
   intro d;induction d with
   | zero=>intro i hi;exact h i hi
   | succ d e =>
    intro i hi;have h1:=e i oa;have f:=h (i+d+1) oa;have:i+(d+1)+1=i+d+1+1:=by omega
    rw[this];omega
  intro i j hi c g;have h1:=key (j-i-1) i oa;rw[show i+(j-i-1)+1=j by omega]at h1;simpa[AS,hi,c] using h1
 intro h i hi;rw[Sl]at h;have:=h i (i+1) oa hi oa;simpa[AS,hi,show i<l.length by omega] using this
theorem jD {l:List (Int×Int)} (h:MS l) (p:Int×Int->Bool):MS (l.filter p):=by
 rw[FD]at h ⊢;exact h.sublist List.filter_sublist
theorem Zd {f:List AB} (hf:AO f) (hs:IX f) (c:Int->Int×Int->Bool):AO (GI c f f.length)/\IX (GI c f f.length):=by
 have d:∀i,i<f.length->f.getD i (0,[])∈f:=λi hi=>AE f (0,[]) hi;refine⟨⟨by rw[Jz];exact hf.1,λx hx=>?_⟩,λx hx=>?_⟩
 .obtain⟨i,hi,rfl⟩:=Y1.1 hx;have hi:i<f.length:=UJ.1 hi;obtain⟨h1,b⟩:=hf.2 _ (d i hi);rw[Jz];exact⟨SX (AAb _ _) h1,λa ha=>b a (AAe.1 ha).1⟩
 obtain⟨i,hi,rfl⟩:=Y1.1 hx;have hi:i<f.length:=UJ.1 hi;obtain⟨h1,b⟩:=hs _ (d i hi);exact⟨jD h1 _,SX (AAb _ _) b⟩
def Fb (l:List Int):List (Int×Bool):=l.foldl (λm x=>Fh T3 .bool x true m) []
theorem o6 {a:Ty} (x k:Int) (v:a.den) (m:List (Int×a.den)):BX T3 a x (Fh T3 a k v m)=if x=k then some v else BX T3 a x m:=by
 induction m with
 | nil=>simp[Fh,BX,Ii]
 | cons y m d =>
  simp only[Fh];by_cases hy:Ii T3 k y.1=true
  .rw[DO hy];have b:k=y.1:=by simpa[Ii] using hy
   simp only[BX,Ii,UQ];by_cases hx:x=k
   .rw[DO hx,DO hx]
   rw[BY hx,BY hx,BY (by rw[<-b];exact hx)]
  rw[BY hy];have b:¬k=y.1:=by simpa[Ii] using hy
  simp only[BX];by_cases hx:Ii T3 x y.1=true
  .have c:x=y.1:=by simpa[Ii] using hx
   rw[DO hx,DO hx,BY (by rw[c];exact λe=>b e.symm)]
  rw[BY hx,BY hx,d]
theorem tJ (l:List Int) (x:Int):(BX T3 .bool x (Fb l)).getD false=inF l x:=by
 induction l using EE with
 | h0=>rfl
 | h1 l a b =>
  have e:Fb (l++[a])=Fh T3 .bool a true (Fb l):=by simp[Fb]
  rw[e,o6];by_cases hx:x=a
  .rw[DO hx];subst hx;simp[inF]
  rw[BY hx,b];simp only[inF,ABk,List.any_cons,List.any_nil,Bool.or_false];have:(a==x)=false:=by simpa using λe=>hx e.symm
  rw[this,Bool.or_false]
end
end Go.Proofs.YtapkhdkbkodbjaaGreat.Fw
