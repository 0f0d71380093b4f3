/- Contracts of functions and plain laws. -/
import Derived.Test.YtglkoagnnnpimaaGreatDoorEYB
import Derived.Test.YtglkoagnnnpimaaGreatDoorEYA
import Derived.Test.YtglkoagnnnpimaaGreatDoorEZI
import Derived.Test.YtglkoagnnnpimaaGreatDoorEZJ
set_option linter.unusedVariables false
set_option linter.unusedSimpArgs false
namespace Go.Proofs.YtglkoagnnnpimaaGreatDoor.Fw
attribute [local irreducible] Ev
attribute [local go_sem] n8 AM List.toList_toArray B2 evG evK W6 FD Lb Ig HO Ge R1 La Cc Dp O3 DM Cw frz sO G1 Db BE F6 Bg AV.frz AV.frzs AV.drp AV.drps AV.names AV.namess aq G2 LP LQ UB J4 Bx B6 Kx EV J7 EW J9 J8 KA W4 Rr Hn Mg F8 El W5 Sn qUn Ky JT Np Fg EL KB LS E4 UD C0 E5 Fh So JU Oz Fi Oy Ru Sp NM KC LT Dd DE Fl EM I4 DX Fj DY E6 Gd DM C5 Ow Sm Qm HI J6 J5 LR O2 Rx NN Nt Nr LV UE Ns LX bZ Rz Ry AV.trn AV.trns EU Cz Obj.trn K6 kH Da D1 DZ E7 Ci Fk Aj lk Ia G9 I2 bin sM ZB sQ UC T8 zfx AV.cellss sN zfs pfs AV.cells CU E3 JS F9 Rw CV Ox Ty.cell1 J3 FG EK Gb I1 E2 LJ NL Ov Ga HH Nn T7 W3 NC LI bU jE UA Ib C6 Hm RV.flat Ty.flat Ty.size St.add upd del Bk Value.oneCell' Y9 Ty.dflt J2 TH Jb TP List.take_succ_cons List.take_zero List.length_cons oB oC TN Lt PW Jd Mt A3F HP PJ PK PM PN Ua Ub PO KM ZX Option.map_some Option.map_none Option.bind_some Option.getD_some Option.getD_none Option.isNone_none Option.isNone_some Bool.and_true Bool.true_and Bool.and_false Bool.false_and Bool.not_true Bool.not_false if_true if_false List.length_cons List.length_nil and_true true_and and_self List.all_cons List.all_nil List.append_nil List.nil_append List.cons_append List.getElem?_cons_zero List.getElem?_cons_succ List.getElem?_nil List.map_cons List.map_nil List.set_cons_zero List.set_cons_succ List.isEmpty_nil List.isEmpty_cons decide_true decide_false beq_self_eq_true bne_self_eq_false Nat.zero_add Nat.add_zero Nat.sub_zero Int.toNat_natCast Int.toNat_zero Int.toNat_one List.take_length List.length_append List.length_singleton true_or or_true or_self false_or or_false Ty.agg.injEq Ty.slice.injEq Ty.prod.injEq Ty.int.injEq Option.some.injEq beq_iff_eq Lr evMG evMQ opM JD NS CD K5 HQ Ue K4 JC KN Mr Lq Qv PR Qw Uf PQ TK TL Mq Ag Ao Op.operands Call.operands List.filterMap_cons List.filterMap_nil List.append_eq Bool.cond_false_right Bool.cond_true_left cond_true cond_false implies_true decide_eq_true_eq beq_true beq_false Bool.or_true Bool.or_false Bool.true_or Bool.false_or Option.isSome_some Array.empty_append List.append_toArray F7 O4 Fm Ic bX Rv bW Gc Hf He JV I3 LU Nq ZC sP Hc inB LY GU HJ LZ Au oH List.drop_zero EF Ii dF C8 N5 Cv AV.fgt AV.fgts Obj.fgt A5 A1 Ag Ea Lv Bz Lw List.any_cons List.any_nil oK kA dH kB ND Ss qs List.flatMap_cons List.flatMap_nil List.cons_append tn dM NT List.take_succ_cons List.drop_succ_cons dP Hy Bh yP Q4 CX Cr Ar Fs Lk B8 matchAVs DF JB KK Hu KL
attribute [local go_sem] ty1 ty2 ty3 ty4 ty5 ty9 A77 A78 A79 A7a A7b A7c A7d A7e A7f A7g A7h A7i A7j A7k A7l A7m A7n A7o A7p A7q A7r A7s A7t A7u A7v A7w A7x A7y yY yZ y3 y4 y5 y6 y7 y8 y9 zA zB zC zD zE zF zG zH zI zJ zK zL zN zO zP zQ zR zS zT zU zV zW zX zY zZ z0 z4 z5 z6
set_option maxRecDepth 100000
set_option maxHeartbeats 4000000
variable {f Z:List AD} {h:AE} {n:Int} {L M:List Int} {s y:ByteArray} {i k:Nat} {m:CJ} {l:List (Int×Int)} {R:Exit->Act->World->Prop} {x:Int×Int} {d:List AI} {Y:Array Oper} {X:List Oper} {W:List F2} {V:List MD} {P:Program} {U:List Cl} {t:TypeId}
section
attribute [local go_sem] v8 OK K8 KY My Jk Io NG
theorem IQ {a b:ByteArray} (h:AK a b=true):a=b:=by
 have h:=Eq.1 h;rw[ByteArray.toList_eq,ByteArray.toList_eq]at h;exact ABj ByteArray.mk (Array.toList_inj.1 h)
theorem aX (q:AK (Di h f n) ⟨#[]⟩=false):0<=n:=by
 by_cases hn:n<0
 .unfold Di at q;rw[At hn]at q;exact absurd q a3
 omega
theorem iE (q:AK (Di h f n) ⟨#[104]⟩=true):0<=n:=by
 by_cases hn:n<0
 .unfold Di at q;rw[At hn]at q;exact absurd q a3
 omega
def InN (f:List AD) (n:Int):Prop:=0<=n/\n<(f.length:Int)
theorem A1W (g:AX f) {s:Int} (b:(BK h f s).2=0):(BK h f s).1.length<=200000/\∀e∈(BK h f s).1,InN f e.2.1/\e.2.2.length<=100000/\∀a∈e.2.2,InN f a.2:=by
 unfold BK at b ⊢;split at b
 .cases b
 rename_i h1;rw[An h1];split at b
 .rename_i l;exact absurd b l
 rename_i l;rw[An l];split at b
 .rename_i p;rw[At p];obtain⟨⟨v,w⟩,-⟩:=Iz (h:=h) g (AY h f s ⟨#[82,69,76,83]⟩);refine⟨by simpa using w,λe C=>?_⟩;obtain⟨x,D,rfl⟩:=Do.1 C;obtain⟨j,t,rfl⟩:=wL.1 D;have c:=D5 (λi r o=>by unfold S3 at o;split at o<;>cases o;decide) _ 0 p j (GO _) O1;have q:=v _ (AAd t);have z:(AQ h f (AY h f s ⟨#[82,69,76,83]⟩)).1.getD j 0=(AQ h f (AY h f s ⟨#[82,69,76,83]⟩)).1[j]:=by simp[AS,t]
  unfold S3 at c;rw[z]at c;generalize (AQ h f (AY h f s ⟨#[82,69,76,83]⟩)).1[j]=x at *;have m:(Bb h f x).2=true:=by
   cases n:(Bb h f x).2 with
   | true=>rfl
   | false=>rw[n,An sc]at c;cases c
  have d:FP h f x=true:=by
   cases n:FP h f x with
   | true=>rfl
   | false=>unfold Bb at m;rw[n,An sc]at m;cases m
  have A:Bb h f x=((Yx h f x,AY h f x ⟨#[76,65,66,69,76]⟩,(AU f x).2.filterMap (GS h f)),true):=At d;rw[A];unfold FP at d;simp only[AT]at d;have u:=AF f (0,[]) (IK q);refine⟨⟨iE d.2,JO g _ _ (Nat.zero_lt_of_lt (IK q))⟩,aS (List.length_filterMap_le _ _) (g.2 _ u).1,λa B=>?_⟩;obtain⟨y,E,k⟩:=AC5.1 B;unfold GS at k;split at k
  .cases k;exact(g.2 _ u).2 y E
  cases k
 cases b
theorem A1X (g:AX f) {s:Int} (a:(BL h f s).2=0):(BL h f s).1.length<=200000/\∀e∈(BL h f s).1,InN f e.1/\InN f e.2:=by
 unfold BL at a ⊢;split at a
 .cases a
 rename_i h1;rw[An h1];split at a
 .rename_i d;exact absurd a d
 rename_i d;rw[An d];split at a
 .rename_i l;rw[At l];obtain⟨⟨n,o⟩,-⟩:=Iz (h:=h) g (AY h f s ⟨#[67,79,78,83]⟩);refine⟨by simpa using o,λe u=>?_⟩;obtain⟨x,v,rfl⟩:=Do.1 u;obtain⟨j,m,rfl⟩:=wL.1 v;have b:=D5 (λi r k=>by unfold S4 at k;split at k<;>cases k;decide) _ 0 l j (GO _) O1;have q:=n _ (AAd m);have p:(AQ h f (AY h f s ⟨#[67,79,78,83]⟩)).1.getD j 0=(AQ h f (AY h f s ⟨#[67,79,78,83]⟩)).1[j]:=by simp[AS,m]
  unfold S4 at b;rw[p]at b;generalize (AQ h f (AY h f s ⟨#[67,79,78,83]⟩)).1[j]=x at *;have c:G4 h f x=true:=by
   cases t:G4 h f x with
   | true=>rfl
   | false=>rw[t,An sc]at b;cases b
  unfold G4 at c;simp only[AT]at c;have h0:=Nat.zero_lt_of_lt (IK q);exact⟨⟨iE c.1.2,JO g _ _ h0⟩,iE c.2,JO g _ _ h0⟩
 cases a
def Cb (h:AE) (f:List AD) (s:Int):CJ:=(AY h f s ⟨#[84,79,80]⟩,AY h f s ⟨#[73,78,68,69,88]⟩,(List.range f.length).map (λi:Nat=>Di h f (i:Int)),(BK h f s).1,(BL h f s).1)
def zM:CJ:=(0,0,[],[],[])
def I0 (h:AE) (f:List AD):CJ×Int :=
 if AY h f 0 ⟨#[83,69,77]⟩<0 then (zM,13)
 else if AK (Di h f (AY h f (AY h f 0 ⟨#[83,69,77]⟩) ⟨#[84,79,80]⟩)) ⟨#[104]⟩=false\/AK (Di h f (AY h f (AY h f 0 ⟨#[83,69,77]⟩) ⟨#[73,78,68,69,88]⟩)) ⟨#[]⟩=true then (zM,13)
 else if (BK h f (AY h f 0 ⟨#[83,69,77]⟩)).2≠0 then (zM,(BK h f (AY h f 0 ⟨#[83,69,77]⟩)).2)
 else if (BL h f (AY h f 0 ⟨#[83,69,77]⟩)).2≠0 then (zM,(BL h f (AY h f 0 ⟨#[83,69,77]⟩)).2)
 else if GM (DJ (Cb h f (AY h f 0 ⟨#[83,69,77]⟩)))≠0 then (zM,7) else (DJ (Cb h f (AY h f 0 ⟨#[83,69,77]⟩)),0)
theorem Wh (d:AX f) (i:0<f.length) {V:Int} (m:AK (Di h f (AY h f V ⟨#[84,79,80]⟩)) ⟨#[104]⟩=true) (n:AK (Di h f (AY h f V ⟨#[73,78,68,69,88]⟩)) ⟨#[]⟩=false) (l:(BK h f V).2=0) (j:(BL h f V).2=0) :
  NH (Cb h f V)/\∀x∈A3 (Cb h f V),0<=x/\x<((Cb h f V).2.2.1.length:Int):=by
 obtain⟨o,g⟩:=A1W d l;obtain⟨c1,c2⟩:=A1X d j;have k:(Cb h f V).2.2.1.length=f.length:=by simp[Cb]
 refine⟨⟨trivial,o,λe c=>(g e c).2.1,c1⟩,λx b=>?_⟩;rw[k];simp only[A3,IN,AAZ,By,H5,EH,ABo,ACG]at b;rcases b with ((b|b)|⟨e,c,b|b⟩)|⟨e,c,b|b⟩
 .rw[b];exact⟨iE m,JO d _ _ i⟩
 .rw[b];exact⟨aX n,JO d _ _ i⟩
 .rw[b];exact(g e c).1
 .obtain⟨a,ha,rfl⟩:=Do.1 b;exact(g e c).2.2 a ha
 .rw[b];exact(c2 e c).1
 rw[b];exact(c2 e c).2
theorem A89 (d:NH m):NH (DJ m):=by
 obtain⟨h0,h1,a,b⟩:=d;refine⟨trivial,by simpa[DJ] using h1,λe c=>?_,by simpa[DJ] using b⟩;obtain⟨x,f,rfl⟩:=Do.1 c;simpa[lB] using a x f
end
section
attribute [local go_sem] QG NZ K8 KY My Jk Io NG
def A1Y (h:AE):Prop:=0<=Aw h ⟨#[104,97,110,100,108,101]⟩/\0<=Aw h ⟨#[101,118,101,110,116]⟩/\0<=Aw h ⟨#[101,110,116,105,116,121]⟩/\0<=Aw h ⟨#[105,110,100,101,120]⟩
def JP:List (ByteArray×ByteArray):=[(⟨#[104]⟩,⟨#[104,97,110,100,108,101]⟩),(⟨#[101]⟩,⟨#[101,118,101,110,116]⟩),(⟨#[120]⟩,⟨#[101,110,116,105,116,121]⟩),(⟨#[105]⟩,⟨#[105,110,100,101,120]⟩)]
def m8 (h:AE) (t:Int) (i:Nat):Option ByteArray:=if Ai h (Aw h (JP.getD i (ByteArray.empty,ByteArray.empty)).2) t=true then some (JP.getD i (ByteArray.empty,ByteArray.empty)).1 else none
theorem A1Z (hs:A1Y h) (t:Int):Ap (m8 h t) ⟨#[]⟩ 4 0=CP h t:=by
 obtain⟨h1,e,f,g⟩:=hs;have a:m8 h t 0=if Mb h ⟨#[104,97,110,100,108,101]⟩ t=true then some ⟨#[104]⟩ else none:=by unfold Mb;rw[ABm h1];rfl
 have b:m8 h t 1=if Mb h ⟨#[101,118,101,110,116]⟩ t=true then some ⟨#[101]⟩ else none:=by unfold Mb;rw[ABm e];rfl
 have c:m8 h t 2=if Mb h ⟨#[101,110,116,105,116,121]⟩ t=true then some ⟨#[120]⟩ else none:=by unfold Mb;rw[ABm f];rfl
 have d:m8 h t 3=if Mb h ⟨#[105,110,100,101,120]⟩ t=true then some ⟨#[105]⟩ else none:=by unfold Mb;rw[ABm g];rfl
 simp only[Ap,CP,a,b,c,d,AB6,Nat.reduceAdd];split<;>rename_i q
 .split at q<;>cases q;rename_i q;rw[At q]
 split at q<;>cases q;rename_i q;rw[An q];split<;>rename_i q
 .split at q<;>cases q;rename_i q;rw[At q]
 split at q<;>cases q;rename_i q;rw[An q];split<;>rename_i q
 .split at q<;>cases q;rename_i q;rw[At q]
 split at q<;>cases q;rename_i q;rw[An q];split<;>rename_i q
 .split at q<;>cases q;rename_i q;rw[At q]
 split at q<;>cases q;rename_i q;rw[An q]
theorem AAL (hs:A1Y h) (hi:i<4):0<=Aw h (JP.getD i (ByteArray.empty,ByteArray.empty)).2:=by
 obtain⟨h1,a,b,c⟩:=hs;match i,hi with
 | 0,_=>exact h1
 | 1,_=>exact a
 | 2,_=>exact b
 | 3,_=>exact c
def aY:Ab:={ ins:=[GH,T3],pre:=λ(h,t,_)=>A1Y h/\(0:Int)<=t/\t<(List.length (h:AE).1:Int),out:=λ(h,t,_)=>[.p T9 (CP h t)],lend:=true }
theorem iG:Af Tryz.prog 11 aY:=by
 refine fK [0,1,2,4,6,7,8,9,10,19] Tryz.func11 Tryz.ntmps11 (AG QH (AG Py AH)) ?_;rintro w0 O0 ⟨h,t,u⟩ a-⟨hs,h0,h1⟩;have hs:A1Y h:=hs;have h0:0<=t:=h0;have h1:t<(h.1.length:Int):=h1;have d:(h.1,h.2)=h:=rfl;simp only[aY,AM];repeat'(first|exact a6|apply eS rfl|apply AB|refine rP a ?_ ?_|fail)
 refine cP 0 a ?_ ?_
 .trivial
 refine A9k a ?_;refine rL a ?_ ?_
 .trivial
 repeat'(first|exact a6|apply eS rfl|apply AB|refine rP a ?_ ?_|fail)
 rw[<-A1Z hs t];generalize e:Ap (m8 h t) ⟨#[]⟩ 4 0=S;refine AJ (ι:={i:Nat//i<=4/\Ap (m8 h t) ⟨#[]⟩ (4-i) i=S}) (λi=>⟨[(1,.p T3 t),(2,.bp 2 [] 0),(7,.p T71 JP),(8,.p (.int .i64) 4),(9,.p (.int .i64) (i.1:Int))],[(2,.box 26 true [.p SM h.1,.p TW h.2])]⟩) (λi=>4-i.1) ⟨0,GO _,e⟩ (AC [(2,.nm 2)] rfl rfl ?_ ?_) (λi=>?_)
 .first|exact eN|refine eM ?_
 .first|exact eN|refine eM ?_
  exact⟨rfl,rfl⟩
 obtain⟨i,hi,c⟩:=i;simp only;repeat'(first|exact a6|apply eS rfl|apply AB|refine rX a ?_ ?_|refine rC ?_ ?_<;>intro b<;>try(cases b;done))
 all_goals have d:(h.1,h.2)=h:=rfl
 all_goals try simp only[d]at *
 .exact b
 .exact⟨⟨AAL hs O1,HY h _⟩,h0,h1⟩
 .rw[Ct c O1 (At b)];exact fI a [.tmp 4]
 .omega
 .refine⟨⟨i+1,O1,Df c O1 (An (by rw[b];simp))⟩,a2,AC [(2,.nm 2)] rfl rfl ?_ ?_⟩
  .first|exact eN|refine eM ?_
  first|exact eN|refine eM ?_
 rw[Ed c O1];exact fI a [.tmp 4]
end
section
attribute [local go_sem] oX oY A3S K8 KY My Jk Io NG
def A20:Ab:={ ins:=[Ty.int .i32],pre:=λ_=>True,out:=λ(c,_)=>[.p .bool (CO 97 122 c)] }
attribute [local go_sem] A20
theorem A57:Af Tryz.prog 197 A20:=by
 refine fK [0,2] Tryz.func197 Tryz.ntmps197 AH ?_;rintro w0 O0 ⟨c,u⟩ a - -;simp only[A20,AM];repeat'(first|exact a6|apply eS rfl|apply AB|refine rX a ?_ ?_|refine rC ?_ ?_<;>intro b<;>try(cases b;done))
 exact fI a [.tmp 2] (by unfold CO;exact eR)
def A21:Ab:={ ins:=[Ty.int .i32],pre:=λ_=>True,out:=λ(c,_)=>[.p .bool (CO 48 57 c)] }
attribute [local go_sem] A21
theorem A58:Af Tryz.prog 211 A21:=by
 refine fK [0,2] Tryz.func211 Tryz.ntmps211 AH ?_;rintro w0 O0 ⟨c,u⟩ a - -;simp only[A21,AM];repeat'(first|exact a6|apply eS rfl|apply AB|refine rX a ?_ ?_|refine rC ?_ ?_<;>intro b<;>try(cases b;done))
 exact fI a [.tmp 2] (by unfold CO;exact eR)
def flB (s:ByteArray) (i:Nat):Bool:=CO 97 122 (NV s i)||(decide (i≠0)&&(CO 48 57 (NV s i)||NV s i==45))
theorem Wi (s:ByteArray):BG s false=(decide (1<=s.size/\s.size<=32)&&(List.range s.size).all (flB s)):=by
 rw[AC1];simp only[BG,OE,AT,gO,AAj,Wx,If,NO,tO];constructor
 .rintro⟨⟨⟨⟨h1,c⟩,d⟩,e⟩,a⟩;refine⟨⟨O1,O1⟩,λi hi=>?_⟩;have:=a i hi;unfold OD at this;unfold flB;by_cases h0:i=0
  .subst h0;rw[d,e]at this;simpa using this
  simp only[Bool.false_and,ACo,ACx,ACa,AA4]at this;simp only[ne_eq,h0,ACZ,decide_true,ACa,AA4];rcases this with (h|h)|h
  .exact .inr (.inl h)
  .exact .inr (.inr h)
  exact .inl h
 rintro⟨⟨h1,c⟩,a⟩;have h0:=a 0 O1;simp only[flB,ne_eq,AC9,decide_false,Bool.false_and,ACo]at h0;have b:=h0;simp only[CO,AT,If]at b;refine⟨⟨⟨⟨O1,O1⟩,?_⟩,?_⟩,λi hi=>?_⟩
 .simp only[CO,AB9,Wx];right;omega
 .simp only[ABp];omega
 have:=a i hi;unfold flB at this;unfold OD;simp only[Bool.false_and,ACo,ACx,ACa,AA4];simp only[AA4,AT]at this;rcases this with h|⟨-,h|h⟩
 .exact .inr h
 .exact .inl (.inl h)
 exact .inl (.inr h)
theorem A5a (s:ByteArray) (p:Nat) (h:p<s.size):NV s p=((s[p]'h).toNat:Int):=by
 have a:p<s.data.size:=h;show ((s.data.getD p 0).toNat:Int)=_;simp only[Array.getD_eq_getD_getElem?,AAD a,ACC];rfl
theorem A5b {p:Nat} (h:p<s.size) {q:Nat} {r:Int} (h1:(s[p]'h).toNat<128->q=p+1/\r=((s[p]'h).toNat:Int)) (b:128<=(s[p]'h).toNat->128<=r) :
  (CO 97 122 r||(decide (p≠0)&&(CO 48 57 r||r==45)))=flB s p/\(flB s p=true->q=p+1):=by
 unfold flB;rw[A5a s p h];by_cases c:(s[p]'h).toNat<128
 .obtain⟨d,a⟩:=h1 c;rw[a];exact⟨rfl,λ_=>d⟩
 have a:=b O1;have f:∀x:Int,128<=x->(CO 97 122 x||(decide (p≠0)&&(CO 48 57 x||x==45)))=false:=by
  intro x e;simp only[CO,AAj,AB9,Wx,ABp];exact⟨.inr O1,.inr ⟨.inr O1,O1⟩⟩
 rw[f r a,f _ O1];exact⟨rfl,λh=>by cases h⟩
theorem m9 (s:ByteArray):BF Tryz.prog 196 [.p T9 s,.fn 197] [] [] (λres _=>res=.p .bool (BG s false)):=by
 refine J0 [0,1,4,5,6,14,16,17,18,37] [] [] Tryz.func196 Tryz.ntmps196 (AG A57 (AG A58 AH)) ?_;intro w0 K O0 ρ0 a n t;have o:s.size<=AP:=n.1;simp only[Au];repeat'(first|exact a6|apply eS rfl|apply AB|refine rX a ?_ ?_|refine rC ?_ ?_<;>intro b<;>try(cases b;done))
 .have hf:BG s false=false:=by
   rw[Wi,AB9];exact .inl (AC6 O1)
  exact fM a [.tmp 4] (.p .bool false) eT (by rw[hf])
 refine cP 1 a ?_ ?_
 .trivial
 refine AAA a a5 ?_;refine FF ?_;repeat'(first|exact a6|apply eS rfl|apply AB|refine rP a ?_ ?_|fail)
 refine AJ (ι:={p:Nat//p<=s.size/\∀i,i<p->flB s i=true}) (λp=>⟨[(0,.p T9 s),(1,.fn 197),(16,.bp 16 [] 0)],[(16,.sit s p.1)]⟩) (λp=>s.size-p.1) ⟨0,GO _,λ_ h=>by omega⟩ (AC [(16,.nm 16)] rfl rfl ?_ ?_) (λp=>?_)
 .first|exact eN|refine eM ?_
 .first|exact eN|refine eM ?_
 obtain⟨p,u,f⟩:=p;simp only;repeat'(first|exact a6|apply eS rfl|apply AB|refine rP a ?_ ?_|fail)
 refine cP 0 a ?_ ?_
 .trivial
 refine AAB a o (λh=>?_) (λh q r x h1 j hi=>?_)
 .refine rL a ?_ ?_
  .trivial
  repeat'(first|exact a6|apply eS rfl|apply AB|refine rX a ?_ ?_|refine rC ?_ ?_<;>intro b<;>try(cases b;done))
  have w:p=s.size:=by omega
  have hf:BG s false=true:=by
   rw[Wi,AT];exact⟨ABm O1,NO.2 λi hi=>f i (by rw[tO]at hi;omega)⟩
  exact fM a [.tmp 4] (.p .bool true) eT (by rw[hf])
 have d:=A5b h h1 j;refine rL a ?_ ?_
 .trivial
 repeat'(first|exact a6|apply eS rfl|apply AB|refine rX a ?_ ?_|refine rC ?_ ?_<;>intro b<;>try(cases b;done))
 .have hf:BG s false=false:=by
   rw[Wi,AB9];refine .inr (ABL.2 λl=>?_);have:=NO.1 l p (tO.2 h);rw[<-d.1]at this;simp only[AA4,AT,If,AAh]at this;rcases b with ⟨ha,c⟩
   rw[ha]at this;rcases this with h|⟨v,h⟩
   .cases h
   rcases c with e|⟨e,g⟩
   .omega
   rw[e]at h;rcases h with h|h
   .cases h
   exact g h
  exact fM a [.tmp 4] (.p .bool false) eT (by rw[hf])
 have hf:flB s p=true:=by
  rw[<-d.1];simp only[AA4,AT,If,AAh];cases ha:CO 97 122 r
  .obtain⟨h0,k⟩:=b ha;refine .inr ⟨O1,?_⟩;cases c:CO 48 57 r
   .have:=k c;exact .inr (by simpa using this)
   exact .inl rfl
  exact .inl rfl
 obtain rfl:=d.2 hf;refine⟨⟨p+1,O1,λi hi=>?_⟩,a2,AC [(16,.nm 16)] rfl rfl ?_ ?_⟩
 .by_cases m:i=p
  .rw[m];exact hf
  exact f i O1
 .first|exact eN|refine eM ?_
 first|exact eN|refine eM ?_
def aZ:Ab:={ ins:=[T9],pre:=λ_=>True,out:=λ(s,_)=>[.p .bool (BG s false)] }
attribute [local go_sem] aZ
theorem A22:Af Tryz.prog 186 aZ:=by
 refine fK [0,2] Tryz.func186 Tryz.ntmps186 AH ?_;rintro w0 O0 ⟨s,u⟩ a - -;simp only[aZ,AM];repeat'(first|exact a6|apply eS rfl|apply AB|refine rX a ?_ ?_|refine rC ?_ ?_<;>intro b<;>try(cases b;done))
 refine cP 1 a ?_ ?_
 .trivial
 refine rM a (m9 s) [] [] ?_ ?_ ?_
 .exact eN
 .exact eN
 rintro _ _ rfl;refine⟨[],.p .bool (BG s false),[],rfl,rfl,?_,?_,rfl,rfl,?_⟩
 .exact eN
 .exact eN
 refine rL a ?_ ?_
 .trivial
 repeat'(first|exact a6|apply eS rfl|apply AB|refine rX a ?_ ?_|refine rC ?_ ?_<;>intro b<;>try(cases b;done))
 exact fI a [.tmp 2]
end
section
attribute [local go_sem] nmS aY QG NZ aZ K8 KY My Jk Io NG
theorem IR (h:(match P.underlying t with|some (.struct _)=>true|_=>false)=true):∃fs,P.underlying t=some (.struct fs):=by
 cases e:P.underlying t with
 | none=>rw[e]at h;cases h
 | some u =>
  rw[e]at h;cases u<;>first|exact⟨_,rfl⟩|cases h
theorem qZ {nm:String} {f:FuncId} (hs:∃fs,P.underlying t=some (.struct fs))
  (h:(match P.info? t with|some i=>(match i.methods.find? (·.name==nm) with|some m=>m.path.toList.isEmpty&&(m.func==some (f,false))|none=>false)|none=>false)=true) (w:World) (v:Value) :
  (method (P.types.size+Made.depth) t v nm).run P w=.ok (f,v) w:=by
 obtain⟨fs,hs⟩:=hs;cases hi:P.info? t with
 | none=>rw[hi]at h;cases h
 | some i =>
  rw[hi]at h;simp only at h;cases a:i.methods.find? (·.name==nm) with
  | none=>rw[a]at h;cases h
  | some m =>
   rw[a]at h;simp only[AT,List.isEmpty_iff,AAh]at h;obtain⟨h1,b⟩:=h;have hk:P.types.size+Made.depth=(P.types.size+(Made.depth-1))+1:=rfl;rw[hk];have c:(typeInfo t).run P w=.ok i w:=by simp[typeInfo,Sem.run,program,hi]
   simp[method,c,a,h1,b,follow,receiverAt,iF hs,Place.get]
theorem A23:Af Tryz.prog 234 nmS:=by
 refine fK [0,1,2] Tryz.func234 Tryz.ntmps234 AH ?_;rintro w0 O0 ⟨s,u⟩ a - -;simp only[nmS,AM];repeat'(first|exact a6|apply eS rfl|apply AB|refine rX a ?_ ?_|refine rC ?_ ?_<;>intro b<;>try(cases b;done))
 exact fI a [.tmp 2]
theorem A24:Af Tryz.prog 235 nmS:=by
 refine fK [0,1,2] Tryz.func235 Tryz.ntmps235 AH ?_;rintro w0 O0 ⟨s,u⟩ a - -;simp only[nmS,AM];repeat'(first|exact a6|apply eS rfl|apply AB|refine rX a ?_ ?_|refine rC ?_ ?_<;>intro b<;>try(cases b;done))
 exact fI a [.tmp 2]
def Ts (h:AE):Prop:=A1Y h/\0<=Aw h ⟨#[114,101,108]⟩/\0<=Aw h ⟨#[113,101,113]⟩
def S5 (h:AE) (f:List AD) (n:Int):List Qk:=if AK (CP h (AU f n).1) ⟨#[]⟩=false then [some (241,some (CP h (AU f n).1))] else []
def Nj (h:AE) (f:List AD) (n:Int):Bool:=Ai h (Aw h ⟨#[114,101,108]⟩) (AU f n).1&&BG (Yx h f n) false
def S6 (h:AE) (f:List AD) (n:Int):List Qk:=if Nj h f n=true then [some (244,some (Yx h f n))] else []
def S7 (h:AE) (f:List AD) (n:Int):List Qk:=if Ai h (Aw h ⟨#[113,101,113]⟩) (AU f n).1=true then [some (246,none)] else []
def Gw (h:AE) (f:List AD) (n:Int):List Qk:=S5 h f n++S6 h f n++S7 h f n
def FQ (h:AE) (f:List AD) (a b:Int) (d:List (Int×Int)) (c:List ByteArray) (es:List F2) (qs:List MD):List (Nat×Obj) :=
  [(1,.box 81 true [.p GH h,.p Ff f,.mp 2,.ag [.p T3 a,.p T3 b,.sr 3 T9 0 c.length,.sr 4 T54 0 es.length,.sr 5 T93 0 qs.length]]),
   (2,.mapo T3 T3 d),(3,.arr 9 T9 c),(4,.arr 54 T54 es),(5,.arr 93 T93 qs)]
theorem QX (q:Ai h (Aw h ⟨#[114,101,108]⟩) (AU f n).1=true/\BG (Yx h f n) false=true):Nj h f n=true:=by
 unfold Nj;rw[q.1,q.2];rfl
theorem QY (q:Ai h (Aw h ⟨#[114,101,108]⟩) (AU f n).1=true->BG (Yx h f n) false=false):¬Nj h f n=true:=by
 unfold Nj;rw[AT];rintro⟨a,b⟩;rw[q a]at b;cases b
theorem A25 (hs:Ts h) (ht:DU h f) (h0:0<=n) (h1:n<(f.length:Int)) (a b:Int) (k:List (Int×Int)) (l:List ByteArray) (es:List F2) (qs:List MD) :
  BF Tryz.prog 167 [.bp 1 [] 0,.p T3 n] (FQ h f a b k l es qs) [1,2]
  (λres m=>res=.p Q7 (Gw h f n)/\m=FQ h f a b k l es qs):=by
 refine J0 [0,1,4,5,6,7,8,25,55,72] [30,60,76] [] Tryz.func167 Tryz.ntmps167 (AG iG (AG QH (AG Py (AG A22 AH)))) ?_;intro w0 K O0 ρ0 c o q;simp only[Au,FQ];have j:0<=(f.getD n.toNat (0,[])).1/\(f.getD n.toNat (0,[])).1<(h.1.length:Int):=ht _ (AF f (0,[]) (IK ⟨h0,h1⟩));repeat'(first|exact a6|apply eS rfl|apply AB|refine rX c ?_ ?_|refine rC ?_ ?_<;>intro d<;>try(cases d;done))
 .exact⟨h0,h1⟩
 .exact⟨hs.1,j⟩
 .refine cP 3 c ?_ ?_
  .trivial
  refine A72 c (IR a5) ?_;refine rL c ?_ ?_
  .trivial
  repeat'(first|exact a6|apply eS rfl|apply AB|refine rX c ?_ ?_|refine rC ?_ ?_<;>intro d<;>try(cases d;done))
  .exact j
  .exact⟨⟨hs.2.1,HY h _⟩,j⟩
  .refine cP 3 c ?_ ?_
   .trivial
   refine A72 c (IR a5) ?_;refine rL c ?_ ?_
   .trivial
   repeat'(first|exact a6|apply eS rfl|apply AB|refine rX c ?_ ?_|refine rC ?_ ?_<;>intro d<;>try(cases d;done))
   .exact⟨⟨hs.2.2,HY h _⟩,j⟩
   .refine cP 1 c ?_ ?_
    .trivial
    refine A3Q c (IR a5) (λw=>run_build w _ #[] #[] a5) df ?_;refine rL c ?_ ?_
    .trivial
    repeat'(first|exact a6|apply eS rfl|apply AB|refine rX c ?_ ?_|refine rC ?_ ?_<;>intro d<;>try(cases d;done))
    rename_i g i;have e:Gw h f n=[some (241,some (CP h (f.getD n.toNat (0,[])).1)),some (244,some (List.getD h.1 (Int.toNat (f.getD n.toNat (0,[])).1) (ByteArray.empty,[],[],[])).1),some (246,none)]:=by
     unfold Gw S5 S6 S7;rw[At (show AK (CP h (AU f n).1) ⟨#[]⟩=false from g),At (QX i),At (show Ai h (Aw h ⟨#[113,101,113]⟩) (AU f n).1=true from d)];rfl
    refine C9 [31] ?_;exact fM c [.tmp 4] (.p Q7 [some (241,some (CP h (f.getD n.toNat (0,[])).1)),some (244,some (List.getD h.1 (Int.toNat (f.getD n.toNat (0,[])).1) (ByteArray.empty,[],[],[])).1),some (246,none)]) eT ⟨by rw[e],rfl⟩
   skip
   rename_i g i;have e:Gw h f n=[some (241,some (CP h (f.getD n.toNat (0,[])).1)),some (244,some (List.getD h.1 (Int.toNat (f.getD n.toNat (0,[])).1) (ByteArray.empty,[],[],[])).1)]:=by
    unfold Gw S5 S6 S7;rw[At (show AK (CP h (AU f n).1) ⟨#[]⟩=false from g),At (QX i),An (show ¬Ai h (Aw h ⟨#[113,101,113]⟩) (AU f n).1=true by rw[show Ai h (Aw h ⟨#[113,101,113]⟩) (AU f n).1=false from d];simp)];rfl
   refine C9 [31] ?_;exact fM c [.tmp 4] (.p Q7 [some (241,some (CP h (f.getD n.toNat (0,[])).1)),some (244,some (List.getD h.1 (Int.toNat (f.getD n.toNat (0,[])).1) (ByteArray.empty,[],[],[])).1)]) eT ⟨by rw[e],rfl⟩
  .exact⟨⟨hs.2.2,HY h _⟩,j⟩
  .refine cP 1 c ?_ ?_
   .trivial
   refine A3Q c (IR a5) (λw=>run_build w _ #[] #[] a5) df ?_;refine rL c ?_ ?_
   .trivial
   repeat'(first|exact a6|apply eS rfl|apply AB|refine rX c ?_ ?_|refine rC ?_ ?_<;>intro d<;>try(cases d;done))
   rename_i g i;have e:Gw h f n=[some (241,some (CP h (f.getD n.toNat (0,[])).1)),some (246,none)]:=by
    unfold Gw S5 S6 S7;rw[At (show AK (CP h (AU f n).1) ⟨#[]⟩=false from g),An (QY i),At (show Ai h (Aw h ⟨#[113,101,113]⟩) (AU f n).1=true from d)];rfl
   refine C9 [31] ?_;exact fM c [.tmp 4] (.p Q7 [some (241,some (CP h (f.getD n.toNat (0,[])).1)),some (246,none)]) eT ⟨by rw[e],rfl⟩
  skip
  rename_i g i;have e:Gw h f n=[some (241,some (CP h (f.getD n.toNat (0,[])).1))]:=by
   unfold Gw S5 S6 S7;rw[At (show AK (CP h (AU f n).1) ⟨#[]⟩=false from g),An (QY i),An (show ¬Ai h (Aw h ⟨#[113,101,113]⟩) (AU f n).1=true by rw[show Ai h (Aw h ⟨#[113,101,113]⟩) (AU f n).1=false from d];simp)];rfl
  refine C9 [31] ?_;exact fM c [.tmp 4] (.p Q7 [some (241,some (CP h (f.getD n.toNat (0,[])).1))]) eT ⟨by rw[e],rfl⟩
 .exact j
 .exact⟨⟨hs.2.1,HY h _⟩,j⟩
 .refine cP 3 c ?_ ?_
  .trivial
  refine A72 c (IR a5) ?_;refine rL c ?_ ?_
  .trivial
  repeat'(first|exact a6|apply eS rfl|apply AB|refine rX c ?_ ?_|refine rC ?_ ?_<;>intro d<;>try(cases d;done))
  .exact⟨⟨hs.2.2,HY h _⟩,j⟩
  .refine cP 1 c ?_ ?_
   .trivial
   refine A3Q c (IR a5) (λw=>run_build w _ #[] #[] a5) df ?_;refine rL c ?_ ?_
   .trivial
   repeat'(first|exact a6|apply eS rfl|apply AB|refine rX c ?_ ?_|refine rC ?_ ?_<;>intro d<;>try(cases d;done))
   rename_i g i;have e:Gw h f n=[some (244,some (List.getD h.1 (Int.toNat (f.getD n.toNat (0,[])).1) (ByteArray.empty,[],[],[])).1),some (246,none)]:=by
    unfold Gw S5 S6 S7;rw[An (show ¬AK (CP h (AU f n).1) ⟨#[]⟩=false by rw[show AK (CP h (AU f n).1) ⟨#[]⟩=true from g];simp),At (QX i),At (show Ai h (Aw h ⟨#[113,101,113]⟩) (AU f n).1=true from d)];rfl
   refine C9 [61] ?_;exact fM c [.tmp 4] (.p Q7 [some (244,some (List.getD h.1 (Int.toNat (f.getD n.toNat (0,[])).1) (ByteArray.empty,[],[],[])).1),some (246,none)]) eT ⟨by rw[e],rfl⟩
  skip
  rename_i g i;have e:Gw h f n=[some (244,some (List.getD h.1 (Int.toNat (f.getD n.toNat (0,[])).1) (ByteArray.empty,[],[],[])).1)]:=by
   unfold Gw S5 S6 S7;rw[An (show ¬AK (CP h (AU f n).1) ⟨#[]⟩=false by rw[show AK (CP h (AU f n).1) ⟨#[]⟩=true from g];simp),At (QX i),An (show ¬Ai h (Aw h ⟨#[113,101,113]⟩) (AU f n).1=true by rw[show Ai h (Aw h ⟨#[113,101,113]⟩) (AU f n).1=false from d];simp)];rfl
  refine C9 [61] ?_;exact fM c [.tmp 4] (.p Q7 [some (244,some (List.getD h.1 (Int.toNat (f.getD n.toNat (0,[])).1) (ByteArray.empty,[],[],[])).1)]) eT ⟨by rw[e],rfl⟩
 .exact⟨⟨hs.2.2,HY h _⟩,j⟩
 .refine cP 1 c ?_ ?_
  .trivial
  refine A3Q c (IR a5) (λw=>run_build w _ #[] #[] a5) df ?_;refine rL c ?_ ?_
  .trivial
  repeat'(first|exact a6|apply eS rfl|apply AB|refine rX c ?_ ?_|refine rC ?_ ?_<;>intro d<;>try(cases d;done))
  rename_i g i;have e:Gw h f n=[some (246,none)]:=by
   unfold Gw S5 S6 S7;rw[An (show ¬AK (CP h (AU f n).1) ⟨#[]⟩=false by rw[show AK (CP h (AU f n).1) ⟨#[]⟩=true from g];simp),An (QY i),At (show Ai h (Aw h ⟨#[113,101,113]⟩) (AU f n).1=true from d)];rfl
  refine C9 [77] ?_;exact fM c [.tmp 4] (.p Q7 [some (246,none)]) eT ⟨by rw[e],rfl⟩
 skip
 rename_i g i;have e:Gw h f n=[]:=by
  unfold Gw S5 S6 S7;rw[An (show ¬AK (CP h (AU f n).1) ⟨#[]⟩=false by rw[show AK (CP h (AU f n).1) ⟨#[]⟩=true from g];simp),An (QY i),An (show ¬Ai h (Aw h ⟨#[113,101,113]⟩) (AU f n).1=true by rw[show Ai h (Aw h ⟨#[113,101,113]⟩) (AU f n).1=false from d];simp)];rfl
 exact fM c [.tmp 4] (.p Q7 []) eT ⟨by rw[e],rfl⟩
end
section
attribute [local go_sem] nmS FQ K8 KY My Jk Io NG
def G5 (s:ByteArray×ByteArray×Bool):Qk->ByteArray×ByteArray×Bool
 | some (t,some x)=>if t=241 then (x,s.2.1,s.2.2) else if t=244 then (s.1,x,s.2.2) else s
 | some (t,none)=>if t=246 then (s.1,s.2.1,true) else s
 | none=>s
def Nk (h:AE) (f:List AD) (n:Int):ByteArray×ByteArray×Bool:=(CP h (AU f n).1,if Nj h f n=true then Yx h f n else ⟨#[]⟩,Ai h (Aw h ⟨#[113,101,113]⟩) (AU f n).1)
theorem A5c (h:AE) (f:List AD) (n:Int):(Gw h f n).foldl G5 (⟨#[]⟩,⟨#[]⟩,false)=Nk h f n:=by
 unfold Gw S5 S6 S7 Nk;cases a:AK (CP h (AU f n).1) ⟨#[]⟩<;>cases b:Nj h f n<;>cases c:Ai h (Aw h ⟨#[113,101,113]⟩) (AU f n).1<;>simp[G5];all_goals exact(IQ a).symm
theorem A5d {r:Qk} (a:r∈Gw h f n):(∃s,r=some (241,some s))\/(∃s,r=some (244,some s))\/r=some (246,none):=by
 unfold Gw S5 S6 S7 at a;simp only[IN]at a;rcases a with (a|a)|a<;>split at a
 .exact .inl ⟨_,iS.1 a⟩
 .cases a
 .exact .inr (.inl ⟨_,iS.1 a⟩)
 .cases a
 .exact .inr (.inr (iS.1 a))
 cases a
theorem A5e (h:AE) (f:List AD) (n:Int):(Gw h f n).length<=3:=by
 unfold Gw S5 S6 S7;simp only[IS];split<;>split<;>split<;>simp
theorem q9 (hs:Ts h) (ht:DU h f) (h0:0<=n) (h1:n<(f.length:Int)) (a b:Int) (j:List (Int×Int)) (k:List ByteArray) (es:List F2) (qs:List MD) :
  BF Tryz.prog 129 [.bp 1 [] 0,.p T3 n] (FQ h f a b j k es qs) [1,2]
  (λres t=>res=.tup [.p T9 (Nk h f n).1,.p T9 (Nk h f n).2.1,.p .bool (Nk h f n).2.2]/\t=FQ h f a b j k es qs):=by
 refine J0 [0,1,4,5,6,8,11,12,13,14,17,19,24,29] [] [] Tryz.func129 Tryz.ntmps129 AH ?_;intro w0 K O0 ρ0 c v x;simp only[Au,FQ];repeat'(first|exact a6|apply eS rfl|apply AB|refine rP c ?_ ?_|fail)
 refine cP 2 c ?_ ?_
 .trivial
 refine rM c (A25 hs ht h0 h1 a b j k es qs) [(1,.nm 1),(2,.nm 2),(3,.nm 3),(4,.nm 4),(5,.nm 5)] [3,4,5] ?_ ?_ ?_
 .first|exact eN|refine eM ?_
 .first|exact eN|refine eM ?_
 rintro _ _ ⟨rfl,rfl⟩;refine⟨[(1,.nm 1),(2,.nm 2),(3,.nm 3),(4,.nm 4),(5,.nm 5)],.p Q7 (Gw h f n),FQ h f a b j k es qs,rfl,rfl,?_,?_,rfl,rfl,?_⟩
 .first|exact eN|refine eM ?_
 .first|exact eN|refine eM ?_
 simp only[FQ];refine rL c ?_ ?_
 .trivial
 repeat'(first|exact a6|apply eS rfl|apply AB|refine rP c ?_ ?_|fail)
 have o:=λr (q:r∈Gw h f n)=>A5d q;have m:=A5c h f n;have u:=A5e h f n;generalize Gw h f n=L at *;refine AJ (ι:={i:Nat//i<=L.length}) (λi=>⟨[(0,.bp 1 [] 0),(4,.p T9 ((L.take i.1).foldl G5 (⟨#[]⟩,⟨#[]⟩,false)).1),(5,.p T9 ((L.take i.1).foldl G5 (⟨#[]⟩,⟨#[]⟩,false)).2.1),(6,.p .bool ((L.take i.1).foldl G5 (⟨#[]⟩,⟨#[]⟩,false)).2.2),(11,.p Q7 L),(12,.p (.int .i64) (L.length:Int)),(13,.p (.int .i64) (i.1:Int))],FQ h f a b j k es qs⟩) (λi=>L.length-i.1) ⟨0,GO _⟩ (AC [(1,.nm 1),(2,.nm 2),(3,.nm 3),(4,.nm 4),(5,.nm 5)] rfl rfl ?_ ?_) (λi=>?_)
 .first|exact eN|refine eM ?_
 .first|exact eN|refine eM ?_
  exact⟨rfl,rfl,rfl⟩
 obtain⟨i,hi⟩:=i;have g:i<L.length->(L.take (i+1)).foldl G5 (⟨#[]⟩,⟨#[]⟩,false)=G5 ((L.take i).foldl G5 (⟨#[]⟩,⟨#[]⟩,false)) (L.getD i none):=by
  intro e;rw[List.take_add_one,As e,ABz,AS,As e];rfl
 have l:i<L.length->L.getD i none∈L:=by
  intro e;rw[AS,As e];exact AAd e
 simp only[FQ];repeat'(first|exact a6|apply eS rfl|apply AB|refine rX c ?_ ?_|refine rC ?_ ?_<;>intro d<;>try(cases d;done))
 .exact d
 .have e:i<L.length:=by omega
  have g:=g e;generalize (L.take i).foldl G5 (⟨#[]⟩,⟨#[]⟩,false)=Z at *;have l:=o _ (l e);generalize L.getD i none=r at *;rcases l with ⟨s,rfl⟩|⟨s,rfl⟩|rfl
  .skip
   refine cP 0 c ?_ ?_
   .trivial
   refine tV c (IR a5) ⟨_,λw=>rfl⟩ ?_;refine rL c ?_ ?_
   .trivial
   repeat'(first|exact a6|apply eS rfl|apply AB|refine rX c ?_ ?_|refine rC ?_ ?_<;>intro d<;>try(cases d;done))
   refine cP 1 c ?_ ?_
   .trivial
   refine A9l c A23 (qZ (IR a5) a5) ?_;refine rL c ?_ ?_
   .trivial
   repeat'(first|exact a6|apply eS rfl|apply AB|refine rX c ?_ ?_|refine rC ?_ ?_<;>intro d<;>try(cases d;done))
   .exact eV
   refine⟨⟨i+1,O1⟩,a2,AC [(1,.nm 1),(2,.nm 2),(3,.nm 3),(4,.nm 4),(5,.nm 5)] rfl rfl ?_ ?_⟩
   .first|exact eN|refine eM ?_
   simp only[g,G5];first|exact eN|refine eM ?_
  .skip
   refine cP 0 c ?_ ?_
   .trivial
   refine tV c (IR a5) ⟨_,λw=>rfl⟩ ?_;refine rL c ?_ ?_
   .trivial
   repeat'(first|exact a6|apply eS rfl|apply AB|refine rX c ?_ ?_|refine rC ?_ ?_<;>intro d<;>try(cases d;done))
   refine cP 0 c ?_ ?_
   .trivial
   refine tV c (IR a5) ⟨_,λw=>rfl⟩ ?_;refine rL c ?_ ?_
   .trivial
   repeat'(first|exact a6|apply eS rfl|apply AB|refine rX c ?_ ?_|refine rC ?_ ?_<;>intro d<;>try(cases d;done))
   refine cP 1 c ?_ ?_
   .trivial
   refine A9l c A24 (qZ (IR a5) a5) ?_;refine rL c ?_ ?_
   .trivial
   repeat'(first|exact a6|apply eS rfl|apply AB|refine rX c ?_ ?_|refine rC ?_ ?_<;>intro d<;>try(cases d;done))
   .exact eV
   refine⟨⟨i+1,O1⟩,a2,AC [(1,.nm 1),(2,.nm 2),(3,.nm 3),(4,.nm 4),(5,.nm 5)] rfl rfl ?_ ?_⟩
   .first|exact eN|refine eM ?_
   simp only[g,G5];first|exact eN|refine eM ?_
  skip
  refine cP 0 c ?_ ?_
  .trivial
  refine tV c (IR a5) ⟨_,λw=>rfl⟩ ?_;refine rL c ?_ ?_
  .trivial
  repeat'(first|exact a6|apply eS rfl|apply AB|refine rX c ?_ ?_|refine rC ?_ ?_<;>intro d<;>try(cases d;done))
  refine cP 0 c ?_ ?_
  .trivial
  refine tV c (IR a5) ⟨_,λw=>rfl⟩ ?_;refine rL c ?_ ?_
  .trivial
  repeat'(first|exact a6|apply eS rfl|apply AB|refine rX c ?_ ?_|refine rC ?_ ?_<;>intro d<;>try(cases d;done))
  refine cP 0 c ?_ ?_
  .trivial
  refine tV c (IR a5) ⟨_,λw=>rfl⟩ ?_;refine rL c ?_ ?_
  .trivial
  repeat'(first|exact a6|apply eS rfl|apply AB|refine rX c ?_ ?_|refine rC ?_ ?_<;>intro d<;>try(cases d;done))
  .exact eV
  refine⟨⟨i+1,O1⟩,a2,AC [(1,.nm 1),(2,.nm 2),(3,.nm 3),(4,.nm 4),(5,.nm 5)] rfl rfl ?_ ?_⟩
  .first|exact eN|refine eM ?_
  simp only[g,G5];first|exact eN|refine eM ?_
 have e:i=L.length:=by omega
 subst e;rw[sL,m];exact fM c [.tmp 4,.tmp 5,.tmp 6] (.tup [.p T9 (Nk h f n).1,.p T9 (Nk h f n).2.1,.p .bool (Nk h f n).2.2]) eT ⟨rfl,rfl⟩
end
section
attribute [local go_sem] JN FQ K8 KY My Jk Io NG
theorem A5f (h:∀a∈l,0<=a.1):BT l (-1)=-1:=by
 induction l with
 | nil=>rfl
 | cons a l d =>
  have:=h a f7;unfold BT;rw[An O1];exact d λb c=>h b (IF _ c)
theorem rA (ha:QV h f) (n:Int) (s:ByteArray):AY h f n s=BT (AU f n).2 (BO h s):=by
 unfold AY;split
 .rfl
 have h1:=(GY h s).1;rw[show BO h s=-1 by omega,A5f];intro a b;by_cases c:n.toNat<f.length
 .exact(ha _ (by unfold AU;rw[AS,As c];exact AAd c) a b).1
 have:AU f n=(0,[]):=by unfold AU;rw[AS,oN O1];rfl
 rw[this]at b;cases b
def QZ (h:AE) (f:List AD) (n:Int) (s:ByteArray):Int×Bool:=if AY h f n s<0 then (0,false) else (AY h f n s,true)
theorem a9 (o:AX f) (ha:QV h f) (h0:0<=n) (h1:n<(f.length:Int)) (s:ByteArray) (a b:Int) (g:List (Int×Int)) (i:List ByteArray) (es:List F2) (qs:List MD) :
  BF Tryz.prog 83 [.bp 1 [] 0,.p T3 n,.p T9 s] (FQ h f a b g i es qs) [1,2]
  (λres u=>res=.tup [.p T3 (QZ h f n s).1,.p .bool (QZ h f n s).2]/\u=FQ h f a b g i es qs):=by
 refine J0 [0,1,2,6,7,8,10,25,26,27,28,34] [] [] Tryz.func83 Tryz.ntmps83 (AG WA AH) ?_;intro w0 K O0 ρ0 e w x;have y:=(o.2 _ (AF f (0,[]) (IK ⟨h0,h1⟩))).1;have t:AY h f n s=BT (f.getD n.toNat (0,[])).2 (BO h s):=rA ha n s;simp only[Au,FQ];repeat'(first|exact a6|apply eS rfl|apply AB|refine rX e ?_ ?_|refine rC ?_ ?_<;>intro c<;>try(cases c;done))
 .exact⟨h0,h1⟩
 refine AJ (ι:={k:Nat//k<=(f.getD n.toNat (0,[])).2.length/\BT (f.getD n.toNat (0,[])).2 (BO h s)=BT ((f.getD n.toNat (0,[])).2.drop k) (BO h s)}) (λk=>⟨[(0,.bp 1 [] 0),(8,.p T3 (BO h s)),(25,.p L5 (f.getD n.toNat (0,[])).2),(26,.p (.int .i64) ((f.getD n.toNat (0,[])).2.length:Int)),(27,.p (.int .i64) (k.1:Int))],FQ h f a b g i es qs⟩) (λk=>(f.getD n.toNat (0,[])).2.length-k.1) ⟨0,GO _,rfl⟩ (AC [(1,.nm 1),(2,.nm 2),(3,.nm 3),(4,.nm 4),(5,.nm 5)] rfl rfl ?_ ?_) (λk=>?_)
 .first|exact eN|refine eM ?_
 .first|exact eN|refine eM ?_
 obtain⟨k,hk,m⟩:=k;have r:=λd:k<(f.getD n.toNat (0,[])).2.length=>YZ (BO h s) (f.getD n.toNat (0,[])).2 d;simp only[FQ];repeat'(first|exact a6|apply eS rfl|apply AB|refine rX e ?_ ?_|refine rC ?_ ?_<;>intro c<;>try(cases c;done))
 .exact c
 .rename_i q;have d:k<(f.getD n.toNat (0,[])).2.length:=by omega
  have j:AY h f n s=((f.getD n.toNat (0,[])).2.getD k (0,0)).2:=by rw[t,m,r d,At c]
  have v:0<=AY h f n s:=by rw[j];exact((o.2 _ (AF f (0,[]) (IK ⟨h0,h1⟩))).2 _ (AF _ (0,0) d)).1
  have l:QZ h f n s=(((f.getD n.toNat (0,[])).2.getD k (0,0)).2,true):=by unfold QZ;rw[An O1,j]
  refine Ev.ent (σ':=⟨[(6,.p (.int .i64) ((f.getD n.toNat (0,[])).2.getD k (0,0)).2),(7,.p .bool true)],FQ h f a b g i es qs⟩) ?_ (AC [(1,.nm 1),(2,.nm 2),(3,.nm 3),(4,.nm 4),(5,.nm 5)] rfl rfl ?_ ?_)
  .exact fM e [.tmp 6,.tmp 7] (.tup [.p T3 (((f.getD n.toNat (0,[])).2.getD k (0,0)).2),.p .bool true]) eT ⟨by rw[l],rfl⟩
  .first|exact eN|refine eM ?_
  first|exact eN|refine eM ?_
 .exact eV
 .rename_i q;refine⟨⟨k+1,eV,m.trans ((r eV).trans (An c))⟩,a2,AC [(1,.nm 1),(2,.nm 2),(3,.nm 3),(4,.nm 4),(5,.nm 5)] rfl rfl ?_ ?_⟩
  .first|exact eN|refine eM ?_
  first|exact eN|refine eM ?_
 have j:AY h f n s=-1:=by
  rw[t,m,No O1];rfl
 have l:QZ h f n s=(0,false):=by unfold QZ;rw[At O1]
 exact fM e [.tmp 6,.tmp 7] (.tup [.p T3 (0:Int),.p .bool false]) eT ⟨by rw[l],rfl⟩
end
section
attribute [local go_sem] FQ K8 KY My Jk Io NG
def Nl:Nat->List Int->List (Int×Int)
 | _,[]=>[]
 | k,x :: r=>(x,(k:Int)) :: Nl (k+1) r
def IX (ns:List Int):List (Int×Int):=Nl 0 ns
theorem bA (x:Int):∀(l:List Int) (k:Nat),DW x k l=-1\/(k:Int)<=DW x k l/\DW x k l<((k+l.length:Nat):Int)
 | [],k=>.inl rfl
 | y :: l,k=>by
  unfold DW;split
  .exact .inr ⟨O1,by simp only[Is];omega⟩
  rcases bA x l (k+1) with h|⟨h1,a⟩
  .exact .inl h
  exact .inr ⟨O1,by simp only[Is];omega⟩
theorem Wj (x:Int):∀(l:List Int) (k:Nat),BV T3 T3 x (Nl k l)=if DW x k l<0 then none else some (DW x k l)
 | [],k=>rfl
 | y :: l,k=>by
  have b:=Wj x l (k+1);unfold Nl BV DW;by_cases h:y=x
  .subst h;simp[Hc]
  have a:¬x=y:=λe=>h e.symm;simp only[Hc,If,h,a,ABs];simpa[a] using b
theorem rB (x:Int) (v:Int):∀(l:List Int) (k:Nat),DW x k l<0->FH T3 T3 x v (Nl k l)=Nl k l++[(x,v)]
 | [],k,_=>rfl
 | y :: l,k,h=>by
  unfold DW at h;by_cases e:y=x
  .rw[At e]at h;omega
  rw[An e]at h;have b:=rB x v l (k+1) h;have a:¬x=y:=λq=>e q.symm;unfold Nl FH;simp only[Hc,If,a,ABs];simpa[a] using b
theorem iH (x:Int):∀(l:List Int) (k:Nat),Nl k (l++[x])=Nl k l++[(x,((k+l.length:Nat):Int))]
 | [],k=>rfl
 | y :: l,k=>by
  have a:=iH x l (k+1);simp only[To,Nl,a,Is];rw[show k+1+l.length=k+(l.length+1) by omega]
theorem Qa (x:Int):∀(l:List Int) (k:Nat),DW x k l<0->DW x k (l++[x])=((k+l.length:Nat):Int)
 | [],k,_=>by simp[DW]
 | y :: l,k,h=>by
  unfold DW at h;by_cases e:y=x
  .rw[At e]at h;omega
  rw[An e]at h;have a:=Qa x l (k+1) h;simp only[To,DW,An e,a,Is];rw[show k+1+l.length=k+(l.length+1) by omega]
def G6 (f:List AD) (ns:List Int):Prop:=ns.Nodup/\∀x∈ns,0<=x/\x<(f.length:Int)
theorem rD {x:Int}:∀(l:List Int) (k:Nat),DW x k l<0->x∉l
 | [],_,_=>by simp
 | y :: l,k,h=>by
  unfold DW at h;by_cases e:y=x
  .rw[At e]at h;omega
  rw[An e]at h;have a:=rD l (k+1) h;simp only[By,not_or];exact⟨λq=>e q.symm,a⟩
theorem A5g {ns:List Int} (h:G6 f ns) (h0:0<=n) (h1:n<(f.length:Int)):G6 f (AW ns n):=by
 unfold AW;split
 .rename_i q;refine⟨?_,λx c=>?_⟩
  .have:=rD ns 0 q;exact ABe.2 ⟨h.1,sc,by rintro a ha b d rfl;rw[iS]at d;subst d;exact this ha⟩
  rcases IN.1 c with c|c
  .exact h.2 x c
  rw[iS.1 c];exact⟨h0,h1⟩
 exact h
theorem A8a {ns:List Int} (h:G6 f ns):ns.length<=f.length:=by
 have h1:(ns.map Int.toNat).Nodup:=by
  refine AAI.2 (h.1.imp_of_mem ?_);intro a b ha d j e;have:=h.2 a ha;have:=h.2 b d;omega
 have c:=DC f.length _ h1 (λx g=>by
  obtain⟨y,i,rfl⟩:=Do.1 g;have:=h.2 y i;omega)
 simpa using c
def Ek (h:AE) (f:List AD) (a b:Int) (ns:List Int) (es:List F2) (qs:List MD):List (Nat×Obj):=FQ h f a b (IX ns) (ns.map (Di h f)) es qs
def Ou (h:AE) (f:List AD) (ns:List Int) (n:Int):(Int×Bool)×List Int:=if AK (Di h f n) ⟨#[]⟩=true then ((0,false),ns) else ((Ej (AW ns n) n,true),AW ns n)
theorem bB (hs:Ts h) (s:AX f) (ht:DU h f) (h0:0<=n) (h1:n<(f.length:Int)) {ns:List Int} (hn:G6 f ns) (a b:Int) (es:List F2) (qs:List MD) :
  BF Tryz.prog 84 [.bp 1 [] 0,.p T3 n] (Ek h f a b ns es qs) [1,2]
  (λres t=>res=.tup [.p T3 (Ou h f ns n).1.1,.p .bool (Ou h f ns n).1.2]/\t=Ek h f a b (Ou h f ns n).2 es qs):=by
 refine J0 [0,1,4,5,6,9,10,19,30] [50] [] Tryz.func84 Tryz.ntmps84 AH ?_;intro w0 K O0 ρ0 c w x;have j:Di h f n=CP h (AU f n).1:=An O1;have v:=A8a hn;have u:=s.1;simp only[Au,Ek,FQ];repeat'(first|exact a6|apply eS rfl|apply AB|refine rP c ?_ ?_|fail)
 refine cP 2 c ?_ ?_
 .trivial
 refine rM c (q9 hs ht h0 h1 a b (IX ns) (ns.map (Di h f)) es qs) [(1,.nm 1),(2,.nm 2),(3,.nm 3),(4,.nm 4),(5,.nm 5)] [3,4,5] ?_ ?_ ?_
 .first|exact eN|refine eM ?_
 .first|exact eN|refine eM ?_
 rintro _ _ ⟨rfl,rfl⟩;refine⟨[(1,.nm 1),(2,.nm 2),(3,.nm 3),(4,.nm 4),(5,.nm 5)],.tup [.p T9 (Nk h f n).1,.p T9 (Nk h f n).2.1,.p .bool (Nk h f n).2.2],FQ h f a b (IX ns) (ns.map (Di h f)) es qs,rfl,rfl,?_,?_,rfl,rfl,?_⟩
 .first|exact eN|refine eM ?_
 .first|exact eN|refine eM ?_
 simp only[FQ];refine rL c ?_ ?_
 .trivial
 repeat'(first|exact a6|apply eS rfl|apply AB|refine rX c ?_ ?_|refine rC ?_ ?_<;>intro d<;>try(cases d;done))
 .have e:Ou h f ns n=((0,false),ns):=At (by rw[j];exact d);exact fM c [.tmp 4,.tmp 5] (.tup [.p T3 (0:Int),.p .bool false]) eT ⟨by rw[e],by rw[e]⟩
 .simp only[On,AP];omega
 .rename_i q;have q:¬AK (Di h f n) ⟨#[]⟩=true:=by rw[j];rw[show AK (CP h (AU f n).1) ⟨#[]⟩=false from q];simp
  have g:Ej ns n<0:=by
   have:=Wj n ns 0;by_cases i:DW n 0 ns<0
   .exact i
   rw[An i]at this;rw[show BV T3 T3 n (IX ns)=some (DW n 0 ns) from this]at d;cases d
  have k:AW ns n=ns++[n]:=At g;have e:Ou h f ns n=(((ns.length:Int),true),ns++[n]):=by
   unfold Ou;rw[An q,k];have:=Qa n ns 0 g;rw[AB6]at this;rw[show Ej (ns++[n]) n=(ns.length:Int) from this]
  have l:FH T3 T3 n (((ns.map (Di h f)).length:Int)) (IX ns)=IX (ns++[n]):=by
   have h1:=rB n (ns.length:Int) ns 0 g;have m:=iH n ns 0;rw[AB6]at m;rw[On];exact h1.trans m.symm
  have o:ns.map (Di h f)++[(Nk h f n).1]=(ns++[n]).map (Di h f):=by
   rw[AAH,List.map_singleton,j];rfl
  have r:(ns.map (Di h f)).length+1=((ns++[n]).map (Di h f)).length:=by simp
  rw[l,o,r];exact fM c [.tmp 4,.tmp 5] (.tup [.p T3 ((ns.map (Di h f)).length:Int),.p .bool true]) eT ⟨by rw[e,On],by rw[e]⟩
 rename_i q;have q:¬AK (Di h f n) ⟨#[]⟩=true:=by rw[j];rw[show AK (CP h (AU f n).1) ⟨#[]⟩=false from q];simp
 have hf:=Wj n ns 0;have g:¬Ej ns n<0:=by
  intro i;rw[At (show DW n 0 ns<0 from i)]at hf;rw[show BV T3 T3 n (IX ns)=none from hf]at d;cases d
 rw[An (show ¬DW n 0 ns<0 from g)]at hf;have k:AW ns n=ns:=An g;have e:Ou h f ns n=((Ej ns n,true),ns):=by unfold Ou;rw[An q,k]
 have l:(BV T3 T3 n (IX ns)).getD 0=Ej ns n:=by rw[show BV T3 T3 n (IX ns)=some (DW n 0 ns) from hf];rfl
 rw[l];exact fM c [.tmp 4,.tmp 5] (.tup [.p T3 (Ej ns n),.p .bool true]) eT ⟨by rw[e],by rw[e]⟩
end
section
attribute [local go_sem] FQ Ek K8 KY My Jk Io NG
def CS (h:AE) (f:List AD) (ns:List Int) (n:Int) (s:ByteArray):(Int×Bool)×List Int :=
 if AY h f n s<0 then ((0,false),ns) else if AK (Di h f (AY h f n s)) ⟨#[104]⟩=false then ((0,false),ns) else Ou h f ns (AY h f n s)
theorem Tt (hs:Ts h) (g:AX f) (ht:DU h f) (ha:QV h f) (h0:0<=n) (h1:n<(f.length:Int)) (s:ByteArray) {ns:List Int} (hn:G6 f ns) (a b:Int) (es:List F2) (qs:List MD) :
  BF Tryz.prog 82 [.bp 1 [] 0,.p T3 n,.p T9 s] (Ek h f a b ns es qs) [1,2]
  (λres m=>res=.tup [.p T3 (CS h f ns n s).1.1,.p .bool (CS h f ns n s).1.2]/\m=Ek h f a b (CS h f ns n s).2 es qs):=by
 refine J0 [0,1,2,6,7,8,9,10,21,30] [] [] Tryz.func82 Tryz.ntmps82 AH ?_;intro w0 K O0 ρ0 c o r;have k:=JO (h:=h) g n s O1;simp only[Au,Ek,FQ];repeat'(first|exact a6|apply eS rfl|apply AB|refine rP c ?_ ?_|fail)
 refine cP 3 c ?_ ?_
 .trivial
 refine rM c (a9 g ha h0 h1 s a b (IX ns) (ns.map (Di h f)) es qs) [(1,.nm 1),(2,.nm 2),(3,.nm 3),(4,.nm 4),(5,.nm 5)] [3,4,5] ?_ ?_ ?_
 .first|exact eN|refine eM ?_
 .first|exact eN|refine eM ?_
 rintro _ _ ⟨rfl,rfl⟩;refine⟨[(1,.nm 1),(2,.nm 2),(3,.nm 3),(4,.nm 4),(5,.nm 5)],.tup [.p T3 (QZ h f n s).1,.p .bool (QZ h f n s).2],FQ h f a b (IX ns) (ns.map (Di h f)) es qs,rfl,rfl,?_,?_,rfl,rfl,?_⟩
 .first|exact eN|refine eM ?_
 .first|exact eN|refine eM ?_
 simp only[Ek,FQ];refine rL c ?_ ?_
 .trivial
 repeat'(first|exact a6|apply eS rfl|apply AB|refine rX c ?_ ?_|refine rC ?_ ?_<;>intro d<;>try(cases d;done))
 .have q:AY h f n s<0:=by
   unfold QZ at d;split at d
   .assumption
   cases d
  have e:CS h f ns n s=((0,false),ns):=At q;exact fM c [.tmp 6,.tmp 7] (.tup [.p T3 (0:Int),.p .bool false]) eT ⟨by rw[e],by rw[e]⟩
 have q:0<=AY h f n s/\(QZ h f n s).1=AY h f n s:=by
  unfold QZ at d ⊢;split
  .rename_i q;rw[At q]at d;cases d
  exact⟨O1,rfl⟩
 rw[q.2];have l:=q.1;have j:Di h f (AY h f n s)=(Nk h f (AY h f n s)).1:=An O1;have i:CS h f ns n s=if AK (Di h f (AY h f n s)) ⟨#[104]⟩=false then ((0,false),ns) else Ou h f ns (AY h f n s):=An O1
 generalize AY h f n s=v at *;refine cP 2 c ?_ ?_
 .trivial
 refine rM c (q9 hs ht l k a b (IX ns) (ns.map (Di h f)) es qs) [(1,.nm 1),(2,.nm 2),(3,.nm 3),(4,.nm 4),(5,.nm 5)] [3,4,5] ?_ ?_ ?_
 .first|exact eN|refine eM ?_
 .first|exact eN|refine eM ?_
 rintro _ _ ⟨rfl,rfl⟩;refine⟨[(1,.nm 1),(2,.nm 2),(3,.nm 3),(4,.nm 4),(5,.nm 5)],.tup [.p T9 (Nk h f v).1,.p T9 (Nk h f v).2.1,.p .bool (Nk h f v).2.2],FQ h f a b (IX ns) (ns.map (Di h f)) es qs,rfl,rfl,?_,?_,rfl,rfl,?_⟩
 .first|exact eN|refine eM ?_
 .first|exact eN|refine eM ?_
 simp only[Ek,FQ];refine rL c ?_ ?_
 .trivial
 repeat'(first|exact a6|apply eS rfl|apply AB|refine rX c ?_ ?_|refine rC ?_ ?_<;>intro d<;>try(cases d;done))
 .have e:CS h f ns n s=((0,false),ns):=i.trans (At (by rw[j];exact d));exact fM c [.tmp 6,.tmp 7] (.tup [.p T3 (0:Int),.p .bool false]) eT ⟨by rw[e],by rw[e]⟩
 have e:CS h f ns n s=Ou h f ns v:=i.trans (An (by rw[j];rw[d];simp));rw[e];refine cP 2 c ?_ ?_
 .trivial
 refine rM c (bB hs g ht l k hn a b es qs) [(1,.nm 1),(2,.nm 2),(3,.nm 3),(4,.nm 4),(5,.nm 5)] [3,4,5] ?_ ?_ ?_
 .first|exact eN|refine eM ?_
 .first|exact eN|refine eM ?_
 rintro _ _ ⟨rfl,rfl⟩;refine⟨[(1,.nm 1),(2,.nm 2),(3,.nm 3),(4,.nm 4),(5,.nm 5)],.tup [.p T3 (Ou h f ns v).1.1,.p .bool (Ou h f ns v).1.2],Ek h f a b (Ou h f ns v).2 es qs,rfl,rfl,?_,?_,rfl,rfl,?_⟩
 .first|exact eN|refine eM ?_
 .first|exact eN|refine eM ?_
 simp only[Ek,FQ];refine rL c ?_ ?_
 .trivial
 repeat'(first|exact a6|apply eS rfl|apply AB|refine rX c ?_ ?_|refine rC ?_ ?_<;>intro d<;>try(cases d;done))
 exact fM c [.tmp 6,.tmp 7] (.tup [.p T3 (Ou h f ns v).1.1,.p .bool (Ou h f ns v).1.2]) eT ⟨rfl,rfl⟩
end
section
attribute [local go_sem] FQ Ek K8 KY My Jk Io NG
def K0 (h:AE) (f:List AD) (st:List Int×List RF) (a:Int×Int):List Int×List RF :=
 if AK (Rp h a) ⟨#[76,65,66,69,76]⟩=true then st else ((Ou h f st.1 a.2).2,if (Ou h f st.1 a.2).1.2=true then st.2++[(Rp h a,(Ou h f st.1 a.2).1.1)] else st.2)
def Ks (h:AE) (f:List AD) (ns:List Int) (es:List F2) (n:Int):Bool×List Int×List F2 :=
 if AK (Nk h f n).2.1 ⟨#[]⟩=true\/(CS h f ns n ⟨#[76,65,66,69,76]⟩).1.2=false then (false,(CS h f ns n ⟨#[76,65,66,69,76]⟩).2,es)
 else (true,((AU f n).2.foldl (K0 h f) ((CS h f ns n ⟨#[76,65,66,69,76]⟩).2,[])).1,es++[((Nk h f n).2.1,(CS h f ns n ⟨#[76,65,66,69,76]⟩).1.1,((AU f n).2.foldl (K0 h f) ((CS h f ns n ⟨#[76,65,66,69,76]⟩).2,[])).2)])
theorem rE {ns:List Int} (hn:G6 f ns) (h:AE) (h0:0<=n) (h1:n<(f.length:Int)):G6 f (Ou h f ns n).2:=by
 unfold Ou;split
 .exact hn
 exact A5g hn h0 h1
theorem Oi {ns:List Int} (hn:G6 f ns) (b:AX f) (n:Int) (s:ByteArray) (h0:0<f.length):G6 f (CS h f ns n s).2:=by
 unfold CS;have a:=JO (h:=h) b n s h0;split
 .exact hn
 split
 .exact hn
 exact rE hn h O1 a
theorem rF (l:List (Int×Int)):∀(st:List Int×List RF),G6 f st.1->(∀a∈l,0<=a.2/\a.2<(f.length:Int))->G6 f (l.foldl (K0 h f) st).1/\(l.foldl (K0 h f) st).2.length<=st.2.length+l.length:=by
 induction l with
 | nil=>intro st h _;exact⟨h,sc⟩
 | cons a l g =>
  intro st d ha;have h1:G6 f (K0 h f st a).1/\(K0 h f st a).2.length<=st.2.length+1:=by
   unfold K0;split
   .exact⟨d,O1⟩
   refine⟨rE d h (ha a f7).1 (ha a f7).2,?_⟩;dsimp only;split
   .simp
   omega
  have c:=g (K0 h f st a) h1.1 (λb e=>ha b (IF _ e));refine⟨c.1,?_⟩;have:=c.2;have:=h1.2;simp only[ON,Is];omega
theorem A5h (hs:Ts h) (l:AX f) (ht:DU h f) (ha:QV h f) (h0:0<=n) (h1:n<(f.length:Int)) {ns:List Int} (hn:G6 f ns) (a b:Int) (es:List F2) (F:es.length<=200000) (qs:List MD) :
  BF Tryz.prog 86 [.bp 1 [] 0,.p T3 n] (Ek h f a b ns es qs) [1,2]
  (λres D=>res=.p .bool (Ks h f ns es n).1/\D=Ek h f a b (Ks h f ns es n).2.1 (Ks h f ns es n).2.2 qs):=by
 refine J0 [0,1,4,6,8,9,10,12,13,14,15,34,46,47,48,49,63,71] [77,88] [] Tryz.func86 Tryz.ntmps86 AH ?_;intro w0 K O0 ρ0 c G H;have s:=AF f (0,[]) (IK ⟨h0,h1⟩);have E:=(l.2 _ s).1;have t:=(l.2 _ s).2;have z:=ha _ s;have A:0<f.length:=by omega
 have hh:=Oi (h:=h) hn l n ⟨#[76,65,66,69,76]⟩ A;have o:Ks h f ns es n=if AK (Nk h f n).2.1 ⟨#[]⟩=true\/(CS h f ns n ⟨#[76,65,66,69,76]⟩).1.2=false then (false,(CS h f ns n ⟨#[76,65,66,69,76]⟩).2,es)
  else (true,((AU f n).2.foldl (K0 h f) ((CS h f ns n ⟨#[76,65,66,69,76]⟩).2,[])).1,es++[((Nk h f n).2.1,(CS h f ns n ⟨#[76,65,66,69,76]⟩).1.1,((AU f n).2.foldl (K0 h f) ((CS h f ns n ⟨#[76,65,66,69,76]⟩).2,[])).2)]):=rfl
 simp only[Au,Ek,FQ];repeat'(first|exact a6|apply eS rfl|apply AB|refine rP c ?_ ?_|fail)
 refine cP 2 c ?_ ?_
 .trivial
 refine rM c (q9 hs ht h0 h1 a b (IX ns) (ns.map (Di h f)) es qs) [(1,.nm 1),(2,.nm 2),(3,.nm 3),(4,.nm 4),(5,.nm 5)] [3,4,5] ?_ ?_ ?_
 .first|exact eN|refine eM ?_
 .first|exact eN|refine eM ?_
 rintro _ _ ⟨rfl,rfl⟩;refine⟨[(1,.nm 1),(2,.nm 2),(3,.nm 3),(4,.nm 4),(5,.nm 5)],.tup [.p T9 (Nk h f n).1,.p T9 (Nk h f n).2.1,.p .bool (Nk h f n).2.2],FQ h f a b (IX ns) (ns.map (Di h f)) es qs,rfl,rfl,?_,?_,rfl,rfl,?_⟩
 .first|exact eN|refine eM ?_
 .first|exact eN|refine eM ?_
 simp only[Ek,FQ];refine rL c ?_ ?_
 .trivial
 repeat'(first|exact a6|apply eS rfl|apply AB|refine rX c ?_ ?_|refine rC ?_ ?_<;>intro d<;>try(cases d;done))
 generalize (Nk h f n).2.1=p at *;refine cP 2 c ?_ ?_
 .trivial
 refine rM c (Tt hs l ht ha h0 h1 ⟨#[76,65,66,69,76]⟩ hn a b es qs) [(1,.nm 1),(2,.nm 2),(3,.nm 3),(4,.nm 4),(5,.nm 5)] [3,4,5] ?_ ?_ ?_
 .first|exact eN|refine eM ?_
 .first|exact eN|refine eM ?_
 rintro _ _ ⟨rfl,rfl⟩;refine⟨[(1,.nm 1),(2,.nm 2),(3,.nm 3),(4,.nm 4),(5,.nm 5)],.tup [.p T3 (CS h f ns n ⟨#[76,65,66,69,76]⟩).1.1,.p .bool (CS h f ns n ⟨#[76,65,66,69,76]⟩).1.2],Ek h f a b (CS h f ns n ⟨#[76,65,66,69,76]⟩).2 es qs,rfl,rfl,?_,?_,rfl,rfl,?_⟩
 .first|exact eN|refine eM ?_
 .first|exact eN|refine eM ?_
 simp only[Ek,FQ];generalize CS h f ns n ⟨#[76,65,66,69,76]⟩=i at *;refine rL c ?_ ?_
 .trivial
 repeat'(first|exact a6|apply eS rfl|apply AB|refine rX c ?_ ?_|refine rC ?_ ?_<;>intro d<;>try(cases d;done))
 .have e:Ks h f ns es n=(false,i.2,es):=o.trans (At (by revert d;simp));exact fM c [.tmp 4] (.p .bool false) eT ⟨by rw[e],by rw[e]⟩
 .exact⟨h0,h1⟩
 have e:=o.trans (An (by revert d;simp));rw[e];clear e o d;have B:f.getD n.toNat (0,[])=AU f n:=rfl;simp only[B]at *;refine AJ (ι:={k:Nat//k<=(AU f n).2.length}) (λk=>⟨[(0,.bp 1 [] 0),(10,.bp 10 [] 0),(46,.p L5 (AU f n).2),(47,.p (.int .i64) ((AU f n).2.length:Int)),(48,.p (.int .i64) (k.1:Int))],(10,.box 54 true [.p T9 p,.p T3 i.1.1,.sr 78 T91 0 (((AU f n).2.take k.1).foldl (K0 h f) (i.2,[])).2.length]) :: (78,.arr 91 T91 (((AU f n).2.take k.1).foldl (K0 h f) (i.2,[])).2) :: Ek h f a b (((AU f n).2.take k.1).foldl (K0 h f) (i.2,[])).1 es qs⟩) (λk=>(AU f n).2.length-k.1) ⟨0,GO _⟩ (AC [(1,.nm 1),(2,.nm 2),(3,.nm 3),(4,.nm 4),(5,.nm 5),(10,.nm 10),(78,.nil)] rfl rfl ?_ ?_) (λk=>?_)
 .first|exact eN|refine eM ?_
  exact⟨rfl,rfl,rfl,rfl,rfl⟩
 .first|exact eN|refine eM ?_
 obtain⟨k,hk⟩:=k;have g:=λq:k<(AU f n).2.length=>eK (K0 h f) (AU f n).2 (0,0) (i.2,[]) q;have u:=λq:k<(AU f n).2.length=>AF (AU f n).2 (0,0) q;have r:=rF (h:=h) ((AU f n).2.take k) (i.2,[]) hh (λx C=>t x (AAC C));generalize w:((AU f n).2.take k).foldl (K0 h f) (i.2,[])=Z at *;simp only[Ek,FQ];repeat'(first|exact a6|apply eS rfl|apply AB|refine rX c ?_ ?_|refine rC ?_ ?_<;>intro d<;>try(cases d;done))
 .exact d
 .exact z _ (u eV)
 .exact eV
 .have g:=g eV;rw[show K0 h f Z ((AU f n).2.getD k (0,0))=Z from At d]at g;refine⟨⟨k+1,eV⟩,a2,AC [(1,.nm 1),(2,.nm 2),(3,.nm 3),(4,.nm 4),(5,.nm 5),(10,.nm 10),(78,.nm 78)] rfl rfl ?_ ?_⟩
  .simp only[g];first|exact eN|refine eM ?_
  simp only[g,Ek,FQ];first|exact eN|refine eM ?_
 .rename_i J;have j:k<(AU f n).2.length:=by omega
  have m:=t _ (u j);have g:=(g j).trans (An (show ¬AK (Rp h ((AU f n).2.getD k (0,0))) ⟨#[76,65,66,69,76]⟩=true by unfold Rp;rw[d];simp));have I:=rE r.1 h m.1 m.2;refine cP 3 c ?_ ?_
  .trivial
  refine rM c (bB hs l ht m.1 m.2 r.1 a b es qs) [(1,.nm 1),(2,.nm 2),(3,.nm 3),(4,.nm 4),(5,.nm 5)] [3,4,5] ?_ ?_ ?_
  .first|exact eN|refine eM ?_
  .first|exact eN|refine eM ?_
  rintro _ _ ⟨rfl,rfl⟩;refine⟨[(1,.nm 1),(2,.nm 2),(3,.nm 3),(4,.nm 4),(5,.nm 5)],.tup [.p T3 (Ou h f Z.1 ((AU f n).2.getD k (0,0)).2).1.1,.p .bool (Ou h f Z.1 ((AU f n).2.getD k (0,0)).2).1.2],Ek h f a b (Ou h f Z.1 ((AU f n).2.getD k (0,0)).2).2 es qs,rfl,rfl,?_,?_,rfl,rfl,?_⟩
  .first|exact eN|refine eM ?_
  .first|exact eN|refine eM ?_
  simp only[Ek,FQ];generalize Ou h f Z.1 ((AU f n).2.getD k (0,0)).2=V at *;refine rL c ?_ ?_
  .trivial
  repeat'(first|exact a6|apply eS rfl|apply AB|refine rX c ?_ ?_|refine rC ?_ ?_<;>intro d<;>try(cases d;done))
  .simp only[AP];have:=r.2;simp only[Of,AAt]at this;omega
  .exact eV
  .rw[d,At rfl]at g;refine⟨⟨k+1,j⟩,a2,AC [(1,.nm 1),(2,.nm 2),(3,.nm 3),(4,.nm 4),(5,.nm 5),(10,.nm 10),(78,.nm 78)] rfl rfl ?_ ?_⟩
   .simp only[g,Ek,FQ,Rp];first|exact eN|refine eM ?_
   simp only[g,Ek,FQ];first|exact eN|refine eM ?_
  .exact eV
  rw[d,An sc]at g;refine⟨⟨k+1,j⟩,a2,AC [(1,.nm 1),(2,.nm 2),(3,.nm 3),(4,.nm 4),(5,.nm 5),(10,.nm 10),(78,.nm 78)] rfl rfl ?_ ?_⟩
  .simp only[g,Ek,FQ];first|exact eN|refine eM ?_
  simp only[g,Ek,FQ];first|exact eN|refine eM ?_
 have j:(AU f n).2.take k=(AU f n).2:=BY eV;refine C9 [78] ?_;refine Lz drawsAny c 9 [([1,2,3,4,5,6,7],8)] [0] a5 (mxA ?_ ?_)
 .trivial
 refine mxL c [4] ?_ ?_
 .simp only[AP];omega
 refine mxE c ?_ ?_ ?_
 .trivial
 .trivial
 repeat'(first|exact a6|apply eS rfl|apply AB|refine rX c ?_ ?_|refine rC ?_ ?_<;>intro d<;>try(cases d;done))
 have y:(AU f n).2.foldl (K0 h f) (i.2,[])=Z:=by rw[<-w,j]
 rw[y];have v:es.length+1=(es++[(p,i.1.1,Z.2)]).length:=by simp
 rw[v];refine Ev.ent (σ':=⟨[(4,.p .bool true)],Ek h f a b Z.1 (es++[(p,i.1.1,Z.2)]) qs⟩) ?_ (AC [(1,.nm 1),(2,.nm 2),(3,.nm 3),(4,.nm 4),(5,.nm 5)] rfl rfl ?_ ?_)
 .exact fM c [.tmp 4] (.p .bool true) eT ⟨rfl,rfl⟩
 .first|exact eN|refine eM ?_
 first|exact eN|refine eM ?_
end
section
attribute [local go_sem] FQ Ek K8 KY My Jk Io NG
def Kt (h:AE) (f:List AD) (ns:List Int) (qs:List MD) (n:Int):Bool×List Int×List MD :=
 if (Nk h f n).2.2=false\/(CS h f ns n ⟨#[72,73,71,72]⟩).1.2=false then (false,(CS h f ns n ⟨#[72,73,71,72]⟩).2,qs)
 else ((CS h f (CS h f ns n ⟨#[72,73,71,72]⟩).2 n ⟨#[76,79,87]⟩).1.2,(CS h f (CS h f ns n ⟨#[72,73,71,72]⟩).2 n ⟨#[76,79,87]⟩).2,qs++[((CS h f ns n ⟨#[72,73,71,72]⟩).1.1,(CS h f (CS h f ns n ⟨#[72,73,71,72]⟩).2 n ⟨#[76,79,87]⟩).1.1)])
theorem A5i (hs:Ts h) (i:AX f) (ht:DU h f) (ha:QV h f) (h0:0<=n) (h1:n<(f.length:Int)) {ns:List Int} (hn:G6 f ns) (a b:Int) (es:List F2) (qs:List MD) (t:qs.length<=200000) :
  BF Tryz.prog 87 [.bp 1 [] 0,.p T3 n] (Ek h f a b ns es qs) [1,2]
  (λres o=>res=.p .bool (Kt h f ns qs n).1/\o=Ek h f a b (Kt h f ns qs n).2.1 es (Kt h f ns qs n).2.2):=by
 refine J0 [0,1,4,7,8,9,10,29] [45] [] Tryz.func87 Tryz.ntmps87 AH ?_;intro w0 K O0 ρ0 c r s;have l:0<f.length:=by omega
 have hh:=Oi (h:=h) hn i n ⟨#[72,73,71,72]⟩ l;have q:=Oi (h:=h) hh i n ⟨#[76,79,87]⟩ l;have j:Kt h f ns qs n=if (Nk h f n).2.2=false\/(CS h f ns n ⟨#[72,73,71,72]⟩).1.2=false then (false,(CS h f ns n ⟨#[72,73,71,72]⟩).2,qs)
  else ((CS h f (CS h f ns n ⟨#[72,73,71,72]⟩).2 n ⟨#[76,79,87]⟩).1.2,(CS h f (CS h f ns n ⟨#[72,73,71,72]⟩).2 n ⟨#[76,79,87]⟩).2,qs++[((CS h f ns n ⟨#[72,73,71,72]⟩).1.1,(CS h f (CS h f ns n ⟨#[72,73,71,72]⟩).2 n ⟨#[76,79,87]⟩).1.1)]):=rfl
 simp only[Au,Ek,FQ];repeat'(first|exact a6|apply eS rfl|apply AB|refine rP c ?_ ?_|fail)
 refine cP 2 c ?_ ?_
 .trivial
 refine rM c (q9 hs ht h0 h1 a b (IX ns) (ns.map (Di h f)) es qs) [(1,.nm 1),(2,.nm 2),(3,.nm 3),(4,.nm 4),(5,.nm 5)] [3,4,5] ?_ ?_ ?_
 .first|exact eN|refine eM ?_
 .first|exact eN|refine eM ?_
 rintro _ _ ⟨rfl,rfl⟩;refine⟨[(1,.nm 1),(2,.nm 2),(3,.nm 3),(4,.nm 4),(5,.nm 5)],.tup [.p T9 (Nk h f n).1,.p T9 (Nk h f n).2.1,.p .bool (Nk h f n).2.2],FQ h f a b (IX ns) (ns.map (Di h f)) es qs,rfl,rfl,?_,?_,rfl,rfl,?_⟩
 .first|exact eN|refine eM ?_
 .first|exact eN|refine eM ?_
 simp only[Ek,FQ];refine rL c ?_ ?_
 .trivial
 repeat'(first|exact a6|apply eS rfl|apply AB|refine rX c ?_ ?_|refine rC ?_ ?_<;>intro d<;>try(cases d;done))
 generalize (Nk h f n).2.2=p at *;refine cP 2 c ?_ ?_
 .trivial
 refine rM c (Tt hs i ht ha h0 h1 ⟨#[72,73,71,72]⟩ hn a b es qs) [(1,.nm 1),(2,.nm 2),(3,.nm 3),(4,.nm 4),(5,.nm 5)] [3,4,5] ?_ ?_ ?_
 .first|exact eN|refine eM ?_
 .first|exact eN|refine eM ?_
 rintro _ _ ⟨rfl,rfl⟩;refine⟨[(1,.nm 1),(2,.nm 2),(3,.nm 3),(4,.nm 4),(5,.nm 5)],.tup [.p T3 (CS h f ns n ⟨#[72,73,71,72]⟩).1.1,.p .bool (CS h f ns n ⟨#[72,73,71,72]⟩).1.2],Ek h f a b (CS h f ns n ⟨#[72,73,71,72]⟩).2 es qs,rfl,rfl,?_,?_,rfl,rfl,?_⟩
 .first|exact eN|refine eM ?_
 .first|exact eN|refine eM ?_
 simp only[Ek,FQ];generalize CS h f ns n ⟨#[72,73,71,72]⟩=g at *;refine rL c ?_ ?_
 .trivial
 repeat'(first|exact a6|apply eS rfl|apply AB|refine rX c ?_ ?_|refine rC ?_ ?_<;>intro d<;>try(cases d;done))
 .have e:Kt h f ns qs n=(false,g.2,qs):=j.trans (At (by revert d;simp));exact fM c [.tmp 4] (.p .bool false) eT ⟨by rw[e],by rw[e]⟩
 have e:=j.trans (An (by revert d;simp));rw[e];clear e j d;refine cP 2 c ?_ ?_
 .trivial
 refine rM c (Tt hs i ht ha h0 h1 ⟨#[76,79,87]⟩ hh a b es qs) [(1,.nm 1),(2,.nm 2),(3,.nm 3),(4,.nm 4),(5,.nm 5)] [3,4,5] ?_ ?_ ?_
 .first|exact eN|refine eM ?_
 .first|exact eN|refine eM ?_
 rintro _ _ ⟨rfl,rfl⟩;refine⟨[(1,.nm 1),(2,.nm 2),(3,.nm 3),(4,.nm 4),(5,.nm 5)],.tup [.p T3 (CS h f g.2 n ⟨#[76,79,87]⟩).1.1,.p .bool (CS h f g.2 n ⟨#[76,79,87]⟩).1.2],Ek h f a b (CS h f g.2 n ⟨#[76,79,87]⟩).2 es qs,rfl,rfl,?_,?_,rfl,rfl,?_⟩
 .first|exact eN|refine eM ?_
 .first|exact eN|refine eM ?_
 simp only[Ek,FQ];generalize CS h f g.2 n ⟨#[76,79,87]⟩=k at *;refine rL c ?_ ?_
 .trivial
 repeat'(first|exact a6|apply eS rfl|apply AB|refine rX c ?_ ?_|refine rC ?_ ?_<;>intro d<;>try(cases d;done))
 .simp only[AP];omega
 have m:qs.length+1=(qs++[(g.1.1,k.1.1)]).length:=by simp
 rw[m];exact fM c [.tmp 4] (.p .bool k.1.2) eT ⟨rfl,rfl⟩
end
section
attribute [local go_sem] FQ Ek Mc K8 KY My Jk Io NG
abbrev D0:=List Int×List F2×List MD
def CQ (G:D0->Int->Bool×D0):List Int->D0->Bool×D0
 | [],st=>(true,st)
 | x :: l,st=>if (G st x).1=true then CQ G l (G st x).2 else (false,(G st x).2)
theorem nA (G:D0->Int->Bool×D0) (l:List Int) (st:D0) {k:Nat} (h:k<l.length):CQ G (l.drop k) st=if (G st (l.getD k 0)).1=true then CQ G (l.drop (k+1)) (G st (l.getD k 0)).2 else (false,(G st (l.getD k 0)).2):=by
 rw[OR h,AS,As h];rfl
def Eg (h:AE) (f:List AD) (G:D0->Int->Bool×D0) (st:D0) (n:Int) (s:ByteArray):Int×D0 :=
 if AY h f n s<0 then (13,st) else if (AQ h f (AY h f n s)).2≠0 then ((AQ h f (AY h f n s)).2,st)
 else (if (CQ G (AQ h f (AY h f n s)).1 st).1=true then 0 else 13,(CQ G (AQ h f (AY h f n s)).1 st).2)
theorem Wk (u:AX f) (ht:DU h f) (ha:QV h f) (h0:0<=n) (h1:n<(f.length:Int)) (s:ByteArray) (a b:Int) (g:Nat) (G:D0->Int->Bool×D0) (Q:Nat->D0->Prop)
  (hG:∀k st x,Q k st->k<200000->0<=x->x<(f.length:Int)->BF Tryz.prog g [.bp 1 [] 0,.p T3 x] (Ek h f a b st.1 st.2.1 st.2.2) [1,2] (λres z=>res=.p .bool (G st x).1/\z=Ek h f a b (G st x).2.1 (G st x).2.2.1 (G st x).2.2.2))
  (w:∀k st x,Q k st->0<=x->x<(f.length:Int)->Q (k+1) (G st x).2) (st:D0) (A:Q 0 st) :
  BF Tryz.prog 85 [.bp 1 [] 0,.p T3 n,.p T9 s,.clo (1000000+g) [1]] (Ek h f a b st.1 st.2.1 st.2.2) [1,2]
  (λres z=>res=.p C3 (Eg h f G st n s).1/\z=Ek h f a b (Eg h f G st n s).2.1 (Eg h f G st n s).2.2.1 (Eg h f G st n s).2.2.2):=by
 refine J0 [0,1,2,3,8,9,10,11,12,14,23,38,40,41,42,43,49] [] [] Tryz.func85 Tryz.ntmps85 (AG iD AH) ?_;intro w0 K O0 ρ0 d H I;have C:0<f.length:=by omega
 have E:=JO (h:=h) u n s C;have r:Eg h f G st n s=if AY h f n s<0 then (13,st) else if (AQ h f (AY h f n s)).2≠0 then ((AQ h f (AY h f n s)).2,st)
  else (if (CQ G (AQ h f (AY h f n s)).1 st).1=true then 0 else 13,(CQ G (AQ h f (AY h f n s)).1 st).2):=rfl
 simp only[Au,Ek,FQ];repeat'(first|exact a6|apply eS rfl|apply AB|refine rP d ?_ ?_|fail)
 refine cP 3 d ?_ ?_
 .trivial
 refine rM d (a9 u ha h0 h1 s a b (IX st.1) (st.1.map (Di h f)) st.2.1 st.2.2) [(1,.nm 1),(2,.nm 2),(3,.nm 3),(4,.nm 4),(5,.nm 5)] [3,4,5] ?_ ?_ ?_
 .first|exact eN|refine eM ?_
 .first|exact eN|refine eM ?_
 rintro _ _ ⟨rfl,rfl⟩;refine⟨[(1,.nm 1),(2,.nm 2),(3,.nm 3),(4,.nm 4),(5,.nm 5)],.tup [.p T3 (QZ h f n s).1,.p .bool (QZ h f n s).2],FQ h f a b (IX st.1) (st.1.map (Di h f)) st.2.1 st.2.2,rfl,rfl,?_,?_,rfl,rfl,?_⟩
 .first|exact eN|refine eM ?_
 .first|exact eN|refine eM ?_
 simp only[Ek,FQ];generalize m:QZ h f n s=V at *;refine rL d ?_ ?_
 .trivial
 repeat'(first|exact a6|apply eS rfl|apply AB|refine rX d ?_ ?_|refine rC ?_ ?_<;>intro c<;>try(cases c;done))
 .have q:AY h f n s<0:=by
   rw[<-m]at c;unfold QZ at c;split at c
   .assumption
   cases c
  have e:Eg h f G st n s=(13,st):=r.trans (At q);exact fM d [.tmp 8] (.p C3 (13:Int)) eT ⟨by rw[e],by rw[e]⟩
 .have q:0<=AY h f n s/\V.1=AY h f n s:=by
   rw[<-m]at c ⊢;unfold QZ at c ⊢;split
   .rename_i q;rw[At q]at c;cases c
   exact⟨O1,rfl⟩
  rw[q.2];exact⟨u,ht,q.1,E⟩
 .rename_i i;have q:0<=AY h f n s/\V.1=AY h f n s:=by
   rw[<-m]at i ⊢;unfold QZ at i ⊢;split
   .rename_i q;rw[At q]at i;cases i
   exact⟨O1,rfl⟩
  rw[q.2]at c ⊢;have e:Eg h f G st n s=((AQ h f (AY h f n s)).2,st):=r.trans ((An O1).trans (At (by simpa using c)));exact fM d [.tmp 8] (.p C3 (AQ h f (AY h f n s)).2) eT ⟨by rw[e],by rw[e]⟩
 rename_i i;have q:0<=AY h f n s/\V.1=AY h f n s:=by
  rw[<-m]at i ⊢;unfold QZ at i ⊢;split
  .rename_i q;rw[At q]at i;cases i
  exact⟨O1,rfl⟩
 rw[q.2]at c ⊢;have e:=r.trans ((An O1).trans (An (by simpa using c)));rw[e];clear e r i m;obtain⟨⟨B,F⟩,-⟩:=Iz (h:=h) u (AY h f n s);clear c;generalize (AQ h f (AY h f n s)).1=l at *;refine AJ (ι:={x:Nat×D0//x.1<=l.length/\CQ G (l.drop x.1) x.2=CQ G l st/\Q x.1 x.2}) (λx=>⟨[(0,.bp 1 [] 0),(3,.clo (1000000+g) [1]),(40,.p CH l),(41,.p (.int .i64) (l.length:Int)),(42,.p (.int .i64) (x.1.1:Int))],Ek h f a b x.1.2.1 x.1.2.2.1 x.1.2.2.2⟩) (λx=>l.length-x.1.1) ⟨(0,st),GO _,rfl,A⟩ (AC [(1,.nm 1),(2,.nm 2),(3,.nm 3),(4,.nm 4),(5,.nm 5)] rfl rfl ?_ ?_) (λx=>?_)
 .first|exact eN|refine eM ?_
 .first|exact eN|refine eM ?_
 obtain⟨⟨k,Z⟩,hk,t,y⟩:=x;simp only at hk t y;have o:=λj:k<l.length=>nA G l Z j;simp only[Ek,FQ];repeat'(first|exact a6|apply eS rfl|apply AB|refine rX d ?_ ?_|refine rC ?_ ?_<;>intro c<;>try(cases c;done))
 .exact c
 .have j:k<l.length:=by omega
  have v:=B _ (AF l 0 j);have o:=o j;have hG:=hG k Z (l.getD k 0) y O1 v.1 v.2;have w:=w k Z (l.getD k 0) y v.1 v.2;refine cP 2 d ?_ ?_
  .trivial
  refine A3R d (f:=g) (n:=1) (aw:=[.p T3 (l.getD k 0)]) ?_ ?_ hG [(1,.nm 1),(2,.nm 2),(3,.nm 3),(4,.nm 4),(5,.nm 5)] [3,4,5] rfl rfl rfl ?_ ?_ ?_
  .rfl
  .rfl
  .first|exact eN|refine eM ?_
  .first|exact eN|refine eM ?_
  rintro _ _ ⟨rfl,rfl⟩;refine⟨[(1,.nm 1),(2,.nm 2),(3,.nm 3),(4,.nm 4),(5,.nm 5)],.p .bool (G Z (l.getD k 0)).1,Ek h f a b (G Z (l.getD k 0)).2.1 (G Z (l.getD k 0)).2.2.1 (G Z (l.getD k 0)).2.2.2,rfl,rfl,?_,?_,rfl,rfl,?_⟩
  .first|exact eN|refine eM ?_
  .first|exact eN|refine eM ?_
  simp only[Ek,FQ];refine rL d ?_ ?_
  .trivial
  repeat'(first|exact a6|apply eS rfl|apply AB|refine rX d ?_ ?_|refine rC ?_ ?_<;>intro c<;>try(cases c;done))
  .have e:CQ G l st=(false,(G Z (l.getD k 0)).2):=by rw[<-t,o,An (by rw[c];simp)]
   rw[e];exact fM d [.tmp 8] (.p C3 (13:Int)) eT ⟨rfl,rfl⟩
  .exact eV
  rw[At c]at o;refine⟨⟨(k+1,(G Z (l.getD k 0)).2),j,by rw[<-t,o],w⟩,a2,AC [(1,.nm 1),(2,.nm 2),(3,.nm 3),(4,.nm 4),(5,.nm 5)] rfl rfl ?_ ?_⟩
  .first|exact eN|refine eM ?_
  first|exact eN|refine eM ?_
 have D:l.drop k=[]:=No O1;rw[<-t,D];exact fM d [.tmp 8] (.p C3 (0:Int)) eT ⟨rfl,rfl⟩
end
section
attribute [local go_sem] FQ Ek JN atS K8 KY My Jk Io NG
theorem iI (e:Int):∀ {l:List (Int×Int)},(∀a∈l,0<=a.2)->F5 l e=if BT l e<0 then (0,false) else (BT l e,true)
 | [],_=>rfl
 | a :: l,h=>by
  unfold F5 BT;split
  .have:=h a f7;rw[An O1]
  exact iI e λb c=>h b (IF _ c)
theorem A5j (c:AX f) (ha:QV h f) (s:ByteArray) (hf:0<f.length):S2 f 0 [BO h s]=QZ h f 0 s:=by
 have h1:=iI (BO h s) (l:=(AU f 0).2) (λa q=>((c.2 _ (AF f (0,[]) (IK ⟨ABt 0,aT.2 hf⟩))).2 a q).1);have b:S2 f 0 [BO h s]=if (F5 (AU f 0).2 (BO h s)).2=true then ((F5 (AU f 0).2 (BO h s)).1,true) else (0,false):=rfl
 rw[b,h1];unfold QZ;rw[rA ha];split<;>rfl
def GT (h:AE) (f:List AD) (st:D0) (x:Int):Bool×D0:=((Ks h f st.1 st.2.1 x).1,(Ks h f st.1 st.2.1 x).2.1,(Ks h f st.1 st.2.1 x).2.2,st.2.2)
def G7 (h:AE) (f:List AD) (st:D0) (x:Int):Bool×D0:=((Kt h f st.1 st.2.2 x).1,(Kt h f st.1 st.2.2 x).2.1,st.2.1,(Kt h f st.1 st.2.2 x).2.2)
def Fd (h:AE) (f:List AD):Int:=AY h f 0 ⟨#[83,69,77]⟩
def IY (h:AE) (f:List AD):(Int×Bool)×List Int:=CS h f [] (Fd h f) ⟨#[84,79,80]⟩
def jD (h:AE) (f:List AD):Int:=AY h f (Fd h f) ⟨#[73,78,68,69,88]⟩
def Oj (h:AE) (f:List AD):(Int×Bool)×List Int:=Ou h f (IY h f).2 (jD h f)
def NK (h:AE) (f:List AD):Int×D0:=Eg h f (GT h f) ((Oj h f).2,[],[]) (Fd h f) ⟨#[82,69,76,83]⟩
def HG (h:AE) (f:List AD):Int×D0:=Eg h f (G7 h f) (NK h f).2 (Fd h f) ⟨#[67,79,78,83]⟩
def Ku (h:AE) (f:List AD):Int :=
 if Fd h f<0 then 13 else if (IY h f).1.2=false then 13 else if jD h f<0 then 13 else if (Oj h f).1.2=false then 13
 else if (NK h f).1≠0 then (NK h f).1 else if (HG h f).1≠0 then (HG h f).1
 else if 16<(HG h f).2.2.1.length\/16<(HG h f).2.2.2.length\/256<(HG h f).2.1.length then 7 else 0
def iJ (h:AE) (f:List AD):Int×Int×D0:=((IY h f).1.1,(Oj h f).1.1,(HG h f).2)
def AAM (h:AE) (f:List AD) (res:AV) (a:List (Nat×Obj)):Prop:=res=.p C3 (Ku h f)/\∃x:Int×Int×D0,a=Ek h f x.1 x.2.1 x.2.2.1 x.2.2.2.1 x.2.2.2.2/\(Ku h f=0->x=iJ h f)
theorem A6k (q:(QZ h f n s).2=true):0<=AY h f n s/\(QZ h f n s).1=AY h f n s:=by
 unfold QZ at q ⊢;split
 .rename_i p;rw[At p]at q;cases q
 exact⟨O1,rfl⟩
theorem A6l (q:(QZ h f n s).2=false):AY h f n s<0:=by
 unfold QZ at q;split at q
 .assumption
 cases q
theorem A6m (a:AX f) {ns:List Int} (hn:G6 f ns) (es:List F2) {x:Int} (c:0<=x) (d:x<(f.length:Int)):G6 f (Ks h f ns es x).2.1/\(Ks h f ns es x).2.2.length<=es.length+1:=by
 have hh:=Oi (h:=h) hn a x ⟨#[76,65,66,69,76]⟩ O1;have b:=(a.2 _ (AF f (0,[]) (IK ⟨c,d⟩))).2;unfold Ks;split
 .exact⟨hh,sc⟩
 exact⟨(rF (h:=h) (AU f x).2 (_,[]) hh b).1,sc⟩
theorem A9Z (a:AX f) {ns:List Int} (hn:G6 f ns) (qs:List MD) {x:Int} (c:0<=x) (d:x<(f.length:Int)):G6 f (Kt h f ns qs x).2.1/\(Kt h f ns qs x).2.2.length<=qs.length+1:=by
 have hh:=Oi (h:=h) hn a x ⟨#[72,73,71,72]⟩ O1;have b:=Oi (h:=h) hh a x ⟨#[76,79,87]⟩ O1;unfold Kt;split
 .exact⟨hh,sc⟩
 exact⟨b,sc⟩
theorem rG {f:List AD} (G:D0->Int->Bool×D0) (P:D0->Prop) (hG:∀st x,P st->0<=x->x<(f.length:Int)->P (G st x).2):∀(l:List Int) (st:D0),(∀x∈l,0<=x/\x<(f.length:Int))->P st->P (CQ G l st).2
 | [],st,_,h=>h
 | x :: l,st,b,h=>by
  have c:=b x f7;have a:=hG st x h c.1 c.2;unfold CQ;split
  .exact rG G P hG l _ (λy d=>b y (IF _ d)) a
  exact a
theorem rH (a:AX f) (G:D0->Int->Bool×D0) (P:D0->Prop) (hG:∀st x,P st->0<=x->x<(f.length:Int)->P (G st x).2) (st:D0) (n:Int) (s:ByteArray) (h0:P st):P (Eg h f G st n s).2:=by
 unfold Eg;split
 .exact h0
 split
 .exact h0
 exact rG G P hG _ st (Iz (h:=h) a _).1.1 h0
theorem A5k (hs:Ts h) (d:AX f) (ht:DU h f) (ha:QV h f) (h0:0<f.length) :
  BF Tryz.prog 38 [.bp 1 [] 0] (Ek h f 0 0 [] [] []) [1,2]
  (AAM h f):=by
 refine J0 [0,2,3,4,5,6,7,23,35,43,55,62,70,96] [18] [] Tryz.func38 Tryz.ntmps38 (AG WA (AG A9Y AH)) ?_;intro w0 K O0 ρ0 a M N;simp only[Au,Ek,FQ];have t:S2 f 0 [BO h ⟨#[83,69,77]⟩]=QZ h f 0 ⟨#[83,69,77]⟩:=A5j d ha ⟨#[83,69,77]⟩ h0;have r:Fd h f<(f.length:Int):=JO d 0 ⟨#[83,69,77]⟩ h0;have v:jD h f<(f.length:Int):=JO d (Fd h f) ⟨#[73,78,68,69,88]⟩ h0;have w:G6 f []:=⟨List.Pairwise.nil,λx F=>by cases F⟩;have A:G6 f (IY h f).2:=Oi w d (Fd h f) ⟨#[84,79,80]⟩ h0;have c:Ku h f=if Fd h f<0 then 13 else if (IY h f).1.2=false then 13 else if jD h f<0 then 13 else if (Oj h f).1.2=false then 13
  else if (NK h f).1≠0 then (NK h f).1 else if (HG h f).1≠0 then (HG h f).1
  else if 16<(HG h f).2.2.1.length\/16<(HG h f).2.2.2.length\/256<(HG h f).2.1.length then 7 else 0:=rfl
 repeat'(first|exact a6|apply eS rfl|apply AB|refine rX a ?_ ?_|refine rC ?_ ?_<;>intro b<;>try(cases b;done))
 .exact⟨d,h0⟩
 .have q:Fd h f<0:=A6l (by rw[<-t];exact b);have e:Ku h f=13:=c.trans (At q);exact fM a [.tmp 2] (.p C3 (13:Int)) eT ⟨by rw[e],(0,0,[],[],[]),rfl,λz=>by rw[e]at z;cases z⟩
 have q:=A6k (h:=h) (f:=f) (n:=0) (s:=⟨#[83,69,77]⟩) (by rw[<-t];exact b);have u:0<=Fd h f:=q.1;have o:(S2 f 0 [BO h ⟨#[83,69,77]⟩]).1=Fd h f:=by rw[t];exact q.2
 rw[o];replace c:=c.trans (An O1);clear q o b t;have G:BF Tryz.prog 82 [.bp 1 [] 0,.p T3 (Fd h f),.p T9 ⟨#[84,79,80]⟩] (Ek h f 0 0 [] [] []) [1,2]
  (λres l=>res=.tup [.p T3 (IY h f).1.1,.p .bool (IY h f).1.2]/\l=Ek h f 0 0 (IY h f).2 [] []):=Tt hs d ht ha u r ⟨#[84,79,80]⟩ w 0 0 [] []
 refine cP 3 a ?_ ?_
 .trivial
 refine rM a (G) [(1,.nm 1),(2,.nm 2),(3,.nm 3),(4,.nm 4),(5,.nm 5)] [3,4,5] ?_ ?_ ?_
 .first|exact eN|refine eM ?_
 .first|exact eN|refine eM ?_
 rintro _ _ ⟨rfl,rfl⟩;refine⟨[(1,.nm 1),(2,.nm 2),(3,.nm 3),(4,.nm 4),(5,.nm 5)],.tup [.p T3 (IY h f).1.1,.p .bool (IY h f).1.2],Ek h f 0 0 (IY h f).2 [] [],rfl,rfl,?_,?_,rfl,rfl,?_⟩
 .first|exact eN|refine eM ?_
 .first|exact eN|refine eM ?_
 simp only[Ek,FQ];refine rL a ?_ ?_
 .trivial
 repeat'(first|exact a6|apply eS rfl|apply AB|refine rX a ?_ ?_|refine rC ?_ ?_<;>intro b<;>try(cases b;done))
 .have e:Ku h f=13:=c.trans (At b);exact fM a [.tmp 2] (.p C3 (13:Int)) eT ⟨by rw[e],((IY h f).1.1,0,(IY h f).2,[],[]),rfl,λz=>by rw[e]at z;cases z⟩
 replace c:=c.trans (An (by rw[b];simp));clear b;refine cP 2 a ?_ ?_
 .trivial
 refine rM a (a9 d ha u r ⟨#[73,78,68,69,88]⟩ (IY h f).1.1 0 (IX (IY h f).2) ((IY h f).2.map (Di h f)) [] []) [(1,.nm 1),(2,.nm 2),(3,.nm 3),(4,.nm 4),(5,.nm 5)] [3,4,5] ?_ ?_ ?_
 .first|exact eN|refine eM ?_
 .first|exact eN|refine eM ?_
 rintro _ _ ⟨rfl,rfl⟩;refine⟨[(1,.nm 1),(2,.nm 2),(3,.nm 3),(4,.nm 4),(5,.nm 5)],.tup [.p T3 (QZ h f (Fd h f) ⟨#[73,78,68,69,88]⟩).1,.p .bool (QZ h f (Fd h f) ⟨#[73,78,68,69,88]⟩).2],FQ h f (IY h f).1.1 0 (IX (IY h f).2) ((IY h f).2.map (Di h f)) [] [],rfl,rfl,?_,?_,rfl,rfl,?_⟩
 .first|exact eN|refine eM ?_
 .first|exact eN|refine eM ?_
 simp only[Ek,FQ];refine rL a ?_ ?_
 .trivial
 repeat'(first|exact a6|apply eS rfl|apply AB|refine rX a ?_ ?_|refine rC ?_ ?_<;>intro b<;>try(cases b;done))
 .have e:Ku h f=13:=c.trans (At (A6l b));exact fM a [.tmp 2] (.p C3 (13:Int)) eT ⟨by rw[e],((IY h f).1.1,0,(IY h f).2,[],[]),rfl,λz=>by rw[e]at z;cases z⟩
 have q:=A6k b;have o:0<=jD h f:=q.1;have B:(QZ h f (Fd h f) ⟨#[73,78,68,69,88]⟩).1=jD h f:=q.2;rw[B];replace c:=c.trans (An O1);clear q B b;have y:G6 f (Oj h f).2:=rE A h o v;have H:BF Tryz.prog 84 [.bp 1 [] 0,.p T3 (jD h f)] (Ek h f (IY h f).1.1 0 (IY h f).2 [] []) [1,2] (λres l=>res=.tup [.p T3 (Oj h f).1.1,.p .bool (Oj h f).1.2]/\l=Ek h f (IY h f).1.1 0 (Oj h f).2 [] []):=bB hs d ht o v A _ 0 [] [];refine cP 3 a ?_ ?_
 .trivial
 refine rM a (H) [(1,.nm 1),(2,.nm 2),(3,.nm 3),(4,.nm 4),(5,.nm 5)] [3,4,5] ?_ ?_ ?_
 .first|exact eN|refine eM ?_
 .first|exact eN|refine eM ?_
 rintro _ _ ⟨rfl,rfl⟩;refine⟨[(1,.nm 1),(2,.nm 2),(3,.nm 3),(4,.nm 4),(5,.nm 5)],.tup [.p T3 (Oj h f).1.1,.p .bool (Oj h f).1.2],Ek h f (IY h f).1.1 0 (Oj h f).2 [] [],rfl,rfl,?_,?_,rfl,rfl,?_⟩
 .first|exact eN|refine eM ?_
 .first|exact eN|refine eM ?_
 simp only[Ek,FQ];refine rL a ?_ ?_
 .trivial
 repeat'(first|exact a6|apply eS rfl|apply AB|refine rX a ?_ ?_|refine rC ?_ ?_<;>intro b<;>try(cases b;done))
 .have e:Ku h f=13:=c.trans (At b);exact fM a [.tmp 2] (.p C3 (13:Int)) eT ⟨by rw[e],((IY h f).1.1,(Oj h f).1.1,(Oj h f).2,[],[]),rfl,λz=>by rw[e]at z;cases z⟩
 replace c:=c.trans (An (by rw[b];simp));clear b;have I:BF Tryz.prog 85 [.bp 1 [] 0,.p T3 (Fd h f),.p T9 ⟨#[82,69,76,83]⟩,.clo (1000000+86) [1]] (Ek h f (IY h f).1.1 (Oj h f).1.1 (Oj h f).2 [] []) [1,2] (λres l=>res=.p C3 (NK h f).1/\l=Ek h f (IY h f).1.1 (Oj h f).1.1 (NK h f).2.1 (NK h f).2.2.1 (NK h f).2.2.2) :=
  Wk d ht ha u r ⟨#[82,69,76,83]⟩ (IY h f).1.1 (Oj h f).1.1 _ (GT h f) (λk st=>G6 f st.1/\st.2.1.length<=k) (λk st x g hk i j=>A5h hs d ht ha i j g.1 _ _ st.2.1 O1 st.2.2) (λk st x g i j=>by have:=A6m (h:=h) d g.1 st.2.1 i j;exact⟨this.1,aS this.2 O1⟩) ((Oj h f).2,[],[]) ⟨y,GO _⟩
 have D:G6 f (NK h f).2.1:=rH d (GT h f) (λst=>G6 f st.1) (λst x g i j=>(A6m d g st.2.1 i j).1) _ _ _ y;refine cP 4 a ?_ ?_
 .trivial
 refine rM a (I) [(1,.nm 1),(2,.nm 2),(3,.nm 3),(4,.nm 4),(5,.nm 5)] [3,4,5] ?_ ?_ ?_
 .first|exact eN|refine eM ?_
 .first|exact eN|refine eM ?_
 rintro _ _ ⟨rfl,rfl⟩;refine⟨[(1,.nm 1),(2,.nm 2),(3,.nm 3),(4,.nm 4),(5,.nm 5)],.p C3 (NK h f).1,Ek h f (IY h f).1.1 (Oj h f).1.1 (NK h f).2.1 (NK h f).2.2.1 (NK h f).2.2.2,rfl,rfl,?_,?_,rfl,rfl,?_⟩
 .first|exact eN|refine eM ?_
 .first|exact eN|refine eM ?_
 simp only[Ek,FQ];refine rL a ?_ ?_
 .trivial
 repeat'(first|exact a6|apply eS rfl|apply AB|refine rX a ?_ ?_|refine rC ?_ ?_<;>intro b<;>try(cases b;done))
 .have e:Ku h f=(NK h f).1:=c.trans (At b);exact fM a [.tmp 2] (.p C3 (NK h f).1) eT ⟨by rw[e],((IY h f).1.1,(Oj h f).1.1,(NK h f).2),rfl,λz=>by rw[e]at z;exact absurd z b⟩
 have L:(NK h f).1=0:=by simpa using b
 replace c:=c.trans (An (by rw[L];simp));clear b;have E:(NK h f).2.2.2=[]:=rH d (GT h f) (λst=>st.2.2=[]) (λst x g _ _=>g) _ _ _ rfl;have J:BF Tryz.prog 85 [.bp 1 [] 0,.p T3 (Fd h f),.p T9 ⟨#[67,79,78,83]⟩,.clo (1000000+87) [1]] (Ek h f (IY h f).1.1 (Oj h f).1.1 (NK h f).2.1 (NK h f).2.2.1 (NK h f).2.2.2) [1,2] (λres l=>res=.p C3 (HG h f).1/\l=Ek h f (IY h f).1.1 (Oj h f).1.1 (HG h f).2.1 (HG h f).2.2.1 (HG h f).2.2.2) :=
  Wk d ht ha u r ⟨#[67,79,78,83]⟩ (IY h f).1.1 (Oj h f).1.1 _ (G7 h f) (λk st=>G6 f st.1/\st.2.2.length<=k) (λk st x g hk i j=>A5i hs d ht ha i j g.1 _ _ st.2.1 st.2.2 O1) (λk st x g i j=>by have:=A9Z (h:=h) d g.1 st.2.2 i j;exact⟨this.1,aS this.2 O1⟩) (NK h f).2 ⟨D,by rw[E];exact OS 0⟩
 refine cP 4 a ?_ ?_
 .trivial
 refine rM a (J) [(1,.nm 1),(2,.nm 2),(3,.nm 3),(4,.nm 4),(5,.nm 5)] [3,4,5] ?_ ?_ ?_
 .first|exact eN|refine eM ?_
 .first|exact eN|refine eM ?_
 rintro _ _ ⟨rfl,rfl⟩;refine⟨[(1,.nm 1),(2,.nm 2),(3,.nm 3),(4,.nm 4),(5,.nm 5)],.p C3 (HG h f).1,Ek h f (IY h f).1.1 (Oj h f).1.1 (HG h f).2.1 (HG h f).2.2.1 (HG h f).2.2.2,rfl,rfl,?_,?_,rfl,rfl,?_⟩
 .first|exact eN|refine eM ?_
 .first|exact eN|refine eM ?_
 simp only[Ek,FQ];refine rL a ?_ ?_
 .trivial
 repeat'(first|exact a6|apply eS rfl|apply AB|refine rX a ?_ ?_|refine rC ?_ ?_<;>intro b<;>try(cases b;done))
 .have e:Ku h f=(HG h f).1:=c.trans (At b);exact fM a [.tmp 2] (.p C3 (HG h f).1) eT ⟨by rw[e],iJ h f,rfl,λ_=>rfl⟩
 .rename_i m;have m:(HG h f).1=0:=by simpa using m
  have C:((HG h f).2.1.map (Di h f)).length=(HG h f).2.1.length:=On _;have e:Ku h f=7:=c.trans ((An (by rw[m];simp)).trans (At O1));exact fM a [.tmp 2] (.p C3 (7:Int)) eT ⟨by rw[e],iJ h f,rfl,λ_=>rfl⟩
 rename_i m;have m:(HG h f).1=0:=by simpa using m
 have C:((HG h f).2.1.map (Di h f)).length=(HG h f).2.1.length:=On _;have e:Ku h f=0:=c.trans ((An (by rw[m];simp)).trans (An O1));exact fM a [.tmp 2] (.p C3 (0:Int)) eT ⟨by rw[e],iJ h f,rfl,λ_=>rfl⟩
end
section
attribute [local go_sem] FQ Ek K8 KY My Jk Io NG
theorem Wl {c:Cx} {k:List Cl} {ops:Array Oper} {rest:List Oper} {d:Nat} {av:AV} {env:List (Nat×AV)} {objs:List (Nat×Obj)} (t:Ty) (x:t.den)
  (hk:EE c R k ops rest ⟨(d,.p t x) :: env,objs⟩) (h:I1 false ⟨(d,av) :: env,objs⟩ t av=some x:=by simp only[go_sem,Nat.reduceEqDiff,reduceCtorEq,Nat.reduceAdd,Nat.reduceSub,Nat.reduceMul,Nat.reduceLeDiff,Nat.reduceLT,Int.reduceLE,Int.reduceToNat,Int.reduceNeg,↓reduceIte]):EE c R k ops rest ⟨(d,av) :: env,objs⟩:=by
 intro f g a w i;obtain⟨ρ,b⟩:=i;refine hk f g a w ⟨ρ,b.frm,b.nt,b.defers,b.pin,b.objs,b.free,b.dist,λs v hs=>?_⟩;by_cases e:s=d
 .subst e;simp only[lk,ABa,ABk]at hs;subst hs;exact FT (V:=vw w c.O0 ⟨(s,av) :: env,objs⟩ ρ) (O':=own c.O0 ⟨(s,av) :: env,objs⟩ ρ) (λ_ h=>h) (λh=>by cases h) b.objs h (b.env s av (by simp only[lk,ABa]))
 exact b.env s v (by simp only[lk,An e]at hs ⊢;exact hs)
def A26 (h:AE) (f:List AD) (x:Int×Int×D0):CJ:=(x.1,x.2.1,x.2.2.1.map (Di h f),x.2.2.2.1,x.2.2.2.2)
def LO (h:AE) (f:List AD):CJ×Int:=if Ku h f≠0 then (zM,Ku h f) else (A26 h f (iJ h f),0)
def A27:Ab:={ ins:=[GH,Ff],pre:=λ(h,f,_)=>Ts h/\AX f/\DU h f/\QV h f/\0<List.length f,out:=λ(h,f,_)=>[.p oZ (LO h f).1,.p C3 (LO h f).2] }
theorem A28:Af Tryz.prog 15 A27:=by
 refine fKP [0,1,2,3,4,5,6,7,16] [11] [] Tryz.func15 Tryz.ntmps15 AH ?_;rintro w0 O0 ⟨h,f,u⟩ a-⟨hs,c,ht,ha,h0⟩;have hs:Ts h:=hs;have c:AX f:=c;have ht:DU h f:=ht;have ha:QV h f:=ha;have h0:0<f.length:=h0;have g:(h.1,h.2)=h:=rfl;simp only[A27,AM];repeat'(first|exact a6|apply eS rfl|apply AB|refine rP a ?_ ?_|fail)
 refine cP 1 a ?_ ?_
 .trivial
 refine Wl GH h ?_;refine rN 1 a ?_ ?_
 .trivial
 refine Wl Ff f ?_;refine rL a ?_ ?_
 .trivial
 repeat'(first|exact a6|apply eS rfl|apply AB|refine rP a ?_ ?_|fail)
 refine cP 1 a ?_ ?_
 .trivial
 refine rM a (A5k hs c ht ha h0) [(1,.nm 12),(2,.nm 10),(3,.nil),(4,.nil),(5,.nil)] [] ?_ ?_ ?_
 .first|exact eN|refine eM ?_
 .first|exact eN|refine eM ?_
  rfl
 rintro _ _ ⟨rfl,x,rfl,d⟩;refine⟨[(12,.nm 1),(10,.nm 2),(103,.nm 3),(104,.nm 4),(105,.nm 5)],.p C3 (Ku h f),[(12,.box 81 true [.p GH h,.p Ff f,.mp 10,.ag [.p T3 x.1,.p T3 x.2.1,.sr 103 T9 0 (x.2.2.1.map (Di h f)).length,.sr 104 T54 0 x.2.2.2.1.length,.sr 105 T93 0 x.2.2.2.2.length]]),(10,.mapo T3 T3 (IX x.2.2.1)),(103,.arr 9 T9 (x.2.2.1.map (Di h f))),(104,.arr 54 T54 x.2.2.2.1),(105,.arr 93 T93 x.2.2.2.2)],rfl,rfl,?_,?_,rfl,rfl,?_⟩
 .first|exact eN|refine eM ?_
 .first|exact eN|refine eM ?_
 refine rL a ?_ ?_
 .trivial
 repeat'(first|exact a6|apply eS rfl|apply AB|refine rX a ?_ ?_|refine rC ?_ ?_<;>intro b<;>try(cases b;done))
 .have e:LO h f=(zM,Ku h f):=At b;exact fI a [.cell 4 41,.tmp 5] (by rw[e];first|exact eR|refine OC ?_;rfl)
 have z:Ku h f=0:=by simpa using b
 have e:LO h f=(A26 h f (iJ h f),0):=An (by rw[z];simp);rw[e,<-d z];refine C9 [103,104,105] ?_;exact fI a [.cell 4 41,.tmp 5] (by unfold A26;exact eR)
end
def DV (a b:List Int):Prop:=∀y,0<=Ej a y->Ej b y=Ej a y
theorem DV.rfl' (a:List Int):DV a a:=λ_ _=>rfl
theorem DV.trans {a b c:List Int} (h:DV a b) (k:DV b c):DV a c:=λy d=>by
 have:=h y d;rw[k y O1,this]
theorem rI (y:Int) (r:List Int):∀(l:List Int) (k:Nat),0<=DW y k l->DW y k (l++r)=DW y k l
 | [],k,h=>by simp[DW]at h
 | x :: l,k,h=>by
  unfold DW at h;simp only[To,DW];split
  .rfl
  rename_i e;rw[An e]at h;exact rI y r l (k+1) h
theorem nB (ns:List Int) (x:Int):DV ns (AW ns x):=by
 unfold AW;split
 .exact λy a=>rI y [x] ns 0 a
 exact DV.rfl' ns
theorem iK (ns:List Int) (x:Int):0<=Ej (AW ns x) x:=by grind [AW,Qa,Ej]
theorem Kv (l:List Int):∀ns:List Int,DV ns (l.foldl AW ns):=by
 induction l with
 | nil=>exact DV.rfl'
 | cons x l a=>exact λns=>(nB ns x).trans (a _)
theorem rJ {ns:List Int} (q:AK (Di h f n) ⟨#[]⟩=false) {N:List Int} (a:DV (AW ns n) N):Ou h f ns n=((Ej N n,true),AW ns n):=by
 unfold Ou;rw[An (by rw[q];simp),a n (iK ns n)]
theorem A6n {ns:List Int} (q:AK (Di h f n) ⟨#[]⟩=true):Ou h f ns n=((0,false),ns):=At q
theorem A5l (l:List (Int×Int)):∀(st:List Int×List RF),
  (l.foldl (K0 h f) st).1=((l.filterMap (GS h f)).map (λa=>a.2)).foldl AW st.1 /\
  ∀N,DV (l.foldl (K0 h f) st).1 N->(l.foldl (K0 h f) st).2=st.2++(l.filterMap (GS h f)).map (λa=>(a.1,Ej N a.2)):=by
 induction l with
 | nil=>exact λst=>⟨rfl,λ_ _=>by simp⟩
 | cons a l o =>
  intro st;rw[ON];obtain⟨d,i⟩:=o (K0 h f st a);by_cases e:AK (Rp h a) ⟨#[76,65,66,69,76]⟩=true
  .grind [K0,GS]
  cases b:AK (Di h f a.2) ⟨#[]⟩ with
  | true =>
   have k:K0 h f st a=st:=by unfold K0;rw[An e,A6n b];rfl
   have g:GS h f a=none:=An (by rw[b];simp);rw[k]at d i ⊢;rw[List.filterMap_cons_none g];exact⟨d,i⟩
  | false =>
   have g:GS h f a=some (Rp h a,a.2):=At ⟨by simpa using e,b⟩;have j:(K0 h f st a).1=AW st.1 a.2:=by unfold K0;rw[An e,rJ b (DV.rfl' _)]
   have m:∀N,DV (AW st.1 a.2) N->(K0 h f st a).2=st.2++[(Rp h a,Ej N a.2)]:=λN c=>by unfold K0;rw[An e,rJ b c];rfl
   rw[List.filterMap_cons_some g];refine⟨by rw[d,j];rfl,λN c=>?_⟩;have n:DV (AW st.1 a.2) N:=by
    have:=Kv ((l.filterMap (GS h f)).map (λa=>a.2)) (K0 h f st a).1;rw[<-d,j]at this;exact this.trans c
   rw[i N c,m N n,AAg];rfl
theorem A8b {v:Int} (q:AK (Di h f v) ⟨#[104]⟩=true):0<=v/\AK (Di h f v) ⟨#[]⟩=false:=by grind [IQ,Di]
theorem bC {ns:List Int} (q:AK (Di h f (AY h f n s)) ⟨#[104]⟩=true) {N:List Int} (a:DV (AW ns (AY h f n s)) N):CS h f ns n s=((Ej N (AY h f n s),true),AW ns (AY h f n s)):=by
 have b:=A8b q;grind [CS,rJ]
theorem bD {ns:List Int} (q:AK (Di h f (AY h f n s)) ⟨#[104]⟩=false):CS h f ns n s=((0,false),ns):=by grind [CS,AY]
theorem A29 (q:BG s false=true):AK s ⟨#[]⟩=false:=by
 rw[ABL];intro e;have e:=IQ e;rw[e]at q;exact absurd q df
theorem bE (q:0<=Aw h s) (t:Int):Mb h s t=Ai h (Aw h s) t:=by grind [Mb]
theorem A8c (hs:Ts h) {ns:List Int} {es:List F2} (q:FP h f n=false):(Ks h f ns es n).1=false:=by
 unfold FP at q;rw[bE hs.2.1]at q;unfold Ks;rw[At];cases a:Nj h f n
 .left;show AK (if Nj h f n=true then Yx h f n else ⟨#[]⟩) ⟨#[]⟩=true;rw[a];exact Eq.2 rfl
 right;have b:AK (Di h f (AY h f n ⟨#[76,65,66,69,76]⟩)) ⟨#[104]⟩=false:=by
  have a:(Ai h (Aw h ⟨#[114,101,108]⟩) (AU f n).1&&BG (Yx h f n) false)=true:=a;grind
 rw[bD b]
theorem A2a (hs:Ts h) {ns:List Int} {es:List F2} (q:FP h f n=true) :
  (Ks h f ns es n).1=true/\(Ks h f ns es n).2.1=(H5 (Bb h f n).1).foldl AW ns/\∀N,DV (Ks h f ns es n).2.1 N->(Ks h f ns es n).2.2=es++[lB N (Bb h f n).1]:=by
 have g:Bb h f n=((Yx h f n,AY h f n ⟨#[76,65,66,69,76]⟩,(AU f n).2.filterMap (GS h f)),true):=At q;unfold FP at q;rw[bE hs.2.1]at q;obtain⟨e,k⟩:=ABX.1 q;have l:Nj h f n=true:=e;have p:BG (Yx h f n) false=true:=(ABX.1 e).2;have o:(Nk h f n).2.1=Yx h f n:=At l;have m:=bC (ns:=ns) k (DV.rfl' _);have i:Ks h f ns es n=(true,((AU f n).2.foldl (K0 h f) (AW ns (AY h f n ⟨#[76,65,66,69,76]⟩),[])).1,es++[(Yx h f n,Ej (AW ns (AY h f n ⟨#[76,65,66,69,76]⟩)) (AY h f n ⟨#[76,65,66,69,76]⟩),((AU f n).2.foldl (K0 h f) (AW ns (AY h f n ⟨#[76,65,66,69,76]⟩),[])).2)]):=by grind [Ks,A29]
 obtain⟨c,b⟩:=A5l (h:=h) (f:=f) (AU f n).2 (AW ns (AY h f n ⟨#[76,65,66,69,76]⟩),[]);rw[i,g];refine⟨rfl,c,λN d=>?_⟩;have b:=b N d;have j:DV (AW ns (AY h f n ⟨#[76,65,66,69,76]⟩)) N:=by
  have:=Kv (((AU f n).2.filterMap (GS h f)).map (λa=>a.2)) (AW ns (AY h f n ⟨#[76,65,66,69,76]⟩));rw[<-c]at this;exact this.trans d
 simp only[lB];rw[b,j _ (iK ns _)];rfl
theorem A8d (hs:Ts h) {ns:List Int} {qs:List MD} (q:G4 h f n=false):(Kt h f ns qs n).1=false:=by
 unfold G4 at q;rw[bE hs.2.2]at q;unfold Kt;split
 .rfl
 rename_i p;simp only[not_or,Bool.not_eq_false]at p;have a:Ai h (Aw h ⟨#[113,101,113]⟩) (AU f n).1=true:=p.1;rw[a,ACa]at q;rcases AB9.1 q with q|q
 .grind [bD]
 rw[bD q]
theorem A2b (hs:Ts h) {ns:List Int} {qs:List MD} (q:G4 h f n=true) :
  (Kt h f ns qs n).1=true/\(Kt h f ns qs n).2.1=(EH (QW h f n)).foldl AW ns/\∀N,DV (Kt h f ns qs n).2.1 N->(Kt h f ns qs n).2.2=qs++[rnQ N (QW h f n)]:=by
 unfold G4 at q;rw[bE hs.2.2]at q;obtain⟨a,g⟩:=ABX.1 q;obtain⟨a,e⟩:=ABX.1 a;have k:(Nk h f n).2.2=true:=a;have i:=bC (ns:=ns) e (DV.rfl' _);have j:=bC (ns:=AW ns (AY h f n ⟨#[72,73,71,72]⟩)) g (DV.rfl' _);have c:Kt h f ns qs n=(true,AW (AW ns (AY h f n ⟨#[72,73,71,72]⟩)) (AY h f n ⟨#[76,79,87]⟩),qs++[(Ej (AW ns (AY h f n ⟨#[72,73,71,72]⟩)) (AY h f n ⟨#[72,73,71,72]⟩),Ej (AW (AW ns (AY h f n ⟨#[72,73,71,72]⟩)) (AY h f n ⟨#[76,79,87]⟩)) (AY h f n ⟨#[76,79,87]⟩))]):=by grind [Kt]
 rw[c];refine⟨rfl,rfl,λN b=>?_⟩;have d:=b _ (iK _ (AY h f n ⟨#[76,79,87]⟩));have h1:=((nB (AW ns (AY h f n ⟨#[72,73,71,72]⟩)) (AY h f n ⟨#[76,79,87]⟩)).trans b) _ (iK ns (AY h f n ⟨#[72,73,71,72]⟩));simp only[rnQ,QW];rw[h1,d]
theorem iL {h:AE} {f:List AD} (hs:Ts h):∀(l:List Int) (st:D0),(∀x∈l,FP h f x=true) ->
  (CQ (GT h f) l st).1=true/\(CQ (GT h f) l st).2.1=(l.flatMap λx=>H5 (Bb h f x).1).foldl AW st.1/\(CQ (GT h f) l st).2.2.2=st.2.2 /\
  ∀N,DV (CQ (GT h f) l st).2.1 N->(CQ (GT h f) l st).2.2.1=st.2.1++l.map λx=>lB N (Bb h f x).1
 | [],st,_=>⟨rfl,rfl,rfl,λ_ _=>by simp[CQ]⟩
 | x :: l,st,a=>by
  obtain⟨j,k,p⟩:=A2a (ns:=st.1) (es:=st.2.1) hs (a x f7);have e:CQ (GT h f) (x :: l) st=CQ (GT h f) l (GT h f st x).2:=At j;obtain⟨d,g,i,o⟩:=iL hs l (GT h f st x).2 (λy c=>a y (IF _ c));have m:(GT h f st x).2.1=(H5 (Bb h f x).1).foldl AW st.1:=k;rw[e];refine⟨d,?_,i,λN b=>?_⟩
  .grind
  have n:DV (GT h f st x).2.1 N:=by
   have:=Kv (l.flatMap λx=>H5 (Bb h f x).1) (GT h f st x).2.1;rw[<-g]at this;exact this.trans b
  grind [GT,lB,Bb]
theorem iM {h:AE} {f:List AD} (hs:Ts h):∀(l:List Int) (st:D0),(∃x∈l,FP h f x=false)->(CQ (GT h f) l st).1=false
 | [],st,a=>by obtain⟨x,b,_⟩:=a;cases b
 | x :: l,st,a=>by
  cases q:FP h f x
  .grind [CQ,GT,A8c]
  have e:CQ (GT h f) (x :: l) st=CQ (GT h f) l (GT h f st x).2:=At (A2a (ns:=st.1) (es:=st.2.1) hs q).1;rw[e];refine iM hs l _ ?_;grind
theorem iO {h:AE} {f:List AD} (hs:Ts h):∀(l:List Int) (st:D0),(∀x∈l,G4 h f x=true) ->
  (CQ (G7 h f) l st).1=true/\(CQ (G7 h f) l st).2.1=(l.flatMap λx=>EH (QW h f x)).foldl AW st.1/\(CQ (G7 h f) l st).2.2.1=st.2.1 /\
  ∀N,DV (CQ (G7 h f) l st).2.1 N->(CQ (G7 h f) l st).2.2.2=st.2.2++l.map λx=>rnQ N (QW h f x)
 | [],st,_=>⟨rfl,rfl,rfl,λ_ _=>by simp[CQ]⟩
 | x :: l,st,a=>by
  obtain⟨j,k,p⟩:=A2b (ns:=st.1) (qs:=st.2.2) hs (a x f7);have e:CQ (G7 h f) (x :: l) st=CQ (G7 h f) l (G7 h f st x).2:=At j;obtain⟨d,g,i,o⟩:=iO hs l (G7 h f st x).2 (λy c=>a y (IF _ c));have m:(G7 h f st x).2.1=(EH (QW h f x)).foldl AW st.1:=k;rw[e];refine⟨d,?_,i,λN b=>?_⟩
  .grind
  have n:DV (G7 h f st x).2.1 N:=by
   have:=Kv (l.flatMap λx=>EH (QW h f x)) (G7 h f st x).2.1;rw[<-g]at this;exact this.trans b
  grind [G7,rnQ,QW]
theorem iP {h:AE} {f:List AD} (hs:Ts h):∀(l:List Int) (st:D0),(∃x∈l,G4 h f x=false)->(CQ (G7 h f) l st).1=false
 | [],st,a=>by obtain⟨x,b,_⟩:=a;cases b
 | x :: l,st,a=>by
  cases q:G4 h f x
  .grind [CQ,G7,A8d]
  have e:CQ (G7 h f) (x :: l) st=CQ (G7 h f) l (G7 h f st x).2:=At (A2b (ns:=st.1) (qs:=st.2.2) hs q).1;rw[e];refine iP hs l _ ?_;grind
theorem iQ (p:Int->Bool) (l:List Int):Ap (λi=>if p (l.getD i 0)=true then none else some false) true l.length 0=true↔∀x∈l,p x=true:=by
 constructor
 .intro h x b;obtain⟨i,hi,rfl⟩:=List.getElem_of_mem b;have:=D5 (g:=λi=>if p (l.getD i 0)=true then none else some false) (d:=true) (λi r a=>by
   split at a<;>cases a;decide) l.length 0 h i (GO _) O1
  grind
 grind [HR]
theorem A5m (h:AE) (f:List AD) (x:Int):(Bb h f x).2=FP h f x:=by grind [Bb]
theorem A2c (hs:Ts h) (st:D0) (n:Int) :
  (Eg h f (GT h f) st n ⟨#[82,69,76,83]⟩).1=(BK h f n).2/\((BK h f n).2=0->(Eg h f (GT h f) st n ⟨#[82,69,76,83]⟩).2.1=((BK h f n).1.flatMap H5).foldl AW st.1/\(Eg h f (GT h f) st n ⟨#[82,69,76,83]⟩).2.2.2=st.2.2 /\
   ∀N,DV (Eg h f (GT h f) st n ⟨#[82,69,76,83]⟩).2.1 N->(Eg h f (GT h f) st n ⟨#[82,69,76,83]⟩).2.2.1=st.2.1++(BK h f n).1.map (lB N)):=by
 unfold Eg BK;by_cases a:AY h f n ⟨#[82,69,76,83]⟩<0
 .grind
 rw[An a,An a];by_cases b:(AQ h f (AY h f n ⟨#[82,69,76,83]⟩)).2≠0
 .grind
 rw[An b,An b];generalize (AQ h f (AY h f n ⟨#[82,69,76,83]⟩)).1=l at *;have e:Ap (S3 h f l) true l.length 0=true↔∀x∈l,FP h f x=true:=by
  have:=iQ (FP h f) l;simp only[<-A5m]at this ⊢;exact this
 by_cases c:∀x∈l,FP h f x=true
 .obtain⟨g,i,j,k⟩:=iL hs l st c;rw[At (e.2 c),At g];refine⟨rfl,λ_=>⟨?_,j,λN d=>?_⟩⟩
  .rw[i,ACg]
  have:=k N d;rw[AAU];exact this
 grind [FP,iM]
theorem A2d (hs:Ts h) (st:D0) (n:Int) :
  (Eg h f (G7 h f) st n ⟨#[67,79,78,83]⟩).1=(BL h f n).2/\((BL h f n).2=0->(Eg h f (G7 h f) st n ⟨#[67,79,78,83]⟩).2.1=((BL h f n).1.flatMap EH).foldl AW st.1/\(Eg h f (G7 h f) st n ⟨#[67,79,78,83]⟩).2.2.1=st.2.1 /\
   ∀N,DV (Eg h f (G7 h f) st n ⟨#[67,79,78,83]⟩).2.1 N->(Eg h f (G7 h f) st n ⟨#[67,79,78,83]⟩).2.2.2=st.2.2++(BL h f n).1.map (rnQ N)):=by
 unfold Eg BL;by_cases a:AY h f n ⟨#[67,79,78,83]⟩<0
 .grind
 rw[An a,An a];by_cases b:(AQ h f (AY h f n ⟨#[67,79,78,83]⟩)).2≠0
 .grind
 rw[An b,An b];generalize (AQ h f (AY h f n ⟨#[67,79,78,83]⟩)).1=l at *;have e:Ap (S4 h f l) true l.length 0=true↔∀x∈l,G4 h f x=true:=iQ (G4 h f) l;by_cases c:∀x∈l,G4 h f x=true
 .obtain⟨g,i,j,k⟩:=iO hs l st c;rw[At (e.2 c),At g];refine⟨rfl,λ_=>⟨?_,j,λN d=>?_⟩⟩
  .rw[i,ACg]
  have:=k N d;rw[AAU];exact this
 grind [G4,iP]
def nC (m:CJ):Prop:=16<m.2.2.2.1.length\/16<m.2.2.2.2.length\/256<(JK (A3 m)).length
theorem A2e (hs:Ts h) (B:AX f) (h0:0<f.length)
  (s:AK (Di h f (AY h f (Fd h f) ⟨#[84,79,80]⟩)) ⟨#[104]⟩=true->AK (Di h f (AY h f (Fd h f) ⟨#[73,78,68,69,88]⟩)) ⟨#[]⟩=false->(BK h f (Fd h f)).2=0->(BL h f (Fd h f)).2=0->(GM (DJ (Cb h f (Fd h f)))≠0↔nC (Cb h f (Fd h f)))):LO h f=I0 h f:=by
 have b:I0 h f=if Fd h f<0 then (zM,13) else if AK (Di h f (AY h f (Fd h f) ⟨#[84,79,80]⟩)) ⟨#[104]⟩=false\/AK (Di h f (AY h f (Fd h f) ⟨#[73,78,68,69,88]⟩)) ⟨#[]⟩=true then (zM,13)
  else if (BK h f (Fd h f)).2≠0 then (zM,(BK h f (Fd h f)).2) else if (BL h f (Fd h f)).2≠0 then (zM,(BL h f (Fd h f)).2)
  else if GM (DJ (Cb h f (Fd h f)))≠0 then (zM,7) else (DJ (Cb h f (Fd h f)),0):=rfl
 have a:Ku h f=if Fd h f<0 then 13 else if (IY h f).1.2=false then 13 else if jD h f<0 then 13 else if (Oj h f).1.2=false then 13
  else if (NK h f).1≠0 then (NK h f).1 else if (HG h f).1≠0 then (HG h f).1
  else if 16<(HG h f).2.2.1.length\/16<(HG h f).2.2.2.length\/256<(HG h f).2.1.length then 7 else 0:=rfl
 have fail:∀e:Int,e≠0->Ku h f=e->LO h f=(zM,e):=λe A q=>by unfold LO;rw[q,At A]
 by_cases D:Fd h f<0
 .grind
 rw[An D]at b a;cases g:AK (Di h f (AY h f (Fd h f) ⟨#[84,79,80]⟩)) ⟨#[104]⟩ with
 | false =>
  rw[b,At (.inl g)];exact fail 13 df (a.trans (At (by unfold IY;rw[bD g])))
 | true =>
  have hT:∀N,DV (AW [] (AY h f (Fd h f) ⟨#[84,79,80]⟩)) N->IY h f=((Ej N (AY h f (Fd h f) ⟨#[84,79,80]⟩),true),AW [] (AY h f (Fd h f) ⟨#[84,79,80]⟩)):=λN c=>bC g c;rw[An (by rw[hT _ (DV.rfl' _)];simp)]at a;cases d:AK (Di h f (AY h f (Fd h f) ⟨#[73,78,68,69,88]⟩)) ⟨#[]⟩ with
  | true =>
   rw[b,At (.inr d)];refine fail 13 df (a.trans ?_);split
   .rfl
   grind [Oj,Ou,IY,jD,A6n]
  | false =>
   have M:0<=jD h f:=aX d;have k:∀N,DV (AW (IY h f).2 (jD h f)) N->Oj h f=((Ej N (jD h f),true),AW (IY h f).2 (jD h f)):=λN c=>rJ d c;rw[An O1,An (by rw[k _ (DV.rfl' _)];simp)]at a;rw[An (by rw[g,d];simp)]at b;obtain⟨n,E⟩:=A2c (f:=f) hs ((Oj h f).2,[],[]) (Fd h f);have n:(NK h f).1=(BK h f (Fd h f)).2:=n;by_cases u:(BK h f (Fd h f)).2≠0
   .grind
   rw[An u]at b;rw[An (by rw[n];exact u)]at a;have m:(BK h f (Fd h f)).2=0:=by omega
   obtain⟨o,F,P⟩:=E m;obtain⟨c1,c2⟩:=A2d (f:=f) hs (NK h f).2 (Fd h f);have c1:(HG h f).1=(BL h f (Fd h f)).2:=c1;by_cases t:(BL h f (Fd h f)).2≠0
   .grind
   rw[An t]at b;rw[An (by rw[c1];exact t)]at a;have l:(BL h f (Fd h f)).2=0:=by omega
   obtain⟨j,J,v⟩:=c2 l;have s:=s g d m l;have y:=Wh B h0 g d m l;have C:(Oj h f).2=AW (IY h f).2 (jD h f):=by rw[k _ (DV.rfl' _)]
   have G:(IY h f).2=AW [] (AY h f (Fd h f) ⟨#[84,79,80]⟩):=by rw[hT _ (DV.rfl' _)]
   have j:(HG h f).2.1=((BL h f (Fd h f)).1.flatMap EH).foldl AW (NK h f).2.1:=j;have o:(NK h f).2.1=((BK h f (Fd h f)).1.flatMap H5).foldl AW (Oj h f).2:=o;have Q:DV (NK h f).2.1 (HG h f).2.1:=by rw[j];exact Kv _ _
   have I:DV (AW (IY h f).2 (jD h f)) (HG h f).2.1:=by grind [DV.trans,Kv]
   have H:DV (AW [] (AY h f (Fd h f) ⟨#[84,79,80]⟩)) (HG h f).2.1:=by grind [DV.trans,nB]
   have c:(HG h f).2.1=JK (A3 (Cb h f (Fd h f))):=by
    rw[j,o,C,G];simp only[JK,A3,Cb,ABz,ON,ACY];rfl
   have w:(IY h f).1.1=Ej (HG h f).2.1 (AY h f (Fd h f) ⟨#[84,79,80]⟩):=by rw[hT _ H]
   have x:(Oj h f).1.1=Ej (HG h f).2.1 (jD h f):=by rw[k _ I]
   have p:(HG h f).2.2.1=(BK h f (Fd h f)).1.map (lB (HG h f).2.1):=by grind [HG,NK,BK,Fd,lB]
   have r:(HG h f).2.2.2=(BL h f (Fd h f)).1.map (rnQ (HG h f).2.1):=by
    rw[show (HG h f).2.2.2=(NK h f).2.2.2++(BL h f (Fd h f)).1.map (rnQ (HG h f).2.1) from v _ (DV.rfl' _),show (NK h f).2.2.2=[] from F];rfl
   have K:A26 h f (iJ h f)=DJ (Cb h f (Fd h f)):=by
    unfold A26 iJ DJ;simp only;rw[w,x,p,r,c];refine ABj (λz=>(_,_,z,_,_)) (oS λi hi=>?_);have:=y.2 i ((lC (A3 (Cb h f (Fd h f))) [] i hi).resolve_left sc);grind [Cb]
   have L:nC (Cb h f (Fd h f))↔(16<(HG h f).2.2.1.length\/16<(HG h f).2.2.2.length\/256<(HG h f).2.1.length):=by
    unfold nC;rw[p,r,<-c,On,On];rfl
   by_cases O:nC (Cb h f (Fd h f))
   .grind
   grind [Ku,LO]
def Qb:Nat->Nat->List Int
 | _,0=>[]
 | s,k+1=>(s:Int) :: Qb (s+1) k
theorem nD (j:Int):∀(k s:Nat),DW j s (Qb s k)=if (s:Int)<=j/\j<((s+k:Nat):Int) then j else -1
 | 0,s=>by rw[An O1];rfl
 | k+1,s=>by
  unfold Qb DW;by_cases e:(s:Int)=j
  .rw[At e,At ⟨O1,O1⟩,e]
  rw[An e,nD j k (s+1)];by_cases h:((s+1:Nat):Int)<=j/\j<((s+1+k:Nat):Int)
  .rw[At h,At ⟨O1,O1⟩]
  rw[An h,An O1]
theorem iR:∀(k s:Nat),Qb s k++[((s+k:Nat):Int)]=Qb s (k+1)
 | 0,s=>by simp[Qb]
 | k+1,s=>by
  have:=iR k (s+1);rw[show s+1+k=s+(k+1) by omega]at this;rw[Qb,To,this];rfl
theorem A2f {N:List Int}:∀(l ns:List Int),DV (l.foldl AW ns) N->(l.map (Ej N)).foldl AW (Qb 0 ns.length)=Qb 0 (l.foldl AW ns).length
 | [],ns,_=>rfl
 | x :: l,ns,h=>by
  rw[oR,ON,ON];have c:DV (AW ns x) N:=(Kv l _).trans h;have d:=A2f l (AW ns x) h;rw[<-d]
  congr 1
  have e:=c x (iK ns x);by_cases q:Ej ns x<0
  .have a:AW ns x=ns++[x]:=At q;have b:Ej (ns++[x]) x=(ns.length:Int):=by
    have:=Qa x ns 0 q;rw[AB6]at this;exact this
   rw[e,a,b,IS,nO];unfold AW;rw[At (by unfold Ej;rw[nD,An O1];decide)];have:=iR ns.length 0;rw[AB6]at this;exact this
  have a:AW ns x=ns:=An q;rw[a]at e;rw[e,a];have f:=bA x ns 0;have g:0<=Ej ns x/\Ej ns x<(ns.length:Int):=by
   unfold Ej at q ⊢;omega
  unfold AW;rw[An];rw[show Ej (Qb 0 ns.length) (Ej ns x)=if ((0:Nat):Int)<=Ej ns x/\Ej ns x<((0+ns.length:Nat):Int) then Ej ns x else -1 from nD _ _ _,At ⟨O1,O1⟩];omega
theorem rK:∀(k s:Nat),(Qb s k).length=k
 | 0,_=>rfl
 | k+1,s=>by rw[Qb,Is,rK k (s+1)]
theorem rO:∀(k s i:Nat),i<k->(Qb s k).getD i 0=((s+i:Nat):Int)
 | k+1,s,0,_=>rfl
 | k+1,s,i+1,h=>by
  have:=rO k (s+1) i O1;rw[show s+1+i=s+(i+1) by omega]at this;exact this
theorem rQ (m:CJ):A3 (DJ m)=(A3 m).map (Ej (JK (A3 m))):=by
 generalize a:JK (A3 m)=N;have b:∀e:F2,H5 (lB N e)=(H5 e).map (Ej N):=λe=>by simp[H5,lB,AAU,Function.comp_def]
 have c:∀q:MD,EH (rnQ N q)=(EH q).map (Ej N):=λq=>rfl;unfold DJ;rw[a];simp only[A3,AAH,oR,ABC,ACg,AD9,b,c]
theorem A5n (h:FJ (DJ m)=0):GM (DJ m)=0:=by
 have e:JK (A3 (DJ m))=Qb 0 (JK (A3 m)).length:=by
  rw[rQ];exact A2f (A3 m) [] (DV.rfl' _)
 unfold GM;rw[An (by rw[h];simp),e,rK,An (by simp[DJ])];refine HR _ _ λj _ a=>?_;unfold A0t;rw[rO _ _ _ O1,At O1]
theorem A2g:∀(x y:List UInt8),Op.bytesLess x y=true↔x<y
 | _,[]=>by
  unfold Op.bytesLess;simp
 | [],b :: y=>by
  unfold Op.bytesLess;simp
 | a :: x,b :: y=>by
  unfold Op.bytesLess;rw[AA4,AT,A2g x y,List.cons_lt_cons_iff];simp
theorem Et {x:ByteArray}:CF x y=true↔x.toList<y.toList:=A2g _ _
theorem Md {x z:ByteArray} (h1:CF x y=true) (a:CF y z=true):CF x z=true:=Et.2 (List.lt_trans (Et.1 h1) (Et.1 a))
theorem iT {x:ByteArray} (h1:¬CF x y=true) (c:¬AK x y=true):CF y x=true:=by
 refine Et.2 ?_;have a:¬x.toList<y.toList:=λq=>h1 (Et.2 q);have b:¬x.toList=y.toList:=λq=>c (by unfold AK;rw[q];exact AD4 _);exact DO λq=>b (List.le_antisymm (List.not_lt.1 q) (List.not_lt.1 a))
def nE (l:List ByteArray):Prop:=l.Pairwise λa b=>CF a b=true
theorem A2h {l:List ByteArray} (d:nE l) (s:ByteArray):nE (Ds l s):=by
 unfold Ds;split
 .exact d
 rename_i hn;have k:l.take (Wy l s)=l.takeWhile λx=>CF x s:=by
  unfold Wy;exact(List.prefix_iff_eq_take.1 (List.takeWhile_prefix _)).symm
 have h1:∀x∈l.take (Wy l s),CF x s=true:=λx c=>by
  rw[k]at c;have:=List.all_takeWhile (p:=λx=>CF x s) (l:=l);rw[NO]at this;exact this x c
 have h:∀x∈l.drop (Wy l s),CF s x=true:=by
  by_cases f:Wy l s<l.length
  .have j:=OR f;have e:l.getD (Wy l s) ByteArray.empty=l[Wy l s]:=by simp[AS,f]
   have hh:CF s l[Wy l s]=true:=by
    refine iT (λq=>?_) λq=>hn ?_
    .have:=(kV (λx=>CF x s) ByteArray.empty l (Wy l s) (OS _)).1 ⟨f,by rw[e];exact q⟩;exact absurd this (by unfold Wy;omega)
    rw[AT,If,e];exact⟨f,q⟩
   intro x c;have i:(l.drop (Wy l s)).Pairwise λa b=>CF a b=true:=d.drop;rw[j]at c i;rcases By.1 c with rfl|c
   .exact hh
   exact Md hh ((AAv.1 i).1 x c)
  rw[No O1];exact λx c=>by cases c
 show List.Pairwise _ _;rw[AAg,ABW];refine⟨d.take,AAv.2 ⟨h,d.drop⟩,λa ha b g=>?_⟩;rcases By.1 g with rfl|g
 .exact h1 a ha
 exact Md (h1 a ha) (h b g)
theorem wA (d:List AI):nE (BM d):=by
 have b:∀(l:List (ByteArray×ByteArray)) (o:List ByteArray),nE o->nE (l.foldl Jj o):=by
  intro l;induction l with
  | nil=>exact λo h=>h
  | cons x l a=>exact λo h=>a _ (A2h h x.1)
 have c:∀(l:List AI) (o:List ByteArray),nE o->nE (l.foldl JJ o):=by
  intro l;induction l with
  | nil=>exact λo h=>h
  | cons x l a=>exact λo h=>a _ (b x.2.2 o h)
 exact c d [] .nil
def nF (h:AE):Prop:=h.2.Pairwise λa b=>CF a.1 b.1=true
theorem iU (d:List AI):nF (Ad d).1:=by
 unfold Ad;split
 .exact .nil
 show List.Pairwise _ (DD d).1;unfold DD;split
 .exact .nil
 show List.Pairwise _ ((BM d).map (MJ d));rw[AAI];exact wA d
theorem Qc (s:ByteArray):∀(l:List Pw) (k:Nat),0<=jC s k l->∃i,i<l.length/\jC s k l=((k+i:Nat):Int)/\∃x,l[i]?=some x/\AK x.1 s=true
 | [],k,h=>absurd h (by unfold jC;decide)
 | x :: l,k,h=>by
  unfold jC at h ⊢;split
  .rename_i e;exact⟨0,sc,O1,x,rfl,e⟩
  rename_i e;rw[An e]at h;obtain⟨i,h1,a,y,b,c⟩:=Qc s l (k+1) h;exact⟨i+1,by simp only[Is];omega,by rw[a];omega,y,by rw[List.getElem?_cons_succ];exact b,c⟩
theorem AA0 (hs:nF h) {t:ByteArray} (e:CF s t=true) (h1:0<=BO h s) (n:0<=BO h t):BO h s<BO h t:=by
 obtain⟨i,f,p,x,g,r⟩:=Qc s h.2 0 h1;obtain⟨j,k,u,y,b,v⟩:=Qc t h.2 0 n;have ex:x.1.toList=s.toList:=AAh.1 r;have c:y.1.toList=t.toList:=AAh.1 v;have d:=Et.1 e;unfold BO;rw[p,u];by_cases w:i<j
 .omega
 exfalso;by_cases o:i=j
 .subst o;rw[g]at b;injection b with b
  subst b;rw[ex]at c;rw[c]at d;exact List.lt_irrefl _ d
 have a:=iN.1 hs j i k f O1;have l:h.2[i]=x:=by have:=As f;rw[g]at this;injection this with q;exact q.symm
 have m:h.2[j]=y:=by have:=As k;rw[b]at this;injection this with q;exact q.symm
 rw[l,m]at a;have a:=Et.1 a;rw[ex,c]at a;exact List.lt_irrefl _ (List.lt_trans a d)
theorem Wm (s:ByteArray):∀(l:List FA) (k:Nat),0<=Ya s k l->∃i,i<l.length/\Ya s k l=((k+i:Nat):Int)/\∃x,l[i]?=some x/\AK x.1 s=true
 | [],k,h=>absurd h (by unfold Ya;decide)
 | x :: l,k,h=>by
  unfold Ya at h ⊢;split
  .rename_i e;exact⟨0,sc,O1,x,rfl,e⟩
  rename_i e;rw[An e]at h;obtain⟨i,h1,a,y,b,c⟩:=Wm s l (k+1) h;exact⟨i+1,by simp only[Is];omega,by rw[a];omega,y,by rw[List.getElem?_cons_succ];exact b,c⟩
theorem AA1 {t:ByteArray} (e:AK s t=false) (h1:0<=Aw h s):Aw h s≠Aw h t:=λq=>by
 obtain⟨i,m,c,x,d,f⟩:=Wm s h.1 0 h1;obtain⟨j,n,g,y,a,k⟩:=Wm t h.1 0 (show 0<=Aw h t by rw[<-q];exact h1);have l:((0+i:Nat):Int)=((0+j:Nat):Int):=c.symm.trans (q.trans g);have:i=j:=by omega
 subst this;rw[d]at a;injection a with a
 subst a;have ex:x.1.toList=s.toList:=AAh.1 f;have b:x.1.toList=t.toList:=AAh.1 k;have:AK s t=true:=by
  unfold AK;rw[<-ex,<-b];exact AD4 _
 rw[e]at this;cases this
structure LOk (h:AE):Prop where
 lw:S0 h=true
 srt:nF h
theorem LOk.ne (l:LOk h):(ED h).list≠(ED h).null:=AA1 a3 (A1c l.lw).2.2.2.1
theorem LOk.rng (l:LOk h):((ED h).list<(h.1.length:Int)/\(ED h).cons<(h.1.length:Int)/\(ED h).null<(h.1.length:Int)/\(ED h).dlist<(h.1.length:Int))/\(ED h).first<(h.2.length:Int)/\(ED h).rest<(h.2.length:Int)/\(ED h).head<(h.2.length:Int)/\(ED h).last<(h.2.length:Int) :=
 ⟨⟨(DL h _).2,(DL h _).2,(DL h _).2,(DL h _).2⟩,(GY h _).2,(GY h _).2,(GY h _).2,(GY h _).2⟩
theorem LOk.sub (l:LOk h):Ai h (ED h).list (ED h).cons=true/\Ai h (ED h).list (ED h).null=true:=by
 have e:=l.lw;unfold S0 at e;rw[AT,AT]at e;exact⟨e.1.2,e.2⟩
theorem A2i {all:List ByteArray} {l:List FV}:∀ {r:List FV} {k:Nat},pM all l k r=0->∀y∈r,BG y.1 true=true
 | [],_,_,y,a=>by cases a
 | x :: r,k,h,y,a=>by
  simp only[pM]at h;split at h
  .cases h
  rename_i h0;split at h
  .cases h
  split at h
  .cases h
  rcases By.1 a with rfl|a
  .simpa using h0
  exact A2i h y a
theorem rR {all:List ByteArray}:∀ {l:List AI},VU all l=0->∀x∈l,∀y∈x.2.2,BG y.1 true=true
 | [],_,x,a=>by cases a
 | z :: l,h,x,a=>by
  simp only[VU]at h;split at h
  .rename_i h1;exact absurd h h1
  rename_i h1;rcases By.1 a with rfl|a
  .exact A2i (DO h1)
  exact rR h x a
theorem Yz:∀(l:List (ByteArray×ByteArray)) (o:List ByteArray),∀s∈l.foldl Jj o,s∈o\/∃y∈l,y.1=s
 | [],o,s,h=>.inl h
 | x :: l,o,s,h=>by
  rcases Yz l _ s h with h|⟨y,a,e⟩
  .rcases Fv h with h|h
   .exact .inl h
   grind
  grind
theorem Wn:∀(l:List AI) (o:List ByteArray),∀s∈l.foldl JJ o,s∈o\/∃x∈l,∃y∈x.2.2,y.1=s
 | [],o,s,h=>.inl h
 | x :: l,o,s,h=>by
  rcases Wn l _ s h with h|⟨z,b,y,a,e⟩
  .rcases Yz x.2.2 o s h with h|⟨y,a,e⟩
   .exact .inl h
   grind
  grind
def A2j (h:AE):Prop:=∀x∈h.2,BG x.1 true=true
theorem nG (d:List AI):A2j (Ad d).1:=by
 by_cases a:Aq d=0
 .rw[Ko a];obtain⟨-,-,c,-,-⟩:=WP a;intro x b;rw[MY a]at b;obtain⟨s,hs,rfl⟩:=Do.1 b;rcases Wn d [] s hs with h|⟨z,g,y,f,e⟩
  .cases h
  show BG s true=true;rw[<-e];exact rR c z g y f
 have:(Ad d).1=([],[]):=by
  unfold Ad A9;rw[At a,At a]
 rw[this];exact λx b=>by cases b
theorem A2k {t:Int} (q:AK (CP h t) ⟨#[]⟩=false):VN (CP h t)=true:=by
 unfold CP at q ⊢;split
 .decide +kernel
 rename_i h1;rw[An h1]at q;split
 .decide +kernel
 rename_i a;rw[An a]at q;split
 .decide +kernel
 rename_i b;rw[An b]at q;split
 .decide +kernel
 rename_i c;rw[An c]at q;exact absurd q a3
theorem A8e (q:AK (Di h f n) ⟨#[]⟩=false):VN (Di h f n)=true:=by
 have a:=aX q;grind [Di,A2k]
theorem rS (h:MN l):l.Pairwise λa b=>a.1<b.1:=by
 rw[iN];intro i j hi f e;have key:∀k,i+k+1<l.length->(l.getD i (0,0)).1<(l.getD (i+k+1) (0,0)).1:=by
  intro k;induction k with
  | zero=>exact λhk=>h i hk
  | succ k c =>
   intro hk;have h1:=c O1;have d:=h (i+k+1) hk;rw[show i+(k+1)+1=i+k+1+1 by omega];omega
 have h1:=key (j-i-1) O1;grind
theorem A2l (hs:nF h) (hn:A2j h) (hf:JM f) (ha:QV h f) (q:FP h f n=true):Pm (Bb h f n).1=0:=by
 have e:Bb h f n=((Yx h f n,AY h f n ⟨#[76,65,66,69,76]⟩,(AU f n).2.filterMap (GS h f)),true):=At q;rw[e];unfold FP at q;simp only[AT]at q;unfold Pm;rw[At q.1.2];have k:MN (AU f n).2/\∀a∈(AU f n).2,0<=a.1/\a.1<(h.2.length:Int):=by
  unfold AU;by_cases hi:n.toNat<f.length
  .have:=Ac (d:=((0,[]):AD)) hi;exact⟨(hf _ this).1,ha _ this⟩
  have:f.getD n.toNat (0,[])=(0,[]):=by simp[AS,AD6 hi]
  rw[this];exact⟨λi hi=>by simp at hi,λa h=>by cases h⟩
 generalize (AU f n).2=R at *;have D:(R.filterMap (GS h f)).Pairwise λa b=>CF a.1 b.1=true:=by
  rw[List.pairwise_filterMap];refine ACi ?_ (rS k.1);intro a b o A G x c y m;unfold GS at c m;split at c
  .split at m
   .cases c;cases m;obtain⟨u,v⟩:=k.2 a o;obtain⟨F,b1⟩:=k.2 b A;have:=iN.1 hs a.1.toNat b.1.toNat O1 O1 O1;simpa[Rp,AS,show a.1.toNat<h.2.length by omega,show b.1.toNat<h.2.length by omega] using this
   cases m
  cases c
 have C:∀x∈R.filterMap (GS h f),BG x.1 true=true/\AK x.1 ⟨#[76,65,66,69,76]⟩=false:=by
  intro x c;obtain⟨a,o,g⟩:=AC5.1 c;unfold GS at g;split at g
  .rename_i E;cases g;obtain⟨u,v⟩:=k.2 a o;exact⟨hn (h.2.getD a.1.toNat (ByteArray.empty,0)) (Ac O1),E.1⟩
  cases g
 generalize R.filterMap (GS h f)=l at *;refine HR _ _ λj _ B=>?_;have p:j<l.length:=by simpa using B
 have r:=C _ (Ac (d:=(ByteArray.empty,(0:Int))) p);unfold k9;rw[An (by rw[r.1,r.2];simp),An];intro⟨H,s⟩;have t:=iN.1 D (j-1) j O1 p O1;have w:l.getD j (ByteArray.empty,0)=l[j]:=by simp[AS,p]
 have z:l.getD (j-1) (ByteArray.empty,0)=l[j-1]:=by simp[AS,show j-1<l.length by omega]
 rw[w,z]at s;have t:=Et.1 t;rcases s with h1|h1
 .grind [Et]
 grind [Eq]
theorem Qd {s:Int} (a:(BK h f s).2=0):∀e∈(BK h f s).1,∃x,FP h f x=true/\e=(Bb h f x).1:=by
 unfold BK at a ⊢;split at a
 .cases a
 rename_i h1;rw[An h1];split at a
 .rename_i c;exact absurd a c
 rename_i c;rw[An c];split at a
 .rename_i l;rw[At l];intro e o;obtain⟨x,p,rfl⟩:=Do.1 o;obtain⟨j,n,rfl⟩:=wL.1 p;have b:=D5 (λi r k=>by unfold S3 at k;split at k<;>cases k;decide) _ 0 l j (GO _) O1;have m:(AQ h f (AY h f s ⟨#[82,69,76,83]⟩)).1.getD j 0=(AQ h f (AY h f s ⟨#[82,69,76,83]⟩)).1[j]:=by simp[AS,n]
  unfold S3 at b;rw[m]at b;refine⟨_,?_,rfl⟩;generalize (AQ h f (AY h f s ⟨#[82,69,76,83]⟩)).1[j]=x at *;have d:(Bb h f x).2=true:=by
   cases g:(Bb h f x).2 with
   | true=>rfl
   | false=>rw[g,An sc]at b;cases b
  cases g:FP h f x with
  | true=>rfl
  | false=>unfold Bb at d;rw[g,An sc]at d;cases d
 cases a
theorem Qf {s:Int} (a:(BL h f s).2=0):∀e∈(BL h f s).1,AK (Di h f e.1) ⟨#[104]⟩=true/\AK (Di h f e.2) ⟨#[104]⟩=true:=by
 unfold BL at a ⊢;split at a
 .cases a
 rename_i h1;rw[An h1];split at a
 .rename_i d;exact absurd a d
 rename_i d;rw[An d];split at a
 .rename_i k;rw[At k];intro e o;obtain⟨x,p,rfl⟩:=Do.1 o;obtain⟨j,n,rfl⟩:=wL.1 p;have b:=D5 (λi r g=>by unfold S4 at g;split at g<;>cases g;decide) _ 0 k j (GO _) O1;have l:(AQ h f (AY h f s ⟨#[67,79,78,83]⟩)).1.getD j 0=(AQ h f (AY h f s ⟨#[67,79,78,83]⟩)).1[j]:=by simp[AS,n]
  unfold S4 at b;rw[l]at b;generalize (AQ h f (AY h f s ⟨#[67,79,78,83]⟩)).1[j]=x at *;have c:G4 h f x=true:=by
   cases m:G4 h f x with
   | true=>rfl
   | false=>rw[m,An sc]at b;cases b
  unfold G4 at c;simp only[AT]at c;exact⟨c.1.2,c.2⟩
 cases a
theorem rT {x:Int}:∀(l:List Int) (k:Nat),x∈l->∃i,i<l.length/\DW x k l=((k+i:Nat):Int)/\l[i]?=some x
 | y :: l,k,h=>by
  unfold DW;by_cases e:y=x
  .grind
  rw[An e];obtain⟨i,h1,a,b⟩:=rT l (k+1) ((By.1 h).resolve_left λq=>e q.symm);exact⟨i+1,by simp only[Is];omega,by rw[a];omega,by simpa using b⟩
theorem A2m:∀(l out:List Int) (x:Int),x∈out\/x∈l->x∈l.foldl AW out
 | [],out,x,h=>h.elim id λh=>by cases h
 | y :: l,out,x,h=>by
  refine A2m l (AW out y) x ?_;rcases h with h|h
  .grind [AW]
  rcases By.1 h with rfl|h
  .left;unfold AW;split
   .grind
   rename_i q;rcases bA x out 0 with d|d
   .exact absurd q (by unfold Ej;omega)
   exact DO λb=>by
    have:∀(l:List Int) (k:Nat),x∉l->DW x k l=-1:=by
     intro l;induction l with
     | nil=>exact λ_ _=>rfl
     | cons z l c =>
      intro k a;unfold DW;rw[An (λq=>a (by rw[q];exact f7))];exact c _ λq=>a (IF _ q)
    have:=this out 0 b;omega
  exact .inr h
theorem A5o (m:CJ):Jn (DJ m)=(Jn m).map (Ej (JK (A3 m))):=by
 generalize a:JK (A3 m)=N;have b:∀e:F2,RG (lB N e)=(RG e).map (Ej N):=λe=>rfl;have c:∀q:MD,EH (rnQ N q)=(EH q).map (Ej N):=λq=>rfl;unfold DJ;rw[a];simp only[Jn,AAH,oR,ABC,ACg,AD9,b,c]
theorem Tu:∀ {s:ByteArray},AK s ⟨#[104]⟩=true->AK s ⟨#[]⟩=false:=λ{s} q=>by
 rw[IQ q];decide +kernel
theorem A8f (N:List Int) (e:F2):Pm (lB N e)=Pm e:=by
 unfold Pm lB;split
 .simp only[On]
  congr 1
  grind [k9,Ej]
 rfl
theorem A8g (hs:nF h) (hn:A2j h) (hf:JM f) (H:A1V h f) (h0:0<f.length) {s:Int} (p:AK (Di h f (AY h f s ⟨#[84,79,80]⟩)) ⟨#[104]⟩=true) (v:AK (Di h f (AY h f s ⟨#[73,78,68,69,88]⟩)) ⟨#[]⟩=false) (l:(BK h f s).2=0) (k:(BL h f s).2=0) :
  GM (DJ (Cb h f s))≠0↔nC (Cb h f s):=by
 obtain⟨-,G,-,ha⟩:=H;have D:=Wh G h0 p v l k;have B:∀x∈A3 (Cb h f s),AK (Di h f x) ⟨#[]⟩=false:=by
  intro x a;simp only[A3,IN,AAZ,By,H5,EH,ABo,ACG]at a;rcases a with ((a|a)|⟨e,c,a|a⟩)|⟨e,c,a|a⟩
  .rw[a];exact Tu p
  .rw[a];exact v
  .obtain⟨y,m,rfl⟩:=Qd l e c;grind [Bb,FP,Tu]
  .obtain⟨y,m,rfl⟩:=Qd l e c;grind [Bb,GS]
  .rw[a];exact Tu (Qf k e c).1
  rw[a];exact Tu (Qf k e c).2
 have C:∀x∈Jn (Cb h f s),AK (Di h f x) ⟨#[104]⟩=true:=by
  intro x a;simp only[Jn,IN,AAZ,By,RG,EH,ABo,ACG]at a;rcases a with (a|⟨e,c,a⟩)|⟨e,c,a|a⟩
  .rw[a];exact p
  .obtain⟨y,m,rfl⟩:=Qd l e c;grind [Bb,FP]
  .rw[a];exact(Qf k e c).1
  rw[a];exact(Qf k e c).2
 have r:∀x:Int,0<=x->x<(f.length:Int)->(Cb h f s).2.2.1.getD x.toNat ByteArray.empty=Di h f x:=by grind [Cb]
 have I:(Cb h f s).2.2.1.length=f.length:=by simp[Cb]
 have E:∀e∈(Cb h f s).2.2.2.1,Pm e=0:=by
  intro e c;obtain⟨y,m,rfl⟩:=Qd l e c;exact A2l hs hn hf ha m
 have g:=D.2;rw[I]at g;have J:=pF (Cb h f s);generalize O:Cb h f s=M at *;have o:(DJ M).2.2.1.length=(JK (A3 M)).length:=by simp[DJ]
 have u:(DJ M).2.2.2.1.length=M.2.2.2.1.length:=by simp[DJ]
 have N:(DJ M).2.2.2.2.length=M.2.2.2.2.length:=by simp[DJ]
 have q:∀x∈A3 M,∃i,i<(JK (A3 M)).length/\Ej (JK (A3 M)) x=(i:Int)/\(JK (A3 M))[i]?=some x:=by
  intro x a;obtain⟨i,t,n,L⟩:=rT (JK (A3 M)) 0 (A2m (A3 M) [] x (.inr a));grind [Ej]
 constructor
 .intro K;apply DO;intro F;refine K (A5n ?_);unfold nC at F;unfold FJ;rw[An (by rw[o,u,N];omega)];have w:Ap (eL (DJ M).2.2.1) 0 (DJ M).2.2.1.length 0=0:=by
   refine HR _ _ λj _ b=>?_;rw[o]at b;have b:j<(JK (A3 M)).length:=by omega
   unfold eL;rw[At];have d:(JK (A3 M))[j]∈A3 M:=(lC (A3 M) [] _ (AAd b)).resolve_left sc;have:(DJ M).2.2.1.getD j ByteArray.empty=M.2.2.1.getD ((JK (A3 M))[j]).toNat ByteArray.empty:=by
    simp[DJ,AS,b]
   rw[this,r _ (g _ d).1 (g _ d).2];exact A8e (B _ d)
  rw[An (by rw[w];simp)];have z:Ap (XE (DJ M).2.2.2.1) 0 (DJ M).2.2.2.1.length 0=0:=by
   refine HR _ _ λj _ b=>?_;rw[u]at b;have b:j<M.2.2.2.1.length:=by omega
   unfold XE;have:(DJ M).2.2.2.1.getD j (ByteArray.empty,0,[])=lB (JK (A3 M)) M.2.2.2.1[j]:=by
    simp[DJ,AS,b]
   rw[this,A8f,At (E _ (AAd b))]
  rw[An (by rw[z];simp)];have A:Ap (Zu (DJ M).2.2.1.length (A3 (DJ M))) 0 (A3 (DJ M)).length 0=0:=by
   refine HR _ _ λj _ b=>?_;rw[rQ]at b ⊢;rw[On]at b;have b:j<(A3 M).length:=by omega
   have:((A3 M).map (Ej (JK (A3 M)))).getD j 0=Ej (JK (A3 M)) (A3 M)[j]:=by simp[AS,b]
   obtain⟨i,t,n,-⟩:=q _ (AAd b);unfold Zu;rw[this,n,o,An O1]
  rw[An (by rw[A];simp)];refine HR _ _ λj _ b=>?_;rw[A5o]at b ⊢;rw[On]at b;have b:j<(Jn M).length:=by omega
  have:((Jn M).map (Ej (JK (A3 M)))).getD j 0=Ej (JK (A3 M)) (Jn M)[j]:=by simp[AS,b]
  have d:=J _ (AAd b);obtain⟨i,t,n,L⟩:=q _ d;unfold A0r;rw[this,n,At];have:(DJ M).2.2.1.getD ((i:Int)).toNat ByteArray.empty=M.2.2.1.getD ((Jn M)[j]).toNat ByteArray.empty:=by grind [DJ]
  rw[this,r _ (g _ d).1 (g _ d).2];exact C _ (AAd b)
 grind [FJ,DJ,nC,GM]
theorem A2n (b:Ts h) (hs:nF h) (hn:A2j h) (hf:JM f) (a:A1V h f) (h0:0<f.length):LO h f=I0 h f :=
 A2e b a.2.1 h0 λc d e g=>A8g hs hn hf a h0 c d e g
section
attribute [local go_sem] QG JN K8 KY My Jk Io NG
def IT (h:AE) (a:List AD):List (Nat×Obj) :=
 [(1,.box 98 true [.p GH h,.ag [.sr 2 TX 0 a.length]]),(2,.nest 57 59 T3 C4 a none)]
def D8 (a:List AD) (n e m:Int):List AD:=a.set n.toNat ((a.getD n.toNat (0,[])).1,(a.getD n.toNat (0,[])).2++[(e,m)])
def JQ (h:AE) (a:List AD) (s:ByteArray):List AD:=a++[(Aw h s,[])]
theorem Gx (h:AE) (a:List AD) (g:a.length<=100000) (s:ByteArray):BF Tryz.prog 46 [.bp 1 [] 0,.p T9 s] (IT h a) [1]
  (λres f=>res=.p T3 (a.length:Int)/\f=IT h (JQ h a s)):=by
 refine J0 [0,1,4] [] [(18,59)] Tryz.func46 Tryz.ntmps46 (AG QH AH) ?_;intro w0 K O0 ρ0 b i j;simp only[Au,IT];repeat'(first|exact a6|apply eS rfl|apply AB|refine rP b ?_ ?_|fail)
 refine Lz drawsAny b 15 [([1,2,3,4,5,6,7,8,9,10,11,12,13],14)] [0] a5 (mxA ?_ ?_)
 .trivial
 refine mxL b [2,18] ?_ ?_
 .simp only[AP];omega
 refine mxE b ?_ ?_ ?_
 .trivial
 .trivial
 repeat'(first|exact a6|apply eS rfl|apply AB|refine rX b ?_ ?_|refine rC ?_ ?_<;>intro c<;>try(cases c;done))
 .omega
 have d:a.length+1=(a++[(Aw h s,([]:List (Int×Int)))]).length:=by simp
 have e:(a.length:Int)+1-1=a.length:=by omega
 rw[e,d];refine Ev.ent (σ':=⟨[(4,.p (.int .i64) (a.length:Int))],IT h (a++[(Aw h s,[])])⟩) ?_ (AC [(1,.nm 1),(2,.nm 2)] rfl rfl ?_ ?_)
 .exact fM b [.tmp 4] (.p T3 (a.length:Int)) eT ⟨rfl,rfl⟩
 .simp only[IT];first|exact eN|refine eM ?_
 first|exact eN|refine eM ?_
attribute [local go_sem] U7 kK ne_eq not_false_eq_true
theorem Eu (h:AE) (a:List AD) (f:a.length<=100000) (h0:0<=n) (h1:n<(a.length:Int)) (j:(a.getD n.toNat (0,[])).2.length<=100000) (s:ByteArray) (m:Int):BF Tryz.prog 47 [.bp 1 [] 0,.p T3 n,.p T9 s,.p T3 m] (IT h a) [1]
  (λres e=>res=.raw (.tuple #[])/\e=IT h (D8 a n (BO h s) m)):=by
 refine J0 [0,1,2,3] [31] [] Tryz.func47 Tryz.ntmps47 (AG WA AH) ?_;intro w0 K O0 ρ0 b g i;simp only[Au,IT];repeat'(first|exact a6|apply eS rfl|apply AB|refine rP b ?_ ?_|fail)
 refine Lz drawsAny b 25 [([6,7,8,9,10,11,12,13,14,15,16,17,18,19,20,21,22,23],24)] [0,1,2,3,4,5] a5 (mxA ?_ ?_)
 .exact⟨h0,h1⟩
 refine mxN b 2 ?_ ?_
 .simp only[AP];dsimp only[Ty.den]at *;omega
 refine mxE b ?_ ?_ ?_
 .trivial
 .exact⟨h0,h1⟩
 repeat'(first|exact a6|apply eS rfl|apply AB|refine rX b ?_ ?_|refine rC ?_ ?_<;>intro c<;>try(cases c;done))
 have d:a.length=(D8 a n (BO h s) m).length:=(AAp ..).symm;rw[d];refine Ev.ent (σ':=⟨[],IT h (D8 a n (BO h s) m)⟩) ?_ (AC [(1,.nm 1),(2,.nm 2)] rfl rfl ?_ ?_)
 .exact fM b [] (.raw (.tuple #[])) rfl ⟨rfl,rfl⟩
 .simp only[IT];first|exact eN|refine eM ?_
  rfl
 first|exact eN|refine eM ?_
end
section
attribute [local go_sem] IT K8 KY My Jk Io NG
def Jz (K:Nat) (a:List AD):Prop:=∀x∈a,x.2.length<=K
theorem Ol (h:AE) (a:List AD) (s:ByteArray):(JQ h a s).length=a.length+1:=by simp[JQ]
theorem A5p {b:List AD} {K:Nat} (hk:Jz K b) (s:ByteArray):Jz K (JQ h b s):=by
 intro x a;rcases IN.1 a with a|a
 .exact hk x a
 rw[iS.1 a];exact GO _
theorem bF (a:List AD) (n e m:Int):(D8 a n e m).length=a.length:=AAp ..
theorem iV {a:List AD} {K:Nat} (hk:Jz K a) (n:Int):(a.getD n.toNat (0,[])).2.length<=K:=by
 by_cases h:n.toNat<a.length
 .exact hk _ (AF a (0,[]) h)
 rw[AS,oN O1];exact GO _
theorem A5q {b:List AD} {K:Nat} (hk:Jz K b) (n e m:Int):Jz (K+1) (D8 b n e m):=by
 intro x a;rcases AB2 a with a|rfl
 .have:=hk x a;omega
 have:=iV hk n;simp only[IS,nO];omega
def Eh (h:AE) (st:List AD×Int×ByteArray) (x:Int):List AD×Int×ByteArray :=
 (D8 (D8 (JQ h st.1 ⟨#[99,111,110,115]⟩) st.2.1 (BO h st.2.2) (st.1.length:Int)) (st.1.length:Int) (BO h ⟨#[70,73,82,83,84]⟩) x,(st.1.length:Int),⟨#[82,69,83,84]⟩)
def rU (h:AE) (d:Int) (st:List AD×Int×ByteArray):List AD :=
 D8 (D8 (JQ h st.1 ⟨#[108,105,115,116]⟩) st.2.1 (BO h st.2.2) (st.1.length:Int)) d (BO h ⟨#[76,65,83,84]⟩) (st.1.length:Int)
def iW (h:AE) (a:List AD) (l:List Int):List AD:=rU h (a.length:Int) (l.foldl (Eh h) (JQ h a ⟨#[100,108,105,115,116]⟩,(a.length:Int),⟨#[76,73,83,84]⟩))
theorem A2o {α β:Type} (g:β->α->β) (l:List α) (d:α) (b:β) {k:Nat} (h:k<l.length):(l.drop k).foldl g b=(l.drop (k+1)).foldl g (g b (l.getD k d)):=by
 rw[OR h,AS,As h];rfl
theorem A2p {st:List AD×Int×ByteArray} {L K:Nat} (h1:st.1.length=L) (a:Jz K st.1) (b:0<=st.2.1/\st.2.1<(st.1.length:Int)) (x:Int) :
  (Eh h st x).1.length=L+1/\Jz (K+2) (Eh h st x).1/\0<=(Eh h st x).2.1/\(Eh h st x).2.1<((Eh h st x).1.length:Int):=by
 refine⟨by simp only[Eh,bF,Ol,h1],A5q (A5q (A5p a _) _ _ _) _ _ _,by simp only[Eh];omega,?_⟩;simp only[Eh,bF,Ol];omega
theorem iX (h:AE) (b:List AD) (I:b.length<=1000) {K:Nat} (y:Jz K b) (G:K<=1000) (l:List Int) (J:l.length<=1000):BF Tryz.prog 48 [.bp 1 [] 0,.p CH l] (IT h b) [1]
  (λres E=>res=.p T3 (b.length:Int)/\E=IT h (iW h b l)):=by
 refine J0 [0,1,4,5,6,7,9,10,11,15,16,17,18] [] [] Tryz.func48 Tryz.ntmps48 AH ?_;intro w0 F O0 ρ0 a L M;have B:iW h b l=rU h (b.length:Int) (l.foldl (Eh h) (JQ h b ⟨#[100,108,105,115,116]⟩,(b.length:Int),⟨#[76,73,83,84]⟩)):=rfl;simp only[Au,IT];repeat'(first|exact a6|apply eS rfl|apply AB|refine rP a ?_ ?_|fail)
 refine cP 1 a ?_ ?_
 .trivial
 refine rM a (Gx h b O1 ⟨#[100,108,105,115,116]⟩) [(1,.nm 1),(2,.nm 2)] [2] ?_ ?_ ?_
 .first|exact eN|refine eM ?_
 .first|exact eN|refine eM ?_
 rintro _ _ ⟨rfl,rfl⟩;refine⟨[(1,.nm 1),(2,.nm 2)],.p T3 (b.length:Int),IT h (JQ h b ⟨#[100,108,105,115,116]⟩),rfl,rfl,?_,?_,rfl,rfl,?_⟩
 .first|exact eN|refine eM ?_
 .first|exact eN|refine eM ?_
 simp only[IT];refine rL a ?_ ?_
 .trivial
 repeat'(first|exact a6|apply eS rfl|apply AB|refine rX a ?_ ?_|refine rC ?_ ?_<;>intro c<;>try(cases c;done))
 have u:=Ol h b ⟨#[100,108,105,115,116]⟩;have C:=A5p (h:=h) y ⟨#[100,108,105,115,116]⟩;generalize JQ h b ⟨#[100,108,105,115,116]⟩=s at *;refine AJ (ι:={x:Nat×List AD×Int×ByteArray//x.1<=l.length/\(l.drop x.1).foldl (Eh h) x.2=l.foldl (Eh h) (s,(b.length:Int),⟨#[76,73,83,84]⟩)/\x.2.1.length=b.length+1+x.1/\Jz (K+2*x.1) x.2.1/\0<=x.2.2.1/\x.2.2.1<(x.2.1.length:Int)}) (λx=>⟨[(0,.bp 1 [] 0),(5,.p T3 (b.length:Int)),(6,.p T3 x.1.2.2.1),(7,.p T9 x.1.2.2.2),(15,.p CH l),(16,.p (.int .i64) (l.length:Int)),(17,.p (.int .i64) (x.1.1:Int))],IT h x.1.2.1⟩) (λx=>l.length-x.1.1) ⟨(0,s,(b.length:Int),⟨#[76,73,83,84]⟩),GO _,rfl,by simpa using u,by simpa using C,sc,by simp only[u];omega⟩ (AC [(1,.nm 1),(2,.nm 2)] rfl rfl ?_ ?_) (λx=>?_)
 .first|exact eN|refine eM ?_
 .first|exact eN|refine eM ?_
 obtain⟨⟨i,Z⟩,hi,k,v,f,g,w⟩:=x;simp only at hi k v f g w;have r:=λq:i<l.length=>A2o (Eh h) l 0 Z q;simp only[IT];repeat'(first|exact a6|apply eS rfl|apply AB|refine rX a ?_ ?_|refine rC ?_ ?_<;>intro c<;>try(cases c;done))
 .exact c
 .have t:i<l.length:=by omega
  have r:=r t;have e:=A2p (h:=h) v f ⟨g,w⟩ (l.getD i 0);have D:=Ol h Z.1 ⟨#[99,111,110,115]⟩;have d:=A5p (h:=h) f ⟨#[99,111,110,115]⟩;refine cP 1 a ?_ ?_
  .trivial
  refine rM a (Gx h Z.1 O1 ⟨#[99,111,110,115]⟩) [(1,.nm 1),(2,.nm 2)] [2] ?_ ?_ ?_
  .first|exact eN|refine eM ?_
  .first|exact eN|refine eM ?_
  rintro _ _ ⟨rfl,rfl⟩;refine⟨[(1,.nm 1),(2,.nm 2)],.p T3 (Z.1.length:Int),IT h (JQ h Z.1 ⟨#[99,111,110,115]⟩),rfl,rfl,?_,?_,rfl,rfl,?_⟩
  .first|exact eN|refine eM ?_
  .first|exact eN|refine eM ?_
  simp only[IT];refine rL a ?_ ?_
  .trivial
  repeat'(first|exact a6|apply eS rfl|apply AB|refine rX a ?_ ?_|refine rC ?_ ?_<;>intro c<;>try(cases c;done))
  have m:=iV d Z.2.1;have A:=bF (JQ h Z.1 ⟨#[99,111,110,115]⟩) Z.2.1 (BO h Z.2.2) (Z.1.length:Int);have j:=A5q d Z.2.1 (BO h Z.2.2) (Z.1.length:Int);have o:=iV j (Z.1.length:Int);refine cP 4 a ?_ ?_
  .trivial
  refine rM a (Eu h (JQ h Z.1 ⟨#[99,111,110,115]⟩) O1 g O1 (aS m O1) Z.2.2 (Z.1.length:Int)) [(1,.nm 1),(2,.nm 2)] [2] ?_ ?_ ?_
  .first|exact eN|refine eM ?_
  .first|exact eN|refine eM ?_
  rintro _ _ ⟨rfl,rfl⟩;refine⟨[(1,.nm 1),(2,.nm 2)],.raw (.tuple #[]),IT h (D8 (JQ h Z.1 ⟨#[99,111,110,115]⟩) Z.2.1 (BO h Z.2.2) (Z.1.length:Int)),rfl,rfl,?_,?_,rfl,rfl,?_⟩
  .first|exact eN|refine eM ?_
  .first|exact eN|refine eM ?_
  simp only[IT];refine rL a ?_ ?_
  .trivial
  repeat'(first|exact a6|apply eS rfl|apply AB|refine rX a ?_ ?_|refine rC ?_ ?_<;>intro c<;>try(cases c;done))
  refine cP 3 a ?_ ?_
  .trivial
  refine rM a (Eu h (D8 (JQ h Z.1 ⟨#[99,111,110,115]⟩) Z.2.1 (BO h Z.2.2) (Z.1.length:Int)) O1 (n:=(Z.1.length:Int)) O1 O1 (aS o O1) ⟨#[70,73,82,83,84]⟩ (l.getD i 0)) [(1,.nm 1),(2,.nm 2)] [2] ?_ ?_ ?_
  .first|exact eN|refine eM ?_
  .first|exact eN|refine eM ?_
  rintro _ _ ⟨rfl,rfl⟩;refine⟨[(1,.nm 1),(2,.nm 2)],.raw (.tuple #[]),IT h (D8 (D8 (JQ h Z.1 ⟨#[99,111,110,115]⟩) Z.2.1 (BO h Z.2.2) (Z.1.length:Int)) (Z.1.length:Int) (BO h ⟨#[70,73,82,83,84]⟩) (l.getD i 0)),rfl,rfl,?_,?_,rfl,rfl,?_⟩
  .first|exact eN|refine eM ?_
  .first|exact eN|refine eM ?_
  simp only[IT];refine rL a ?_ ?_
  .trivial
  repeat'(first|exact a6|apply eS rfl|apply AB|refine rX a ?_ ?_|refine rC ?_ ?_<;>intro c<;>try(cases c;done))
  .exact eV
  refine⟨⟨(i+1,Eh h Z (l.getD i 0)),t,by rw[<-k,r],by simp only;rw[e.1];omega,by have:=e.2.1;rw[show K+2*i+2=K+2*(i+1) by omega]at this;exact this,e.2.2.1,e.2.2.2⟩,a2,AC [(1,.nm 1),(2,.nm 2)] rfl rfl ?_ ?_⟩
  .simp only[Eh];first|exact eN|refine eM ?_
  simp only[Eh];first|exact eN|refine eM ?_
 have H:i=l.length:=by omega
 have z:iW h b l=rU h (b.length:Int) Z:=by rw[B,<-k,No O1];rfl
 have D:=Ol h Z.1 ⟨#[108,105,115,116]⟩;have d:=A5p (h:=h) f ⟨#[108,105,115,116]⟩;refine cP 1 a ?_ ?_
 .trivial
 refine rM a (Gx h Z.1 O1 ⟨#[108,105,115,116]⟩) [(1,.nm 1),(2,.nm 2)] [2] ?_ ?_ ?_
 .first|exact eN|refine eM ?_
 .first|exact eN|refine eM ?_
 rintro _ _ ⟨rfl,rfl⟩;refine⟨[(1,.nm 1),(2,.nm 2)],.p T3 (Z.1.length:Int),IT h (JQ h Z.1 ⟨#[108,105,115,116]⟩),rfl,rfl,?_,?_,rfl,rfl,?_⟩
 .first|exact eN|refine eM ?_
 .first|exact eN|refine eM ?_
 simp only[IT];refine rL a ?_ ?_
 .trivial
 repeat'(first|exact a6|apply eS rfl|apply AB|refine rX a ?_ ?_|refine rC ?_ ?_<;>intro c<;>try(cases c;done))
 have m:=iV d Z.2.1;have A:=bF (JQ h Z.1 ⟨#[108,105,115,116]⟩) Z.2.1 (BO h Z.2.2) (Z.1.length:Int);have j:=A5q d Z.2.1 (BO h Z.2.2) (Z.1.length:Int);have o:=iV j (b.length:Int);refine cP 4 a ?_ ?_
 .trivial
 refine rM a (Eu h (JQ h Z.1 ⟨#[108,105,115,116]⟩) O1 g O1 (aS m O1) Z.2.2 (Z.1.length:Int)) [(1,.nm 1),(2,.nm 2)] [2] ?_ ?_ ?_
 .first|exact eN|refine eM ?_
 .first|exact eN|refine eM ?_
 rintro _ _ ⟨rfl,rfl⟩;refine⟨[(1,.nm 1),(2,.nm 2)],.raw (.tuple #[]),IT h (D8 (JQ h Z.1 ⟨#[108,105,115,116]⟩) Z.2.1 (BO h Z.2.2) (Z.1.length:Int)),rfl,rfl,?_,?_,rfl,rfl,?_⟩
 .first|exact eN|refine eM ?_
 .first|exact eN|refine eM ?_
 simp only[IT];refine rL a ?_ ?_
 .trivial
 repeat'(first|exact a6|apply eS rfl|apply AB|refine rX a ?_ ?_|refine rC ?_ ?_<;>intro c<;>try(cases c;done))
 refine cP 3 a ?_ ?_
 .trivial
 refine rM a (Eu h (D8 (JQ h Z.1 ⟨#[108,105,115,116]⟩) Z.2.1 (BO h Z.2.2) (Z.1.length:Int)) O1 (n:=(b.length:Int)) O1 O1 (aS o O1) ⟨#[76,65,83,84]⟩ (Z.1.length:Int)) [(1,.nm 1),(2,.nm 2)] [2] ?_ ?_ ?_
 .first|exact eN|refine eM ?_
 .first|exact eN|refine eM ?_
 rintro _ _ ⟨rfl,rfl⟩;refine⟨[(1,.nm 1),(2,.nm 2)],.raw (.tuple #[]),IT h (D8 (D8 (JQ h Z.1 ⟨#[108,105,115,116]⟩) Z.2.1 (BO h Z.2.2) (Z.1.length:Int)) (b.length:Int) (BO h ⟨#[76,65,83,84]⟩) (Z.1.length:Int)),rfl,rfl,?_,?_,rfl,rfl,?_⟩
 .first|exact eN|refine eM ?_
 .first|exact eN|refine eM ?_
 simp only[IT];refine rL a ?_ ?_
 .trivial
 repeat'(first|exact a6|apply eS rfl|apply AB|refine rX a ?_ ?_|refine rC ?_ ?_<;>intro c<;>try(cases c;done))
 rw[z];exact fM a [.tmp 4] (.p T3 (b.length:Int)) eT ⟨rfl,rfl⟩
end
section
attribute [local go_sem] QG JN NZ K8 KY My Jk Io NG
def Wo (h:AE):List RF->Bool
 | []=>false
 | a :: l=>if BO h a.1<0 then true else Wo h l
def IZ (h:AE):List F2->Int
 | []=>0
 | e :: l=>if Aw h e.1<0 then 5 else if Ai h (Aw h ⟨#[114,101,108]⟩) (Aw h e.1)=false then 13 else if Wo h e.2.2=true then 5 else IZ h l
theorem wB (h:AE) (l:List RF) {k:Nat} (q:k<l.length):Wo h (l.drop k)=if BO h (l.getD k (ByteArray.empty,0)).1<0 then true else Wo h (l.drop (k+1)):=by
 rw[OR q,AS,As q];rfl
theorem wC (h:AE) (l:List F2) {k:Nat} (q:k<l.length):IZ h (l.drop k)=if Aw h (l.getD k (ByteArray.empty,0,[])).1<0 then 5 else if Ai h (Aw h ⟨#[114,101,108]⟩) (Aw h (l.getD k (ByteArray.empty,0,[])).1)=false then 13 else if Wo h (l.getD k (ByteArray.empty,0,[])).2.2=true then 5 else IZ h (l.drop (k+1)):=by
 rw[OR q,AS,As q];rfl
def bG:Ab:={ ins:=[GH,oZ],pre:=λ(h,m,_)=>Ts h/\NH m,out:=λ(h,m,_)=>[.p C3 (IZ h (m:CJ).2.2.2.1)],lend:=true }
theorem wD:Af Tryz.prog 45 bG:=by
 refine fK [0,1,2,3,4,6,7,9,11,12,13,14,22,28,30,31,32,33,40] Tryz.func45 Tryz.ntmps45 (AG QH (AG WA (AG Py AH))) ?_;rintro w0 O0 ⟨h,m,u⟩ g-⟨hs,s⟩;have hs:Ts h:=hs;have s:NH m:=s;have n:(h.1,h.2)=h:=rfl;obtain⟨v,w,t,x⟩:=s;obtain⟨a,b,B,es,qs⟩:=m;simp only at v w t x;simp only[bG,AM];repeat'(first|exact a6|apply eS rfl|apply AB|refine rX g ?_ ?_|refine rC ?_ ?_<;>intro c<;>try(cases c;done))
 refine AJ (ι:={i:Nat//i<=es.length/\IZ h (es.drop i)=IZ h es}) (λi=>⟨[(2,.bp 2 [] 0),(11,.p NF es),(12,.p (.int .i64) (es.length:Int)),(13,.p (.int .i64) (i.1:Int))],[(2,.box 26 true [.p SM h.1,.p TW h.2])]⟩) (λi=>es.length-i.1) ⟨0,GO _,rfl⟩ (AC [(2,.nm 2)] rfl rfl ?_ ?_) (λi=>?_)
 .first|exact eN|refine eM ?_
 .first|exact eN|refine eM ?_
 obtain⟨i,hi,j⟩:=i;have f:=λq:i<es.length=>wC h es q;simp only;repeat'(first|exact a6|apply eS rfl|apply AB|refine rX g ?_ ?_|refine rC ?_ ?_<;>intro c<;>try(cases c;done))
 all_goals have n:(h.1,h.2)=h:=rfl
 all_goals try simp only[n]at *
 .exact c
 .have e:IZ h es=5:=by rw[<-j,f O1,At c]
  exact fI g [.tmp 4] (by rw[e];exact eR)
 .exact⟨⟨hs.2.1,HY h _⟩,c,HY h _⟩
 .rename_i y z;have e:IZ h es=13:=by rw[<-j,f O1,An O1,At c]
  exact fI g [.tmp 4] (by rw[e];exact eR)
 .rename_i y z;have f:=f O1;rw[An O1,An (by rw[c];simp)]at f;have A:(es.getD i (ByteArray.empty,0,[])).2.2.length<=100000:=t _ (AF es (ByteArray.empty,0,[]) O1);generalize (es.getD i (ByteArray.empty,0,[])).2.2=d at *;refine AJ (ι:={k:Nat//k<=d.length/\Wo h (d.drop k)=Wo h d}) (λk=>⟨[(2,.bp 2 [] 0),(11,.p NF es),(12,.p (.int .i64) (es.length:Int)),(13,.p (.int .i64) (i:Int)),(30,.p T52 d),(31,.p (.int .i64) (d.length:Int)),(32,.p (.int .i64) (k.1:Int))],[(2,.box 26 true [.p SM h.1,.p TW h.2])]⟩) (λk=>d.length-k.1) ⟨0,GO _,rfl⟩ (AC [(2,.nm 2)] rfl rfl ?_ ?_) (λk=>?_)
  .first|exact eN|refine eM ?_
  .first|exact eN|refine eM ?_
  obtain⟨k,hk,r⟩:=k;have l:=λq:k<d.length=>wB h d q;simp only;repeat'(first|exact a6|apply eS rfl|apply AB|refine rX g ?_ ?_|refine rC ?_ ?_<;>intro c<;>try(cases c;done))
  all_goals have n:(h.1,h.2)=h:=rfl
  all_goals try simp only[n]at *
  .exact c
  .have o:Wo h d=true:=by rw[<-r,l O1,At c]
   have e:IZ h es=5:=by rw[<-j,f,At o]
   exact fI g [.tmp 4] (by rw[e];exact eR)
  .exact eV
  .have l:=l O1;rw[An O1]at l;refine⟨⟨k+1,O1,by rw[<-r,l]⟩,a2,AC [(2,.nm 2)] rfl rfl ?_ ?_⟩
   .first|exact eN|refine eM ?_
   first|exact eN|refine eM ?_
  .exact eV
  have o:Wo h d=false:=by rw[<-r,No O1];rfl
  rw[An (by rw[o];simp)]at f;refine⟨⟨i+1,O1,by rw[<-j,f]⟩,a2,AC [(2,.nm 2)] rfl rfl ?_ ?_⟩
  .first|exact eN|refine eM ?_
  first|exact eN|refine eM ?_
 have e:IZ h es=0:=by rw[<-j,No (AAf.1 c)];rfl
 exact fI g [.tmp 4] (by rw[e];exact eR)
end
section
attribute [local go_sem] QF JN v8 K8 KY My Jk Io NG
def A8h:Ab:={ ins:=[GH,T9,T3],pre:=λ_=>True,out:=λ(h,s,m,_)=>[.p C4 (BO h s,m)] }
def Y0 (h:AE) (v:ByteArray):Int:=if AK v ⟨#[104]⟩=true then Aw h ⟨#[104,97,110,100,108,101]⟩ else if AK v ⟨#[101]⟩=true then Aw h ⟨#[101,118,101,110,116]⟩ else if AK v ⟨#[120]⟩=true then Aw h ⟨#[101,110,116,105,116,121]⟩ else Aw h ⟨#[105,110,100,101,120]⟩
def A8i:Ab:={ ins:=[Ff,TX],pre:=λ(f,_,_)=>List.length f<=100000,out:=λ(f,x,_)=>[.p Ff ((f:List AD)++[(x:AD)])] }
end
section
attribute [local go_sem] KY Io
def eqV (a b:List ByteArray) (i:Nat):Option Bool:=if AK (a.getD i ByteArray.empty) (b.getD i ByteArray.empty)=true then none else some false
def eqA (a b:List RF) (i:Nat):Option Bool:=if (AK (a.getD i (ByteArray.empty,0)).1 (b.getD i (ByteArray.empty,0)).1&&(a.getD i (ByteArray.empty,0)).2==(b.getD i (ByteArray.empty,0)).2)=true then none else some false
def iY (x y:F2):Bool:=AK x.1 y.1&&x.2.1==y.2.1&&decide ((x.2.2.length:Int)=(y.2.2.length:Int))&&Ap (eqA x.2.2 y.2.2) true x.2.2.length 0
def eqR (a b:List F2) (i:Nat):Option Bool:=if iY (a.getD i (ByteArray.empty,0,[])) (b.getD i (ByteArray.empty,0,[]))=true then none else some false
def eqQ (a b:List MD) (i:Nat):Option Bool:=if ((a.getD i (0,0)).1==(b.getD i (0,0)).1&&(a.getD i (0,0)).2==(b.getD i (0,0)).2)=true then none else some false
def nH (a b:CJ):Bool:=a.1==b.1&&a.2.1==b.2.1&&decide ((a.2.2.1.length:Int)=(b.2.2.1.length:Int))&&decide ((a.2.2.2.1.length:Int)=(b.2.2.2.1.length:Int))&&decide ((a.2.2.2.2.length:Int)=(b.2.2.2.2.length:Int))
def Qg (a b:CJ):Bool:=nH a b&&Ap (eqV a.2.2.1 b.2.2.1) true a.2.2.1.length 0&&Ap (eqR a.2.2.2.1 b.2.2.2.1) true a.2.2.2.1.length 0&&Ap (eqQ a.2.2.2.2 b.2.2.2.2) true a.2.2.2.2.length 0
def iZ:Ab:={ ins:=[oZ,oZ],pre:=λ_=>True,out:=λ(a,b,_)=>[.p .bool (Qg a b)] }
theorem rV:Af Tryz.prog 17 iZ:=by
 refine fK [0,1,2,3,4,5,6,7,8,9,10,49,54,67,72,105,110,123,128,141] Tryz.func17 Tryz.ntmps17 AH ?_;rintro w0 O0 ⟨⟨tp,ix,f,a,cs⟩,⟨r,o,n,c,m⟩,u⟩ d ⟨⟨-,-,⟨N,-⟩,⟨L,M⟩,⟨K,-⟩⟩,-⟩ -;simp only[AP]at N L K;simp only[iZ,AM];repeat'(first|exact a6|apply eS rfl|apply AB|refine rX d ?_ ?_|refine rC ?_ ?_<;>intro b<;>try(cases b;done))
 .have e:Qg (tp,ix,f,a,cs) (r,o,n,c,m)=false:=by
   have q:nH (tp,ix,f,a,cs) (r,o,n,c,m)=false:=by
    cases v:nH (tp,ix,f,a,cs) (r,o,n,c,m) with
    | false=>rfl
    | true =>
     simp only[nH,AT,AAh,If]at v;obtain⟨⟨⟨⟨s,t⟩,w⟩,y⟩,z⟩:=v;rcases b with (((h|h)|h)|h)|h
     .exact absurd s h
     .exact absurd t h
     .exact absurd w h
     .exact absurd y h
     exact absurd z h
   unfold Qg;rw[q];rfl
  exact fI d [.tmp 4] (by rw[e];exact eR)
 simp only[AC2]at b;obtain⟨⟨⟨⟨s,t⟩,w⟩,y⟩,z⟩:=b;have e:Qg (tp,ix,f,a,cs) (r,o,n,c,m)=(Ap (eqV f n) true f.length 0&&Ap (eqR a c) true a.length 0&&Ap (eqQ cs m) true cs.length 0):=by
  have q:nH (tp,ix,f,a,cs) (r,o,n,c,m)=true:=by
   simp only[nH,AT,AAh,If];exact⟨⟨⟨⟨s,t⟩,w⟩,y⟩,z⟩
  unfold Qg;rw[q];rfl
 rw[e];clear e s t;generalize D:Ap (eqV f n) true f.length 0=V;generalize C:Ap (eqR a c) true a.length 0=R;generalize H:Ap (eqQ cs m) true cs.length 0=Q;refine AJ (ι:={i:Nat//i<=f.length/\Ap (eqV f n) true (f.length-i) i=V}) (λi=>⟨[(2,.bp 2 [] 0),(3,.bp 3 [] 0),(5,.p (.int .i64) (i.1:Int))],[(3,.box 41 true [.p T3 r,.p T3 o,.p Cj n,.p NF c,.p Ot m]),(2,.box 41 true [.p T3 tp,.p T3 ix,.p Cj f,.p NF a,.p Ot cs])]⟩) (λi=>f.length-i.1) ⟨0,GO _,D⟩ (AC [(2,.nm 2),(3,.nm 3)] rfl rfl ?_ ?_) (λi=>?_)
 .first|exact eN|refine eM ?_
 .first|exact eN|refine eM ?_
 obtain⟨i,hi,g⟩:=i;simp only;repeat'(first|exact a6|apply eS rfl|apply AB|refine rX d ?_ ?_|refine rC ?_ ?_<;>intro b<;>try(cases b;done))
 .exact⟨b,eV⟩
 .rw[Ct g eV (An (by rw[b];simp))];exact fI d [.tmp 4]
 .omega
 .refine⟨⟨i+1,eV,Df g eV (At b)⟩,a2,AC [(2,.nm 2),(3,.nm 3)] rfl rfl ?_ ?_⟩
  .first|exact eN|refine eM ?_
  first|exact eN|refine eM ?_
 rw[Ed g eV];clear g D;refine AJ (ι:={j:Nat//j<=a.length/\Ap (eqR a c) true (a.length-j) j=R}) (λj=>⟨[(2,.bp 2 [] 0),(3,.bp 3 [] 0),(6,.p (.int .i64) (j.1:Int))],[(3,.box 41 true [.p T3 r,.p T3 o,.p Cj n,.p NF c,.p Ot m]),(2,.box 41 true [.p T3 tp,.p T3 ix,.p Cj f,.p NF a,.p Ot cs])]⟩) (λj=>a.length-j.1) ⟨0,GO _,C⟩ (AC [(2,.nm 2),(3,.nm 3)] rfl rfl ?_ ?_) (λj=>?_)
 .first|exact eN|refine eM ?_
 .first|exact eN|refine eM ?_
 obtain⟨j,S,g⟩:=j;simp only;repeat'(first|exact a6|apply eS rfl|apply AB|refine rX d ?_ ?_|refine rC ?_ ?_<;>intro b<;>try(cases b;done))
 .exact b
 .exact eV
 .have q:iY (a.getD j (ByteArray.empty,0,[])) (c.getD j (ByteArray.empty,0,[]))=false:=by
   cases v:iY (a.getD j (ByteArray.empty,0,[])) (c.getD j (ByteArray.empty,0,[])) with
   | false=>rfl
   | true =>
    simp only[iY,AT,AAh,If]at v;obtain⟨⟨⟨s,t⟩,w⟩,-⟩:=v;rcases b with (h|h)|h
    .rw[s]at h;cases h
    .exact absurd t h
    exact absurd w h
  rw[Ct g eV (An (by rw[q];simp))];exact fI d [.tmp 4]
 .have J:j<a.length:=by exact eV
  have I:(a.getD j (ByteArray.empty,0,[])).2.2.length<=AP:=(M _ (AF a (ByteArray.empty,0,[]) J)).2.2.1;simp only[AP]at I;obtain⟨⟨O,P⟩,B⟩:=b;have q:iY (a.getD j (ByteArray.empty,0,[])) (c.getD j (ByteArray.empty,0,[]))=Ap (eqA (a.getD j (ByteArray.empty,0,[])).2.2 (c.getD j (ByteArray.empty,0,[])).2.2) true (a.getD j (ByteArray.empty,0,[])).2.2.length 0:=by
   unfold iY;rw[O,AAh.2 (AC2.1 P),ABm (AC2.1 B)];rfl
  have B:=AC2.1 B;generalize E:Ap (eqA (a.getD j (ByteArray.empty,0,[])).2.2 (c.getD j (ByteArray.empty,0,[])).2.2) true (a.getD j (ByteArray.empty,0,[])).2.2.length 0=A at q;refine AJ (ι:={k:Nat//k<=(a.getD j (ByteArray.empty,0,[])).2.2.length/\Ap (eqA (a.getD j (ByteArray.empty,0,[])).2.2 (c.getD j (ByteArray.empty,0,[])).2.2) true ((a.getD j (ByteArray.empty,0,[])).2.2.length-k) k=A}) (λk=>⟨[(2,.bp 2 [] 0),(3,.bp 3 [] 0),(6,.p (.int .i64) (j:Int)),(7,.bp 7 [] 0),(8,.bp 8 [] 0),(9,.p (.int .i64) (k.1:Int))],[(8,.box 54 true [.p T9 (c.getD j (ByteArray.empty,0,[])).1,.p T3 (c.getD j (ByteArray.empty,0,[])).2.1,.p T52 (c.getD j (ByteArray.empty,0,[])).2.2]),(7,.box 54 true [.p T9 (a.getD j (ByteArray.empty,0,[])).1,.p T3 (a.getD j (ByteArray.empty,0,[])).2.1,.p T52 (a.getD j (ByteArray.empty,0,[])).2.2]),(3,.box 41 true [.p T3 r,.p T3 o,.p Cj n,.p NF c,.p Ot m]),(2,.box 41 true [.p T3 tp,.p T3 ix,.p Cj f,.p NF a,.p Ot cs])]⟩) (λk=>(a.getD j (ByteArray.empty,0,[])).2.2.length-k.1) ⟨0,GO _,E⟩ (AC [(2,.nm 2),(3,.nm 3),(7,.nm 7),(8,.nm 8)] rfl rfl ?_ ?_) (λk=>?_)
  .first|exact eN|refine eM ?_
  .first|exact eN|refine eM ?_
  obtain⟨k,hk,x⟩:=k;simp only;repeat'(first|exact a6|apply eS rfl|apply AB|refine rX d ?_ ?_|refine rC ?_ ?_<;>intro b<;>try(cases b;done))
  .refine cD 10 d ?_ ?_
   .exact⟨b,eV⟩
   refine A9m (j:=.i64) d a5 ?_;refine rL d ?_ ?_
   .trivial
   repeat'(first|exact a6|apply eS rfl|apply AB|refine rX d ?_ ?_|refine rC ?_ ?_<;>intro b<;>try(cases b;done))
   .have F:=Ct x eV (An (by simp only[AT,AAh];exact λh=>b h.1 h.2));rw[Ct g eV (An (by rw[q,F];simp))];exact fI d [.tmp 4]
   .exact eV
   refine⟨⟨k+1,eV,Df x eV (At (by simp only[AT,AAh];exact b))⟩,a2,AC [(2,.nm 2),(3,.nm 3),(7,.nm 7),(8,.nm 8)] rfl rfl ?_ ?_⟩
   .first|exact eN|refine eM ?_
   first|exact eN|refine eM ?_
  .omega
  have G:=Ed x eV;refine⟨⟨j+1,eV,Df g eV (At (q.trans G))⟩,a2,AC [(2,.nm 2),(3,.nm 3)] rfl rfl ?_ ?_⟩
  .first|exact eN|refine eM ?_
  first|exact eN|refine eM ?_
 rw[Ed g eV];clear g C;refine AJ (ι:={l:Nat//l<=cs.length/\Ap (eqQ cs m) true (cs.length-l) l=Q}) (λl=>⟨[(2,.bp 2 [] 0),(3,.bp 3 [] 0),(10,.p (.int .i64) (l.1:Int))],[(3,.box 41 true [.p T3 r,.p T3 o,.p Cj n,.p NF c,.p Ot m]),(2,.box 41 true [.p T3 tp,.p T3 ix,.p Cj f,.p NF a,.p Ot cs])]⟩) (λl=>cs.length-l.1) ⟨0,GO _,H⟩ (AC [(2,.nm 2),(3,.nm 3)] rfl rfl ?_ ?_) (λl=>?_)
 .first|exact eN|refine eM ?_
 .first|exact eN|refine eM ?_
 obtain⟨l,T,g⟩:=l;simp only;repeat'(first|exact a6|apply eS rfl|apply AB|refine rX d ?_ ?_|refine rC ?_ ?_<;>intro b<;>try(cases b;done))
 .refine cD 10 d ?_ ?_
  .exact⟨b,eV⟩
  refine A9n d ?_;refine rL d ?_ ?_
  .trivial
  repeat'(first|exact a6|apply eS rfl|apply AB|refine rX d ?_ ?_|refine rC ?_ ?_<;>intro b<;>try(cases b;done))
  .rw[Ct g eV (An (by simp only[AT,AAh];exact λh=>b h.1 h.2))];exact fI d [.tmp 4]
  .omega
  refine⟨⟨l+1,eV,Df g eV (At (by simp only[AT,AAh];exact b))⟩,a2,AC [(2,.nm 2),(3,.nm 3)] rfl rfl ?_ ?_⟩
  .first|exact eN|refine eM ?_
  first|exact eN|refine eM ?_
 rw[Ed g eV];exact fI d [.tmp 4]
end
section
attribute [local go_sem] OK Fx pO K8 KY My Jk Io NG
theorem A2q:BF Tryz.prog 29 [] [] [] (λres c=>res=.sr 20 yX 0 Bq.length/\c=[(20,.arr 65 yX Bq)]):=by
 refine J0 [0] [3,6,12,14,16,18] [] Tryz.func29 Tryz.ntmps29 (AG pP AH) ?_;intro w0 K O0 ρ0 a d e;simp only[Au];repeat'(first|exact a6|apply eS rfl|apply AB|refine rX a ?_ ?_|refine rC ?_ ?_<;>intro b<;>try(cases b;done))
 exact fM a [.tmp 0] (.sr 20 yX 0 13) eT ⟨rfl,rfl⟩
def dcB (d:List AI) (i:Nat):Bool:=decide (8<((d.getD i (ByteArray.empty,[],[])).2.1.length:Int))||decide (8<((d.getD i (ByteArray.empty,[],[])).2.2.length:Int))
def bH (d:List AI):Bool:=decide (d.length<=8)&&(List.range d.length).all λi=>!dcB d i
def Wp (d:List AI):AE×Bool:=if bH d=true then ((Ad (Bq++d)).1,(Ad (Bq++d)).2==0) else (([],[]),false)
def bI:Ab:={ ins:=[Ez],pre:=λ_=>True,out:=λ(d,_)=>[.p GH (Wp d).1,.p .bool (Wp d).2] }
theorem AAN {c:Cx} {k:List Cl} {ops:Array Oper} {rest:List Oper} {σ a:St} (l:List Nat) (hk:EE c R k ops rest a) (h:Cw l σ=a:=by exact a1):EE c R k ops rest σ:=A3K hk (ZZ l h λ_ _ h=>h)
theorem A2r:Af Tryz.prog 9 bI:=by
 refine fK [0,2,3,4,5,6,9,12,13,14,31] Tryz.func9 Tryz.ntmps9 (AG VY AH) ?_;rintro w0 O0 ⟨d,u⟩ a - -;simp only[bI,AM];repeat'(first|exact a6|apply eS rfl|apply AB|refine rX a ?_ ?_|refine rC ?_ ?_<;>intro b<;>try(cases b;done))
 .have e:Wp d=(([],[]),false):=An (by unfold bH;rw[AC6 O1];simp);exact fI a [.cell 2 26,.tmp 3] (by rw[e];first|exact eR|refine OC ?_;rfl)
 refine AJ (ι:={i:Nat//i<=d.length/\∀j,j<i->dcB d j=false}) (λi=>⟨[(0,.p Ez d),(2,.bp 2 [] 0),(12,.p (.int .i64) (d.length:Int)),(13,.p (.int .i64) (i.1:Int))],[(2,.box 26 true [.raw (.slice none 0 0),.raw (.slice none 0 0)])]⟩) (λi=>d.length-i.1) ⟨0,GO _,λ_ h=>by omega⟩ (AC [(2,.nm 2)] rfl rfl ?_ ?_) (λi=>?_)
 .first|exact eN|refine eM ?_
 .first|exact eN|refine eM ?_
 obtain⟨i,hi,c⟩:=i;simp only;repeat'(first|exact a6|apply eS rfl|apply AB|refine rX a ?_ ?_|refine rC ?_ ?_<;>intro b<;>try(cases b;done))
 .exact⟨b,λ_=>b⟩
 .have f:dcB d i=true:=by unfold dcB;rw[AA4,If,If];exact b
  have e:Wp d=(([],[]),false):=by
   refine An λq=>?_;unfold bH at q;have:=NO.1 (ABX.1 q).2 i (tO.2 O1);rw[f]at this;cases this
  exact fI a [.cell 2 26,.tmp 3] (by rw[e];first|exact eR|refine OC ?_;rfl)
 .exact eV
 .have f:dcB d i=false:=by unfold dcB;rw[AAj,Wx,Wx];exact⟨ABh.2 b.1,ABh.2 b.2⟩
  refine⟨⟨i+1,O1,λj g=>?_⟩,a2,AC [(2,.nm 2)] rfl rfl ?_ ?_⟩
  .by_cases e:j=i
   .rw[e];exact f
   exact c j O1
  .first|exact eN|refine eM ?_
  first|exact eN|refine eM ?_
 have e:Wp d=((Ad (Bq++d)).1,(Ad (Bq++d)).2==0):=by
  refine At ?_;unfold bH;rw[AT];refine⟨ABm O1,NO.2 λj g=>?_⟩;rw[tO]at g;rw[c j O1];rfl
 rw[e];have k:=A2q;have l:Bq.length=13:=rfl;clear e c;generalize Bq=p at *;repeat'(first|exact a6|apply eS rfl|apply AB|refine rP a ?_ ?_|fail)
 refine cP 0 a ?_ ?_
 .trivial
 refine rM a (k) [] [] ?_ ?_ ?_
 .first|exact eN|refine eM ?_
 .first|exact eN|refine eM ?_
 rintro _ _ ⟨rfl,rfl⟩;refine⟨[(20,.nm 20)],.sr 20 yX 0 p.length,[(20,.arr 65 yX p)],rfl,rfl,?_,?_,rfl,rfl,?_⟩
 .first|exact eN|refine eM ?_
 .first|exact eN|refine eM ?_
 refine rN 2 a ?_ ?_
 .have m:d.length<=8:=by exact eV
  rw[l];simp only[AP];dsimp only[Ty.den]at *;omega
 refine AAN [20] ?_;refine rL a ?_ ?_
 .trivial
 repeat'(first|exact a6|apply eS rfl|apply AB|refine rX a ?_ ?_|refine rC ?_ ?_<;>intro b<;>try(cases b;done))
 exact fI a [.cell 2 26,.tmp 3]
end
theorem rW (s:ByteArray):∀(l:List FA) (r:List AR) (k:Nat),(l.map λx=>x.1)=(r.map λx=>x.1)->Ya s k l=KX s k r
 | [],[],_,_=>rfl
 | x :: l,y :: r,k,h=>by
  simp only[oR,ABD]at h;unfold Ya KX;rw[h.1,rW s l r (k+1) h.2]
 | [],y :: r,_,h=>by simp at h
 | x :: l,[],_,h=>by simp at h
theorem A5r (d:List AI) (s:ByteArray):Aw (Bn d) s=BN (AL d) s:=by
 refine rW s _ _ 0 (AAJ (by simp[WO d]) λi h1 a=>?_);have hi:i<(AL d).length:=by simpa using a
 have b:i<(Bn d).1.length:=by simpa using h1
 have:=ABj (λx:FA=>x.1) (mR d hi);simpa[AS,hi,b] using this
theorem A2s (s:ByteArray):∀(l:List Pw) (k:Nat),(∃x∈l,AK x.1 s=true)->0<=jC s k l
 | [],_,h=>by obtain⟨x,a,-⟩:=h;cases a
 | y :: l,k,h=>by
  unfold jC;split
  .omega
  rename_i q;obtain⟨x,a,e⟩:=h;rcases By.1 a with rfl|a
  .exact absurd e q
  exact A2s s l (k+1) ⟨x,a,e⟩
theorem Om {s:ByteArray}:∀(l:List (ByteArray×ByteArray)) (o:List ByteArray),Aa o s=true->Aa (l.foldl Jj o) s=true
 | [],_,h=>h
 | x :: l,o,h=>Om l _ (Hi (λ_=>Jo) h)
theorem Y2 {y:ByteArray×ByteArray}:∀(l:List (ByteArray×ByteArray)) (o:List ByteArray),y∈l->Aa (l.foldl Jj o) y.1=true
 | x :: l,o,h=>by
  rcases By.1 h with rfl|h
  .exact Om l _ MG
  exact Y2 l _ h
theorem Sl {s:ByteArray}:∀(l:List AI) (o:List ByteArray),Aa o s=true->Aa (l.foldl JJ o) s=true
 | [],_,h=>h
 | x :: l,o,h=>Sl l _ (Om x.2.2 o h)
theorem Wq {x:AI} {y:ByteArray×ByteArray} (a:y∈x.2.2):∀(l:List AI) (o:List ByteArray),x∈l->Aa (l.foldl JJ o) y.1=true
 | z :: l,o,h=>by
  rcases By.1 h with rfl|h
  .exact Sl l _ (Y2 _ o a)
  exact Wq a l _ h
def A6o:List ByteArray:=Bq.map λx=>x.1
def A6p:List ByteArray:=Bq.flatMap λx=>x.2.2.map λy=>y.1
structure Fe (h:AE):Prop where
 h14:H14 h
 srt:nF h
 nm:A2j h
 ty:∀s,(A6o.any λx=>AK x s)=true->0<=Aw h s
 ft:∀s,(A6p.any λx=>AK x s)=true->0<=BO h s
theorem wE (a:(A9 d).2=0):Aq d=0:=by
 unfold A9 at a;split at a
 .rename_i h;exact absurd a h
 rename_i h;exact DO h
theorem wF (h:(Ad d).2=0):Aq d=0:=by
 unfold Ad at h;split at h
 .rename_i q;exact absurd h q
 rename_i q;exact wE (DO q)
theorem A2t (d:List AI) (h:(Ad (Bq++d)).2=0):Fe (Ad (Bq++d)).1:=by
 have b:=wF h;obtain⟨g,-,k,-,-⟩:=WP b;refine⟨WX _,iU _,nG _,λs hs=>?_,λs hs=>?_⟩
 .obtain⟨x,a,e⟩:=bY.1 hs;obtain⟨y,c,rfl⟩:=Do.1 a;rw[Ko b,A5r,<-IQ e];exact MH g (AAb _ c)
 obtain⟨x,a,e⟩:=bY.1 hs;obtain⟨z,j,a⟩:=AAZ.1 a;obtain⟨y,c,rfl⟩:=Do.1 a;rw[Ko b,<-IQ e];have:=Wq c (Bq++d) [] (AAb _ j);obtain⟨w,i,f⟩:=bY.1 this;refine A2s _ _ 0 ⟨MJ (Bq++d) w,?_,f⟩;rw[MY b];exact List.mem_map_of_mem i
theorem A5s (h:(Wp d).2=true):Fe (Wp d).1:=by
 unfold Wp at h ⊢;split at h
 .rename_i q;rw[At q];exact A2t d (AAh.1 h)
 cases h
theorem Fe.so (p:Fe h):Ts h:=⟨⟨p.ty _ a3,p.ty _ a3,p.ty _ a3,p.ty _ a3⟩,p.ty _ a3,p.ty _ a3⟩
def wR (h:AE):Nat->List Int->List AD
 | _,[]=>[(Aw h ⟨#[108,105,115,116]⟩,[])]
 | b,x :: l=>(Aw h ⟨#[99,111,110,115]⟩,[(BO h ⟨#[70,73,82,83,84]⟩,x),(BO h ⟨#[82,69,83,84]⟩,((b+1:Nat):Int))]) :: wR h (b+1) l
def Wr (h:AE) (n:Nat) (l:List Int):List AD:=(Aw h ⟨#[100,108,105,115,116]⟩,[(BO h ⟨#[76,73,83,84]⟩,((n+1:Nat):Int)),(BO h ⟨#[76,65,83,84]⟩,((n+1+l.length:Nat):Int))]) :: wR h (n+1) l
theorem HZ (A B:List AD) (t:Int) (L:List (Int×Int)) (n e m:Int) (hn:n=(A.length:Int)):D8 (A++(t,L) :: B) n e m=A++(t,L++[(e,m)]) :: B:=by
 subst hn;unfold D8;rw[oF,AS,AAi (OS _),ABB,List.set_append,An (Nat.lt_irrefl _),ABB];rfl
theorem Y3 (h:AE):∀(l:List Int) (A:List AD) (t:Int) (L:List (Int×Int)) (s:ByteArray),
  D8 (JQ h (l.foldl (Eh h) (A++[(t,L)],(A.length:Int),s)).1 ⟨#[108,105,115,116]⟩) (l.foldl (Eh h) (A++[(t,L)],(A.length:Int),s)).2.1 (BO h (l.foldl (Eh h) (A++[(t,L)],(A.length:Int),s)).2.2) ((l.foldl (Eh h) (A++[(t,L)],(A.length:Int),s)).1.length:Int)=A++(t,L++[(BO h s,((A.length+1:Nat):Int))]) :: wR h (A.length+1) l /\
  (l.foldl (Eh h) (A++[(t,L)],(A.length:Int),s)).1.length=A.length+1+l.length
 | [],A,t,L,s=>by
  refine⟨?_,sc⟩;simp only[ACY];unfold JQ;rw[AAg];rw[show [(t,L)]++[(Aw h ⟨#[108,105,115,116]⟩,([]:List (Int×Int)))]=(t,L) :: [(Aw h ⟨#[108,105,115,116]⟩,[])] from rfl,HZ A _ t L _ _ _ rfl];simp only[IS,Is,AAt];rfl
 | x :: l,A,t,L,s=>by
  have e:Eh h (A++[(t,L)],(A.length:Int),s) x=((A++[(t,L++[(BO h s,((A.length+1:Nat):Int))])])++[(Aw h ⟨#[99,111,110,115]⟩,[(BO h ⟨#[70,73,82,83,84]⟩,x)])],((A++[(t,L++[(BO h s,((A.length+1:Nat):Int))])]).length:Int),⟨#[82,69,83,84]⟩):=by
   unfold Eh JQ;simp only;rw[AAg,show [(t,L)]++[(Aw h ⟨#[99,111,110,115]⟩,([]:List (Int×Int)))]=(t,L) :: [(Aw h ⟨#[99,111,110,115]⟩,[])] from rfl,HZ A _ t L _ _ _ rfl];have a:(A++[(t,L)]).length=A.length+1:=by simp
   rw[a];have b:A++(t,L++[(BO h s,((A.length+1:Nat):Int))]) :: [(Aw h ⟨#[99,111,110,115]⟩,([]:List (Int×Int)))]=(A++[(t,L++[(BO h s,((A.length+1:Nat):Int))])])++(Aw h ⟨#[99,111,110,115]⟩,[]) :: []:=by simp
   rw[b,HZ _ [] _ _ _ _ _ sc];simp
  rw[ON,e];obtain⟨h1,c⟩:=Y3 h l (A++[(t,L++[(BO h s,((A.length+1:Nat):Int))])]) (Aw h ⟨#[99,111,110,115]⟩) [(BO h ⟨#[70,73,82,83,84]⟩,x)] ⟨#[82,69,83,84]⟩;refine⟨?_,?_⟩
  .rw[h1,wR];simp
  rw[c];simp;omega
theorem rZ (h:AE) (a:List AD) (l:List Int):iW h a l=a++Wr h a.length l:=by
 obtain⟨h1,b⟩:=Y3 h l a (Aw h ⟨#[100,108,105,115,116]⟩) [] ⟨#[76,73,83,84]⟩;unfold iW rU;rw[show JQ h a ⟨#[100,108,105,115,116]⟩=a++[(Aw h ⟨#[100,108,105,115,116]⟩,[])] from rfl,h1,b,HZ _ _ _ _ _ _ _ rfl];rfl
theorem r7 (h:AE):∀(l:List Int) (b:Nat),(wR h b l).length=l.length+1
 | [],_=>rfl
 | x :: l,b=>by simp[wR,r7 h l]
theorem bJ (h:AE) (n:Nat) (l:List Int):(Wr h n l).length=l.length+2:=by simp[Wr,r7]
def rkF (h:AE) (e:F2):AD:=(Aw h e.1,(BO h ⟨#[76,65,66,69,76]⟩,2+e.2.1) :: e.2.2.map λa=>(BO h a.1,2+a.2))
def ckF (h:AE) (q:MD):AD:=(Aw h ⟨#[113,101,113]⟩,[(BO h ⟨#[72,73,71,72]⟩,2+q.1),(BO h ⟨#[76,79,87]⟩,2+q.2)])
def vkF (h:AE) (v:ByteArray):AD:=(Y0 h v,[])
def bK (h:AE) (m:CJ):List AD:=m.2.2.1.map (vkF h)++m.2.2.2.1.map (rkF h)++m.2.2.2.2.map (ckF h)
def A2u (h:AE) (m:CJ) (r c:Int):List AD:=(Aw h ⟨#[115,105,103,110]⟩,[(BO h ⟨#[83,69,77]⟩,1)]) :: (Aw h ⟨#[115,101,109]⟩,[(BO h ⟨#[84,79,80]⟩,2+m.1),(BO h ⟨#[73,78,68,69,88]⟩,2+m.2.1),(BO h ⟨#[82,69,76,83]⟩,r),(BO h ⟨#[67,79,78,83]⟩,c)]) :: bK h m
def Gy (b k:Nat):List Int:=(List.range k).map λi=>((b+i:Nat):Int)
def pN (m:CJ):Nat:=2+m.2.2.1.length+m.2.2.2.1.length+m.2.2.2.2.length
def qN (m:CJ):Nat:=pN m+m.2.2.2.1.length+2
def wG (m:CJ):List Int:=Gy (2+m.2.2.1.length) m.2.2.2.1.length
def wH (m:CJ):List Int:=Gy (2+m.2.2.1.length+m.2.2.2.1.length) m.2.2.2.2.length
def D9 (h:AE) (m:CJ):List AD:=A2u h m (pN m:Int) (qN m:Int)++Wr h (pN m) (wG m)++Wr h (qN m) (wH m)
theorem Ha (b k:Nat):(Gy b k).length=k:=by simp[Gy]
theorem Tv (h:AE) (m:CJ):(bK h m).length=pN m-2:=by simp[bK,pN];omega
theorem A5u (h:AE) (m:CJ) (r c:Int):(A2u h m r c).length=pN m:=by
 have:=Tv h m;have:2<=pN m:=by unfold pN;omega
 simp[A2u,Tv];omega
theorem Ws (h:AE) (m:CJ):(D9 h m).length=qN m+m.2.2.2.2.length+2:=by
 simp only[D9,IS,A5u,bJ,wG,wH,Ha,qN];omega
def nI (m:CJ):Prop:=∀x∈A3 m,0<=x/\x<(m.2.2.1.length:Int)
theorem A6r {e:F2} (b:e∈m.2.2.2.1):e.2.1∈A3 m/\∀a∈e.2.2,a.2∈A3 m:=by
 refine⟨?_,λa ha=>?_⟩
 .refine AAb _ (AB7 _ (AAZ.2 ⟨e,b,?_⟩));exact f7
 refine AAb _ (AB7 _ (AAZ.2 ⟨e,b,?_⟩));exact IF _ (List.mem_map_of_mem ha)
theorem A6s {q:MD} (a:q∈m.2.2.2.2):q.1∈A3 m/\q.2∈A3 m:=by
 refine⟨AB7 _ (AAZ.2 ⟨q,a,?_⟩),AB7 _ (AAZ.2 ⟨q,a,?_⟩)⟩<;>simp[EH]
theorem A6t (m:CJ):m.1∈A3 m/\m.2.1∈A3 m:=by
 refine⟨?_,?_⟩<;>exact AAb _ (AAb _ sc)
theorem A5v (d:nI m):∀x∈bK h m,∀a∈x.2,2<=a.2/\a.2<((2+m.2.2.1.length:Nat):Int):=by
 intro x c a ha;unfold bK at c;rw[IN,IN]at c;rcases c with (c|c)|c
 .obtain⟨v,d,rfl⟩:=Do.1 c;cases ha
 .obtain⟨e,j,rfl⟩:=Do.1 c;obtain⟨f,g⟩:=A6r j;rcases By.1 ha with rfl|ha
  .have:=d _ f;simp only;omega
  obtain⟨b,i,rfl⟩:=Do.1 ha;have:=d _ (g b i);simp only;omega
 obtain⟨q,k,rfl⟩:=Do.1 c;obtain⟨f,g⟩:=A6s k;have v1:=d _ f;have l:=d _ g;unfold ckF at ha;simp only[By,ABo,ACG]at ha;rcases ha with rfl|rfl<;>simp only<;>omega
theorem A5w {b:Nat} {x:Int} (h:x∈Gy b k):(b:Int)<=x/\x<((b+k:Nat):Int):=by
 obtain⟨i,hi,rfl⟩:=Do.1 h;have:=tO.1 hi;omega
theorem Nm {t:ByteArray} (e:AK s t=false) (h1:0<=BO h s):BO h s≠BO h t:=λq=>by grind [Qc,BO,BP,Bv]
structure r8 (m:CJ):Prop where
 loose:FJ m=0
 chk:GM m=0
 rels:m.2.2.2.1.length<=4
 cons:m.2.2.2.2.length<=4
 vars:m.2.2.1.length<=256
 args:∀e∈m.2.2.2.1,e.2.2.length<=10
theorem r8.prd (k:r8 m):∀e∈m.2.2.2.1,Pm e=0:=by
 have l:=k.loose;unfold FJ at l;split at l
 .cases l
 split at l
 .cases l
 split at l
 .rename_i q;exact absurd l q
 rename_i q;intro e b;obtain⟨j,c,rfl⟩:=wL.1 b;have h1:=D5 (λi r a=>by unfold XE at a;split at a<;>cases a;assumption) _ 0 (DO q) j (GO _) O1;grind [XE]
theorem r8.rng (k:r8 m):nI m:=by
 have l:=k.loose;unfold FJ at l;split at l
 .cases l
 split at l
 .cases l
 split at l
 .rename_i q;exact absurd l q
 split at l
 .cases l
 rename_i q;exact pG (DO q)
theorem r8.srt (k:r8 m):∀v∈m.2.2.1,VN v=true:=by
 have l:=k.loose;unfold FJ at l;split at l
 .cases l
 split at l
 .cases l
 rename_i q;intro v b;obtain⟨j,c,rfl⟩:=wL.1 b;have h1:=D5 (λi r a=>by unfold eL at a;split at a<;>cases a;decide) _ 0 (DO q) j (GO _) O1;grind [eL]
theorem wI {e:F2} (h:Pm e=0):BG e.1 false=true/\(∀a∈e.2.2,BG a.1 true=true/\AK a.1 ⟨#[76,65,66,69,76]⟩=false)/\e.2.2.Pairwise λa b=>CF a.1 b.1=true:=by
 unfold Pm at h;split at h
 .rename_i q;have key:∀j,(c:j<e.2.2.length)->k9 e.2.2 j=none:=λj c=>D5 (λi r d=>by unfold k9 at d;split at d<;>(try split at d)<;>cases d<;>decide) _ 0 h j (GO _) O1;have f:∀j,(c:j<e.2.2.length)->BG (e.2.2[j]).1 true=true/\AK (e.2.2[j]).1 ⟨#[76,65,66,69,76]⟩=false/\(0<j->CF (e.2.2[j-1]).1 (e.2.2[j]).1=true):=by grind [k9,BG,AK,iT]
  refine⟨q,λa ha=>?_,?_⟩
  .obtain⟨j,c,rfl⟩:=wL.1 ha;grind
  rw[iN];intro i j hi c l;have step:∀k,(hk:i+k+1<e.2.2.length)->CF (e.2.2[i]).1 (e.2.2[i+k+1]).1=true:=by
   intro k;induction k with
   | zero=>exact λhk=>(f (i+1) hk).2.2 O1
   | succ k g =>
    intro hk;exact Md (g O1) ((f (i+k+2) hk).2.2 O1)
  have:=step (j-i-1) O1;simpa[show i+(j-i-1)+1=j by omega] using this
 cases h
theorem Y4 {h:AE}:∀ {l:List F2},IZ h l=0->∀e∈l,0<=Aw h e.1/\Ai h (Aw h ⟨#[114,101,108]⟩) (Aw h e.1)=true/\∀a∈e.2.2,0<=BO h a.1
 | [],_,e,c=>by cases c
 | x :: l,b,e,c=>by
  unfold IZ at b;split at b
  .cases b
  rename_i h1;split at b
  .cases b
  rename_i f;split at b
  .cases b
  rename_i i;rcases By.1 c with rfl|c
  .refine⟨O1,by simpa using f,?_⟩;have key:∀l:List RF,Wo h l=false->∀a∈l,0<=BO h a.1:=by
    intro l;induction l with
    | nil=>exact λ_ a ha=>by cases ha
    | cons y l g =>
     intro d a ha;unfold Wo at d;split at d
     .cases d
     rcases By.1 ha with rfl|ha
     .omega
     exact g d a ha
   grind
  exact Y4 b e c
structure NOk (h:AE) (n:Nat) (x:AD):Prop where
 ty:0<=x.1/\x.1<(h.1.length:Int)
 nd:YP x.2
 len:x.2.length<=12
 arc:∀a∈x.2,(0<=a.1/\a.1<(h.2.length:Int))/\0<=a.2/\a.2<(n:Int)
theorem nd2 {a b:Int×Int} (e:a.1≠b.1):YP [a,b]:=by
 unfold YP;simp[e]
theorem Fe.tyr (p:Fe h) (s:ByteArray) (q:(A6o.any λx=>AK x s)=true):0<=Aw h s/\Aw h s<(h.1.length:Int):=⟨p.ty s q,(DL h s).2⟩
theorem Fe.ftr (p:Fe h) (s:ByteArray) (q:(A6p.any λx=>AK x s)=true):0<=BO h s/\BO h s<(h.2.length:Int):=⟨p.ft s q,(GY h s).2⟩
theorem A2v {h:AE} (p:Fe h) {n:Nat}:∀(l:List Int) (b:Nat),(∀x∈l,0<=x/\x<(n:Int))->b+l.length<n->∀x∈wR h b l,NOk h n x
 | [],b,_,_,x,c=>by
  rw[wR,iS]at c;subst c;exact⟨p.tyr _ a3,List.Pairwise.nil,sc,λa ha=>by cases ha⟩
 | y :: l,b,d,e,x,c=>by
  rw[wR,By]at c;simp only[Is]at e;rcases c with rfl|c
  .refine⟨p.tyr _ a3,nd2 (Nm a3 (p.ft _ a3)),sc,λa ha=>?_⟩;simp only[By,ABo,ACG]at ha;rcases ha with rfl|rfl
   .exact⟨p.ftr _ a3,d y f7⟩
   exact⟨p.ftr _ a3,a2,a2⟩
  exact A2v p l (b+1) (λz f=>d z (IF _ f)) O1 x c
theorem A2w (p:Fe h) {n b:Nat} {l:List Int} (d:∀x∈l,0<=x/\x<(n:Int)) (e:b+1+l.length<n):∀x∈Wr h b l,NOk h n x:=by
 intro x c;rw[Wr,By]at c;rcases c with rfl|c
 .refine⟨p.tyr _ a3,nd2 (Nm a3 (p.ft _ a3)),sc,λa ha=>?_⟩;simp only[By,ABo,ACG]at ha;rcases ha with rfl|rfl
  .exact⟨p.ftr _ a3,a2,a2⟩
  exact⟨p.ftr _ a3,a2,a2⟩
 exact A2v p l (b+1) d O1 x c
theorem A5x (p:Fe h) (v:ByteArray):0<=Y0 h v/\Y0 h v<(h.1.length:Int):=by
 unfold Y0;split
 .exact p.tyr _ a3
 split
 .exact p.tyr _ a3
 split
 .exact p.tyr _ a3
 exact p.tyr _ a3
theorem A6u {b n:Nat} (hn:b+k<=n):∀x∈Gy b k,0<=x/\x<(n:Int):=λx a=>by
 have:=A5w a;omega
theorem i5 (p:Fe h) (k:r8 m) (G:IZ h m.2.2.2.1=0):∀x∈D9 h m,NOk h (D9 h m).length x:=by
 have o:=k.rng;have O:pN m=2+m.2.2.1.length+m.2.2.2.1.length+m.2.2.2.2.length:=rfl;have F:qN m=pN m+m.2.2.2.1.length+2:=rfl;have I:(wG m).length=m.2.2.2.1.length:=Ha _ _;have H:(wH m).length=m.2.2.2.2.length:=Ha _ _;rw[Ws];intro x d;unfold D9 at d;rw[IN,IN]at d;rcases d with (d|d)|d
 .unfold A2u at d;rw[By,By]at d;rcases d with rfl|rfl|d
  .refine⟨p.tyr _ a3,List.pairwise_singleton _ _,sc,λa ha=>?_⟩;rw[iS]at ha;subst ha;exact⟨p.ftr _ a3,a2,a2⟩
  .obtain⟨L,M⟩:=A6t m;have v1:=o _ L;have Q:=o _ M;refine⟨p.tyr _ a3,?_,sc,λa ha=>?_⟩
   .have g:=p.ft ⟨#[84,79,80]⟩ a3;have u:=p.ft ⟨#[73,78,68,69,88]⟩ a3;have D:=p.ft ⟨#[82,69,76,83]⟩ a3;have w:=Nm (h:=h) (s:=⟨#[84,79,80]⟩) (t:=⟨#[73,78,68,69,88]⟩) a3 g;have y:=Nm (h:=h) (s:=⟨#[84,79,80]⟩) (t:=⟨#[82,69,76,83]⟩) a3 g;have z:=Nm (h:=h) (s:=⟨#[84,79,80]⟩) (t:=⟨#[67,79,78,83]⟩) a3 g;have A:=Nm (h:=h) (s:=⟨#[73,78,68,69,88]⟩) (t:=⟨#[82,69,76,83]⟩) a3 u;have B:=Nm (h:=h) (s:=⟨#[73,78,68,69,88]⟩) (t:=⟨#[67,79,78,83]⟩) a3 u;have C:=Nm (h:=h) (s:=⟨#[82,69,76,83]⟩) (t:=⟨#[67,79,78,83]⟩) a3 D;unfold YP;simp[w,y,z,A,B,C]
   simp only[By,ABo,ACG]at ha;rcases ha with rfl|rfl|rfl|rfl
   .exact⟨p.ftr _ a3,a2,a2⟩
   .exact⟨p.ftr _ a3,a2,a2⟩
   .exact⟨p.ftr _ a3,a2,a2⟩
   exact⟨p.ftr _ a3,a2,a2⟩
  have f:=A5v (h:=h) o x d;unfold bK at d;rw[IN,IN]at d;rcases d with (d|d)|d
  .obtain⟨v,-,rfl⟩:=Do.1 d;exact⟨A5x p v,List.Pairwise.nil,by simp[vkF],λa ha=>by cases ha⟩
  .obtain⟨e,n,rfl⟩:=Do.1 d;obtain⟨N,-,r⟩:=Y4 G e n;obtain⟨-,J,K⟩:=wI (k.prd e n);have P:=k.args e n;refine⟨⟨N,(DL h _).2⟩,?_,by simp[rkF];omega,λa ha=>⟨?_,by have:=f a ha;omega,by have:=f a ha;omega⟩⟩
   .show YP ((BO h ⟨#[76,65,66,69,76]⟩,2+e.2.1) :: e.2.2.map λa=>(BO h a.1,2+a.2));refine AAv.2 ⟨λb i=>?_,?_⟩
    .obtain⟨c,j,rfl⟩:=Do.1 i;exact Nm (Iv (J c j).2) (p.ft _ a3)
    rw[AAI];refine ACi ?_ K;intro a b ha i E;have:=AA0 p.srt E (r a ha) (r b i);simp only;omega
   rcases By.1 ha with rfl|ha
   .exact p.ftr _ a3
   obtain⟨c,j,rfl⟩:=Do.1 ha;exact⟨r c j,(GY h _).2⟩
  obtain⟨q,F,rfl⟩:=Do.1 d;refine⟨p.tyr _ a3,nd2 (Nm a3 (p.ft _ a3)),by simp[ckF],λa ha=>⟨?_,by have:=f a ha;omega,by have:=f a ha;omega⟩⟩;unfold ckF at ha;simp only[By,ABo,ACG]at ha;rcases ha with rfl|rfl
  .exact p.ftr _ a3
  exact p.ftr _ a3
 .exact A2w p (l:=wG m) (A6u O1) (by rw[I];omega) x d
 exact A2w p (l:=wH m) (A6u O1) (by rw[H];omega) x d
theorem A2x (g:f.length<=4096) (h0:0<f.length) (hn:∀x∈f,NOk h f.length x):AX f/\wP f/\Sb f/\B3 f=0/\PF h (DK f):=by
 have d:AX f:=⟨O1,λx b=>⟨by have:=(hn x b).len;omega,λa ha=>((hn x b).arc a ha).2⟩⟩;have hs:Sb f:=λx b=>⟨by have:=(hn x b).len;omega,.inl (hn x b).len⟩;have e:wP f:=λx b=>⟨(hn x b).nd,hs x b⟩;refine⟨d,e,hs,?_,M3 d,by rw[Ee];exact h0,λx b=>?_,λx b=>?_,λx b a ha=>?_⟩
 .unfold B3;rw[An O1,An O1];refine g9 λx b=>⟨(hn x b).ty.1,A1M ?_ λa ha=>⟨((hn x b).arc a ha).1.1,((hn x b).arc a ha).2⟩⟩;rw[List.Nodup,AAI];exact(hn x b).nd
 .obtain⟨y,c,rfl⟩:=Do.1 b;exact(hn y c).ty
 .obtain⟨y,c,rfl⟩:=Do.1 b;exact IE (hn y c).nd
 obtain⟨y,c,rfl⟩:=Do.1 b;have:=(Er y.2).mem_iff.1 ha;exact((hn y c).arc a this).1
theorem nJ (k:r8 m) (h:AE):(D9 h m).length<=1000:=by
 have a:pN m=2+m.2.2.1.length+m.2.2.2.1.length+m.2.2.2.2.length:=rfl;have b:qN m=pN m+m.2.2.2.1.length+2:=rfl;have:=k.rels;have:=k.cons;have:=k.vars;rw[Ws];omega
theorem A2y (h:AE) (m:CJ):0<(D9 h m).length:=by
 rw[Ws];omega
theorem A2z (p:Fe h) (k:r8 m) (a:IZ h m.2.2.2.1=0):A4 (D9 h m)=(AN (DK (D9 h m)) 0,0)/\VF h (AN (DK (D9 h m)) 0)/\Sb (D9 h m):=by
 have h0:=A2y h m;obtain⟨h1,b,c,d,e⟩:=A2x (by have:=nJ k h;omega) h0 (i5 p k a);grind [A86,Ee,A4,Iw]
section
attribute [local go_sem] IT bG QA WC K8 KY My Jk Io NG
def mkF (h:AE) (m:CJ):List AD×Int:=if IZ h m.2.2.2.1≠0 then ([],IZ h m.2.2.2.1) else if (EJ h (A4 (D9 h m)).1).2=true then ((EJ h (A4 (D9 h m)).1).1,0) else ([],12)
def A8j:Ab:={ ins:=[GH,oZ],pre:=λ(h,m,_)=>Fe h/\r8 m,out:=λ(h,m,_)=>[.p Ff (mkF h m).1,.p C3 (mkF h m).2] }
def Dk (h:AE) (a:List AD):List (Nat×Obj) :=
 [(37,.box 98 true [.p GH h,.ag [.sr 200 TX 0 a.length]]),(200,.nest 57 59 T3 C4 a none)]
attribute [local go_sem] Dk
theorem A2A (h:AE) {j:Nat} (a:j<4) {v:ByteArray} (q:AK (JP.getD j (ByteArray.empty,ByteArray.empty)).1 v=true):Aw h (JP.getD j (ByteArray.empty,ByteArray.empty)).2=Y0 h v:=by
 have e:=IQ q;rw[<-e];unfold Y0;match j,a with
 | 0,_=>exact(At a3).symm
 | 1,_=>rw[An a3,At a3];rfl
 | 2,_=>rw[An a3,An a3,At a3];rfl
 | 3,_=>rw[An a3,An a3,An a3];rfl
theorem A5y:∀i:Nat,i<4->∀j:Nat,j<4->AK (JP.getD i (ByteArray.empty,ByteArray.empty)).1 (JP.getD j (ByteArray.empty,ByteArray.empty)).1=true->i=j:=by decide +kernel
theorem A2B {j:Nat} (hi:i<4) (a:j<4) {v:ByteArray} (b:AK (JP.getD i (ByteArray.empty,ByteArray.empty)).1 v=true) (c:AK (JP.getD j (ByteArray.empty,ByteArray.empty)).1 v=true):i=j :=
 A5y i hi j a (BP b (Bv c))
theorem A2C {v:ByteArray} (q:VN v=true):∃j,j<4/\AK (JP.getD j (ByteArray.empty,ByteArray.empty)).1 v=true:=by
 unfold VN at q;simp only[AA4]at q;rcases q with ((q|q)|q)|q
 .exact⟨0,O1,Bv q⟩
 .exact⟨1,O1,Bv q⟩
 .exact⟨2,O1,Bv q⟩
 exact⟨3,O1,Bv q⟩
def nK (h:AE) (v:ByteArray) (A:List AD) (L:List Int) (x:Nat×List AD×List Int):Prop :=
 (∀j,j<x.1->¬AK (JP.getD j (ByteArray.empty,ByteArray.empty)).1 v=true)/\x.2=(A,L)\/(∃j,j<x.1/\j<4/\AK (JP.getD j (ByteArray.empty,ByteArray.empty)).1 v=true)/\x.2=(A++[vkF h v],L++[(A.length:Int)])
theorem A8k {v:ByteArray} {A:List AD} {j:Nat} (c:nK h v A L (j,Z,M)) (a:j<4) (q:AK (JP.getD j (ByteArray.empty,ByteArray.empty)).1 v=true) :
  nK h v A L (j+1,JQ h Z (JP.getD j (ByteArray.empty,ByteArray.empty)).2,M++[(Z.length:Int)]):=by
 rcases c with ⟨h1,b⟩|⟨⟨i,d,e,f⟩,-⟩
 .cases b;refine .inr ⟨⟨j,ABn j,a,q⟩,?_⟩;unfold JQ vkF;rw[A2A h a q]
 have:=A2B e a f q;simp only at d;omega
theorem A8l {v:ByteArray} {A:List AD} {j:Nat} (b:nK h v A L (j,Z,M)) (q:AK (JP.getD j (ByteArray.empty,ByteArray.empty)).1 v=false):nK h v A L (j+1,Z,M):=by
 rcases b with ⟨h1,a⟩|⟨⟨i,c,d,f⟩,a⟩
 .refine .inl ⟨λi hi=>?_,a⟩;by_cases e:i=j
  .rw[e,q];simp
  exact h1 i (by simp only at hi ⊢;omega)
 exact .inr ⟨⟨i,by simp only at c ⊢;omega,d,f⟩,a⟩
theorem A8m {v:ByteArray} {A:List AD} {j:Nat} (b:nK h v A L (j,Z,M)) (d:4<=j) (q:VN v=true):Z=A++[vkF h v]/\M=L++[(A.length:Int)]:=by
 rcases b with ⟨h1,a⟩|⟨-,a⟩
 .obtain⟨i,e,c⟩:=A2C q;exact absurd c (h1 i a2)
 cases a;exact⟨rfl,rfl⟩
theorem A2D {v:ByteArray} {A:List AD} {j:Nat} (b:nK h v A L (j,Z,M)):Z.length<=A.length+1/\M.length<=L.length+1:=by
 rcases b with ⟨h1,a⟩|⟨-,a⟩<;>cases a<;>simp
theorem Wu (b k:Nat):Gy b (k+1)=Gy b k++[((b+k:Nat):Int)]:=by simp[Gy,AAE]
theorem A5z {b:Nat} {x:Int} (a:0<=x) (c:x<(k:Int)):(Gy b k).getD x.toNat 0=(b:Int)+x:=by
 have:x.toNat<k:=by omega
 simp[Gy,AS,this];omega
def i6 (h:AE):List AD:=[(Aw h ⟨#[115,105,103,110]⟩,[(BO h ⟨#[83,69,77]⟩,1)]),(Aw h ⟨#[115,101,109]⟩,[])]
def vsN (h:AE) (a:List ByteArray) (i:Nat):List AD:=i6 h++(a.take i).map (vkF h)
def rsN (h:AE) (b:List ByteArray) (a:List F2) (i:Nat):List AD:=i6 h++b.map (vkF h)++(a.take i).map (rkF h)
def nL (h:AE) (A:List AD) (e:F2) (q:Nat):List AD:=A++[(Aw h e.1,(BO h ⟨#[76,65,66,69,76]⟩,2+e.2.1) :: (e.2.2.take q).map λa=>(BO h a.1,2+a.2))]
theorem A5A (h:AE) (A:List AD) (e:F2) (q:Nat):(nL h A e q).length=A.length+1:=by simp[nL]
theorem Qh (A:List AD) (x:AD):(A++[x]).getD ((A.length:Int)).toNat (0,[])=x:=by simp[AS]
theorem A5B (h:AE) (A:List AD) (e:F2) (q:Nat) (a:e.2.2.length<=10):((nL h A e q).getD ((A.length:Int)).toNat (0,[])).2.length<=100000:=by
 unfold nL;rw[Qh];simp only[Is,On,Of];omega
theorem AA2 (h:AE) (A:List AD) (e:F2):D8 (JQ h A e.1) (A.length:Int) (BO h ⟨#[76,65,66,69,76]⟩) (2+e.2.1)=nL h A e 0:=by
 unfold JQ nL;exact HZ A [] _ _ _ _ _ rfl
theorem AA3 (h:AE) (A:List AD) (e:F2) {q:Nat} (b:q<e.2.2.length):D8 (nL h A e q) (A.length:Int) (BO h (e.2.2.getD q (ByteArray.empty,0)).1) (2+(e.2.2.getD q (ByteArray.empty,0)).2)=nL h A e (q+1):=by
 unfold nL;rw[Pl (λa:RF=>(BO h a.1,2+a.2)) e.2.2 (ByteArray.empty,0) b];exact HZ A [] _ _ _ _ _ rfl
theorem A5C (h:AE) (A:List AD) (e:F2):nL h A e e.2.2.length=A++[rkF h e]:=by
 unfold nL rkF;rw[BY (OS _)]
theorem AAP (h:AE) (A:List AD) (q:MD):D8 (JQ h A ⟨#[113,101,113]⟩) (A.length:Int) (BO h ⟨#[72,73,71,72]⟩) (2+q.1)=A++[(Aw h ⟨#[113,101,113]⟩,[(BO h ⟨#[72,73,71,72]⟩,2+q.1)])]:=by
 unfold JQ;exact HZ A [] _ _ _ _ _ rfl
theorem AAQ (h:AE) (A:List AD) (q:MD):D8 (A++[(Aw h ⟨#[113,101,113]⟩,[(BO h ⟨#[72,73,71,72]⟩,2+q.1)])]) (A.length:Int) (BO h ⟨#[76,79,87]⟩) (2+q.2)=A++[ckF h q]:=by
 unfold ckF;exact HZ A [] _ _ _ _ _ rfl
theorem A5D (h:AE) (a:List ByteArray) (b:List F2):vsN h a a.length=rsN h a b 0:=by simp[vsN,rsN]
def wS (h:AE) (b:List ByteArray) (a:List F2) (cs:List MD) (i:Nat):List AD:=i6 h++b.map (vkF h)++a.map (rkF h)++(cs.take i).map (ckF h)
theorem A5E (h:AE) (a:List ByteArray) (hi:i<=a.length):(vsN h a i).length=2+i:=by simp[vsN,i6];omega
theorem A2G (h:AE) (a:List ByteArray) (hi:i<a.length):vsN h a (i+1)=vsN h a i++[vkF h (a.getD i ByteArray.empty)]:=by
 unfold vsN;rw[Pl (vkF h) a ByteArray.empty hi,AAg]
theorem A5F (h:AE) (b:List ByteArray) (a:List F2) (hi:i<=a.length):(rsN h b a i).length=2+b.length+i:=by simp[rsN,i6];omega
theorem A2H (h:AE) (b:List ByteArray) (a:List F2) (hi:i<a.length):rsN h b a (i+1)=rsN h b a i++[rkF h (a.getD i (ByteArray.empty,0,[]))]:=by
 unfold rsN;rw[Pl (rkF h) a (ByteArray.empty,0,[]) hi];simp only[AAg]
theorem A5G (h:AE) (b:List ByteArray) (a:List F2) (cs:List MD):rsN h b a a.length=wS h b a cs 0:=by simp[rsN,wS]
def W2 (h:AE) (m:CJ) (L:List (Int×Int)):List AD:=(Aw h ⟨#[115,105,103,110]⟩,[(BO h ⟨#[83,69,77]⟩,1)]) :: (Aw h ⟨#[115,101,109]⟩,L) :: bK h m
theorem A5H (h:AE) (tp ix:Int) (b:List ByteArray) (a:List F2) (cs:List MD):wS h b a cs cs.length=W2 h (tp,ix,b,a,cs) []:=by simp[wS,i6,W2,bK]
theorem A5I (h:AE) (m:CJ) (L:List (Int×Int)) (D:List AD) (e x:Int):D8 (W2 h m L++D) 1 e x=W2 h m (L++[(e,x)])++D:=HZ [(Aw h ⟨#[115,105,103,110]⟩,[(BO h ⟨#[83,69,77]⟩,1)])] (bK h m++D) (Aw h ⟨#[115,101,109]⟩) L 1 e x rfl
theorem A8n (h:AE) (m:CJ) (L:List (Int×Int)):(W2 h m L).length=pN m:=by
 have:=Tv h m;have:2<=pN m:=by unfold pN;omega
 simp[W2,Tv];omega
theorem bL (h:AE) (m:CJ) (L:List (Int×Int)) (D:List AD) (a:L.length<=10):((W2 h m L++D).getD (1:Int).toNat (0,[])).2.length<=100000:=by
 show L.length<=100000;omega
theorem AAR (p:Fe h) (k:r8 m) (c:IZ h m.2.2.2.1=0) (L:List (Int×Int)) (D:List AD) (d:L.length<=10) (b:Jz 12 D):Jz 12 (W2 h m L++D):=by
 intro x a;unfold W2 at a;rw[To,To,By,By,IN]at a;rcases a with rfl|rfl|a|a
 .simp
 .simp only;omega
 .refine(i5 p k c x ?_).len;unfold D9 A2u;exact AAb _ (AAb _ (IF _ (IF _ a)))
 exact b x a
theorem AAS (h:AE) (n:Nat) (l:List Int):Jz 12 (Wr h n l):=by
 have key:∀(l:List Int) (b:Nat),Jz 12 (wR h b l):=by
  intro l;induction l with
  | nil =>
   intro b x a;rw[wR,iS]at a;subst a;simp
  | cons y l c =>
   intro b x a;rw[wR,By]at a;rcases a with rfl|a
   .simp
   exact c _ x a
 intro x a;unfold Wr at a;rcases By.1 a with rfl|a
 .simp
 exact key _ _ x a
theorem A5J (h:AE) (m:CJ):W2 h m [(BO h ⟨#[84,79,80]⟩,2+m.1),(BO h ⟨#[73,78,68,69,88]⟩,2+m.2.1),(BO h ⟨#[82,69,76,83]⟩,(pN m:Int)),(BO h ⟨#[67,79,78,83]⟩,(qN m:Int))]++(Wr h (pN m) (wG m)++Wr h (qN m) (wH m))=D9 h m:=by
 unfold D9;rw[AAg];rfl
theorem A2I (p:Fe h) (k:r8 m) (d:IZ h m.2.2.2.1=0):A1g h (A4 (D9 h m)).1/\(A4 (D9 h m)).2=0/\Sb (D9 h m):=by
 obtain⟨h1,a,b⟩:=A2z p k d;have c:=A84 p.h14 a;generalize AN (DK (D9 h m)) 0=C at *;rw[h1];exact⟨c,rfl,b⟩
theorem r9 (h:AE) (b:List ByteArray) (a:List F2) (cs:List MD) (hi:i<=cs.length):(wS h b a cs i).length=2+b.length+a.length+i:=by simp[wS,i6];omega
theorem A2J (h:AE) (b:List ByteArray) (a:List F2) (cs:List MD) (hi:i<cs.length):wS h b a cs (i+1)=wS h b a cs i++[ckF h (cs.getD i (0,0))]:=by
 unfold wS;rw[Pl (ckF h) cs (0,0) hi];simp only[AAg]
theorem A2K:Af Tryz.prog 19 A8j:=by
 refine fKP [0,1,2,3,4,5,6,7,8,9,10,11,12,14,16,18,19,21,23,24,25,26,27,32,47,48,49,50,53,54,55,56,62,73,74,75,76,92,93,94,95,115,116,117,118,181,191] [36,68,111,141] [] Tryz.func19 Tryz.ntmps19 (AG wD (AG u7 (AG A1h AH))) ?_;rintro w0 O0 ⟨h,⟨tp,ix,b,f,cs⟩,u⟩ c-⟨I,r⟩;have I:Fe h:=I;have r:r8 (tp,ix,b,f,cs):=r;have bf:=I.so;have bc:NH (tp,ix,b,f,cs):=⟨trivial,by have:=r.rels;omega,λe ad=>by have:=r.args e ad;omega,by have:=r.cons;omega⟩;have ca:b.length<=256:=r.vars;have bz:f.length<=4:=r.rels;have br:cs.length<=4:=r.cons;have av:∀e∈f,e.2.2.length<=10:=r.args;have bh:∀v∈b,VN v=true:=r.srt;have E:nI (tp,ix,b,f,cs):=r.rng;have ao:mkF h (tp,ix,b,f,cs)=if IZ h f≠0 then ([],IZ h f) else if (EJ h (A4 (D9 h (tp,ix,b,f,cs))).1).2=true then ((EJ h (A4 (D9 h (tp,ix,b,f,cs))).1).1,0) else ([],12):=rfl
 have ad:(h.1,h.2)=h:=rfl;simp only[A8j,AM];repeat'(first|exact a6|apply eS rfl|apply AB|refine rP c ?_ ?_|fail)
 all_goals try simp only[ad]at *
 .exact⟨bf,bc⟩
 refine rC ?_ ?_<;>intro g
 .have g:IZ h f≠0:=by simpa using g
  rw[ao,At g];repeat'(first|exact a6|apply eS rfl|apply AB|refine rX c ?_ ?_|refine rC ?_ ?_<;>intro g<;>try(cases g;done))
  exact fI c [.cell 4 34,.tmp 5] (by first|exact eR|refine OC ?_;rfl)
 have ak:IZ h f=0:=by simpa using g
 clear g;rw[ao,An (by rw[ak];simp)];repeat'(first|exact a6|apply eS rfl|apply AB|refine rP c ?_ ?_|fail)
 refine cP 1 c ?_ ?_
 .trivial
 refine Wl GH h ?_;refine rL c ?_ ?_
 .trivial
 repeat'(first|exact a6|apply eS rfl|apply AB|refine rP c ?_ ?_|fail)
 refine cP 1 c ?_ ?_
 .trivial
 refine rM c (Gx h [] sc ⟨#[115,105,103,110]⟩) [(1,.nm 37),(2,.nil)] [] ?_ ?_ ?_
 .first|exact eN|refine eM ?_
 .first|exact eN|refine eM ?_
 rintro _ _ ⟨rfl,rfl⟩;refine⟨[(37,.nm 1),(200,.nm 2)],.p T3 0,Dk h ([(Aw h ⟨#[115,105,103,110]⟩,[])]),rfl,rfl,?_,?_,rfl,rfl,?_⟩
 .simp only[IT,Dk,JQ,jA];first|exact eN|refine eM ?_
 .first|exact eN|refine eM ?_
 simp only[Dk];refine rN 1 c ?_ ?_
 .trivial
 refine rM c (Gx h [(Aw h ⟨#[115,105,103,110]⟩,[])] sc ⟨#[115,101,109]⟩) [(1,.nm 37),(2,.nm 200)] [200] ?_ ?_ ?_
 .first|exact eN|refine eM ?_
 .first|exact eN|refine eM ?_
 rintro _ _ ⟨rfl,rfl⟩;refine⟨[(37,.nm 1),(200,.nm 2)],.p T3 1,Dk h ([(Aw h ⟨#[115,105,103,110]⟩,[]),(Aw h ⟨#[115,101,109]⟩,[])]),rfl,rfl,?_,?_,rfl,rfl,?_⟩
 .simp only[IT,Dk,JQ,AC7];first|exact eN|refine eM ?_
 .first|exact eN|refine eM ?_
  all_goals rfl
 simp only[Dk];refine rL c ?_ ?_
 .trivial
 repeat'(first|exact a6|apply eS rfl|apply AB|refine rP c ?_ ?_|fail)
 refine cP 3 c ?_ ?_
 .trivial
 refine rM c (Eu h [(Aw h ⟨#[115,105,103,110]⟩,[]),(Aw h ⟨#[115,101,109]⟩,[])] sc (n:=0) O1 sc sc ⟨#[83,69,77]⟩ 1) [(1,.nm 37),(2,.nm 200)] [200] ?_ ?_ ?_
 .first|exact eN|refine eM ?_
 .first|exact eN|refine eM ?_
 rintro _ _ ⟨rfl,rfl⟩;refine⟨[(37,.nm 1),(200,.nm 2)],.raw (.tuple #[]),Dk h (vsN h b 0),rfl,rfl,?_,?_,rfl,rfl,?_⟩
 .simp only[IT,Dk,vsN,i6,ABi,ABC,AAu];first|exact eN|refine eM ?_
  exact⟨rfl,rfl⟩
 .first|exact eN|refine eM ?_
 simp only[Dk];refine rL c ?_ ?_
 .trivial
 repeat'(first|exact a6|apply eS rfl|apply AB|refine rP c ?_ ?_|fail)
 refine AJ (ι:={i:Nat//i<=b.length}) (λi=>⟨[(2,.bp 2 [] 0),(3,.bp 3 [] 0),(4,.bp 4 [] 0),(7,.bp 37 [] 0),(9,.p T3 1),(10,.sr 69 T3 0 (Gy 2 i.1).length),(11,.raw (.slice none 0 0)),(12,.raw (.slice none 0 0)),(47,.p Cj b),(48,.p (.int .i64) (b.length:Int)),(49,.p (.int .i64) (i.1:Int))],Dk h (vsN h b i.1)++[(69,.arr 3 T3 (Gy 2 i.1)),(4,.box 34 true [.raw (.slice none 0 0)]),(3,.box 41 true [.p T3 tp,.p T3 ix,.p Cj b,.p NF f,.p Ot cs]),(2,.box 26 true [.p SM h.1,.p TW h.2])]⟩) (λi=>b.length-i.1) ⟨0,GO _⟩ (AC [(2,.nm 2),(3,.nm 3),(4,.nm 4),(37,.nm 37),(200,.nm 200),(69,.nil)] rfl rfl ?_ ?_) (λi=>?_)
 .simp only[Dk,To,jA];first|exact eN|refine eM ?_
  rfl
 .simp only[Dk,To,jA];first|exact eN|refine eM ?_
  rfl
 obtain⟨i,hi⟩:=i;have y:=A5E h b hi;have ae:=Ha 2 i;have V:=λq=>A2G h b (i:=i) q;have t:=Wu 2 i;simp only[Dk,To,jA];repeat'(first|exact a6|apply eS rfl|apply AB|refine rP c ?_ ?_|fail)
 refine rC ?_ ?_<;>intro g
 .have R:i<b.length:=by exact eV
  have V:=V R;have bi:VN (b.getD i ByteArray.empty)=true:=bh _ (Ac R);generalize al:vsN h b i=A at *;generalize N:Gy 2 i=L at *;repeat'(first|exact a6|apply eS rfl|apply AB|refine rP c ?_ ?_|fail)
  .exact g
  refine cP 0 c ?_ ?_
  .trivial
  refine A9k c ?_;refine rL c ?_ ?_
  .trivial
  repeat'(first|exact a6|apply eS rfl|apply AB|refine rP c ?_ ?_|fail)
  refine AJ (ι:={x:Nat×List AD×List Int//x.1<=4/\nK h (b.getD i ByteArray.empty) A L x}) (λx=>⟨[(2,.bp 2 [] 0),(3,.bp 3 [] 0),(4,.bp 4 [] 0),(7,.bp 37 [] 0),(9,.p T3 1),(10,.sr 69 T3 0 x.1.2.2.length),(11,.raw (.slice none 0 0)),(12,.raw (.slice none 0 0)),(14,.p T9 (b.getD i ByteArray.empty)),(47,.p Cj b),(48,.p (.int .i64) (b.length:Int)),(49,.p (.int .i64) (i:Int)),(53,.p T71 JP),(54,.p (.int .i64) 4),(55,.p (.int .i64) (x.1.1:Int))],Dk h x.1.2.1++[(69,.arr 3 T3 (x.1.2.2)),(4,.box 34 true [.raw (.slice none 0 0)]),(3,.box 41 true [.p T3 tp,.p T3 ix,.p Cj b,.p NF f,.p Ot cs]),(2,.box 26 true [.p SM h.1,.p TW h.2])]⟩) (λx=>4-x.1.1) ⟨(0,A,L),GO _,.inl ⟨λj H=>absurd H (Nat.not_lt_zero j),rfl⟩⟩ (AC [(2,.nm 2),(3,.nm 3),(4,.nm 4),(37,.nm 37),(200,.nm 200),(69,.nm 69)] rfl rfl ?_ ?_) (λx=>?_)
  .simp only[Dk,To,jA];first|exact eN|refine eM ?_
  .simp only[Dk,To,jA];first|exact eN|refine eM ?_
   exact⟨rfl,rfl⟩
  obtain⟨⟨j,Z,M⟩,H,G⟩:=x;simp only at H G;have cc:=A2D G;simp only[Dk,To,jA];repeat'(first|exact a6|apply eS rfl|apply AB|refine rP c ?_ ?_|fail)
  refine rC ?_ ?_<;>intro g
  .have z:j<4:=by omega
   repeat'(first|exact a6|apply eS rfl|apply AB|refine rP c ?_ ?_|fail)
   .exact g
   refine rC ?_ ?_<;>intro g
   .repeat'(first|exact a6|apply eS rfl|apply AB|refine rP c ?_ ?_|fail)
    refine cP 4 c ?_ ?_
    .trivial
    refine rM c (Gx h Z O1 (JP.getD j (ByteArray.empty,ByteArray.empty)).2) [(1,.nm 37),(2,.nm 200)] [200] ?_ ?_ ?_
    .first|exact eN|refine eM ?_
    .first|exact eN|refine eM ?_
    rintro _ _ ⟨rfl,rfl⟩;refine⟨[(37,.nm 1),(200,.nm 2)],.p T3 (Z.length:Int),Dk h (JQ h Z (JP.getD j (ByteArray.empty,ByteArray.empty)).2),rfl,rfl,?_,?_,rfl,rfl,?_⟩
    .simp only[IT,Dk];first|exact eN|refine eM ?_
    .first|exact eN|refine eM ?_
    simp only[Dk];refine rL c ?_ ?_
    .simp only[AP];omega
    repeat'(first|exact a6|apply eS rfl|apply AB|refine rP c ?_ ?_|fail)
    .exact eV
    refine⟨⟨(j+1,JQ h Z (JP.getD j (ByteArray.empty,ByteArray.empty)).2,M++[(Z.length:Int)]),a2,A8k G z g⟩,a2,AC [(2,.nm 2),(3,.nm 3),(4,.nm 4),(37,.nm 37),(200,.nm 200),(69,.nm 69)] rfl rfl ?_ ?_⟩
    .simp only[Dk,To,jA];first|exact eN|refine eM ?_
    simp only[Dk,To,jA];first|exact eN|refine eM ?_
   have g:AK (JP.getD j (ByteArray.empty,ByteArray.empty)).1 (b.getD i ByteArray.empty)=false:=by simpa using g
   repeat'(first|exact a6|apply eS rfl|apply AB|refine rP c ?_ ?_|fail)
   .exact eV
   refine⟨⟨(j+1,Z,M),a2,A8l G g⟩,a2,AC [(2,.nm 2),(3,.nm 3),(4,.nm 4),(37,.nm 37),(200,.nm 200),(69,.nm 69)] rfl rfl ?_ ?_⟩
   .simp only[Dk,To,jA];first|exact eN|refine eM ?_
   simp only[Dk,To,jA];first|exact eN|refine eM ?_
  obtain⟨ap,aq⟩:=A8m G O1 bi;subst ap;subst aq;repeat'(first|exact a6|apply eS rfl|apply AB|refine rP c ?_ ?_|fail)
  .exact eV
  refine⟨⟨i+1,O1⟩,a2,AC [(2,.nm 2),(3,.nm 3),(4,.nm 4),(37,.nm 37),(200,.nm 200),(69,.nm 69)] rfl rfl ?_ ?_⟩
  .simp only[Dk,To,jA,V,t];first|exact eN|refine eM ?_
   rw[y]
  simp only[Dk,To,jA,V,t];first|exact eN|refine eM ?_
 have R:i=b.length:=by omega
 subst R;repeat'(first|exact a6|apply eS rfl|apply AB|refine rP c ?_ ?_|fail)
 refine C9 [69] ?_;have bl:=A5D h b f;have F:=Ha 2 b.length;have C:∀x:Int,0<=x->x<(b.length:Int)->(Gy 2 b.length).getD x.toNat 0=2+x:=λx bo bq=>A5z bo bq;simp only[bl];refine AJ (ι:={k:Nat//k<=f.length}) (λk=>⟨[(2,.bp 2 [] 0),(3,.bp 3 [] 0),(4,.bp 4 [] 0),(7,.bp 37 [] 0),(9,.p T3 1),(10,.p CH (Gy 2 b.length)),(11,.sr 112 T3 0 (Gy (2+b.length) k.1).length),(12,.raw (.slice none 0 0)),(73,.p NF f),(74,.p (.int .i64) (f.length:Int)),(75,.p (.int .i64) (k.1:Int))],Dk h (rsN h b f k.1)++[(112,.arr 3 T3 (Gy (2+b.length) k.1)),(4,.box 34 true [.raw (.slice none 0 0)]),(3,.box 41 true [.p T3 tp,.p T3 ix,.p Cj b,.p NF f,.p Ot cs]),(2,.box 26 true [.p SM h.1,.p TW h.2])]⟩) (λk=>f.length-k.1) ⟨0,GO _⟩ (AC [(2,.nm 2),(3,.nm 3),(4,.nm 4),(37,.nm 37),(200,.nm 200),(112,.nil)] rfl rfl ?_ ?_) (λk=>?_)
 .simp only[Dk,To,jA];first|exact eN|refine eM ?_
  rfl
 .simp only[Dk,To,jA];first|exact eN|refine eM ?_
  rfl
 obtain⟨k,hk⟩:=k;have y:=A5F h b f hk;have ae:=Ha (2+b.length) k;have w:=λq=>A2H h b f (i:=k) q;have t:=Wu (2+b.length) k;simp only[Dk,To,jA];repeat'(first|exact a6|apply eS rfl|apply AB|refine rP c ?_ ?_|fail)
 refine rC ?_ ?_<;>intro g
 .have S:k<f.length:=by exact eV
  have w:=w S;have P:f.getD k (ByteArray.empty,0,[])∈f:=Ac S;have az:=av _ P;obtain⟨ah,ai⟩:=A6r (m:=(tp,ix,b,f,cs)) P;have o:=E _ ah;have s:∀a∈(f.getD k (ByteArray.empty,0,[])).2.2,0<=a.2/\a.2<(b.length:Int):=λa ha=>E _ (ai a ha);simp only at o;generalize al:rsN h b f k=A at *;generalize N:Gy (2+b.length) k=L at *;repeat'(first|exact a6|apply eS rfl|apply AB|refine rP c ?_ ?_|fail)
  .exact g
  generalize au:f.getD k (ByteArray.empty,0,[])=e at *;have B:=C e.2.1 o.1 o.2;have bm:=Ol h A e.1;have h0:=AA2 h A e;rw[<-B]at h0;refine cP 3 c ?_ ?_
  .trivial
  refine rM c (Gx h A O1 e.1) [(1,.nm 37),(2,.nm 200)] [200] ?_ ?_ ?_
  .first|exact eN|refine eM ?_
  .first|exact eN|refine eM ?_
  rintro _ _ ⟨rfl,rfl⟩;refine⟨[(37,.nm 1),(200,.nm 2)],.p T3 (A.length:Int),Dk h (JQ h A e.1),rfl,rfl,?_,?_,rfl,rfl,?_⟩
  .simp only[IT,Dk];first|exact eN|refine eM ?_
  .first|exact eN|refine eM ?_
  simp only[Dk];refine rL c ?_ ?_
  .trivial
  repeat'(first|exact a6|apply eS rfl|apply AB|refine rP c ?_ ?_|fail)
  refine cP 7 c ?_ ?_
  .rw[F];exact o
  refine rM c (Eu h (JQ h A e.1) O1 (n:=(A.length:Int)) O1 O1 (by unfold JQ;rw[Qh];simp) ⟨#[76,65,66,69,76]⟩ ((Gy 2 b.length).getD e.2.1.toNat 0)) [(1,.nm 37),(2,.nm 200)] [200] ?_ ?_ ?_
  .first|exact eN|refine eM ?_
  .first|exact eN|refine eM ?_
  rintro _ _ ⟨rfl,rfl⟩;refine⟨[(37,.nm 1),(200,.nm 2)],.raw (.tuple #[]),Dk h (nL h A e 0),rfl,rfl,?_,?_,rfl,rfl,?_⟩
  .simp only[IT,Dk,h0];first|exact eN|refine eM ?_
  .first|exact eN|refine eM ?_
  simp only[Dk];have am:=A5A h A e;have aa:=λq=>A5B h A e q az;refine rL c ?_ ?_
  .trivial
  repeat'(first|exact a6|apply eS rfl|apply AB|refine rP c ?_ ?_|fail)
  refine AJ (ι:={q:Nat//q<=e.2.2.length}) (λq=>⟨[(2,.bp 2 [] 0),(3,.bp 3 [] 0),(4,.bp 4 [] 0),(7,.bp 37 [] 0),(9,.p T3 1),(10,.p CH (Gy 2 b.length)),(11,.sr 112 T3 0 L.length),(12,.raw (.slice none 0 0)),(18,.bp 18 [] 0),(19,.p T3 (A.length:Int)),(73,.p NF f),(74,.p (.int .i64) (f.length:Int)),(75,.p (.int .i64) (k:Int)),(92,.p T52 e.2.2),(93,.p (.int .i64) (e.2.2.length:Int)),(94,.p (.int .i64) (q.1:Int))],Dk h (nL h A e q.1)++[(112,.arr 3 T3 (L)),(18,.box 54 true [.p T9 e.1,.p T3 e.2.1,.p T52 e.2.2]),(4,.box 34 true [.raw (.slice none 0 0)]),(3,.box 41 true [.p T3 tp,.p T3 ix,.p Cj b,.p NF f,.p Ot cs]),(2,.box 26 true [.p SM h.1,.p TW h.2])]⟩) (λq=>e.2.2.length-q.1) ⟨0,GO _⟩ (AC [(2,.nm 2),(3,.nm 3),(4,.nm 4),(37,.nm 37),(200,.nm 200),(112,.nm 112),(18,.nm 18)] rfl rfl ?_ ?_) (λq=>?_)
  .simp only[Dk,To,jA];first|exact eN|refine eM ?_
  .simp only[Dk,To,jA];first|exact eN|refine eM ?_
  obtain⟨q,bw⟩:=q;have aa:=aa q;have am:=am q;simp only[Dk,To,jA];repeat'(first|exact a6|apply eS rfl|apply AB|refine rP c ?_ ?_|fail)
  refine rC ?_ ?_<;>intro g
  .have U:q<e.2.2.length:=by exact eV
   have hs:=AA3 h A e U;have ag:=s _ (Ac (d:=(ByteArray.empty,(0:Int))) U);have ba:=C _ ag.1 ag.2;rw[<-ba]at hs;repeat'(first|exact a6|apply eS rfl|apply AB|refine rP c ?_ ?_|fail)
   .exact g
   refine cD 9 c ?_ ?_
   .rw[F];exact ag
   refine rM c (Eu h (nL h A e q) O1 (n:=(A.length:Int)) O1 O1 aa (e.2.2.getD q (ByteArray.empty,0)).1 ((Gy 2 b.length).getD (e.2.2.getD q (ByteArray.empty,0)).2.toNat 0)) [(1,.nm 37),(2,.nm 200)] [200] ?_ ?_ ?_
   .first|exact eN|refine eM ?_
   .first|exact eN|refine eM ?_
   rintro _ _ ⟨rfl,rfl⟩;refine⟨[(37,.nm 1),(200,.nm 2)],.raw (.tuple #[]),Dk h (nL h A e (q+1)),rfl,rfl,?_,?_,rfl,rfl,?_⟩
   .simp only[IT,Dk,hs];first|exact eN|refine eM ?_
   .first|exact eN|refine eM ?_
   simp only[Dk];refine rL c ?_ ?_
   .trivial
   repeat'(first|exact a6|apply eS rfl|apply AB|refine rP c ?_ ?_|fail)
   .exact eV
   refine⟨⟨q+1,O1⟩,a2,AC [(2,.nm 2),(3,.nm 3),(4,.nm 4),(37,.nm 37),(200,.nm 200),(112,.nm 112),(18,.nm 18)] rfl rfl ?_ ?_⟩
   .simp only[Dk,To,jA];first|exact eN|refine eM ?_
   simp only[Dk,To,jA];first|exact eN|refine eM ?_
  have U:q=e.2.2.length:=by omega
  subst U;rw[A5C,<-w];repeat'(first|exact a6|apply eS rfl|apply AB|refine rP c ?_ ?_|fail)
  .simp only[AP];omega
  .exact eV
  refine⟨⟨k+1,O1⟩,a2,AC [(2,.nm 2),(3,.nm 3),(4,.nm 4),(37,.nm 37),(200,.nm 200),(112,.nm 112)] rfl rfl ?_ ?_⟩
  .simp only[Dk,To,jA,t,y];first|exact eN|refine eM ?_
  simp only[Dk,To,jA,t,y];first|exact eN|refine eM ?_
 have S:k=f.length:=by omega
 subst S;repeat'(first|exact a6|apply eS rfl|apply AB|refine rP c ?_ ?_|fail)
 refine C9 [112] ?_;have bd:=A5G h b f cs;simp only[bd];refine AJ (ι:={j:Nat//j<=cs.length}) (λj=>⟨[(2,.bp 2 [] 0),(3,.bp 3 [] 0),(4,.bp 4 [] 0),(7,.bp 37 [] 0),(9,.p T3 1),(10,.p CH (Gy 2 b.length)),(11,.p CH (Gy (2+b.length) f.length)),(12,.sr 142 T3 0 (Gy (2+b.length+f.length) j.1).length),(115,.p Ot cs),(116,.p (.int .i64) (cs.length:Int)),(117,.p (.int .i64) (j.1:Int))],Dk h (wS h b f cs j.1)++[(142,.arr 3 T3 (Gy (2+b.length+f.length) j.1)),(4,.box 34 true [.raw (.slice none 0 0)]),(3,.box 41 true [.p T3 tp,.p T3 ix,.p Cj b,.p NF f,.p Ot cs]),(2,.box 26 true [.p SM h.1,.p TW h.2])]⟩) (λj=>cs.length-j.1) ⟨0,GO _⟩ (AC [(2,.nm 2),(3,.nm 3),(4,.nm 4),(37,.nm 37),(200,.nm 200),(142,.nil)] rfl rfl ?_ ?_) (λj=>?_)
 .simp only[Dk,To,jA];first|exact eN|refine eM ?_
  rfl
 .simp only[Dk,To,jA];first|exact eN|refine eM ?_
  rfl
 obtain⟨j,H⟩:=j;have y:=r9 h b f cs H;have ae:=Ha (2+b.length+f.length) j;have w:=λq=>A2J h b f cs (i:=j) q;have t:=Wu (2+b.length+f.length) j;simp only[Dk,To,jA];repeat'(first|exact a6|apply eS rfl|apply AB|refine rP c ?_ ?_|fail)
 refine rC ?_ ?_<;>intro g
 .have z:j<cs.length:=by exact eV
  have w:=w z;have P:cs.getD j (0,0)∈cs:=Ac z;obtain⟨ah,ai⟩:=A6s (m:=(tp,ix,b,f,cs)) P;have o:=E _ ah;have s:=E _ ai;simp only at o s;generalize al:wS h b f cs j=A at *;generalize N:Gy (2+b.length+f.length) j=L at *;repeat'(first|exact a6|apply eS rfl|apply AB|refine rP c ?_ ?_|fail)
  .exact g
  generalize au:cs.getD j (0,0)=e at *;have B:=C e.1 o.1 o.2;have Q:=C e.2 s.1 s.2;have bm:=Ol h A ⟨#[113,101,113]⟩;have h1:=AAP h A e;have J:=AAQ h A e;rw[<-B]at h1 J;rw[<-Q]at J;rw[<-w]at J;refine cP 1 c ?_ ?_
  .trivial
  refine rM c (Gx h A O1 ⟨#[113,101,113]⟩) [(1,.nm 37),(2,.nm 200)] [200] ?_ ?_ ?_
  .first|exact eN|refine eM ?_
  .first|exact eN|refine eM ?_
  rintro _ _ ⟨rfl,rfl⟩;refine⟨[(37,.nm 1),(200,.nm 2)],.p T3 (A.length:Int),Dk h (JQ h A ⟨#[113,101,113]⟩),rfl,rfl,?_,?_,rfl,rfl,?_⟩
  .simp only[IT,Dk];first|exact eN|refine eM ?_
  .first|exact eN|refine eM ?_
  simp only[Dk];refine rL c ?_ ?_
  .trivial
  repeat'(first|exact a6|apply eS rfl|apply AB|refine rP c ?_ ?_|fail)
  refine cP 7 c ?_ ?_
  .rw[F];exact o
  refine rM c (Eu h (JQ h A ⟨#[113,101,113]⟩) O1 (n:=(A.length:Int)) O1 O1 (by unfold JQ;rw[Qh];simp) ⟨#[72,73,71,72]⟩ ((Gy 2 b.length).getD e.1.toNat 0)) [(1,.nm 37),(2,.nm 200)] [200] ?_ ?_ ?_
  .first|exact eN|refine eM ?_
  .first|exact eN|refine eM ?_
  rintro _ _ ⟨rfl,rfl⟩;refine⟨[(37,.nm 1),(200,.nm 2)],.raw (.tuple #[]),Dk h (A++[(Aw h ⟨#[113,101,113]⟩,[(BO h ⟨#[72,73,71,72]⟩,(Gy 2 b.length).getD e.1.toNat 0)])]),rfl,rfl,?_,?_,rfl,rfl,?_⟩
  .simp only[IT,Dk,h1];first|exact eN|refine eM ?_
  .first|exact eN|refine eM ?_
  simp only[Dk];refine rL c ?_ ?_
  .trivial
  repeat'(first|exact a6|apply eS rfl|apply AB|refine rP c ?_ ?_|fail)
  refine cP 7 c ?_ ?_
  .rw[F];exact s
  refine rM c (Eu h (A++[(Aw h ⟨#[113,101,113]⟩,[(BO h ⟨#[72,73,71,72]⟩,(Gy 2 b.length).getD e.1.toNat 0)])]) (by simp only[IS,nO];omega) (n:=(A.length:Int)) O1 (by simp only[IS,nO];omega) (by rw[Qh];simp) ⟨#[76,79,87]⟩ ((Gy 2 b.length).getD e.2.toNat 0)) [(1,.nm 37),(2,.nm 200)] [200] ?_ ?_ ?_
  .first|exact eN|refine eM ?_
  .first|exact eN|refine eM ?_
  rintro _ _ ⟨rfl,rfl⟩;refine⟨[(37,.nm 1),(200,.nm 2)],.raw (.tuple #[]),Dk h (wS h b f cs (j+1)),rfl,rfl,?_,?_,rfl,rfl,?_⟩
  .simp only[IT,Dk,J];first|exact eN|refine eM ?_
  .first|exact eN|refine eM ?_
  simp only[Dk];refine rL c ?_ ?_
  .trivial
  repeat'(first|exact a6|apply eS rfl|apply AB|refine rP c ?_ ?_|fail)
  .simp only[AP];omega
  .exact eV
  have cb:=r9 h b f cs z;refine⟨⟨j+1,O1⟩,a2,AC [(2,.nm 2),(3,.nm 3),(4,.nm 4),(37,.nm 37),(200,.nm 200),(142,.nm 142)] rfl rfl ?_ ?_⟩
  .simp only[Dk,To,jA,t,y];first|exact eN|refine eM ?_
  simp only[Dk,To,jA,t,y];first|exact eN|refine eM ?_
 have z:j=cs.length:=by omega
 subst z;repeat'(first|exact a6|apply eS rfl|apply AB|refine rP c ?_ ?_|fail)
 refine C9 [142] ?_;have an:=A5H h tp ix b f cs;simp only[an];clear an w y ae t;obtain⟨bj,bk⟩:=A6t (tp,ix,b,f,cs);have o:=E _ bj;have s:=E _ bk;simp only at o s;have B:=C tp o.1 o.2;have Q:=C ix s.1 s.2;have bv:pN (tp,ix,b,f,cs)=2+b.length+f.length+cs.length:=rfl;have bx:qN (tp,ix,b,f,cs)=pN (tp,ix,b,f,cs)+f.length+2:=rfl;have be:wG (tp,ix,b,f,cs)=Gy (2+b.length) f.length:=rfl;have ax:wH (tp,ix,b,f,cs)=Gy (2+b.length+f.length) cs.length:=rfl;have l:=A8n h (tp,ix,b,f,cs);have W:=A5I h (tp,ix,b,f,cs) [] [] (BO h ⟨#[84,79,80]⟩) ((Gy 2 b.length).getD tp.toNat 0);have X:=A5I h (tp,ix,b,f,cs) [(BO h ⟨#[84,79,80]⟩,2+tp)] [] (BO h ⟨#[73,78,68,69,88]⟩) ((Gy 2 b.length).getD ix.toNat 0);simp only[AAu,jA,AC7]at W X;rw[B]at W;rw[Q]at X;have T:=A5J h (tp,ix,b,f,cs);simp only at T;have af:=λL D (N:L.length<=10) ar=>AAR I r ak L D N ar;obtain⟨bb,aw,bg⟩:=A2I I r ak;generalize bu:(tp,ix,b,f,cs)=m at *;have bt:=Ha (2+b.length) f.length;have bs:=Ha (2+b.length+f.length) cs.length;have O:=bJ h (pN m) (Gy (2+b.length) f.length);refine cP 7 c ?_ ?_
 .rw[F];exact o
 refine rM c (Eu h (W2 h m []) (by rw[l];omega) (n:=1) O1 (by rw[l];omega) (by simpa using bL h m [] [] sc) ⟨#[84,79,80]⟩ ((Gy 2 b.length).getD tp.toNat 0)) [(1,.nm 37),(2,.nm 200)] [200] ?_ ?_ ?_
 .first|exact eN|refine eM ?_
 .first|exact eN|refine eM ?_
 rintro _ _ ⟨rfl,rfl⟩;refine⟨[(37,.nm 1),(200,.nm 2)],.raw (.tuple #[]),Dk h (W2 h m [(BO h ⟨#[84,79,80]⟩,2+tp)]),rfl,rfl,?_,?_,rfl,rfl,?_⟩
 .simp only[IT,Dk,B,W,l];first|exact eN|refine eM ?_
 .first|exact eN|refine eM ?_
 simp only[Dk];refine rL c ?_ ?_
 .trivial
 repeat'(first|exact a6|apply eS rfl|apply AB|refine rP c ?_ ?_|fail)
 refine cP 7 c ?_ ?_
 .rw[F];exact s
 refine rM c (Eu h (W2 h m [(BO h ⟨#[84,79,80]⟩,2+tp)]) (by rw[l];omega) (n:=1) O1 (by rw[l];omega) (by simpa using bL h m [(BO h ⟨#[84,79,80]⟩,2+tp)] [] sc) ⟨#[73,78,68,69,88]⟩ ((Gy 2 b.length).getD ix.toNat 0)) [(1,.nm 37),(2,.nm 200)] [200] ?_ ?_ ?_
 .first|exact eN|refine eM ?_
 .first|exact eN|refine eM ?_
 rintro _ _ ⟨rfl,rfl⟩;refine⟨[(37,.nm 1),(200,.nm 2)],.raw (.tuple #[]),Dk h (W2 h m [(BO h ⟨#[84,79,80]⟩,2+tp),(BO h ⟨#[73,78,68,69,88]⟩,2+ix)]),rfl,rfl,?_,?_,rfl,rfl,?_⟩
 .simp only[IT,Dk,Q,X,l];first|exact eN|refine eM ?_
 .first|exact eN|refine eM ?_
 simp only[Dk];refine rL c ?_ ?_
 .trivial
 repeat'(first|exact a6|apply eS rfl|apply AB|refine rP c ?_ ?_|fail)
 refine cP 4 c ?_ ?_
 .trivial
 refine rM c (iX h (W2 h m [(BO h ⟨#[84,79,80]⟩,2+tp),(BO h ⟨#[73,78,68,69,88]⟩,2+ix)]) (by rw[l];omega) (K:=12) (by simpa using af [(BO h ⟨#[84,79,80]⟩,2+tp),(BO h ⟨#[73,78,68,69,88]⟩,2+ix)] [] sc (λx bn=>by cases bn)) O1 (Gy (2+b.length) f.length) O1) [(1,.nm 37),(2,.nm 200)] [200] ?_ ?_ ?_
 .first|exact eN|refine eM ?_
 .first|exact eN|refine eM ?_
 rintro _ _ ⟨rfl,rfl⟩;refine⟨[(37,.nm 1),(200,.nm 2)],.p T3 (pN m:Int),Dk h (W2 h m [(BO h ⟨#[84,79,80]⟩,2+tp),(BO h ⟨#[73,78,68,69,88]⟩,2+ix)]++Wr h (pN m) (Gy (2+b.length) f.length)),rfl,rfl,?_,?_,rfl,rfl,?_⟩
 .simp only[IT,Dk,rZ,l];first|exact eN|refine eM ?_
 .first|exact eN|refine eM ?_
  all_goals rw[l]
 simp only[Dk];have aj:=A5I h m [(BO h ⟨#[84,79,80]⟩,2+tp),(BO h ⟨#[73,78,68,69,88]⟩,2+ix)] (Wr h (pN m) (Gy (2+b.length) f.length)) (BO h ⟨#[82,69,76,83]⟩) (pN m:Int);simp only[To,jA]at aj;refine rM c (Eu h (W2 h m [(BO h ⟨#[84,79,80]⟩,2+tp),(BO h ⟨#[73,78,68,69,88]⟩,2+ix)]++Wr h (pN m) (Gy (2+b.length) f.length)) (by rw[IS,l,O];omega) (n:=1) O1 (by rw[IS,l,O];omega) (bL h m [(BO h ⟨#[84,79,80]⟩,2+tp),(BO h ⟨#[73,78,68,69,88]⟩,2+ix)] _ sc) ⟨#[82,69,76,83]⟩ (pN m:Int)) [(1,.nm 37),(2,.nm 200)] [200] ?_ ?_ ?_
 .first|exact eN|refine eM ?_
 .first|exact eN|refine eM ?_
 rintro _ _ ⟨rfl,rfl⟩;refine⟨[(37,.nm 1),(200,.nm 2)],.raw (.tuple #[]),Dk h (W2 h m [(BO h ⟨#[84,79,80]⟩,2+tp),(BO h ⟨#[73,78,68,69,88]⟩,2+ix),(BO h ⟨#[82,69,76,83]⟩,(pN m:Int))]++Wr h (pN m) (Gy (2+b.length) f.length)),rfl,rfl,?_,?_,rfl,rfl,?_⟩
 .simp only[IT,Dk,aj];first|exact eN|refine eM ?_
 .first|exact eN|refine eM ?_
 simp only[Dk];refine rL c ?_ ?_
 .trivial
 repeat'(first|exact a6|apply eS rfl|apply AB|refine rP c ?_ ?_|fail)
 have ay:=bJ h (qN m) (Gy (2+b.length+f.length) cs.length);have ab:(W2 h m [(BO h ⟨#[84,79,80]⟩,2+tp),(BO h ⟨#[73,78,68,69,88]⟩,2+ix),(BO h ⟨#[82,69,76,83]⟩,(pN m:Int))]++Wr h (pN m) (Gy (2+b.length) f.length)).length=qN m:=by rw[IS,l,O];omega
 refine cP 4 c ?_ ?_
 .trivial
 refine rM c (iX h (W2 h m [(BO h ⟨#[84,79,80]⟩,2+tp),(BO h ⟨#[73,78,68,69,88]⟩,2+ix),(BO h ⟨#[82,69,76,83]⟩,(pN m:Int))]++Wr h (pN m) (Gy (2+b.length) f.length)) (by rw[ab];omega) (K:=12) (af [(BO h ⟨#[84,79,80]⟩,2+tp),(BO h ⟨#[73,78,68,69,88]⟩,2+ix),(BO h ⟨#[82,69,76,83]⟩,(pN m:Int))] _ sc (AAS h _ _)) O1 (Gy (2+b.length+f.length) cs.length) O1) [(1,.nm 37),(2,.nm 200)] [200] ?_ ?_ ?_
 .first|exact eN|refine eM ?_
 .first|exact eN|refine eM ?_
 rintro _ _ ⟨rfl,rfl⟩;refine⟨[(37,.nm 1),(200,.nm 2)],.p T3 (qN m:Int),Dk h (W2 h m [(BO h ⟨#[84,79,80]⟩,2+tp),(BO h ⟨#[73,78,68,69,88]⟩,2+ix),(BO h ⟨#[82,69,76,83]⟩,(pN m:Int))]++(Wr h (pN m) (Gy (2+b.length) f.length)++Wr h (qN m) (Gy (2+b.length+f.length) cs.length))),rfl,rfl,?_,?_,rfl,rfl,?_⟩
 .simp only[IT,Dk,rZ,ab,AAg];first|exact eN|refine eM ?_
 .first|exact eN|refine eM ?_
  all_goals(rw[<-IS,ab])
 simp only[Dk];have Y:=A5I h m [(BO h ⟨#[84,79,80]⟩,2+tp),(BO h ⟨#[73,78,68,69,88]⟩,2+ix),(BO h ⟨#[82,69,76,83]⟩,(pN m:Int))] (Wr h (pN m) (Gy (2+b.length) f.length)++Wr h (qN m) (Gy (2+b.length+f.length) cs.length)) (BO h ⟨#[67,79,78,83]⟩) (qN m:Int);simp only[To,jA]at Y;rw[be,ax]at T;rw[T]at Y;refine rM c (Eu h (W2 h m [(BO h ⟨#[84,79,80]⟩,2+tp),(BO h ⟨#[73,78,68,69,88]⟩,2+ix),(BO h ⟨#[82,69,76,83]⟩,(pN m:Int))]++(Wr h (pN m) (Gy (2+b.length) f.length)++Wr h (qN m) (Gy (2+b.length+f.length) cs.length))) (by rw[IS,IS,l,O,ay];omega) (n:=1) O1 (by rw[IS,l];omega) (bL h m [(BO h ⟨#[84,79,80]⟩,2+tp),(BO h ⟨#[73,78,68,69,88]⟩,2+ix),(BO h ⟨#[82,69,76,83]⟩,(pN m:Int))] _ sc) ⟨#[67,79,78,83]⟩ (qN m:Int)) [(1,.nm 37),(2,.nm 200)] [200] ?_ ?_ ?_
 .first|exact eN|refine eM ?_
 .first|exact eN|refine eM ?_
 rintro _ _ ⟨rfl,rfl⟩;refine⟨[(37,.nm 1),(200,.nm 2)],.raw (.tuple #[]),Dk h (D9 h m),rfl,rfl,?_,?_,rfl,rfl,?_⟩
 .simp only[IT,Dk,Y];first|exact eN|refine eM ?_
 .first|exact eN|refine eM ?_
 simp only[Dk];refine rL c ?_ ?_
 .trivial
 repeat'(first|exact a6|apply eS rfl|apply AB|refine rP c ?_ ?_|fail)
 refine C9 [200] ?_;clear T Y aj X W af;repeat'(first|exact a6|apply eS rfl|apply AB|refine rP c ?_ ?_|fail)
 .exact bg
 refine rC ?_ ?_<;>intro g
 .exact absurd aw (by simpa using g)
 repeat'(first|exact a6|apply eS rfl|apply AB|refine rP c ?_ ?_|fail)
 .exact bb
 refine rC ?_ ?_<;>intro g
 .have hf:(EJ h (A4 (D9 h m)).1).2=false:=by simpa using g
  rw[An (by rw[hf];simp)];repeat'(first|exact a6|apply eS rfl|apply AB|refine rX c ?_ ?_|refine rC ?_ ?_<;>intro g<;>try(cases g;done))
  exact fI c [.cell 4 34,.tmp 5] (by first|exact eR|refine OC ?_;rfl)
 have hf:(EJ h (A4 (D9 h m)).1).2=true:=by simpa using g
 rw[At hf];repeat'(first|exact a6|apply eS rfl|apply AB|refine rX c ?_ ?_|refine rC ?_ ?_<;>intro g<;>try(cases g;done))
 exact fI c [.cell 4 34,.tmp 5]
end
section
attribute [local go_sem] Jm K8 KY My Jk Io NG
abbrev Hb:=ByteArray×Int×Int×List ByteArray×List ByteArray
def A5K:Ab:={ ins:=[.int .u8,.int .u8,.int .u8],pre:=λ_=>True,out:=λ(c,a,b,_)=>[.p .bool (CO a b c)] }
attribute [local go_sem] A5K
theorem A8o:Af Tryz.prog 120 A5K:=by
 refine fK [0,1,2,6] Tryz.func120 Tryz.ntmps120 AH ?_;rintro w0 O0 ⟨c,a,b,u⟩ d - -;simp only[A5K,AM];repeat'(first|exact a6|apply eS rfl|apply AB|refine rX d ?_ ?_|refine rC ?_ ?_<;>intro e<;>try(cases e;done))
 exact fI d [.tmp 6] (by first|exact eR|refine OC ?_;rfl)
def nxB (r:Hb) (c:Int):Bool:=r.2.2.1==0&&decide (r.2.1<(r.1.size:Int))&&NV r.1 r.2.1.toNat==c
def A5L:Ab:={ ins:=[XC,.int .u8],pre:=λ(r,_,_)=>0<=(r:Hb).2.1,out:=λ(r,c,_)=>[.p .bool (nxB r c)] }
attribute [local go_sem] A5L
theorem A2L:Af Tryz.prog 121 A5L:=by
 refine fK [0,1,2,4] Tryz.func121 Tryz.ntmps121 AH ?_;rintro w0 O0 ⟨⟨s,n,e,so,te⟩,c,u⟩ a-h0;have h0:0<=n:=h0;simp only[A5L,AM];repeat'(first|exact a6|apply eS rfl|apply AB|refine rX a ?_ ?_|refine rC ?_ ?_<;>intro b<;>try(cases b;done))
 .intro q;simp only[AT,If]at q;exact⟨h0,q.2⟩
 exact fI a [.tmp 4] (by first|exact eR|refine OC ?_;rfl)
def i7:Ab:={ ins:=[XC,T9],pre:=λ(r,w,_)=>ByteArray.size (r:Hb).1<=1000/\(r:Hb).2.2.1=0/\0<=(r:Hb).2.1/\(r:Hb).2.1+(ByteArray.size w:Int)<=(ByteArray.size (r:Hb).1:Int)/\∀i,i<ByteArray.size w->NV (r:Hb).1 ((r:Hb).2.1.toNat+i)=NV w i,out:=λ(r,w,_)=>[.p XC ((r:Hb).1,(r:Hb).2.1+(ByteArray.size w:Int),(0:Int),(r:Hb).2.2.2.1,(r:Hb).2.2.2.2)] }
attribute [local go_sem] i7
theorem bM:Af Tryz.prog 70 i7:=by
 refine fK [0,1,2,4,5,14,33] Tryz.func70 Tryz.ntmps70 AH ?_;rintro w0 O0 ⟨⟨s,n,e,so,te⟩,w,u⟩ c-⟨f,h0,h1,d,b⟩;have f:s.size<=1000:=f;have h0:e=0:=h0;have h1:0<=n:=h1;have d:n+(w.size:Int)<=(s.size:Int):=d;have b:∀i,i<w.size->NV s (n.toNat+i)=NV w i:=b;subst h0;dsimp only[Ty.den]at *;simp only[i7,AM];repeat'(first|exact a6|apply eS rfl|apply AB|refine rX c ?_ ?_|refine rC ?_ ?_<;>intro a<;>try(cases a;done))
 refine AJ (ι:={k:Nat//k<=w.size}) (λk=>⟨[(1,.p T9 w),(2,.bp 2 [] 0),(4,.bp 4 [] 0),(5,.p (.int .i64) (k.1:Int))],[(4,.box 133 true [.p T9 ByteArray.empty,.p T3 0,.p C3 0,.raw (.slice none 0 0),.raw (.slice none 0 0)]),(2,.box 133 true [.p T9 s,.p T3 (n+(k.1:Int)),.p C3 0,.p Cj so,.p Cj te])]⟩) (λk=>w.size-k.1) ⟨0,GO _⟩ (AC [(2,.nm 2),(4,.nm 4)] rfl rfl ?_ ?_) (λk=>?_)
 .first|exact eN|refine eM ?_
  all_goals exact eV
 .first|exact eN|refine eM ?_
  all_goals exact eV
 obtain⟨k,hk⟩:=k;simp only;repeat'(first|exact a6|apply eS rfl|apply AB|refine rX c ?_ ?_|refine rC ?_ ?_<;>intro a<;>try(cases a;done))
 .exact⟨λ_=>⟨eV,eV⟩,λ_=>a⟩
 .exfalso;rcases a with q|q
  .exact eV
  exact q (by rw[show (n+(k:Int)).toNat=n.toNat+k by exact eV];exact b k eV)
 .exact eV
 .exact eV
 .refine⟨⟨k+1,eV⟩,a2,AC [(2,.nm 2),(4,.nm 4)] rfl rfl ?_ ?_⟩
  .first|exact eN|refine eM ?_
   all_goals exact eV
  first|exact eN|refine eM ?_
  all_goals exact eV
 have e:n+(w.size:Int)=n+(k:Int):=by exact eV
 exact fI c [.cell 4 133] (by rw[e];exact eR)
theorem A8p (s w:ByteArray) (n:Int) (so te:List ByteArray) (j:s.size<=1000) (h1:0<=n) (f:n+(w.size:Int)<=(s.size:Int)) (c:∀i,i<w.size->NV s (n.toNat+i)=NV w i):BF Tryz.prog 70 [.ag [.p T9 s,.p T3 (n),.p C3 0,.sr 501 T9 0 so.length,.sr 502 T9 0 te.length],.p T9 w] [(501,.arr 9 T9 so),(502,.arr 9 T9 te)] [] (λres d=>res=.ag [.p T9 s,.p T3 (n+(w.size:Int)),.p C3 0,.sr 501 T9 0 so.length,.sr 502 T9 0 te.length]/\d=[(4,.box 133 true [.p T9 s,.p T3 (n+(w.size:Int)),.p C3 0,.sr 501 T9 0 so.length,.sr 502 T9 0 te.length]),(501,.arr 9 T9 so),(502,.arr 9 T9 te)]):=by
 refine J0 [0,1,2,4,5,14,33] [] [] Tryz.func70 Tryz.ntmps70 AH ?_;intro w0 K O0 ρ0 b g h;simp only[Au];repeat'(first|exact a6|apply eS rfl|apply AB|refine rX b ?_ ?_|refine rC ?_ ?_<;>intro a<;>try(cases a;done))
 refine AJ (ι:={k:Nat//k<=w.size}) (λk=>⟨[(1,.p T9 w),(2,.bp 2 [] 0),(4,.bp 4 [] 0),(5,.p (.int .i64) (k.1:Int))],[(4,.box 133 true [.p T9 ByteArray.empty,.p T3 0,.p C3 0,.raw (.slice none 0 0),.raw (.slice none 0 0)]),(2,.box 133 true [.p T9 s,.p T3 (n+(k.1:Int)),.p C3 0,.sr 501 T9 0 so.length,.sr 502 T9 0 te.length]),(501,.arr 9 T9 so),(502,.arr 9 T9 te)]⟩) (λk=>w.size-k.1) ⟨0,GO _⟩ (AC [(2,.nm 2),(4,.nm 4),(501,.nm 501),(502,.nm 502)] rfl rfl ?_ ?_) (λk=>?_)
 .first|exact eN|refine eM ?_
  all_goals exact eV
 .first|exact eN|refine eM ?_
  all_goals exact eV
 obtain⟨k,hk⟩:=k;simp only;repeat'(first|exact a6|apply eS rfl|apply AB|refine rX b ?_ ?_|refine rC ?_ ?_<;>intro a<;>try(cases a;done))
 .exact⟨λ_=>⟨eV,eV⟩,λ_=>a⟩
 .exfalso;rcases a with q|q
  .exact eV
  exact q (by rw[show (n+(k:Int)).toNat=n.toNat+k by omega];exact c k eV)
 .exact eV
 .exact eV
 .refine⟨⟨k+1,eV⟩,a2,AC [(2,.nm 2),(4,.nm 4),(501,.nm 501),(502,.nm 502)] rfl rfl ?_ ?_⟩
  .first|exact eN|refine eM ?_
   all_goals exact eV
  first|exact eN|refine eM ?_
  all_goals exact eV
 have e:n+(w.size:Int)=n+(k:Int):=by exact eV
 rw[e];refine Ev.ent (σ':=⟨[(4,.bp 4 [] 0)],[(4,.box 133 true [.p T9 s,.p T3 (n+(k:Int)),.p C3 0,.sr 501 T9 0 so.length,.sr 502 T9 0 te.length]),(501,.arr 9 T9 so),(502,.arr 9 T9 te)]⟩) ?_ (AC [(4,.nm 4),(501,.nm 501),(502,.nm 502)] rfl rfl ?_ ?_)
 .exact fM b [.cell 4 133] (.ag [.p T9 s,.p T3 (n+(k:Int)),.p C3 0,.sr 501 T9 0 so.length,.sr 502 T9 0 te.length]) eT ⟨rfl,rfl⟩
 .first|exact eN|refine eM ?_
 first|exact eN|refine eM ?_
theorem sA (s:ByteArray) (n:Int) (so te:List ByteArray) (z:s.size<=1000) (h1:0<=n) (u:n+2<(s.size:Int)) (h:s.extract n.toNat (n+1).toNat=⟨#[104]⟩) (d:NV s (n+1).toNat=48) (j:s.extract (n+1).toNat (n+2).toNat=⟨#[48]⟩) (v:so.length<=10) (w:te.length<=10):BF Tryz.prog 69 [.ag [.p T9 s,.p T3 (n),.p C3 0,.sr 501 T9 0 so.length,.sr 502 T9 0 te.length]] [(501,.arr 9 T9 so),(502,.arr 9 T9 te)] [] (λres t=>res=.tup [.ag [.p T9 s,.p T3 (n+2),.p C3 0,.sr 501 T9 0 (so++[(⟨#[104]⟩:ByteArray)]).length,.sr 502 T9 0 (te++[(⟨#[48]⟩:ByteArray)]).length],.p T3 (te.length:Int)]/\t=[(2,.box 133 true [.p T9 s,.p T3 (n+2),.p C3 0,.sr 501 T9 0 (so++[(⟨#[104]⟩:ByteArray)]).length,.sr 502 T9 0 (te++[(⟨#[48]⟩:ByteArray)]).length]),(501,.arr 9 T9 (so++[(⟨#[104]⟩:ByteArray)])),(502,.arr 9 T9 (te++[(⟨#[48]⟩:ByteArray)]))]):=by
 refine J0 [0,1,2,3,4,5,8,27,56,87] [95,106] [] Tryz.func69 Tryz.ntmps69 (AG ST (AG A8o AH)) ?_;intro w0 K O0 ρ0 a x y;have r:VN ⟨#[104]⟩=true:=by decide +kernel
 have f:CO 48 57 48=true:=by decide
 have m:∀n:Int,n+1+((0:Nat):Int)=n+1:=λn=>by omega
 have o:∀n:Int,n+1+((1:Nat):Int)=n+2:=λn=>by omega
 simp only[Au];repeat'(first|exact a6|apply eS rfl|apply AB|refine rX a ?_ ?_|refine rC ?_ ?_<;>intro b<;>try(cases b;done))
 all_goals try simp only[h,d,r,f]at b ⊢
 .exact eV
 .exfalso;rcases b with q|q
  .omega
  cases q
 .exact eV
 .exact eV
 .exact eV
 .exfalso;rcases b with q|q
  .omega
  cases q
 refine AJ (ι:={k:Nat//k<=1}) (λk=>⟨[(1,.bp 1 [] 0),(2,.bp 2 [] 0),(4,.p T9 ⟨#[104]⟩),(5,.p (.int .i64) (n+1))],[(2,.box 133 true [.p T9 ByteArray.empty,.p T3 0,.p C3 0,.raw (.slice none 0 0),.raw (.slice none 0 0)]),(1,.box 133 true [.p T9 s,.p T3 (n+1+(k.1:Int)),.p C3 0,.sr 501 T9 0 so.length,.sr 502 T9 0 te.length]),(501,.arr 9 T9 so),(502,.arr 9 T9 te)]⟩) (λk=>1-k.1) ⟨0,O1⟩ (AC [(1,.nm 1),(2,.nm 2),(501,.nm 501),(502,.nm 502)] rfl rfl ?_ ?_) (λk=>?_)
 .first|exact eN|refine eM ?_
  all_goals exact eV
 .first|exact eN|refine eM ?_
  all_goals exact eV
 obtain⟨k,hk⟩:=k;simp only;repeat'(first|exact a6|apply eS rfl|apply AB|refine rP a ?_ ?_|fail)
 refine rX a ?_ ?_
 .exact⟨λq=>⟨eV,q⟩,λ_=>⟨eV,eV⟩⟩
 repeat'(first|exact a6|apply eS rfl|apply AB|refine rP a ?_ ?_|fail)
 refine rC ?_ ?_<;>intro b
 .have e:k=0:=by
   rcases b.2 with q|q
   .omega
   exact absurd d q
  subst e;repeat'(first|exact a6|apply eS rfl|apply AB|refine rX a ?_ ?_|refine rC ?_ ?_<;>intro b<;>try(cases b;done))
  .exact eV
  refine⟨⟨1,O1⟩,a2,AC [(1,.nm 1),(2,.nm 2),(501,.nm 501),(502,.nm 502)] rfl rfl ?_ ?_⟩
  .first|exact eN|refine eM ?_
   all_goals exact eV
  first|exact eN|refine eM ?_
  all_goals exact eV
 have l:k=1:=by
  refine DO λq=>?_;have e:k=0:=by omega
  subst e;have c:=m n;rw[c]at b;have i:((s.data.getD (n+1).toNat 0).toNat:Int)=48:=d;have:=b ⟨O1,by rw[i];exact f⟩;exact this.1 rfl
 subst l;have c:=o n;simp only[c];repeat'(first|exact a6|apply eS rfl|apply AB|refine rP a ?_ ?_|fail)
 .simp only[AP];omega
 refine rX a ?_ ?_
 .simp only[AP];exact⟨⟨eV,eV,eV⟩,eV⟩
 repeat'(first|exact a6|apply eS rfl|apply AB|refine rP a ?_ ?_|fail)
 refine Lz drawsAny a 6 [([0],5)] [1,2,3,4] a5 (mxA ?_ ?_)
 .exact eV
 refine mxL a [] ?_ ?_
 .trivial
 refine mxE a ?_ ?_ ?_
 .exact eV
 .trivial
 repeat'(first|exact a6|apply eS rfl|apply AB|refine rX a ?_ ?_|refine rC ?_ ?_<;>intro b<;>try(cases b;done))
 have g:(te.length:Int)+1-1=(te.length:Int):=by omega
 simp only[g,j];refine Ev.ent (σ':=⟨[(2,.bp 2 [] 0),(3,.p (.int .i64) (te.length:Int))],[(2,.box 133 true [.p T9 s,.p T3 (n+2),.p C3 0,.sr 501 T9 0 (so++[(⟨#[104]⟩:ByteArray)]).length,.sr 502 T9 0 (te++[(⟨#[48]⟩:ByteArray)]).length]),(501,.arr 9 T9 (so++[(⟨#[104]⟩:ByteArray)])),(502,.arr 9 T9 (te++[(⟨#[48]⟩:ByteArray)]))]⟩) ?_ (AC [(2,.nm 2),(501,.nm 501),(502,.nm 502)] rfl rfl ?_ ?_)
 .exact fM a [.cell 2 133,.tmp 3] (.tup [.ag [.p T9 s,.p T3 (n+2),.p C3 0,.sr 501 T9 0 (so++[(⟨#[104]⟩:ByteArray)]).length,.sr 502 T9 0 (te++[(⟨#[48]⟩:ByteArray)]).length],.p T3 (te.length:Int)]) eT ⟨rfl,rfl⟩
 .first|exact eN|refine eM ?_
  all_goals simp
 first|exact eN|refine eM ?_
end
section
attribute [local go_sem] A5K A5L i7 Zg Jl K8 KY My Jk Io NG
def sB:Ab:={ ins:=[T9],pre:=λ(s,_)=>(s:ByteArray)=⟨#[48]⟩,out:=λ_=>[.p T3 0,.p C3 0] }
attribute [local go_sem] sB
theorem A5M:Af Tryz.prog 124 sB:=by
 refine fK [0,2,3,4,5,6,7,8,17,36,40,47,51,63,72,77] Tryz.func124 Tryz.ntmps124 (AG VB AH) ?_;rintro w0 O0 ⟨s,u⟩ b-hs;have hs:s=⟨#[48]⟩:=hs;have g:s.size=1:=by rw[hs];rfl
 have h0:((s.data.getD 0 0).toNat:Int)=48:=by rw[hs];rfl
 have d:AK s ⟨#[]⟩=false:=by rw[hs];decide +kernel
 clear hs;simp only[sB,AM];repeat'(first|exact a6|apply eS rfl|apply AB|refine rP b ?_ ?_|fail)
 refine rX b ?_ ?_
 .exact id
 repeat'(first|exact a6|apply eS rfl|apply AB|refine rP b ?_ ?_|fail)
 refine rC (λa=>?_) (λ_=>?_)
 .exfalso;have:=a.2;omega
 repeat'(first|exact a6|apply eS rfl|apply AB|refine rP b ?_ ?_|fail)
 refine rX b ?_ ?_
 .intro _;exact eV
 repeat'(first|exact a6|apply eS rfl|apply AB|refine rP b ?_ ?_|fail)
 refine rC (λa=>?_) (λ_=>?_)
 .exfalso;rcases a with q|q
  .rw[d]at q;cases q
  omega
 repeat'(first|exact a6|apply eS rfl|apply AB|refine rP b ?_ ?_|fail)
 refine AJ (ι:={k:Nat//k<=1}) (λk=>⟨[(0,.p T9 s),(4,.p T9 s),(5,.p (.int .i64) (k.1:Int))],[]⟩) (λk=>1-k.1) ⟨0,O1⟩ (AC [] rfl rfl ?_ ?_) (λk=>?_)
 .first|exact eN|refine eM ?_
 .first|exact eN|refine eM ?_
 obtain⟨k,hk⟩:=k;simp only;repeat'(first|exact a6|apply eS rfl|apply AB|refine rX b ?_ ?_|refine rC ?_ ?_<;>intro a<;>try(cases a;done))
 .exact eV
 .exfalso;have c:k=0:=by omega
  subst c;rw[h0]at a;exact absurd a df
 .exact eV
 .have c:k=0:=by exact eV
  subst c;refine⟨⟨1,O1⟩,a2,AC [] rfl rfl ?_ ?_⟩
  .first|exact eN|refine eM ?_
   all_goals rfl
  first|exact eN|refine eM ?_
  all_goals rfl
 refine AJ (ι:={j:Nat//j<=1}) (λj=>⟨[(0,.p T9 s),(4,.p T9 s),(6,.p (.int .u64) 0),(7,.p (.int .i64) (j.1:Int))],[]⟩) (λj=>1-j.1) ⟨0,O1⟩ (AC [] rfl rfl ?_ ?_) (λj=>?_)
 .first|exact eN|refine eM ?_
 .first|exact eN|refine eM ?_
 obtain⟨j,f⟩:=j;simp only;repeat'(first|exact a6|apply eS rfl|apply AB|refine rP b ?_ ?_|fail)
 refine rC ?_ ?_<;>intro a
 .have e:j=0:=by exact eV
  subst e;repeat'(first|exact a6|apply eS rfl|apply AB|refine rX b ?_ ?_|refine rC ?_ ?_<;>intro a<;>try(cases a;done))
  .rw[h0];exact⟨a,df,df⟩
  .rw[h0];decide
  .exfalso;rw[h0]at a;exact absurd a df
  .rw[h0];decide
  .decide
  refine⟨⟨1,O1⟩,a2,AC [] rfl rfl ?_ ?_⟩
  .first|exact eN|refine eM ?_
   all_goals(first|rfl|(rw[h0];decide))
  first|exact eN|refine eM ?_
  all_goals(first|rfl|(rw[h0];decide))
 repeat'(first|exact a6|apply eS rfl|apply AB|refine rP b ?_ ?_|fail)
 refine rC ?_ ?_<;>intro a
 .exact absurd a (Int.lt_irrefl _)
 repeat'(first|exact a6|apply eS rfl|apply AB|refine rP b ?_ ?_|fail)
 refine rC ?_ ?_<;>intro a
 .cases a
 repeat'(first|exact a6|apply eS rfl|apply AB|refine rX b ?_ ?_|refine rC ?_ ?_<;>intro a<;>try(cases a;done))
 exact fI b [.tmp 2,.tmp 3]
def A8q:Ab:={ ins:=[XC],pre:=λ(r,_)=>(r:Hb).2.2.2.1=[⟨#[104]⟩,⟨#[104]⟩]/\(r:Hb).2.2.2.2=[⟨#[48]⟩,⟨#[48]⟩],out:=λ_=>[.p CH [0,0],.p Cj [⟨#[104]⟩],.p C3 0] }
theorem A8r:Af Tryz.prog 74 A8q:=by
 refine fK [0,1,2,3,4,5,6,7,8,9,10,11,12,13,14,20,33,44,49,73,77,81,88] Tryz.func74 Tryz.ntmps74 (AG A5M (AG VM AH)) ?_;rintro w0 O0 ⟨⟨s,n,e,so,te⟩,u⟩ a-⟨h1,d⟩;have h1:so=[⟨#[104]⟩,⟨#[104]⟩]:=h1;have d:te=[⟨#[48]⟩,⟨#[48]⟩]:=d;subst h1;subst d;have l:∀i:Nat,i<2->([(⟨#[48]⟩:ByteArray),⟨#[48]⟩]).getD i ByteArray.empty=⟨#[48]⟩:=λi hi=>by
  match i,hi with
  | 0,_=>rfl
  | 1,_=>rfl
 have ht:∀i:Nat,i<2->([0,0]:List Int).take i++[0]=([0,0]:List Int).take (i+1):=λi hi=>by
  match i,hi with
  | 0,_=>rfl
  | 1,_=>rfl
 have hh:∀i:Nat,i<2->([(⟨#[104]⟩:ByteArray),⟨#[104]⟩]).getD i ByteArray.empty=⟨#[104]⟩:=λi hi=>by
  match i,hi with
  | 0,_=>rfl
  | 1,_=>rfl
 have g:Ej [0,0] 0=0:=rfl;simp only[A8q,AM];repeat'(first|exact a6|apply eS rfl|apply AB|refine rP a ?_ ?_|fail)
 refine AJ (ι:={i:Nat//i<=2}) (λi=>⟨[(1,.bp 1 [] 0),(5,.sr 15 T3 0 (([0,0]:List Int).take i.1).length),(6,.p (.int .i64) (if i.1=0 then (-1:Int) else 0)),(7,.p (.int .i64) (i.1:Int))],[(15,.arr 3 T3 (([0,0]:List Int).take i.1)),(1,.box 133 true [.p T9 s,.p T3 n,.p C3 e,.p Cj [⟨#[104]⟩,⟨#[104]⟩],.p Cj [⟨#[48]⟩,⟨#[48]⟩]])]⟩) (λi=>2-i.1) ⟨0,O1⟩ (AC [(1,.nm 1),(15,.nm 15)] rfl rfl ?_ ?_) (λi=>?_)
 .first|exact eN|refine eM ?_
 .first|exact eN|refine eM ?_
 obtain⟨i,hi⟩:=i;simp only;repeat'(first|exact a6|apply eS rfl|apply AB|refine rP a ?_ ?_|fail)
 refine rC ?_ ?_<;>intro b
 .have c:i<2:=by exact eV
  repeat'(first|exact a6|apply eS rfl|apply AB|refine rX a ?_ ?_|refine rC ?_ ?_<;>intro b<;>try(cases b;done))
  .exact⟨b,l i c⟩
  .simp only[AP,Of];omega
  .exact eV
  have h:(if (if i=0 then (-1:Int) else 0)<0 then (0:Int) else (if i=0 then (-1:Int) else 0))=(if i+1=0 then (-1:Int) else 0):=by
   rw[An (AD5 i)];by_cases q:i=0
   .rw[At q];rfl
   rw[An q];rfl
  refine⟨⟨i+1,O1⟩,a2,AC [(1,.nm 1),(15,.nm 15)] rfl rfl ?_ ?_⟩
  .simp only[<-ht i c];first|exact eN|refine eM ?_
   all_goals(rw[h,An (AD5 i)])
  simp only[<-ht i c];first|exact eN|refine eM ?_
  all_goals(rw[h,An (AD5 i)])
 have c:i=2:=by exact eV
 subst c;repeat'(first|exact a6|apply eS rfl|apply AB|refine rP a ?_ ?_|fail)
 refine C9 [15] ?_;refine AJ (ι:={j:Nat//j<=2}) (λj=>⟨[(1,.bp 1 [] 0),(5,.p CH [0,0]),(6,.p (.int .i64) 0),(10,.p (.int .i64) (j.1:Int))],[(1,.box 133 true [.p T9 s,.p T3 n,.p C3 e,.p Cj [⟨#[104]⟩,⟨#[104]⟩],.p Cj [⟨#[48]⟩,⟨#[48]⟩]])]⟩) (λj=>2-j.1) ⟨0,O1⟩ (AC [(1,.nm 1)] rfl rfl ?_ ?_) (λj=>?_)
 .first|exact eN|refine eM ?_
 .first|exact eN|refine eM ?_
 obtain⟨j,m⟩:=j;simp only;repeat'(first|exact a6|apply eS rfl|apply AB|refine rP a ?_ ?_|fail)
 refine rC ?_ ?_<;>intro b
 .have o:j<2:=by exact eV
  repeat'(first|exact a6|apply eS rfl|apply AB|refine rP a ?_ ?_|fail)
  refine AJ (ι:={k:Nat//k<=j}) (λk=>⟨[(1,.bp 1 [] 0),(5,.p CH [0,0]),(6,.p (.int .i64) 0),(10,.p (.int .i64) (j:Int)),(11,.p (.int .i64) (k.1:Int))],[(1,.box 133 true [.p T9 s,.p T3 n,.p C3 e,.p Cj [⟨#[104]⟩,⟨#[104]⟩],.p Cj [⟨#[48]⟩,⟨#[48]⟩]])]⟩) (λk=>j-k.1) ⟨0,O1⟩ (AC [(1,.nm 1)] rfl rfl ?_ ?_) (λk=>?_)
  .first|exact eN|refine eM ?_
  .first|exact eN|refine eM ?_
  obtain⟨k,hk⟩:=k;simp only;repeat'(first|exact a6|apply eS rfl|apply AB|refine rX a ?_ ?_|refine rC ?_ ?_<;>intro b<;>try(cases b;done))
  .exact⟨eV,eV,λ_=>by exact eV,λ_=>by exact eV⟩
  .exfalso;have q:=b.2;rw[hh k eV,hh j eV]at q;exact absurd q a3
  .exact eV
  .refine⟨⟨k+1,eV⟩,by simp only;exact eV,AC [(1,.nm 1)] rfl rfl ?_ ?_⟩
   .first|exact eN|refine eM ?_
   first|exact eN|refine eM ?_
  .exact eV
  refine⟨⟨j+1,eV⟩,by simp only;exact eV,AC [(1,.nm 1)] rfl rfl ?_ ?_⟩
  .first|exact eN|refine eM ?_
  first|exact eN|refine eM ?_
 repeat'(first|exact a6|apply eS rfl|apply AB|refine rP a ?_ ?_|fail)
 refine rC ?_ ?_<;>intro b
 .exact absurd b df
 repeat'(first|exact a6|apply eS rfl|apply AB|refine rP a ?_ ?_|fail)
 refine AJ (ι:={i:Nat//i<=1}) (λi=>⟨[(1,.bp 1 [] 0),(5,.p CH [0,0]),(6,.p (.int .i64) 0),(12,.sr 78 T9 0 (([⟨#[104]⟩]:List ByteArray).take i.1).length),(13,.p (.int .i64) (i.1:Int))],[(78,.arr 9 T9 (([⟨#[104]⟩]:List ByteArray).take i.1)),(1,.box 133 true [.p T9 s,.p T3 n,.p C3 e,.p Cj [⟨#[104]⟩,⟨#[104]⟩],.p Cj [⟨#[48]⟩,⟨#[48]⟩]])]⟩) (λi=>1-i.1) ⟨0,O1⟩ (AC [(1,.nm 1),(78,.nm 78)] rfl rfl ?_ ?_) (λi=>?_)
 .first|exact eN|refine eM ?_
 .first|exact eN|refine eM ?_
 obtain⟨i,hi⟩:=i;simp only;repeat'(first|exact a6|apply eS rfl|apply AB|refine rP a ?_ ?_|fail)
 refine rC ?_ ?_<;>intro b
 .have f:i=0:=by exact eV
  subst f;repeat'(first|exact a6|apply eS rfl|apply AB|refine rX a ?_ ?_|refine rC ?_ ?_<;>intro b<;>try(cases b;done))
  .rw[g];exact⟨⟨df,df⟩,df⟩
  .decide
  refine⟨⟨1,O1⟩,a2,AC [(1,.nm 1),(78,.nm 78)] rfl rfl ?_ ?_⟩
  .first|exact eN|refine eM ?_
   all_goals(rw[g];rfl)
  first|exact eN|refine eM ?_
  all_goals(rw[g];rfl)
 have f:i=1:=by exact eV
 subst f;repeat'(first|exact a6|apply eS rfl|apply AB|refine rP a ?_ ?_|fail)
 refine C9 [78] ?_;exact fI a [.tmp 2,.tmp 3,.tmp 4]
def AA5 (c:Int):Hb->Prop:=λr=>r.1.size<=1000/\r.2.2.1=0/\0<=r.2.1/\r.2.1<(r.1.size:Int)/\NV r.1 r.2.1.toNat=c
def nM:Ab:={ ins:=[XC],pre:=λ(r,_)=>AA5 125 r,out:=λ(r,_)=>[.p XC ((r:Hb).1,(r:Hb).2.1+1,(0:Int),(r:Hb).2.2.2.1,(r:Hb).2.2.2.2),.p NF []] }
theorem A2M:Af Tryz.prog 71 nM:=by
 refine fKP [0,1,2,3,4,5,6,7,21,51] [8] [] Tryz.func71 Tryz.ntmps71 (AG A2L (AG bM AH)) ?_;rintro w0 O0 ⟨⟨s,n,e,so,te⟩,u⟩ f-⟨h0,h1,a,d,b⟩;have h0:s.size<=1000:=h0;have h1:e=0:=h1;have a:0<=n:=a;have d:n<(s.size:Int):=d;have b:NV s n.toNat=125:=b;subst h1;have hn:nxB (s,n,0,so,te) 125=true:=by
  unfold nxB;simp only[b];simpa using d
 simp only[nM,AM];repeat'(first|exact a6|apply eS rfl|apply AB|refine rP f ?_ ?_|fail)
 refine AJ (ι:={i:Nat//i<=0}) (λi=>⟨[(1,.bp 1 [] 0),(2,.bp 2 [] 0),(4,.p NF [])],[(2,.box 133 true [.p T9 ByteArray.empty,.p T3 0,.p C3 0,.raw (.slice none 0 0),.raw (.slice none 0 0)]),(1,.box 133 true [.p T9 s,.p T3 n,.p C3 0,.p Cj so,.p Cj te])]⟩) (λi=>0) ⟨0,O1⟩ (AC [(1,.nm 1),(2,.nm 2)] rfl rfl ?_ ?_) (λi=>?_)
 .first|exact eN|refine eM ?_
 .first|exact eN|refine eM ?_
 repeat'(first|exact a6|apply eS rfl|apply AB|refine rX f ?_ ?_|refine rC ?_ ?_<;>intro c<;>try(cases c;done))
 .exact λ_=>a
 .rw[hn]at c;cases c
 .refine⟨h0,a,?_,λi hi=>?_⟩
  .have:((⟨#[125]⟩:ByteArray).size:Int)=1:=rfl;rw[this];exact eV
  have hi:i<1:=hi;have g:i=0:=by omega
  subst g;exact b
 exact fI f [.cell 2 133,.tmp 3] (by first|exact eR|refine OC ?_;rfl)
def nN:Ab:={ ins:=[XC],pre:=λ(r,_)=>AA5 125 r,out:=λ(r,_)=>[.p XC ((r:Hb).1,(r:Hb).2.1+1,(0:Int),(r:Hb).2.2.2.1,(r:Hb).2.2.2.2),.p Ot []] }
theorem A2N:Af Tryz.prog 72 nN:=by
 refine fKP [0,1,2,3,4,5,6,20,41] [7] [] Tryz.func72 Tryz.ntmps72 (AG A2L (AG bM AH)) ?_;rintro w0 O0 ⟨⟨s,n,e,so,te⟩,u⟩ f-⟨h0,h1,a,d,b⟩;have h0:s.size<=1000:=h0;have h1:e=0:=h1;have a:0<=n:=a;have d:n<(s.size:Int):=d;have b:NV s n.toNat=125:=b;subst h1;have hn:nxB (s,n,0,so,te) 125=true:=by
  unfold nxB;simp only[b];simpa using d
 simp only[nN,AM];repeat'(first|exact a6|apply eS rfl|apply AB|refine rP f ?_ ?_|fail)
 refine AJ (ι:={i:Nat//i<=0}) (λi=>⟨[(1,.bp 1 [] 0),(2,.bp 2 [] 0),(4,.p Ot [])],[(2,.box 133 true [.p T9 ByteArray.empty,.p T3 0,.p C3 0,.raw (.slice none 0 0),.raw (.slice none 0 0)]),(1,.box 133 true [.p T9 s,.p T3 n,.p C3 0,.p Cj so,.p Cj te])]⟩) (λi=>0) ⟨0,O1⟩ (AC [(1,.nm 1),(2,.nm 2)] rfl rfl ?_ ?_) (λi=>?_)
 .first|exact eN|refine eM ?_
 .first|exact eN|refine eM ?_
 repeat'(first|exact a6|apply eS rfl|apply AB|refine rX f ?_ ?_|refine rC ?_ ?_<;>intro c<;>try(cases c;done))
 .exact λ_=>a
 .rw[hn]at c;cases c
 .refine⟨h0,a,?_,λi hi=>?_⟩
  .have:((⟨#[125]⟩:ByteArray).size:Int)=1:=rfl;rw[this];exact eV
  have hi:i<1:=hi;have g:i=0:=by omega
  subst g;exact b
 exact fI f [.cell 2 133,.tmp 3] (by first|exact eR|refine OC ?_;rfl)
end
section
attribute [local go_sem] sB A8q nM nN i7 OK K8 KY cs2 My Jk Io NG
def AA6:ByteArray:=⟨#[104,48,32,104,48,32,123,125,32,123,125]⟩
def bN:CJ:=(0,0,[⟨#[104]⟩],[],[])
def A8s:Ab:={ ins:=[T9],pre:=λ(s,_)=>(s:ByteArray)=AA6,out:=λ_=>[.p oZ bN,.p C3 0] }
theorem A8t:Af Tryz.prog 30 A8s:=by
 refine fKP [0,2,3,4,5,6,7,8,9,10,11,12,13,14,15,16,17,18,21,67,72,83,102,129,171,201] [23,24,26] [] Tryz.func30 Tryz.ntmps30 (AG bM (AG A2M (AG A2N (AG A8r (AG eO AH))))) ?_;rintro w0 O0 ⟨s,u⟩ a-hs;have hs:s=AA6:=hs;have d:s.size=11:=by rw[hs];rfl
 have v1:s.extract 0 1=⟨#[104]⟩:=by rw[hs];decide +kernel
 have r:NV s 1=48:=by rw[hs];rfl
 have t:s.extract 1 2=⟨#[48]⟩:=by rw[hs];decide +kernel
 have v4:s.extract 3 4=⟨#[104]⟩:=by rw[hs];decide +kernel
 have v:NV s 4=48:=by rw[hs];rfl
 have v6:s.extract 4 5=⟨#[48]⟩:=by rw[hs];decide +kernel
 have c2:NV s 2=32:=by rw[hs];rfl
 have h:NV s 5=32:=by rw[hs];rfl
 have k:NV s 6=123:=by rw[hs];rfl
 have l:NV s 7=125:=by rw[hs];rfl
 have m:NV s 8=32:=by rw[hs];rfl
 have n:NV s 9=123:=by rw[hs];rfl
 have g:NV s 10=125:=by rw[hs];rfl
 clear hs;have c:s.size<=1000:=by omega
 have q:GM (0,0,[⟨#[104]⟩],[],[])=0:=by decide +kernel
 simp only[A8s,AM];repeat'(first|exact a6|apply eS rfl|apply AB|refine rP a ?_ ?_|fail)
 refine rC ?_ ?_<;>intro b
 .exfalso;exact eV
 repeat'(first|exact a6|apply eS rfl|apply AB|refine rP a ?_ ?_|fail)
 refine cP 1 a ?_ ?_
 .trivial
 refine rM a (sA s 0 [] [] c O1 O1 v1 r t sc sc) [(501,.nil),(502,.nil)] [] ?_ ?_ ?_
 .first|exact eN|refine eM ?_
 .first|exact eN|refine eM ?_
 rintro _ _ ⟨rfl,rfl⟩;refine⟨[(302,.nm 2),(501,.nm 501),(502,.nm 502)],.tup [.ag [.p T9 s,.p T3 2,.p C3 0,.sr 501 T9 0 1,.sr 502 T9 0 1],.p T3 0],[(302,.box 133 true [.p T9 s,.p T3 2,.p C3 0,.sr 501 T9 0 1,.sr 502 T9 0 1]),(501,.arr 9 T9 ([⟨#[104]⟩]:List ByteArray)),(502,.arr 9 T9 ([⟨#[48]⟩]:List ByteArray))],rfl,rfl,?_,?_,rfl,rfl,?_⟩
 .first|exact eN|refine eM ?_
  all_goals(first|rfl|decide|exact⟨rfl,rfl⟩)
 .first|exact eN|refine eM ?_
  all_goals(first|rfl|decide|exact⟨rfl,rfl⟩)
 refine rL a ?_ ?_
 .trivial
 repeat'(first|exact a6|apply eS rfl|apply AB|refine rP a ?_ ?_|fail)
 refine cP 1 a ?_ ?_
 .trivial
 refine rM a (A8p s ⟨#[32]⟩ 2 [⟨#[104]⟩] [⟨#[48]⟩] c O1 (by rw[d];decide) (λi hi=>by have hi:i<1:=hi;obtain rfl:i=0:=(by omega);exact c2)) [(501,.nm 501),(502,.nm 502)] [302,501,502] ?_ ?_ ?_
 .first|exact eN|refine eM ?_
 .first|exact eN|refine eM ?_
 rintro _ _ ⟨rfl,rfl⟩;refine⟨[(303,.nm 4),(501,.nm 501),(502,.nm 502)],.ag [.p T9 s,.p T3 3,.p C3 0,.sr 501 T9 0 1,.sr 502 T9 0 1],[(303,.box 133 true [.p T9 s,.p T3 3,.p C3 0,.sr 501 T9 0 1,.sr 502 T9 0 1]),(501,.arr 9 T9 ([⟨#[104]⟩]:List ByteArray)),(502,.arr 9 T9 ([⟨#[48]⟩]:List ByteArray))],rfl,rfl,?_,?_,rfl,rfl,?_⟩
 .first|exact eN|refine eM ?_
  all_goals(first|rfl|decide|exact⟨rfl,rfl⟩)
 .first|exact eN|refine eM ?_
  all_goals(first|rfl|decide|exact⟨rfl,rfl⟩)
 refine rL a ?_ ?_
 .trivial
 repeat'(first|exact a6|apply eS rfl|apply AB|refine rP a ?_ ?_|fail)
 refine cP 1 a ?_ ?_
 .trivial
 refine rM a (sA s 3 [⟨#[104]⟩] [⟨#[48]⟩] c O1 O1 v4 v v6 sc sc) [(501,.nm 501),(502,.nm 502)] [303,501,502] ?_ ?_ ?_
 .first|exact eN|refine eM ?_
 .first|exact eN|refine eM ?_
 rintro _ _ ⟨rfl,rfl⟩;refine⟨[(304,.nm 2),(501,.nm 501),(502,.nm 502)],.tup [.ag [.p T9 s,.p T3 5,.p C3 0,.sr 501 T9 0 2,.sr 502 T9 0 2],.p T3 1],[(304,.box 133 true [.p T9 s,.p T3 5,.p C3 0,.sr 501 T9 0 2,.sr 502 T9 0 2]),(501,.arr 9 T9 ([⟨#[104]⟩,⟨#[104]⟩]:List ByteArray)),(502,.arr 9 T9 ([⟨#[48]⟩,⟨#[48]⟩]:List ByteArray))],rfl,rfl,?_,?_,rfl,rfl,?_⟩
 .first|exact eN|refine eM ?_
  all_goals(first|rfl|decide|exact⟨rfl,rfl⟩)
 .first|exact eN|refine eM ?_
  all_goals(first|rfl|decide|exact⟨rfl,rfl⟩)
 refine rL a ?_ ?_
 .trivial
 repeat'(first|exact a6|apply eS rfl|apply AB|refine rP a ?_ ?_|fail)
 refine C9 [501,502] ?_;have f:(⟨#[32,123]⟩:ByteArray).size=2:=rfl;repeat'(first|exact a6|apply eS rfl|apply AB|refine rX a ?_ ?_|refine rC ?_ ?_<;>intro b<;>try(cases b;done))
 .refine⟨c,by rw[f,d];decide,λi hi=>?_⟩;have hi:i<2:=hi;rcases (by omega:i=0\/i=1) with rfl|rfl
  .exact h
  exact k
 .exact⟨c,rfl,by show (0:Int)<=5+((⟨#[32,123]⟩:ByteArray).size:Int);omega,by show (5:Int)+((⟨#[32,123]⟩:ByteArray).size:Int)<(s.size:Int);rw[f,d];decide,l⟩
 .refine⟨c,by rw[f];decide,by rw[f,d];decide,λi hi=>?_⟩;have hi:i<2:=hi;rcases (by omega:i=0\/i=1) with rfl|rfl
  .exact m
  exact n
 .exact⟨c,rfl,by show (0:Int)<=5+((⟨#[32,123]⟩:ByteArray).size:Int)+1+((⟨#[32,123]⟩:ByteArray).size:Int);omega,by show (5:Int)+((⟨#[32,123]⟩:ByteArray).size:Int)+1+((⟨#[32,123]⟩:ByteArray).size:Int)<(s.size:Int);rw[f,d];decide,g⟩
 .exfalso;rw[f,d]at b;exact absurd b df
 .exact⟨df,df⟩
 refine AJ (ι:={i:Nat//i<=0}) (λi=>⟨[(2,.bp 2 [] 0),(9,.bp 9 [] 0),(10,.p CH [0,0]),(13,.bp 13 [] 0),(14,.p (.int .i64) 0)],[(13,.box 41 true [.p T3 0,.p T3 0,.p Cj [⟨#[104]⟩],.raw (.slice none 0 0),.raw (.slice none 0 0)]),(9,.box 41 true [.p T3 0,.p T3 1,.raw (.slice none 0 0),.p NF [],.p Ot []]),(2,.box 41 true [.p T3 0,.p T3 0,.raw (.slice none 0 0),.raw (.slice none 0 0),.raw (.slice none 0 0)])]⟩) (λi=>0) ⟨0,O1⟩ (AC [(2,.nm 2),(9,.nm 9),(13,.nm 13)] rfl rfl ?_ ?_) (λi=>?_)
 .first|exact eN|refine eM ?_
  all_goals(first|rfl|exact⟨rfl,rfl⟩)
 .first|exact eN|refine eM ?_
  all_goals(first|rfl|exact⟨rfl,rfl⟩)
 repeat'(first|exact a6|apply eS rfl|apply AB|refine rX a ?_ ?_|refine rC ?_ ?_<;>intro b<;>try(cases b;done))
 refine AJ (ι:={j:Nat//j<=0}) (λj=>⟨[(2,.bp 2 [] 0),(9,.bp 9 [] 0),(10,.p CH [0,0]),(13,.bp 13 [] 0),(17,.p (.int .i64) 0)],[(13,.box 41 true [.p T3 0,.p T3 0,.p Cj [⟨#[104]⟩],.raw (.slice none 0 0),.raw (.slice none 0 0)]),(9,.box 41 true [.p T3 0,.p T3 1,.raw (.slice none 0 0),.p NF [],.p Ot []]),(2,.box 41 true [.p T3 0,.p T3 0,.raw (.slice none 0 0),.raw (.slice none 0 0),.raw (.slice none 0 0)])]⟩) (λj=>0) ⟨0,O1⟩ (AC [(2,.nm 2),(9,.nm 9),(13,.nm 13)] rfl rfl ?_ ?_) (λj=>?_)
 .first|exact eN|refine eM ?_
 .first|exact eN|refine eM ?_
 repeat'(first|exact a6|apply eS rfl|apply AB|refine rX a ?_ ?_|refine rC ?_ ?_<;>intro b<;>try(cases b;done))
 .exact⟨trivial,df,(λe o=>by cases o),df⟩
 .exact absurd q b
 exact fI a [.cell 2 41,.tmp 3] (by unfold bN;exact eR)
end
def Dl:AE:=([(ByteArray.mk #[116,111,112],[8191],[],[]),(ByteArray.mk #[105,110,100,101,120],[60],[0],[]),(ByteArray.mk #[108,105,115,116],[193],[0],[]),(ByteArray.mk #[99,111,110,115],[1],[2],[(2,0),(10,2)]),(ByteArray.mk #[100,108,105,115,116],[2],[0],[(6,2),(7,2)]),(ByteArray.mk #[101,110,116,105,116,121],[4],[1],[]),(ByteArray.mk #[101,118,101,110,116],[8],[1],[]),(ByteArray.mk #[104,97,110,100,108,101],[16],[1],[]),(ByteArray.mk #[110,117,108,108],[128],[2],[]),(ByteArray.mk #[113,101,113],[256],[0],[(3,7),(8,7)]),(ByteArray.mk #[114,101,108],[512],[0],[(5,7)]),(ByteArray.mk #[115,101,109],[1024],[0],[(1,4),(4,1),(9,4),(12,7)]),(ByteArray.mk #[115,105,103,110],[2048],[0],[(0,2),(11,11)])],[(ByteArray.mk #[65,82,71,83],12),(ByteArray.mk #[67,79,78,83],11),(ByteArray.mk #[70,73,82,83,84],3),(ByteArray.mk #[72,73,71,72],9),(ByteArray.mk #[73,78,68,69,88],11),(ByteArray.mk #[76,65,66,69,76],10),(ByteArray.mk #[76,65,83,84],4),(ByteArray.mk #[76,73,83,84],4),(ByteArray.mk #[76,79,87],9),(ByteArray.mk #[82,69,76,83],11),(ByteArray.mk #[82,69,83,84],3),(ByteArray.mk #[83,69,77],12),(ByteArray.mk #[84,79,80],11)])
instance baDec:DecidableEq ByteArray:=λa b =>
 if h:a.data.toList=b.data.toList then isTrue (by
  cases a
  cases b
  exact ABj ByteArray.mk (Array.toList_inj.1 h))
 else isFalse λe=>h (by rw[e])
theorem A2O:((M5 []).1:List (ByteArray×List Int×List Int×List (Int×Int)))=Dl.1:=by decide +kernel
theorem A2P:((M5 []).2:List (ByteArray×Int))=Dl.2:=by decide +kernel
theorem bO:M5 []=Dl:=ADg A2O A2P
theorem A5N:GV Dl:=by rw[<-bO];exact(show GV (if _ then _ else _) by split<;>exact Gn _)
theorem A2Q:JL Dl:=by rw[<-bO];exact(show JL (if _ then _ else _) by split<;>exact SZ _)
def AA7 (h:AE):Bool:=(h.2.all λx=>decide (0<=x.2)&&decide (x.2<(h.1.length:Int)))&&h.1.all λt=>t.2.2.2.all λp=>decide (0<=p.2)&&decide (p.2<(h.1.length:Int))
theorem A8u (e:AA7 h=true):bT h:=by
 unfold AA7 at e;rw[AT,NO,NO]at e;refine⟨λx b=>?_,λt ht p a=>?_⟩
 .have:=e.1 x b;simpa using this
 have:=NO.1 (e.2 t ht) p a;simpa using this
theorem A5O:bT Dl:=A8u a3
def sC (h:AE) (f:List AD):Bool:=decide (f.length<=100)&&f.all λx=>decide (x.2.length<=12)&&(decide (0<=x.1)&&decide (x.1<(h.1.length:Int)))&&x.2.all λa=>(decide (0<=a.1)&&decide (a.1<(h.2.length:Int)))&&(decide (0<=a.2)&&decide (a.2<(f.length:Int)))
theorem A8v (hk:GV h) (hi:JL h) (hf:bT h) (d:h.2.length<=100000) (e:sC h f=true):A1g h f/\FO f/\Sb f/\∀x∈f,x.2.length<=100:=by
 unfold sC at e;rw[AT,If,NO]at e;have c:∀x∈f,x.2.length<=12/\(0<=x.1/\x.1<(h.1.length:Int))/\∀a∈x.2,Js h f.length a:=λx b=>by
  have:=e.2 x b;rw[AT,AT,AT,If,If,If,NO]at this;refine⟨this.1.1,this.1.2,λa ha=>?_⟩;have:=this.2 a ha;rw[AT,AT,AT,If,If,If,If]at this;exact⟨this.1,this.2⟩
 refine⟨⟨hk,hi,hf,d,⟨O1,λx b=>⟨by have:=(c x b).1;omega,λa ha=>((c x b).2.2 a ha).2⟩⟩,λx b=>(c x b).2.2,λx b=>(c x b).2.1⟩,⟨O1,λx b=>by have:=(c x b).1;omega⟩,λx b=>⟨by have:=(c x b).1;omega,.inl (c x b).1⟩,λx b=>by have:=(c x b).1;omega⟩
section
attribute [local go_sem] IC Fx A8s A8j A27 aY QF QG iZ gB K8 KY My Jk Io NG
theorem AAT {α:Type} (a b c d e f g h i j k:UInt8) (x y:α):(if ({ data:=#[a,b,c,d,e,f,g,h,i,j,k] }:ByteArray).size<=AP then x else y)=x:=At (by show 11<=AP;decide)
attribute [local go_sem] AAT
theorem i8:(Ad Bq).2=0:=by decide +kernel
theorem Y5:(Ad Bq).1=Dl:=by
 rw[<-bO];unfold M5;split
 .rename_i q;exact absurd q.2 a3
 rfl
theorem Me:Fe Dl:=by
 rw[<-Y5];exact A2t [] i8
theorem AA8:r8 bN:=⟨a3,a3,df,df,df,λe a=>by cases a⟩
def Y6:List AD:=(mkF Dl bN).1
theorem A8w:(mkF Dl bN).2=0:=by decide +kernel
theorem A2R:sC Dl Y6=true/\0<Y6.length:=by decide +kernel
theorem A8x:(LO Dl Y6).2=0/\Qg bN (LO Dl Y6).1=true:=by decide +kernel
theorem A8y:(LO Dl [(0,[])]).2=13:=by decide +kernel
theorem A8z:AK (CP Dl (Aw Dl ⟨#[101,118,101,110,116]⟩)) ⟨#[101]⟩=true/\AK (CP Dl 0) ⟨#[]⟩=true:=by decide +kernel
theorem A8A:0<=Aw Dl ⟨#[101,118,101,110,116]⟩/\Aw Dl ⟨#[101,118,101,110,116]⟩<(Dl.1.length:Int)/\(0:Int)<(Dl.1.length:Int):=by decide +kernel
theorem sD (e:sC Dl f=true):AX f/\DU Dl f/\QV Dl f:=by
 obtain⟨h1,-,-,-⟩:=A8v A5N A2Q A5O a3 e;exact⟨h1.good,h1.ty,λx b a ha=>(h1.arcs x b a ha).1⟩
def sE:Ab:={ ins:=[],pre:=λ_=>True,out:=λ_=>[.p .bool true] }
theorem A5P:Af Tryz.prog 10 sE:=by
 refine fK [0,1,2,3,4,5,6,7,8,10] Tryz.func10 Tryz.ntmps10 (AG lR (AG VY (AG A8t (AG A2K (AG A28 (AG A4A (AG rV (AG A4C (AG iG AH))))))))) ?_;rintro w0 O0 u a - -;have f:Ad Bq=(Dl,0):=ADg Y5 i8;have m:(Dl.1,Dl.2)=Dl:=rfl;simp only[sE,AM];have o:(bN.1,bN.2.1,bN.2.2.1,bN.2.2.2.1,bN.2.2.2.2)=bN:=rfl;have v:(mkF Dl bN).1=Y6:=rfl;have c:=sD A2R.1;have g:=A8x;have n:=A2R.2;have ha:=A8w;repeat'(first|exact a6|apply eS rfl|apply AB|refine rP a ?_ ?_|fail)
 all_goals try simp only[f,m,o,v,ha]at *
 .rfl
 .exact⟨Me,AA8⟩
 .exact⟨Me.so,c.1,c.2.1,c.2.2,n⟩
 generalize Y6=G at *;have b:AX [((0:Int),([]:List (Int×Int)))]/\DU Dl [(0,[])]/\QV Dl [(0,[])]:=sD a3;refine Lz drawsAny a 8 [([0,1,2,3,4,6],7)] [5] a5 (mxA ?_ ?_)
 .exact⟨Me.so,b.1,b.2.1,b.2.2⟩
 refine mxL a [] ?_ ?_
 .trivial
 refine mxE a ?_ ?_ ?_
 .trivial
 .trivial
 have j:=A8y;obtain⟨k,l⟩:=A8z;obtain⟨r,s,t⟩:=A8A;have d:(Dl.1,Dl.2)=Dl:=rfl;have p:(bN.1,bN.2.1,bN.2.2.1,bN.2.2.2.1,bN.2.2.2.2)=bN:=rfl;have q:((LO Dl G).1.1,(LO Dl G).1.2.1,(LO Dl G).1.2.2.1,(LO Dl G).1.2.2.2.1,(LO Dl G).1.2.2.2.2)=(LO Dl G).1:=rfl;obtain⟨h,i⟩:=g;repeat'(first|exact a6|apply eS rfl|apply AB|refine rX a ?_ ?_|refine rC ?_ ?_<;>intro e<;>try(cases e;done))
 .simp only[d];exact⟨λ_=>⟨Me.so.1,r,s⟩,λ_=>⟨Me.so.1,t⟩⟩
 simp only[d,p,q,h,i,j,k,l];exact fI a [.tmp 0] (by first|exact eR|refine OC ?_;rfl)
end
section
attribute [local go_sem] aB OZ p6
theorem A6v {n:Nat} (d:YP l) (h:∀a∈l,0<=a.1/\a.1<(n:Int)):l.length<=n:=by
 have h1:(l.map λa=>a.1.toNat).Nodup:=by
  rw[List.Nodup,AAI];refine ACi ?_ d;intro a b ha c g e;have:=h a ha;have:=h b c;omega
 have:=DC n _ h1 (λj f=>by
  obtain⟨a,ha,rfl⟩:=Do.1 f;have:=h a ha;omega)
 simpa using this
theorem sF {ht:List FA} {hf:List Pw} (e:(A4 f).2=0) (i:f.all (Sz (ht,hf))=true) (j:hf.length<=64):Kk f:=by
 have b:B3 f=0:=by
  unfold A4 at e;split at e
  .assumption
  exact e
 have g:Gv (f.length:Int) f=0:=by
  unfold B3 at b;split at b
  .cases b
  split at b
  .cases b
  exact b
 intro x d;have h1:=P9 g x d;have h:=IH g x d;have c:=NO.1 i x d;unfold Sz at c;rw[AT,NO]at c;have:=A6v (n:=hf.length) h1 λa ha=>⟨(h.2 a ha).1,by
  have:=c.2 a ha;unfold p9 at this;simpa using this⟩
 omega
def Qi:Ab:={ ins:=[GH,Ff],pre:=λ(h,f,_)=>List.length (h:AE).2<=64/\List.length f<=100000/\MS f,out:=λ(h,f,_)=>[.p C3 (Cf h f)] }
theorem nP:Af Tryz.prog 13 Qi:=by
 refine fK [0,1,2,3,4,5,6,7,8,9,16,22,35,40,52,56] Tryz.func13 Tryz.ntmps13 (AG YV (AG f6 AH)) ?_;rintro w0 O0 ⟨⟨ht,hf⟩,f,u⟩ c-hs;obtain⟨l,n,hs⟩:=hs;have l:hf.length<=64:=l;have n:f.length<=100000:=n;have hs:MS f:=hs;simp only[Qi,AM];repeat'(first|exact a6|apply eS rfl|refine rX c ?_ ?_|refine rC ?_ ?_<;>intro a<;>try(cases a;done))
 .exact hs
 .have h1:Cf (ht,hf) f=(A4 f).2:=by unfold Cf;rw[At a]
  exact fI c [.tmp 4] (by rw[h1];exact eR)
 have s:(A4 f).2=0:=by simpa using a
 have t:=n;have d:Cf (ht,hf) f=if f.all (Sz (ht,hf))=false then 2 else if (Dg f (A4 f).1==0)=false then 3 else 0:=by unfold Cf;rw[An (by rw[s];simp)]
 refine AJ (ι:={i:Nat//i<=f.length/\(f.take i).all (Sz (ht,hf))=true}) (λi=>⟨[(2,.bp 2 [] 0),(3,.bp 3 [] 0),(5,.bp 5 [] 0),(7,.p (.int .i64) (i.1:Int))],[(2,.box 26 true [.p SM ht,.p TW hf]),(3,.box 34 true [.p J1 f]),(5,.box 34 true [.p J1 (A4 f).1])]⟩) (λi=>f.length-i.1) ⟨0,sc⟩ (eW [(2,.nm 2),(3,.nm 3),(5,.nm 5)]) (λi=>?_)
 obtain⟨i,hi,g⟩:=i;have v:=λh:i<f.length=>GJ f (0,[]) (Sz (ht,hf)) h;simp only;repeat'(first|exact a6|apply eS rfl|refine rX c ?_ ?_|refine rC ?_ ?_<;>intro a<;>try(cases a;done))
 .exact a
 .have b:i<f.length:=aT.1 a4;have e:f.all (Sz (ht,hf))=false:=by
   rw[ABA];refine⟨_,AF f (0,[]) b,?_⟩;unfold Sz;rw[AC6 (ABh.2 a)];simp
  rw[At e]at d;exact fI c [.tmp 4] (by rw[d];exact eR)
 .have b:i<f.length:=aT.1 a4;have o:=AF f (0,[]) b;have q:Sz (ht,hf) (f.getD i (0,[]))=(f.getD i (0,[])).2.all (p9 (ht,hf)):=by
   unfold Sz;rw[ABm (show (f.getD i (0,[])).1<(ht.length:Int) from a)];rfl
  have x:(f.getD i (0,[])).2.length<=8796093022207:=hs _ o;refine AJ (ι:={k:Nat//k<=(f.getD i (0,[])).2.length/\((f.getD i (0,[])).2.take k).all (p9 (ht,hf))=true}) (λk=>⟨[(2,.bp 2 [] 0),(3,.bp 3 [] 0),(5,.bp 5 [] 0),(7,.p (.int .i64) (i:Int)),(8,.bp 8 [] 0),(9,.p (.int .i64) (k.1:Int))],[(2,.box 26 true [.p SM ht,.p TW hf]),(3,.box 34 true [.p J1 f]),(5,.box 34 true [.p J1 (A4 f).1]),(8,.box 57 true [.p T3 (f.getD i (0,[])).1,.p L5 (f.getD i (0,[])).2])]⟩) (λk=>(f.getD i (0,[])).2.length-k.1) ⟨0,sc⟩ (eW [(2,.nm 2),(3,.nm 3),(5,.nm 5),(8,.nm 8)]) (λk=>?_)
  obtain⟨k,hk,m⟩:=k;have w:=λh:k<(f.getD i (0,[])).2.length=>GJ (f.getD i (0,[])).2 (0,0) (p9 (ht,hf)) h;simp only;repeat'(first|exact a6|apply eS rfl|apply AB|refine rX c ?_ ?_|refine rC ?_ ?_<;>intro a<;>try(cases a;done))
  .exact a
  .have j:k<(f.getD i (0,[])).2.length:=aT.1 a4;have e:f.all (Sz (ht,hf))=false:=by
    rw[ABA];refine⟨_,o,?_⟩;rw[q,ABA.2 ⟨_,AF (f.getD i (0,[])).2 (0,0) j,by unfold p9;rw[AC6 (ABh.2 a)];simp⟩];simp
   rw[At e]at d;exact fI c [.tmp 4] (by rw[d];exact eR)
  .exact eV
  .have j:k<(f.getD i (0,[])).2.length:=aT.1 a4;refine⟨⟨k+1,j,?_⟩,a2,AC [(2,.nm 2),(3,.nm 3),(5,.nm 5),(8,.nm 8)] rfl rfl ?_ ?_⟩
   .rw[w j,m];unfold p9;exact ABm a
   .exact eN
   exact eN
  .exact eV
  have j:(f.getD i (0,[])).2.take k=(f.getD i (0,[])).2:=BY (AAf.1 a);rw[j]at m;refine⟨⟨i+1,b,?_⟩,a2,AC [(2,.nm 2),(3,.nm 3),(5,.nm 5)] rfl rfl ?_ ?_⟩
  .rw[v b,g,q,m];rfl
  .exact eN
  exact eN
 .have b:f.take i=f:=BY (AAf.1 a4);rw[b]at g;have r:=sF s g l;exact⟨⟨t,r⟩,Sc r⟩
 .have b:f.take i=f:=BY (AAf.1 a4);rw[b]at g;rw[An (by rw[g];simp),At (by simpa using a)]at d;exact fI c [.tmp 4] (by rw[d];exact eR)
 have b:f.take i=f:=BY (AAf.1 a4);rw[b]at g;rw[An (by rw[g];simp),An (by rw[a];simp)]at d;exact fI c [.tmp 4] (by rw[d];exact eR)
end
section
attribute [local go_sem] bI Qi Ju sE A27 iZ K8 KY My Jk Io NG
theorem Tw {g:Nat->Option Bool} (h:∀i,g i=none) (k i:Nat):Ap g true k i=true:=HR k i λj _ _=>h j
theorem wJ (m:CJ):Qg m m=true:=by
 have f:∀l i,eqV l l i=none:=λl i=>by unfold eqV;rw[At (B9 _)]
 have a:∀l i,eqA l l i=none:=λl i=>by
  unfold eqA;rw[At (by rw[B9,ACa];exact AD4 _)]
 have b:∀e,iY e e=true:=λe=>by
  unfold iY;rw[B9,Tw (a _)];simp
 have d:∀l i,eqR l l i=none:=λl i=>by unfold eqR;rw[At (b _)]
 have c:∀l i,eqQ l l i=none:=λl i=>by unfold eqQ;rw[At sc]
 unfold Qg nH;rw[Tw (f _),Tw (d _),Tw (c _)];simp
theorem sG (p:Fe h) (e:Cf h f=0):A1V h f/\JM f/\FO f/\0<f.length/\VF h f:=by
 have hh:=p.h14;unfold Cf at e;split at e
 .rename_i q;exact absurd e q
 rename_i h1;split at e
 .cases e
 rename_i g;split at e
 .cases e
 rename_i k;have h1:(A4 f).2=0:=DO h1;have g:f.all (Sz h)=true:=by simpa using g
 have k:Dg f (A4 f).1=0:=by simpa using k
 have w:Kk f:=sF (ht:=h.1) (hf:=h.2) h1 g hh.b2;have d:B3 f=0:=by
  unfold A4 at h1;split at h1
  .assumption
  exact h1
 obtain⟨j,h0⟩:=Kl d w;have t:Gv (f.length:Int) f=0:=by
  unfold B3 at d;split at d
  .cases d
  split at d
  .cases d
  exact d
 have v:=P9 t;have s:=IH t;have r:f=Gq f 0:=by
  have:=gC k;unfold A4 at this
  rwa [At d]at this
 have u:∀x∈f,uX x.2:=by
  intro x b;rw[r]at b;obtain⟨n,-,rfl⟩:=Do.1 b;show uX ((Ae (f.getD n.toNat (0,[])).2).map _);have c:YP (f.getD n.toNat (0,[])).2:=by
   by_cases hi:n.toNat<f.length
   .exact v _ (Ac hi)
   rw[AS,oN O1];exact List.Pairwise.nil
  have i:=IE c;unfold uX at i ⊢;rw[AAI];exact i
 have l:∀x∈f,∀a∈x.2,0<=a.1/\a.1<(h.2.length:Int):=λx b a ha=>by
  have c:=NO.1 g x b;unfold Sz at c;rw[AT,NO]at c;have i:=c.2 a ha;unfold p9 at i;exact⟨((s x b).2 a ha).1,by simpa using i⟩
 have y:DU h f:=λx b=>by
  have c:=NO.1 g x b;unfold Sz at c;rw[AT,If]at c;exact⟨(s x b).1,c.1⟩
 have z:∀x∈f,x.2.length<=64:=λx b=>aS (A6v (n:=h.2.length) (v x b) (l x b)) hh.b2;have m:JM f:=λx b=>⟨Tf (u x b),by have:=z x b;omega⟩;have A:wP f:=A0Y m;have o:AN f 0=f:=by
  have:=Iw j A (ABt 0) O1;rw[YR m]at this;rw[<-this];exact r.symm
 have B:RO f:=by
  have:=qY j (ABt 0) (show (0:Int)<(f.length:Int) by omega)
  rwa [o]at this
 exact⟨⟨hh.ok,j,y,l⟩,m,⟨j.1,w⟩,h0,⟨j,h0,y,u,l,o,B⟩⟩
theorem szB (ds:IV [Ez,Ff]) (h:SzA [Ez,Ff] ds):MS ds.2.1:=by
 intro x c;have h1:List.length ds.2.1*(TX).bts<=reachBytes/\∀x∈(ds.2.1:List AD),o0 TX x:=h.2.1;have a:List.length x.2*(C4).bts<=reachBytes:=(h1.2 x c).2.1;have b:(C4).bts=16:=rfl;rw[b]at a;simp only[reachBytes]at a;omega
end
section
attribute [local go_sem] JN fV K8 KY My Jk Io NG
def Gz (h:AE) (f:List AD):List AD:=f.set 0 ((f.getD 0 (0,[])).1,(f.getD 0 (0,[])).2.filter λa=>a.1==BO h ⟨#[83,69,77]⟩)
def Oo (h:AE) (f:List AD):List AD:=Gq (Gz h f) 0
def nQ:Ab:={ ins:=[GH,Ff],pre:=λ(h,f,_)=>AX f/\0<List.length f,out:=λ(h,f,_)=>[.p Ff (Oo h f)] }
theorem AA9 {e:Int} (h:x.1=e):[x].filter (λa=>a.1==e)=[x]:=by simp[h]
theorem AAa {e:Int} (h:¬x.1=e):[x].filter (λa=>a.1==e)=[]:=by simp[h]
theorem i9 (b:AX f) (h0:0<f.length):AX (Gz h f)/\(Gz h f).length=f.length:=by
 have c:(Gz h f).length=f.length:=AAp ..;refine⟨⟨by rw[c];exact b.1,λx e=>?_⟩,c⟩;rw[c];rcases AB2 e with e|rfl
 .exact b.2 x e
 have:=b.2 _ (Ac (d:=((0,[]):AD)) h0);exact⟨aS (AB8 _ _) this.1,λa ha=>this.2 a (ABc.1 ha).1⟩
theorem A2S:Af Tryz.prog 25 nQ:=by
 refine fKP [0,1,2,3,4,5,6,7,9,27,28,29,30,36] [40] [] Tryz.func25 Tryz.ntmps25 (AG A7L (AG A4q AH)) ?_;rintro w0 O0 ⟨h,f,u⟩ b-⟨c,h0⟩;have c:AX f:=c;have h0:0<f.length:=h0;have o:(h.1,h.2)=h:=rfl;simp only[nQ,AM];repeat'(first|exact a6|apply eS rfl|apply AB|refine rP b ?_ ?_|fail)
 .have:=c.1;simp only[AP];omega
 .exact aT.2 h0
 .exact aT.2 h0
 simp only[o];have s:(f.getD 0 (0,[])).2.length<=100000:=(c.2 _ (Ac h0)).1;have k:=i9 (h:=h) c h0;have m:Gz h f=f.set 0 ((f.getD 0 (0,[])).1,(f.getD 0 (0,[])).2.filter λa=>a.1==BO h ⟨#[83,69,77]⟩):=rfl;have r:Oo h f=Gq (Gz h f) 0:=rfl;rw[r];generalize BO h ⟨#[83,69,77]⟩=e at *;generalize w:f.getD 0 (0,[])=x at *;obtain⟨t,l⟩:=x;simp only at s m;refine AJ (ι:={i:Nat//i<=l.length}) (λi=>⟨[(2,.bp 2 [] 0),(3,.bp 3 [] 0),(4,.bp 4 [] 0),(5,.p T3 e),(6,.bp 6 [] 0),(7,.bp 7 [] 0),(27,.p L5 l),(28,.p (.int .i64) (l.length:Int)),(29,.p (.int .i64) (i.1:Int))],[(7,.box 57 true [.p T3 t,.sr 41 C4 0 ((l.take i.1).filter λa=>a.1==e).length]),(41,.arr 59 C4 ((l.take i.1).filter λa=>a.1==e)),(6,.box 34 true [.sr 12 TX 0 f.length]),(12,.arr 57 TX f),(4,.box 34 true [.raw (.slice none 0 0)]),(3,.box 34 true [.p J1 f]),(2,.box 26 true [.p SM h.1,.p TW h.2])]⟩) (λi=>l.length-i.1) ⟨0,GO _⟩ (AC [(2,.nm 2),(3,.nm 3),(4,.nm 4),(6,.nm 6),(7,.nm 7),(12,.nm 12),(41,.nil)] rfl rfl ?_ ?_) (λi=>?_)
 .first|exact eN|refine eM ?_
  all_goals(first|rfl|exact⟨rfl,rfl⟩)
 .first|exact eN|refine eM ?_
  all_goals(first|rfl|exact⟨rfl,rfl⟩)
 obtain⟨i,hi⟩:=i;have j:=λq:i<l.length=>Ay l (0,0) q;simp only;repeat'(first|exact a6|apply eS rfl|apply AB|refine rP b ?_ ?_|fail)
 refine rC ?_ ?_<;>intro g
 .have d:i<l.length:=by exact eV
  have j:=j d;repeat'(first|exact a6|apply eS rfl|apply AB|refine rP b ?_ ?_|fail)
  .exact g
  refine rC ?_ ?_<;>intro g
  .have hf:(l.take (i+1)).filter (λa=>a.1==e)=(l.take i).filter (λa=>a.1==e)++[l.getD i (0,0)]:=by
    rw[j,ABF];rw[AA9 g]
   have v:((l.take i).filter λa=>a.1==e).length<=i:=aS (AB8 _ _) (by rw[Of];omega);repeat'(first|exact a6|apply eS rfl|apply AB|refine rP b ?_ ?_|fail)
   .simp only[AP];omega
   .exact eV
   refine⟨⟨i+1,d⟩,a2,AC [(2,.nm 2),(3,.nm 3),(4,.nm 4),(6,.nm 6),(7,.nm 7),(12,.nm 12),(41,.nm 41)] rfl rfl ?_ ?_⟩
   .simp only[hf];first|exact eN|refine eM ?_
   simp only[hf];first|exact eN|refine eM ?_
  have hf:(l.take (i+1)).filter (λa=>a.1==e)=(l.take i).filter (λa=>a.1==e):=by
   rw[j,ABF];rw[AAa g];exact AAu _
  repeat'(first|exact a6|apply eS rfl|apply AB|refine rP b ?_ ?_|fail)
  .exact eV
  refine⟨⟨i+1,d⟩,a2,AC [(2,.nm 2),(3,.nm 3),(4,.nm 4),(6,.nm 6),(7,.nm 7),(12,.nm 12),(41,.nm 41)] rfl rfl ?_ ?_⟩
  .simp only[hf];first|exact eN|refine eM ?_
  simp only[hf];first|exact eN|refine eM ?_
 have d:l.take i=l:=BY eV;rw[d];refine C9 [41] ?_;repeat'(first|exact a6|apply eS rfl|apply AB|refine rP b ?_ ?_|fail)
 .exact aT.2 h0
 rw[<-m];have n:(Gz h f).take f.length=Gz h f:=BY (by rw[k.2];exact OS _);refine C9 [12] ?_;repeat'(first|exact a6|apply eS rfl|apply AB|refine rP b ?_ ?_|fail)
 .rw[n];exact⟨k.1,by rw[k.2];exact aT.2 h0⟩
 exact fI b [.cell 4 34] (by rw[n];exact eR)
end
theorem A5Q {T:List AD} (hT:AX T) {r:Int} (s:0<=r) (t:r<(T.length:Int)) :
  Iso (AN T r) T (λi=>(Dn T T.length [] r).getD i.toNat 0) (λi=>0<=i/\i<((AN T r).length:Int)) /\
  (∀i,0<=i->i<((AN T r).length:Int)->(0<=(Dn T T.length [] r).getD i.toNat 0/\(Dn T T.length [] r).getD i.toNat 0<(T.length:Int))/\(T.getD ((Dn T T.length [] r).getD i.toNat 0).toNat (0,[])).1=((AN T r).getD i.toNat (0,[])).1) /\
  (Dn T T.length [] r).getD 0 0=r/\(AN T r).length<=T.length:=by
 have c:=Iy hT s t;have n:=Jw T r;have h:=λi=>Jv (f:=T) (r:=r) (i:=i);generalize AN T r=U at *;generalize Dn T T.length [] r=o at *;have u:=c.ok.len;have d:∀i:Int,0<=i->i<(o.length:Int)->o.getD i.toNat 0∈o/\E1 o (o.getD i.toNat 0)=i:=λi g l=>by
  refine⟨AF o 0 O1,?_⟩;rw[IL c.ok.nd O1];omega
 have k:∀i:Int,0<=i->i<(o.length:Int)->Ak U i=(Ak T (o.getD i.toNat 0)).map (LN o):=λi g l=>by
  rw[Ak,h i.toNat O1];rfl
 refine⟨⟨λi hi=>?_,λi hi a ha=>?_,λi j hi q e=>?_⟩,λi g l=>⟨c.ok.rng _ (d i g O1).1,?_⟩,c.zero.1,O1⟩
 .rw[k i hi.1 O1,AAU];have:∀a∈Ak T (o.getD i.toNat 0),((λa:Int×Int=>(a.1,o.getD a.2.toNat 0))∘LN o) a=a:=λa ha=>by
   show (a.1,o.getD (E1 o a.2).toNat 0)=a;rw[(D7 (c.cl _ (d i hi.1 O1).1 a ha)).2.2]
  rw[oS this,ADd]
 .rw[k i hi.1 O1]at ha;obtain⟨b,p,rfl⟩:=Do.1 ha;have:=D7 (c.cl _ (d i hi.1 O1).1 b p);rw[n];exact⟨this.1,this.2.1⟩
 .have h1:=(d i hi.1 O1).2;have m:=(d j q.1 O1).2;have e:o.getD i.toNat 0=o.getD j.toNat 0:=e;rw[<-h1,<-m,e]
 rw[h i.toNat O1];rfl
structure Prt (U f:List AD) (v:Int->Int) (C:Int->Prop):Prop where
 row:∀i,C i->AU f (v i)=((AU U i).1,(AU U i).2.map λa=>(a.1,v a.2))
 cl:∀i,C i->∀a∈(AU U i).2,C a.2
 inj:∀i j,C i->C j->v i=v j->i=j
 rng:∀i,C i->(0<=i/\i<(U.length:Int))/\0<=v i/\v i<(f.length:Int)
def Vr (v:Int->Int) (C:Int->Prop) (x y:Int):Prop:=(x=-1/\y=-1)\/(C x/\y=v x)
section
variable {U f:List AD} {v:Int->Int} {C:Int->Prop} (p:Prt U f v C) {h:AE}
include p
theorem Rq {x y:Int} (q:Vr v C x y):x<0↔y<0:=by
 rcases q with ⟨rfl,rfl⟩|⟨q,rfl⟩
 .exact Iff.rfl
 have:=p.rng x q;constructor<;>intro _<;>omega
omit p in
theorem G8 {x y:Int} (q:Vr v C x y) (h0:0<=x):C x/\y=v x:=by
 rcases q with ⟨rfl,rfl⟩|q
 .omega
 exact q
omit p in
theorem bP (e:Int):∀l:List (Int×Int),(∀a∈l,C a.2)->Vr v C (BT l e) (BT (l.map λa=>(a.1,v a.2)) e)
 | [],_=>.inl ⟨rfl,rfl⟩
 | a :: l,c=>by
  show Vr v C (if a.1=e then a.2 else BT l e) (if a.1=e then v a.2 else BT (l.map _) e)
  by_cases q:a.1=e
  .rw[At q,At q]
   exact .inr ⟨c a f7,rfl⟩
  rw[An q,An q]
  exact bP e l λb d=>c b (IF _ d)
theorem NB {n:Int} (hn:C n) (e:Int):Vr v C (BT (AU U n).2 e) (BT (AU f (v n)).2 e):=by
 rw[p.row n hn];exact bP e _ (p.cl n hn)
theorem Kw {n:Int} (hn:C n) (s:ByteArray):Vr v C (AY h U n s) (AY h f (v n) s):=by
 unfold AY;split
 .exact NB p hn _
 exact .inl ⟨rfl,rfl⟩
theorem Oq {x y:Int} (q:Vr v C x y):Di h f y=Di h U x:=by
 unfold Di;rcases q with ⟨rfl,rfl⟩|⟨q,rfl⟩
 .rfl
 have:=p.rng x q;rw[An O1,An O1,p.row x q]
theorem A2T {w:LW} {n:Int} (hn:C n):FC h w (AU f (v n))=FC h w (AU U n):=by
 have h1:=λe=>Rq p (NB p hn e);have a:∀e,decide (BT (AU f (v n)).2 e<0)=decide (BT (AU U n).2 e<0):=λe=>ACB.2 (h1 e).symm;have b:∀e,decide (0<=BT (AU f (v n)).2 e)=decide (0<=BT (AU U n).2 e):=λe=>ACB.2 (by have:=h1 e;omega);have c:(AU f (v n)).1=(AU U n).1:=by rw[p.row n hn]
 unfold FC gE Sd V9 V7 V8;simp only[a,b,c]
theorem Y7 {w:LW} {la:Int} (d:C la):∀(k c:Nat) (a out:List Int) (n:Int),LM U a->(∀x∈a,C x)->C n->(∀x∈out,C x)->U.length-a.length<k->U.length-a.length<c ->
  Dz h w f (v la) c (a.map v) (out.map v) (v n)=((Dz h w U la k a out n).1.map v,(Dz h w U la k a out n).2)/\∀x∈(Dz h w U la k a out n).1,C x
 | 0,_,_,_,_,_,_,_,_,h1,_=>by omega
 | _+1,0,_,_,_,_,_,_,_,_,A=>by omega
 | k+1,c+1,a,out,n,i,G,hn,E,h1,A=>by
  unfold Dz;have t:v n=v la↔n=la:=⟨p.inj _ _ hn d,λe=>by rw[e]⟩;have u:v n∈a.map v↔n∈a:=by
   constructor
   .intro q;obtain⟨x,b,e⟩:=Do.1 q;rw[<-p.inj x n (G x b) hn e];exact b
   exact λq=>Do.2 ⟨n,q,rfl⟩
  have z:=A2T p (h:=h) (w:=w) hn;have B:Ro h w f (v la) (a.map v) (out.map v) (v n)=(Ro h w U la a out n).map λr=>(r.1.map v,r.2):=by
   unfold Ro;simp only[t,u,z];split
   .split<;>rfl
   split
   .rfl
   split<;>rfl
  rw[B];cases g:Ro h w U la a out n with
  | some r =>
   refine⟨rfl,?_⟩;have:r.1=out\/r.1=[]:=by
    unfold Ro at g;grind
   rcases this with e|e<;>simp only[e]
   .exact E
   exact λx b=>by cases b
  | none =>
   obtain⟨L,o,s⟩:=Hl g;obtain⟨I,J⟩:=Rb s;obtain⟨K,m⟩:=G8 (NB p hn w.first) I;obtain⟨b1,b2⟩:=G8 (NB p hn w.rest) J;have F:=(p.rng n hn).1;have j:LM U (a++[n]):=⟨by
    rw[ABe];exact⟨i.nd,sc,λx b y H e=>o (by rw[iS.1 H]at e;rw[<-e];exact b)⟩,λx b=>by
    rcases IN.1 b with q|q
    .exact i.rng x q
    rw[iS.1 q];exact F⟩
   have D:=j.len;rw[IS,nO]at D;have l:=Y7 (w:=w) d k c (a++[n]) (out++[BT (AU U n).2 w.first]) (BT (AU U n).2 w.rest) j (by grind) b1 (by grind) (by simp;omega) (by simp;omega);simp only[AAH,oR,ABC,<-m,<-b2]at l;exact l
theorem Wv (j:U.length<=f.length) {n:Int} (hn:C n):AQ h f (v n)=((AQ h U n).1.map v,(AQ h U n).2)/\∀x∈(AQ h U n).1,C x:=by
 unfold AQ;split
 .have a:=NB p hn (ED h).head;have b:=NB p hn (ED h).last;have i:=Rq p a;have b1:=Rq p b;by_cases q:BT (AU U n).2 (ED h).head<0\/BT (AU U n).2 (ED h).last<0
  .rw[At q,At O1];exact⟨rfl,λx c=>by cases c⟩
  rw[An q,An O1];obtain⟨d,e⟩:=G8 a O1;obtain⟨b2,g⟩:=G8 b O1;rw[e,g];exact Y7 p b2 (U.length+1) (f.length+1) [] [] _ ⟨List.nodup_nil,λx c=>by cases c⟩ (λx c=>by cases c) d (λx c=>by cases c) sc (by simp;omega)
 exact⟨rfl,λx c=>by cases c⟩
omit p in
def mpE (v:Int->Int) (e:F2):F2:=(e.1,v e.2.1,e.2.2.map λa=>(a.1,v a.2))
omit p in
def mpQ (v:Int->Int) (q:MD):MD:=(v q.1,v q.2)
theorem sH:∀l:List (Int×Int),(∀a∈l,C a.2)->(l.map λa=>(a.1,v a.2)).filterMap (GS h f)=(l.filterMap (GS h U)).map (λa=>(a.1,v a.2))/\∀a∈l.filterMap (GS h U),C a.2
 | [],_=>⟨rfl,λa ha=>by cases ha⟩
 | a :: l,j=>by
  obtain⟨k,m⟩:=sH l λb n=>j b (IF _ n);have i:=j a f7;have e:GS h f (a.1,v a.2)=(GS h U a).map λa=>(a.1,v a.2):=by
   unfold GS;rw[show Di h f (a.1,v a.2).2=Di h U a.2 from Oq p (.inr ⟨i,rfl⟩),show Rp h (a.1,v a.2)=Rp h a from rfl];split<;>rfl
  rw[oR,List.filterMap_cons,List.filterMap_cons,e];cases d:GS h U a with
  | none=>exact⟨k,m⟩
  | some b =>
   refine⟨by simp only[ABM,k,oR],λc g=>?_⟩;rcases By.1 g with rfl|g
   .unfold GS at d;split at d
    .injection d with d
     subst d;exact i
    cases d
   exact m c g
theorem bQ {n:Int} (hn:C n):FP h f (v n)=FP h U n/\(Bb h f (v n)).2=(Bb h U n).2/\(FP h U n=true->(Bb h f (v n)).1=mpE v (Bb h U n).1/\C (Bb h U n).1.2.1/\∀a∈(Bb h U n).1.2.2,C a.2):=by
 have d:(AU f (v n)).1=(AU U n).1:=by rw[p.row n hn]
 have e:Yx h f (v n)=Yx h U n:=by unfold Yx;rw[d]
 have g:=Kw p (h:=h) hn ⟨#[76,65,66,69,76]⟩;have b:FP h f (v n)=FP h U n:=by
  unfold FP;rw[d,e,Oq p g]
 refine⟨b,?_,λq=>?_⟩
 .unfold Bb;rw[b];split<;>rfl
 have c:=q;unfold FP at c;simp only[AT]at c;obtain⟨c1,c2⟩:=G8 g (iE c.2);obtain⟨i,j⟩:=sH p (h:=h) _ (p.cl n hn);unfold Bb;rw[b,At q,At q];refine⟨?_,c1,j⟩;show (Yx h f (v n),AY h f (v n) ⟨#[76,65,66,69,76]⟩,(AU f (v n)).2.filterMap (GS h f))=_;rw[e,c2,p.row n hn,i];rfl
omit p in
theorem Ww {c:Type} {g a:Nat->Option c} {d:c}:∀k i,(∀j,i<=j->j<i+k->g j=a j)->Ap g d k i=Ap a d k i
 | 0,_,_=>rfl
 | k+1,i,b=>by
  unfold Ap
  rw[b i (OS _) O1,Ww k (i+1) λj h1 e=>b j O1 O1]
omit p in
theorem Y8 (v:Int->Int) {l:List Int} {i:Nat} (hi:i<l.length):(l.map v).getD i 0=v (l.getD i 0):=by
 simp[AS,hi]
theorem A2U (F:U.length<=f.length) {s:Int} (hs:C s):BK h f (v s)=((BK h U s).1.map (mpE v),(BK h U s).2)/\∀e∈(BK h U s).1,C e.2.1/\∀a∈e.2.2,C a.2:=by
 have A:=Kw p (h:=h) hs ⟨#[82,69,76,83]⟩;have w:=Rq p A;unfold BK;generalize AY h f (v s) ⟨#[82,69,76,83]⟩=y at *;generalize AY h U s ⟨#[82,69,76,83]⟩=x at *;by_cases q:x<0
 .rw[At q,At (w.1 q)];exact⟨rfl,λe b=>by cases b⟩
 rw[An q,An (λz=>q (w.2 z))];obtain⟨c1,rfl⟩:=G8 A O1;obtain⟨B,m⟩:=Wv p (h:=h) F c1;rw[B];generalize AQ h U x=D at *;obtain⟨l,e⟩:=D;simp only at m ⊢;by_cases o:e≠0
 .rw[At o,At o];exact⟨rfl,λe b=>by cases b⟩
 rw[An o,An o];have G:Ap (S3 h f (l.map v)) true (l.map v).length 0=Ap (S3 h U l) true l.length 0:=by
  rw[On];refine Ww _ _ λj _ g=>?_;have g:j<l.length:=by omega
  unfold S3;rw[Y8 v g,(bQ p (m _ (Ac g))).2.1]
 rw[G];by_cases k:Ap (S3 h U l) true l.length 0=true
 .rw[At k,At k];have d:∀x∈l,FP h U x=true:=by
   intro x c;obtain⟨j,g,rfl⟩:=wL.1 c;have n:=D5 (λi r u=>by unfold S3 at u;split at u<;>cases u;decide) _ 0 k j (GO _) O1;have E:l.getD j 0=l[j]:=by simp[AS,g]
   unfold S3 at n;rw[E]at n;generalize l[j]=x at *;have t:(Bb h U x).2=true:=by
    cases d:(Bb h U x).2 with
    | true=>rfl
    | false=>rw[d,An sc]at n;cases n
   cases d:FP h U x with
   | true=>rfl
   | false=>unfold Bb at t;rw[d,An sc]at t;cases t
  refine⟨ADg ?_ rfl,λe b=>?_⟩
  .show (l.map v).map _=(l.map _).map _;rw[AAU,AAU];exact oS λx c=>((bQ p (m x c)).2.2 (d x c)).1
  obtain⟨x,c,rfl⟩:=Do.1 b;exact((bQ p (m x c)).2.2 (d x c)).2
 rw[An k,An k];exact⟨rfl,λe b=>by cases b⟩
theorem bR {n:Int} (hn:C n):G4 h f (v n)=G4 h U n/\(G4 h U n=true->QW h f (v n)=mpQ v (QW h U n)/\C (QW h U n).1/\C (QW h U n).2):=by
 have d:(AU f (v n)).1=(AU U n).1:=by rw[p.row n hn]
 have h1:=Kw p (h:=h) hn ⟨#[72,73,71,72]⟩;have a:=Kw p (h:=h) hn ⟨#[76,79,87]⟩;refine⟨by unfold G4;rw[d,Oq p h1,Oq p a],λq=>?_⟩;unfold G4 at q;simp only[AT]at q;obtain⟨b,c⟩:=G8 h1 (iE q.1.2);obtain⟨b1,b2⟩:=G8 a (iE q.2);refine⟨?_,b,b1⟩;unfold QW mpQ;rw[c,b2]
theorem A2V (B:U.length<=f.length) {s:Int} (hs:C s):BL h f (v s)=((BL h U s).1.map (mpQ v),(BL h U s).2)/\∀e∈(BL h U s).1,C e.1/\C e.2:=by
 have u:=Kw p (h:=h) hs ⟨#[67,79,78,83]⟩;have t:=Rq p u;unfold BL;generalize AY h f (v s) ⟨#[67,79,78,83]⟩=y at *;generalize AY h U s ⟨#[67,79,78,83]⟩=x at *;by_cases q:x<0
 .rw[At q,At (t.1 q)];exact⟨rfl,λe a=>by cases a⟩
 rw[An q,An (λz=>q (t.2 z))];obtain⟨c1,rfl⟩:=G8 u O1;obtain⟨w,g⟩:=Wv p (h:=h) B c1;rw[w];generalize AQ h U x=D at *;obtain⟨l,e⟩:=D;simp only at g ⊢;by_cases n:e≠0
 .rw[At n,At n];exact⟨rfl,λe a=>by cases a⟩
 rw[An n,An n];have E:Ap (S4 h f (l.map v)) true (l.map v).length 0=Ap (S4 h U l) true l.length 0:=by
  rw[On];refine Ww _ _ λj _ c=>?_;have c:j<l.length:=by omega
  unfold S4;rw[Y8 v c,(bR p (g _ (Ac c))).1]
 rw[E];by_cases d:Ap (S4 h U l) true l.length 0=true
 .rw[At d,At d];have m:∀x∈l,G4 h U x=true:=by
   intro x b;obtain⟨j,c,rfl⟩:=wL.1 b;have k:=D5 (λi r o=>by unfold S4 at o;split at o<;>cases o;decide) _ 0 d j (GO _) O1;have A:l.getD j 0=l[j]:=by simp[AS,c]
   unfold S4 at k;rw[A]at k;cases m:G4 h U l[j] with
   | true=>rfl
   | false=>rw[m,An sc]at k;cases k
  refine⟨ADg ?_ rfl,λe a=>?_⟩
  .show (l.map v).map _=(l.map _).map _;rw[AAU,AAU];exact oS λx b=>((bR p (g x b)).2 (m x b)).1
  obtain⟨x,b,rfl⟩:=Do.1 a;exact((bR p (g x b)).2 (m x b)).2
 rw[An d,An d];exact⟨rfl,λe a=>by cases a⟩
omit p in
theorem bS {x:Int}:∀(l:List Int) (k:Nat),(∀y∈l,v y=v x->y=x)->DW (v x) k (l.map v)=DW x k l
 | [],_,_=>rfl
 | y :: l,k,a=>by
  show (if v y=v x then (k:Int) else DW (v x) (k+1) (l.map v))=if y=x then (k:Int) else DW x (k+1) l
  rw[bS l (k+1) λz b=>a z (IF _ b)]
  by_cases q:y=x
  .rw[At q,At (by rw[q])]
  rw[An q,An (λe=>q (a y f7 e))]
omit p in
theorem sI (c:∀i j,C i->C j->v i=v j->i=j):∀(l out:List Int),(∀x∈out,C x)->(∀x∈l,C x)->(l.map v).foldl AW (out.map v)=(l.foldl AW out).map v
 | [],_,_,_=>rfl
 | x :: l,out,b,d=>by
  have f:=d x f7
  have e:AW (out.map v) (v x)=(AW out x).map v:=by
   unfold AW Ej
   rw[bS out 0 λy a=>c y x (b y a) f]
   split
   .rw[AAH];rfl
   rfl
  rw[oR,ON,ON,e]
  refine sI c l _ (λy a=>?_) λy a=>d y (IF _ a)
  unfold AW at a
  split at a
  .rcases IN.1 a with q|q
   .exact b y q
   rw[iS.1 q];exact f
  exact b y a
omit p in
theorem A5R (l:∀i j,C i->C j->v i=v j->i=j) {M M':CJ} (h1:M'.1=v M.1) (g:M'.2.1=v M.2.1) (h:M'.2.2.2.1=M.2.2.2.1.map (mpE v)) (k:M'.2.2.2.2=M.2.2.2.2.map (mpQ v)) (f:∀x∈A3 M,C x)
  (hs:∀x∈A3 M,M'.2.2.1.getD (v x).toNat ByteArray.empty=M.2.2.1.getD x.toNat ByteArray.empty):DJ M'=DJ M:=by
 have n:A3 M'=(A3 M).map v:=by
  unfold A3
  rw[h1,g,h,k]
  simp only[AAH,oR,ABC,ACg,AD9]
  congr 2
  congr 1
  funext e
  simp[H5,mpE]
 have hf:JK (A3 M')=(JK (A3 M)).map v:=by
  rw[n]
  exact sI l _ [] (λx b=>by cases b) f
 have m:∀x∈JK (A3 M),x∈A3 M:=λx b=>(lC _ _ x b).resolve_left sc
 have d:∀x∈A3 M,Ej ((JK (A3 M)).map v) (v x)=Ej (JK (A3 M)) x:=λx b=>bS _ 0 λy o=>l y x (f y (m y o)) (f x b)
 have r:M.1∈A3 M:=by simp[A3]
 have s:M.2.1∈A3 M:=by simp[A3]
 have t:∀e∈M.2.2.2.1,∀x∈H5 e,x∈A3 M:=λe c x b=>by
  simp only[A3,IN,AAZ]
  exact .inl (.inr ⟨e,c,b⟩)
 have u:∀e∈M.2.2.2.2,∀x∈EH e,x∈A3 M:=λe c x b=>by
  simp only[A3,IN,AAZ]
  exact .inr ⟨e,c,b⟩
 unfold DJ
 rw[hf,h1,g,h,k,d _ r,d _ s,AAU,AAU,AAU]
 refine ABj (Prod.mk _) (ABj (Prod.mk _) (ADg ?_ (ADg ?_ ?_)))
 .exact oS λx b=>hs x (m x b)
 .refine oS λe c=>?_
  have q:=t e c
  show (e.1,Ej _ (v e.2.1),(e.2.2.map _).map _)=(e.1,Ej _ e.2.1,e.2.2.map _)
  rw[d _ (q _ (by simp[H5])),AAU]
  refine ABj (Prod.mk _) (ABj (Prod.mk _) (oS λa ha=>?_))
  show (a.1,Ej _ (v a.2))=(a.1,Ej _ a.2)
  rw[d _ (q _ (by simp only[H5,By,Do];exact .inr ⟨a,ha,rfl⟩))]
 refine oS λe c=>?_
 have q:=u e c
 show (Ej _ (v e.1),Ej _ (v e.2))=(Ej _ e.1,Ej _ e.2)
 rw[d _ (q _ (by simp[EH])),d _ (q _ (by simp[EH]))]
omit p in
theorem sJ (h:AE) (f:List AD) {x:Int} (h0:0<=x) (h1:x<(f.length:Int)):((List.range f.length).map λi:Nat=>Di h f (i:Int)).getD x.toNat ByteArray.empty=Di h f x:=by
 have a:x.toNat<f.length:=by omega
 rw[AS,AAV,ABy a]
 show Di h f (x.toNat:Int)=_
 rw[ABq h0]
theorem A8B (m:U.length<=f.length) (r:Vr v C (AY h U 0 ⟨#[83,69,77]⟩) (AY h f 0 ⟨#[83,69,77]⟩)):I0 h f=I0 h U:=by
 have n:=Rq p r;unfold I0;generalize AY h f 0 ⟨#[83,69,77]⟩=y at *;generalize AY h U 0 ⟨#[83,69,77]⟩=s at *;by_cases q:s<0
 .rw[At q,At (n.1 q)]
 obtain⟨hs,rfl⟩:=G8 r O1;rw[An q,An (λz=>q (n.2 z))];have w:=Kw p (h:=h) hs ⟨#[84,79,80]⟩;have A:=Kw p (h:=h) hs ⟨#[73,78,68,69,88]⟩;obtain⟨t,u⟩:=A2U p (h:=h) m hs;obtain⟨c1,c2⟩:=A2V p (h:=h) m hs;rw[Oq p w,Oq p A,t,c1];by_cases d:AK (Di h U (AY h U s ⟨#[84,79,80]⟩)) ⟨#[104]⟩=false\/AK (Di h U (AY h U s ⟨#[73,78,68,69,88]⟩)) ⟨#[]⟩=true
 .rw[At d,At d]
 rw[An d,An d];by_cases g:(BK h U s).2≠0
 .rw[At g,At g]
 rw[An g,An g];by_cases j:(BL h U s).2≠0
 .rw[At j,At j]
 rw[An j,An j];obtain⟨G,H⟩:=not_or.1 d;obtain⟨B,D⟩:=G8 w (iE (by simpa using G));obtain⟨b1,b2⟩:=G8 A (aX (by simpa using H));have hn:DJ (Cb h f (v s))=DJ (Cb h U s):=by
  have o:∀x∈A3 (Cb h U s),C x:=by
   intro x b;simp only[A3,Cb,IN,AAZ,By,H5,EH,ABo,ACG]at b;rcases b with ((b|b)|⟨e,c,b|b⟩)|⟨e,c,b|b⟩
   .rw[b];exact B
   .rw[b];exact b1
   .rw[b];exact(u e c).1
   .obtain⟨a,ha,rfl⟩:=Do.1 b;exact(u e c).2 a ha
   .rw[b];exact(c2 e c).1
   rw[b];exact(c2 e c).2
  refine A5R p.inj (M:=Cb h U s) (M':=Cb h f (v s)) D b2 ?_ ?_ o λx b=>?_
  .show (BK h f (v s)).1=_;rw[t];rfl
  .show (BL h f (v s)).1=_;rw[c1];rfl
  have l:=o x b;obtain⟨k,E,F⟩:=p.rng x l;have:=Oq p (h:=h) (.inr ⟨l,rfl⟩);show ((List.range f.length).map λi:Nat=>Di h f (i:Int)).getD (v x).toNat _=((List.range U.length).map λi:Nat=>Di h U (i:Int)).getD x.toNat _;rw[sJ h f E F,sJ h U k.1 k.2];exact this
 rw[hn]
end
theorem sK (e:Int):∀l:List (Int×Int),BT (l.filter λa=>a.1==e) e=BT l e
 | []=>rfl
 | a :: l=>by
  by_cases q:a.1=e
  .rw[List.filter_cons_of_pos (by simpa using q)];show (if a.1=e then a.2 else _)=if a.1=e then a.2 else _
   rw[At q,At q]
  rw[List.filter_cons_of_neg (by simpa using q),sK e l];show _=if a.1=e then a.2 else _
  rw[An q]
theorem A2W (hk:GV h) (vf:VF h f) (E:JM f) (N:∀x∈f,∀a∈x.2,a.2≠0) :
  (∃v,Prt (Oo h f) f v (λi=>0<i/\i<((Oo h f).length:Int))/\(Oo h f).length<=f.length/\Vr v (λi=>0<i/\i<((Oo h f).length:Int)) (AY h (Oo h f) 0 ⟨#[83,69,77]⟩) (AY h f 0 ⟨#[83,69,77]⟩)) /\
  A1V h (Oo h f)/\JM (Oo h f)/\0<(Oo h f).length:=by
 have h0:=vf.pos;obtain⟨t,L⟩:=i9 (h:=h) vf.good h0;have C:∀i:Int,0<i->AU (Gz h f) i=AU f i:=λi hi=>by
  unfold AU Gz;rw[AS,ACF O1,<-AS]
 have D:AU (Gz h f) 0=((AU f 0).1,(AU f 0).2.filter λa=>a.1==BO h ⟨#[83,69,77]⟩):=by
  unfold AU Gz;show (f.set 0 _).getD 0 _=_;rw[AS,ACq O1];rfl
 have w:∀i:Int,0<=i->i<(f.length:Int)->(AU (Gz h f) i).1=(AU f i).1/\∀a∈(AU (Gz h f) i).2,a∈(AU f i).2:=λi k l=>by
  by_cases q:i=0
  .subst q;rw[D];exact⟨rfl,λa ha=>(ABc.1 ha).1⟩
  rw[C i O1];exact⟨rfl,λa ha=>ha⟩
 have y:JM (Gz h f):=by
  intro x c;rcases AB2 c with c|rfl
  .exact E x c
  have M:=Ac (d:=((0,[]):AD)) h0;have hs:=E _ M;refine⟨Tf ?_,aS (AB8 _ _) hs.2⟩;have:=rS hs.1;exact List.Pairwise.filter _ this
 have K:Oo h f=AN (Gz h f) 0:=by
  show Gq (Gz h f) 0=_;rw[Iw t (A0Y y) (ABt 0) O1,YR y]
 obtain⟨hi,ht,z,P⟩:=A5Q t (r:=0) (ABt 0) O1;obtain⟨F,cs,G,cl⟩:=mK t y O1;rw[K];generalize AN (Gz h f) 0=U at *;generalize Dn (Gz h f) (Gz h f).length [] 0=o at *;have R:∀i:Int,AU U i=U.getD i.toNat (0,[]):=λi=>rfl;have n:∀i:Int,0<=i->i<(U.length:Int)->(AU (Gz h f) (o.getD i.toNat 0)).2=(AU U i).2.map λa=>(a.1,o.getD a.2.toNat 0):=λi k l=>hi.arc i ⟨k,l⟩;have m:∀i:Int,0<=i->i<(U.length:Int)->(0<=o.getD i.toNat 0/\o.getD i.toNat 0<(f.length:Int))/\(AU (Gz h f) (o.getD i.toNat 0)).1=(AU U i).1:=λi k l=>by
  have:=ht i k l;rw[L]at this;exact this
 have B:∀i j:Int,(0<=i/\i<(U.length:Int))->(0<=j/\j<(U.length:Int))->o.getD i.toNat 0=o.getD j.toNat 0->i=j:=λi j a b=>hi.inj i j a b;have A:∀i:Int,0<=i->i<(U.length:Int)->∀a∈(AU U i).2,0<a.2/\a.2<(U.length:Int):=λi k l a ha=>by
  have h1:=hi.cl i ⟨k,l⟩ a ha;refine⟨?_,h1.2⟩;have O:a.2≠0:=λe=>by
   have s:(a.1,o.getD a.2.toNat 0)∈(AU (Gz h f) (o.getD i.toNat 0)).2:=by
    rw[n i k l];exact Do.2 ⟨a,ha,rfl⟩
   have p:=(m i k l).1;have J:=(w _ p.1 p.2).2 _ s;have c:AU f (o.getD i.toNat 0)∈f:=Ac O1;refine N _ c _ J ?_;show o.getD a.2.toNat 0=0;rw[e];exact z
  omega
 refine⟨⟨λi=>o.getD i.toNat 0,⟨λi g=>?_,λi g a ha=>A i O1 g.2 a ha,λi j a b e=>B i j ⟨O1,a.2⟩ ⟨O1,b.2⟩ e,λi g=>⟨⟨O1,g.2⟩,(m i O1 g.2).1⟩⟩,O1,?_⟩,⟨hk,F,?_,?_⟩,cs,G⟩
 .have Q:o.getD i.toNat 0≠0:=λe=>by
   have:=B i 0 ⟨O1,g.2⟩ ⟨O1,O1⟩ (by rw[e];exact z.symm);omega
  have p:=(m i O1 g.2);rw[<-C _ O1];exact ADg p.2 (n i O1 g.2)
 .unfold AY;split
  .have H:BT (AU f 0).2 (BO h ⟨#[83,69,77]⟩)=BT (AU (Gz h f) 0).2 (BO h ⟨#[83,69,77]⟩):=by
    rw[D];exact(sK _ _).symm
   have I:(AU (Gz h f) 0).2=(AU U 0).2.map λa=>(a.1,o.getD a.2.toNat 0):=by
    have:=n 0 (ABt 0) O1;rw[show o.getD (0:Int).toNat 0=0 from z]at this;exact this
   rw[H,I];exact bP (v:=λi=>o.getD i.toNat 0) _ _ (A 0 (ABt 0) O1)
  exact .inl ⟨rfl,rfl⟩
 .intro x c;obtain⟨j,u,rfl⟩:=wL.1 c;have h1:=m (j:Int) O1 O1;have e:U[j]=AU U (j:Int):=by simp[AU,AS,u]
  rw[e,<-h1.2,(w _ h1.1.1 h1.1.2).1];exact vf.ty _ (Ac O1)
 intro x c a ha;obtain⟨j,u,rfl⟩:=wL.1 c;have h1:=m (j:Int) O1 O1;have e:U[j]=AU U (j:Int):=by simp[AU,AS,u]
 rw[e]at ha;have s:(a.1,o.getD a.2.toNat 0)∈(AU (Gz h f) (o.getD (j:Int).toNat 0)).2:=by
  rw[n j O1 O1];exact Do.2 ⟨a,ha,rfl⟩
 have:=vf.ft _ (Ac O1) _ ((w _ h1.1.1 h1.1.2).2 _ s);exact this
theorem A8C (hk:GV h) (vf:VF h f) (c:JM f) (d:∀x∈f,∀a∈x.2,a.2≠0) :
  I0 h (Oo h f)=I0 h f/\A1V h (Oo h f)/\JM (Oo h f)/\0<(Oo h f).length:=by
 obtain⟨⟨v,p,b,r⟩,h1⟩:=A2W hk vf c d;exact⟨(A8B p b r).symm,h1⟩
section
attribute [local go_sem] bI Qi Ju sE A27 nQ iZ OK K8 KY My Jk Io NG
theorem wK (g:AX f) (h0:0<f.length) (e:(I0 h f).2=0):NH (I0 h f).1/\GM (I0 h f).1=0:=by
 unfold I0 at e ⊢;split at e
 .cases e
 rename_i i;rw[An i];split at e
 .cases e
 rename_i a;rw[An a];split at e
 .rename_i q;exact absurd e q
 rename_i j;rw[An j];split at e
 .rename_i q;exact absurd e q
 rename_i k;rw[An k];split at e
 .cases e
 rename_i b;rw[An b];obtain⟨c,d⟩:=not_or.1 a;exact⟨A89 (Wh g h0 (by simpa using c) (by simpa using d) O1 O1).1,by simpa using b⟩
def A2X:Ab:={ ins:=[Ez,Ff],pre:=λ(d,f,_)=>MS f,out:=λ_=>[.p .bool true] }
theorem A2Y:Af Tryz.prog 7 A2X:=by
 refine fK [0,1,3,4,5,6,7,9,10,11,12,13,38,42,43,44,51,52,53,54,59] Tryz.func7 Tryz.ntmps7 (AG A2r (AG nP (AG mI (AG A5P (AG A28 (AG A2S (AG rV (AG eO AH)))))))) ?_;rintro w0 O0 ⟨d,f,u⟩ b-s;have s:MS f:=s;simp only[A2X,AM];have c:(Wp d).2=true->Fe (Wp d).1:=A5s;generalize t:Wp d=C at *;repeat'(first|exact a6|apply eS rfl|apply AB|refine rP b ?_ ?_|fail)
 refine rX b ?_ ?_
 .simp only[t];refine⟨λq=>?_,λq=>?_⟩
  .simp only[gO,AAj,ABG,Wx]at q;exact⟨(c q.1).h14.b2,O1,s⟩
  simp only[gO,AAj,ABG,AC2]at q;have c:=c q.1.1;exact⟨c.h14.ft,(sG c q.2).2.2.1,c.h14.ok⟩
 simp only[t];repeat'(first|exact a6|apply eS rfl|apply AB|refine rP b ?_ ?_|fail)
 refine rC ?_ ?_<;>intro e
 .repeat'(first|exact a6|apply eS rfl|apply AB|refine rX b ?_ ?_|refine rC ?_ ?_<;>intro e<;>try(cases e;done))
  exact fI b [.tmp 4]
 obtain⟨⟨⟨c1,c2⟩,E⟩,V⟩:=e;have H:(C.1.1,C.1.2)=C.1:=rfl;have c:=c c1;have hk:Cf C.1 f=0:=by simpa using E
 obtain⟨n,z,aa,h0,vf⟩:=sG c hk;repeat'(first|exact a6|apply eS rfl|apply AB|refine rP b ?_ ?_|fail)
 refine AJ (ι:={i:Nat//i<=f.length/\∀k,k<i->∀a∈(f.getD k (0,[])).2,a.2≠0}) (λi=>⟨[(3,.bp 3 [] 0),(5,.bp 5 [] 0),(42,.p (.int .i64) (f.length:Int)),(43,.p (.int .i64) (i.1:Int))],[(5,.box 26 true [.p SM C.1.1,.p TW C.1.2]),(3,.box 34 true [.p J1 f])]⟩) (λi=>f.length-i.1) ⟨0,GO _,λk hk=>absurd hk O1⟩ (AC [(5,.nm 5),(3,.nm 3)] rfl rfl ?_ ?_) (λi=>?_)
 .first|exact eN|refine eM ?_
  all_goals(first|rfl|exact⟨rfl,rfl⟩)
 .first|exact eN|refine eM ?_
  all_goals(first|rfl|exact⟨rfl,rfl⟩)
 obtain⟨i,hi,A⟩:=i;simp only;repeat'(first|exact a6|apply eS rfl|apply AB|refine rP b ?_ ?_|fail)
 refine rC ?_ ?_<;>intro e
 .have v:i<f.length:=by exact eV
  repeat'(first|exact a6|apply eS rfl|apply AB|refine rP b ?_ ?_|fail)
  .exact e
  have L:=(n.2.1.2 _ (Ac (d:=((0,[]):AD)) v)).1;generalize J:f.getD i (0,[])=x at *;obtain⟨ab,l⟩:=x;simp only at L ⊢;repeat'(first|exact a6|apply eS rfl|apply AB|refine rP b ?_ ?_|fail)
  refine AJ (ι:={j:Nat//j<=l.length/\∀k,k<j->(l.getD k (0,0)).2≠0}) (λj=>⟨[(3,.bp 3 [] 0),(5,.bp 5 [] 0),(42,.p (.int .i64) (f.length:Int)),(43,.p (.int .i64) (i:Int)),(51,.p L5 l),(52,.p (.int .i64) (l.length:Int)),(53,.p (.int .i64) (j.1:Int))],[(5,.box 26 true [.p SM C.1.1,.p TW C.1.2]),(3,.box 34 true [.p J1 f])]⟩) (λj=>l.length-j.1) ⟨0,GO _,λk hk=>absurd hk O1⟩ (AC [(5,.nm 5),(3,.nm 3)] rfl rfl ?_ ?_) (λj=>?_)
  .first|exact eN|refine eM ?_
   all_goals(first|rfl|exact⟨rfl,rfl⟩)
  .first|exact eN|refine eM ?_
   all_goals(first|rfl|exact⟨rfl,rfl⟩)
  obtain⟨j,Y,B⟩:=j;simp only;repeat'(first|exact a6|apply eS rfl|apply AB|refine rP b ?_ ?_|fail)
  refine rC ?_ ?_<;>intro e
  .have I:j<l.length:=by exact eV
   repeat'(first|exact a6|apply eS rfl|apply AB|refine rP b ?_ ?_|fail)
   .exact e
   refine rC ?_ ?_<;>intro e
   .repeat'(first|exact a6|apply eS rfl|apply AB|refine rX b ?_ ?_|refine rC ?_ ?_<;>intro e<;>try(cases e;done))
    exact fI b [.tmp 4]
   have S:(l.getD j (0,0)).2≠0:=e;repeat'(first|exact a6|apply eS rfl|apply AB|refine rP b ?_ ?_|fail)
   .exact eV
   refine⟨⟨j+1,I,λk hk=>?_⟩,a2,AC [(5,.nm 5),(3,.nm 3)] rfl rfl ?_ ?_⟩
   .by_cases q:k=j
    .subst q;exact S
    exact B k O1
   .first|exact eN|refine eM ?_
   first|exact eN|refine eM ?_
  have Z:j=l.length:=by
   have:l.length<=j:=by exact eV
   omega
  repeat'(first|exact a6|apply eS rfl|apply AB|refine rP b ?_ ?_|fail)
  .exact eV
  refine⟨⟨i+1,v,λk hk=>?_⟩,a2,AC [(5,.nm 5),(3,.nm 3)] rfl rfl ?_ ?_⟩
  .by_cases q:k=i
   .subst q;rw[J];intro a ha;obtain⟨m,g,rfl⟩:=wL.1 ha;have g:m<l.length:=g;have:=B m O1
    rwa [AS,As g]at this
   exact A k O1
  .first|exact eN|refine eM ?_
  first|exact eN|refine eM ?_
 have X:i=f.length:=by
  have:f.length<=i:=by exact eV
  omega
 have R:∀x∈f,∀a∈x.2,a.2≠0:=λx Q=>by
  obtain⟨m,g,rfl⟩:=wL.1 Q;have:=A m O1
  rwa [AS,As g]at this
 obtain⟨T,o,U,D⟩:=A8C n.1 vf z R;have N:=A2n c.so c.srt c.nm z n h0;have O:=A2n c.so c.srt c.nm U o D;obtain⟨W,r,F,G⟩:=id n;repeat'(first|exact a6|apply eS rfl|apply AB|refine rP b ?_ ?_|fail)
 .exact⟨c.so,r,F,G,h0⟩
 refine Lz drawsAny b 10 [([0,1,2,3,4,5,6,8],9)] [7] a5 (mxA ?_ ?_)
 .exact⟨⟨r,h0⟩,c.so,o.2.1,o.2.2.1,o.2.2.2,D⟩
 refine mxL b [] ?_ ?_
 .trivial
 refine mxE b ?_ ?_ ?_
 .trivial
 .trivial
 have y:=wK r h0 (h:=C.1);simp only[H,N,O,T];have M:=wJ (I0 C.1 f).1;generalize I0 C.1 f=K at *;have w:(K.1.1,K.1.2.1,K.1.2.2.1,K.1.2.2.2.1,K.1.2.2.2.2)=K.1:=rfl;repeat'(first|exact a6|apply eS rfl|apply AB|refine rP b ?_ ?_|fail)
 refine rX b ?_ ?_
 .simp only[w];intro q;rw[AT]at q;exact(y (by simpa using q.2)).1
 have P:(Qg K.1 K.1&&(K.2 != 0||GM K.1==0))=true:=by
  rw[M];by_cases q:K.2=0
  .rw[(y q).2];simp
  simp[q]
 simp only[w,P];repeat'(first|exact a6|apply eS rfl|apply AB|refine rX b ?_ ?_|refine rC ?_ ?_<;>intro e<;>try(cases e;done))
 exact fI b [.tmp 4]
end
end Go.Proofs.YtglkoagnnnpimaaGreatDoor.Fw
