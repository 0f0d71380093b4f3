/- Contracts of functions and plain laws. -/
import Derived.Test.YtglkoagnnnpimaaGreatDoorAYB
import Derived.Test.YtglkoagnnnpimaaGreatDoorAYA
import Derived.Test.YtglkoagnnnpimaaGreatDoorAZI
set_option linter.unusedVariables false
set_option linter.unusedSimpArgs false
namespace Go.Proofs.YtglkoagnnnpimaaGreatDoor.Fw
attribute [local irreducible] Ev
attribute [local go_sem] jR AM List.toList_toArray Bt evG evK VR Ej KP Hk Gd F3 QN KO CL DW Nb C5 Ci frz m3 GJ DJ A6 FU BW AV.frz AV.frzs AV.drp AV.drps AV.names AV.namess aq GK KE KF SR I0 Bo Bw Jp D2 I3 D3 I5 I4 I6 VP QF Gy La FX EJ VQ RE qUn Jq X1 Mc E2 Dv I7 KH Ea SU Cn Eb E3 RF IP NZ E4 NY QH RG ME I8 KI DK Cz E7 Dw H2 DF E5 DG Ec F2 C5 Cq NW RD PJ GY I2 I1 KG Na QK MF Mg Me KK SV Mf KL Y7 QM QL AV.trn AV.trns D1 Cm Obj.trn Jv eL DI Dg DH Ed CP E6 Ab lk Hf GR H0 bin mY XS m5 ST SP zfx AV.cellss mZ zfs pfs AV.cells CD EZ IM FY QJ CE NX Ty.cell1 Iz El Du F0 Hz EY J9 MD NV Fz GX Mb SN VO L4 J8 Y3 dG SQ Hg Cr Gx RV.flat Ty.flat Ty.size St.add upd del Bb Value.oneCell' XQ Ty.dflt Ix Rm IX Rs List.take_succ_cons List.take_zero List.length_cons jU jV Rr Kj N4 IZ Ln A0G Ge Nt Nu Nv Nw Ss Su Nx JJ Xo Option.map_some Option.map_none Option.bind_some Option.getD_some Option.getD_none Option.isNone_none Option.isNone_some Bool.and_true Bool.true_and Bool.and_false Bool.false_and Bool.not_true Bool.not_false if_true if_false List.length_cons List.length_nil and_true true_and and_self List.all_cons List.all_nil List.append_nil List.nil_append List.cons_append List.getElem?_cons_zero List.getElem?_cons_succ List.getElem?_nil List.map_cons List.map_nil List.set_cons_zero List.set_cons_succ List.isEmpty_nil List.isEmpty_cons decide_true decide_false beq_self_eq_true bne_self_eq_false Nat.zero_add Nat.add_zero Nat.sub_zero Int.toNat_natCast Int.toNat_zero Int.toNat_one List.take_length List.length_append List.length_singleton true_or or_true or_self false_or or_false Ty.agg.injEq Ty.slice.injEq Ty.prod.injEq Ty.int.injEq Option.some.injEq beq_iff_eq Kh evMG evMQ opM IA MK B4 Ju Gf Sx Jt H9 JK Ll Kg PT N0 PU Sy Nz Ro Rp Lk AY Ag Op.operands Call.operands List.filterMap_cons List.filterMap_nil List.append_eq Bool.cond_false_right Bool.cond_true_left cond_true cond_false implies_true decide_eq_true_eq beq_true beq_false Bool.or_true Bool.or_false Bool.true_or Bool.false_or Option.isSome_some Array.empty_append List.append_toArray FW Nc E8 Hh Y6 QI Y5 F1 Gq Gp IQ H1 KJ Md XT m4 Gn inB KM Ft GZ KN Am jZ List.drop_zero Dr Hm Zd Ct Mr Cg AV.fgt AV.fgts Obj.fgt Aw Au AY D7 Kl Bp Km List.any_cons List.any_nil j7 eD Zf eF L5 RJ qs List.flatMap_cons List.flatMap_nil List.cons_append tn Zk ML List.take_succ_cons List.drop_succ_cons Zm HA BX tM Pd CG Ca Ai FA KZ Bz matchAVs C0 H8 JG G6 JH
attribute [local go_sem] ty1 ty2 ty3 ty4 ty5 ty9 A43 A44 A45 A46 A47 A48 A49 A4a A4b A4c A4d A4e A4f A4g A4h A4i A4j A4k A4l A4m A4n A4o A4p A4q A4r A4s A4t A4u tW tX tY tZ t4 t5 t6 t7 t8 t9 uA uB uC uD uE uF uG uH uI uJ uK uL uM uN uO uP uQ uR uS uT uU uV uW uX uY uZ u3 u4
set_option maxRecDepth 100000
set_option maxHeartbeats 4000000
variable {h:AE} {f Z:List AD} {v y:ByteArray} {i k:Nat} {L M:List Int} {m:Cv} {n:Int} {R:Exit->Act->World->Prop} {d:List AH} {Y:Array Oper} {X:List Oper} {W:List CU}
section
attribute [local go_sem] Et EI LR KD KB MQ JW IJ M6
abbrev EX:=List Int×List HZ×List RP
def J7 (G:EX->Int->Bool×EX):List Int->EX->Bool×EX
 | [],st=>(true,st)
 | x :: l,st=>if (G st x).1=true then J7 G l (G st x).2 else (false,(G st x).2)
theorem i5 (G:EX->Int->Bool×EX) (l:List Int) (st:EX) {k:Nat} (h:k<l.length):J7 G (l.drop k) st=if (G st (l.getD k 0)).1=true then J7 G (l.drop (k+1)) (G st (l.getD k 0)).2 else (false,(G st (l.getD k 0)).2):=by
 rw[OF h,AS,An h];rfl
def LT (h:AE) (f:List AD) (G:EX->Int->Bool×EX) (st:EX) (n:Int) (s:ByteArray):Int×EX :=
 if Cl h f n s<0 then (13,st) else if (BH h f (Cl h f n s)).2≠0 then ((BH h f (Cl h f n s)).2,st)
 else (if (J7 G (BH h f (Cl h f n s)).1 st).1=true then 0 else 13,(J7 G (BH h f (Cl h f n s)).1 st).2)
theorem U8 (u:Aa f) (E:DP h f) (ha:RZ h f) (h0:0<=n) (h1:n<(f.length:Int)) (s:ByteArray) (a b:Int) (g:Nat) (G:EX->Int->Bool×EX) (Q:Nat->EX->Prop)
  (hG:∀k st x,Q k st->k<200000->0<=x->x<(f.length:Int)->A7 Tryz.prog g [.bp 1 [] 0,.p T3 x] (EI h f a b st.1 st.2.1 st.2.2) [1,2] (λres z=>res=.p .bool (G st x).1/\z=EI h f a b (G st x).2.1 (G st x).2.2.1 (G st x).2.2.2))
  (w:∀k st x,Q k st->0<=x->x<(f.length:Int)->Q (k+1) (G st x).2) (st:EX) (A:Q 0 st) :
  A7 Tryz.prog 85 [.bp 1 [] 0,.p T3 n,.p T9 s,.clo (1000000+g) [1]] (EI h f a b st.1 st.2.1 st.2.2) [1,2]
  (λres z=>res=.p DD (LT h f G st n s).1/\z=EI h f a b (LT h f G st n s).2.1 (LT h f G st n s).2.2.1 (LT h f G st n s).2.2.2):=by
 refine JP [0,1,2,3,8,9,10,11,12,14,23,38,40,41,42,43,49] [] [] Tryz.func85 Tryz.ntmps85 (AF cL AI) ?_;intro w0 K O0 ρ0 d I J;have C:0<f.length:=by omega
 have F:=U0 (h:=h) u n s C;have r:LT h f G st n s=if Cl h f n s<0 then (13,st) else if (BH h f (Cl h f n s)).2≠0 then ((BH h f (Cl h f n s)).2,st)
  else (if (J7 G (BH h f (Cl h f n s)).1 st).1=true then 0 else 13,(J7 G (BH h f (Cl h f n s)).1 st).2):=rfl
 simp only[Am,EI,Et];repeat'(first|exact trivial|apply eS rfl|apply AB|refine rP d ?_ ?_|fail)
 refine cP 3 d ?_ ?_
 .trivial
 refine rM d (Yq u ha h0 h1 s a b (Hc st.1) (st.1.map (MB h f)) st.2.1 st.2.2) [(1,.nm 1),(2,.nm 2),(3,.nm 3),(4,.nm 4),(5,.nm 5)] [3,4,5] ?_ ?_ ?_
 .first|exact eN|refine eM ?_
 .first|exact eN|refine eM ?_
 rintro _ _ ⟨rfl,rfl⟩;refine⟨[(1,.nm 1),(2,.nm 2),(3,.nm 3),(4,.nm 4),(5,.nm 5)],.tup [.p T3 (PD h f n s).1,.p .bool (PD h f n s).2],Et h f a b (Hc st.1) (st.1.map (MB h f)) st.2.1 st.2.2,rfl,rfl,?_,?_,rfl,rfl,?_⟩
 .first|exact eN|refine eM ?_
 .first|exact eN|refine eM ?_
 simp only[EI,Et];generalize m:PD h f n s=V at *;refine rL d ?_ ?_
 .trivial
 repeat'(first|exact trivial|apply eS rfl|apply AB|refine rX d ?_ ?_|refine rC ?_ ?_<;>intro c<;>try(cases c;done))
 .have q:Cl h f n s<0:=by
   rw[<-m]at c;unfold PD at c;split at c
   .assumption
   cases c
  have e:LT h f G st n s=(13,st):=r.trans (At q);exact fM d [.tmp 8] (.p DD (13:Int)) eT ⟨by rw[e],by rw[e]⟩
 .have q:0<=Cl h f n s/\V.1=Cl h f n s:=by
   rw[<-m]at c ⊢;unfold PD at c ⊢;split
   .rename_i q;rw[At q]at c;cases c
   exact⟨by omega,rfl⟩
  rw[q.2];exact⟨u,E,q.1,F⟩
 .rename_i i;have q:0<=Cl h f n s/\V.1=Cl h f n s:=by
   rw[<-m]at i ⊢;unfold PD at i ⊢;split
   .rename_i q;rw[At q]at i;cases i
   exact⟨by omega,rfl⟩
  rw[q.2]at c ⊢;have e:LT h f G st n s=((BH h f (Cl h f n s)).2,st):=r.trans ((As O1).trans (At (by simpa using c)));exact fM d [.tmp 8] (.p DD (BH h f (Cl h f n s)).2) eT ⟨by rw[e],by rw[e]⟩
 rename_i i;have q:0<=Cl h f n s/\V.1=Cl h f n s:=by
  rw[<-m]at i ⊢;unfold PD at i ⊢;split
  .rename_i q;rw[At q]at i;cases i
  exact⟨by omega,rfl⟩
 rw[q.2]at c ⊢;have e:=r.trans ((As O1).trans (As (by simpa using c)));rw[e];clear e r i m;obtain⟨⟨B,H⟩,-⟩:=Q9 (h:=h) u (Cl h f n s);clear c;generalize (BH h f (Cl h f n s)).1=l at *;refine AJ (ι:={x:Nat×EX//x.1<=l.length/\J7 G (l.drop x.1) x.2=J7 G l st/\Q x.1 x.2}) (λx=>⟨[(0,.bp 1 [] 0),(3,.clo (1000000+g) [1]),(40,.p CH l),(41,.p (.int .i64) (l.length:Int)),(42,.p (.int .i64) (x.1.1:Int))],EI h f a b x.1.2.1 x.1.2.2.1 x.1.2.2.2⟩) (λx=>l.length-x.1.1) ⟨(0,st),Do _,rfl,A⟩ (AC [(1,.nm 1),(2,.nm 2),(3,.nm 3),(4,.nm 4),(5,.nm 5)] rfl rfl ?_ ?_) (λx=>?_)
 .first|exact eN|refine eM ?_
 .first|exact eN|refine eM ?_
 obtain⟨⟨k,Z⟩,hk,t,y⟩:=x;simp only at hk t y;have o:=λj:k<l.length=>i5 G l Z j;simp only[EI,Et];repeat'(first|exact trivial|apply eS rfl|apply AB|refine rX d ?_ ?_|refine rC ?_ ?_<;>intro c<;>try(cases c;done))
 .exact c
 .have j:k<l.length:=by omega
  have v:=B _ (AG l 0 j);have o:=o j;have hG:=hG k Z (l.getD k 0) y O1 v.1 v.2;have w:=w k Z (l.getD k 0) y v.1 v.2;refine cP 2 d ?_ ?_
  .trivial
  refine A0S d (f:=g) (n:=1) (aw:=[.p T3 (l.getD k 0)]) ?_ ?_ hG [(1,.nm 1),(2,.nm 2),(3,.nm 3),(4,.nm 4),(5,.nm 5)] [3,4,5] rfl rfl rfl ?_ ?_ ?_
  .rfl
  .rfl
  .first|exact eN|refine eM ?_
  .first|exact eN|refine eM ?_
  rintro _ _ ⟨rfl,rfl⟩;refine⟨[(1,.nm 1),(2,.nm 2),(3,.nm 3),(4,.nm 4),(5,.nm 5)],.p .bool (G Z (l.getD k 0)).1,EI h f a b (G Z (l.getD k 0)).2.1 (G Z (l.getD k 0)).2.2.1 (G Z (l.getD k 0)).2.2.2,rfl,rfl,?_,?_,rfl,rfl,?_⟩
  .first|exact eN|refine eM ?_
  .first|exact eN|refine eM ?_
  simp only[EI,Et];refine rL d ?_ ?_
  .trivial
  repeat'(first|exact trivial|apply eS rfl|apply AB|refine rX d ?_ ?_|refine rC ?_ ?_<;>intro c<;>try(cases c;done))
  .have e:J7 G l st=(false,(G Z (l.getD k 0)).2):=by rw[<-t,o,As (by rw[c];simp)]
   rw[e];exact fM d [.tmp 8] (.p DD (13:Int)) eT ⟨rfl,rfl⟩
  .exact eV
  rw[At c]at o;refine⟨⟨(k+1,(G Z (l.getD k 0)).2),j,by rw[<-t,o],w⟩,by simp only;omega,AC [(1,.nm 1),(2,.nm 2),(3,.nm 3),(4,.nm 4),(5,.nm 5)] rfl rfl ?_ ?_⟩
  .first|exact eN|refine eM ?_
  first|exact eN|refine eM ?_
 have D:l.drop k=[]:=ON O1;rw[<-t,D];exact fM d [.tmp 8] (.p DD (0:Int)) eT ⟨rfl,rfl⟩
end
section
attribute [local go_sem] Et EI KC atS KD KB MQ JW IJ M6
theorem cO (e:Int):∀ {l:List (Int×Int)},(∀a∈l,0<=a.2)->FT l e=if Br l e<0 then (0,false) else (Br l e,true)
 | [],_=>rfl
 | a :: l,h=>by
  unfold FT Br;split
  .have:=h a iF;rw[As O1]
  exact cO e λb c=>h b (GO _ c)
theorem A2j (c:Aa f) (ha:RZ h f) (s:ByteArray) (hf:0<f.length):RY f 0 [BN h s]=PD h f 0 s:=by
 have h1:=cO (BN h s) (l:=(Aq f 0).2) (λa q=>((c.2 _ (AG f (0,[]) (LJ ⟨ABg 0,iN.2 hf⟩))).2 a q).1);have b:RY f 0 [BN h s]=if (FT (Aq f 0).2 (BN h s)).2=true then ((FT (Aq f 0).2 (BN h s)).1,true) else (0,false):=rfl
 rw[b,h1];unfold PD;rw[mF ha];split<;>rfl
def A2k (h:AE) (f:List AD) (st:EX) (x:Int):Bool×EX:=((U6 h f st.1 st.2.1 x).1,(U6 h f st.1 st.2.1 x).2.1,(U6 h f st.1 st.2.1 x).2.2,st.2.2)
def A6N (h:AE) (f:List AD) (st:EX) (x:Int):Bool×EX:=((U7 h f st.1 st.2.2 x).1,(U7 h f st.1 st.2.2 x).2.1,st.2.1,(U7 h f st.1 st.2.2 x).2.2)
def Y2 (h:AE) (f:List AD):Int:=Cl h f 0 ⟨#[83,69,77]⟩
def LU (h:AE) (f:List AD):(Int×Bool)×List Int:=CT h f [] (Y2 h f) ⟨#[84,79,80]⟩
def smX (h:AE) (f:List AD):Int:=Cl h f (Y2 h f) ⟨#[73,78,68,69,88]⟩
def SI (h:AE) (f:List AD):(Int×Bool)×List Int:=RB h f (LU h f).2 (smX h f)
def U9 (h:AE) (f:List AD):Int×EX:=LT h f (A2k h f) ((SI h f).2,[],[]) (Y2 h f) ⟨#[82,69,76,83]⟩
def QD (h:AE) (f:List AD):Int×EX:=LT h f (A6N h f) (U9 h f).2 (Y2 h f) ⟨#[67,79,78,83]⟩
def MC (h:AE) (f:List AD):Int :=
 if Y2 h f<0 then 13 else if (LU h f).1.2=false then 13 else if smX h f<0 then 13 else if (SI h f).1.2=false then 13
 else if (U9 h f).1≠0 then (U9 h f).1 else if (QD h f).1≠0 then (QD h f).1
 else if 16<(QD h f).2.2.1.length\/16<(QD h f).2.2.2.length\/256<(QD h f).2.1.length then 7 else 0
def qL (h:AE) (f:List AD):Int×Int×EX:=((LU h f).1.1,(SI h f).1.1,(QD h f).2)
def A7C (h:AE) (f:List AD) (res:AV) (a:List (Nat×Obj)):Prop:=res=.p DD (MC h f)/\∃x:Int×Int×EX,a=EI h f x.1 x.2.1 x.2.2.1 x.2.2.2.1 x.2.2.2.2/\(MC h f=0->x=qL h f)
theorem A3i {s:ByteArray} (q:(PD h f n s).2=true):0<=Cl h f n s/\(PD h f n s).1=Cl h f n s:=by
 unfold PD at q ⊢;split
 .rename_i p;rw[At p]at q;cases q
 exact⟨by omega,rfl⟩
theorem A3j {s:ByteArray} (q:(PD h f n s).2=false):Cl h f n s<0:=by
 unfold PD at q;split at q
 .assumption
 cases q
theorem A3k (b:Aa f) {ns:List Int} (hn:GQ f ns) (a:List HZ) {x:Int} (d:0<=x) (e:x<(f.length:Int)):GQ f (U6 h f ns a x).2.1/\(U6 h f ns a x).2.2.length<=a.length+1:=by
 have hh:=NQ (h:=h) hn b x ⟨#[76,65,66,69,76]⟩ O1;have c:=(b.2 _ (AG f (0,[]) (LJ ⟨d,e⟩))).2;unfold U6;split
 .exact⟨hh,by simp⟩
 exact⟨(mJ (h:=h) (Aq f x).2 (_,[]) hh c).1,by simp⟩
theorem A6O (a:Aa f) {ns:List Int} (hn:GQ f ns) (qs:List RP) {x:Int} (c:0<=x) (d:x<(f.length:Int)):GQ f (U7 h f ns qs x).2.1/\(U7 h f ns qs x).2.2.length<=qs.length+1:=by
 have hh:=NQ (h:=h) hn a x ⟨#[72,73,71,72]⟩ O1;have b:=NQ (h:=h) hh a x ⟨#[76,79,87]⟩ O1;unfold U7;split
 .exact⟨hh,by simp⟩
 exact⟨b,by simp⟩
theorem mK {f:List AD} (G:EX->Int->Bool×EX) (P:EX->Prop) (hG:∀st x,P st->0<=x->x<(f.length:Int)->P (G st x).2):∀(l:List Int) (st:EX),(∀x∈l,0<=x/\x<(f.length:Int))->P st->P (J7 G l st).2
 | [],st,_,h=>h
 | x :: l,st,b,h=>by
  have c:=b x iF;have a:=hG st x h c.1 c.2;unfold J7;split
  .exact mK G P hG l _ (λy d=>b y (GO _ d)) a
  exact a
theorem mL (a:Aa f) (G:EX->Int->Bool×EX) (P:EX->Prop) (hG:∀st x,P st->0<=x->x<(f.length:Int)->P (G st x).2) (st:EX) (n:Int) (s:ByteArray) (h0:P st):P (LT h f G st n s).2:=by
 unfold LT;split
 .exact h0
 split
 .exact h0
 exact mK G P hG _ st (Q9 (h:=h) a _).1.1 h0
theorem A2l (hs:rD h) (d:Aa f) (o:DP h f) (ha:RZ h f) (h0:0<f.length) :
  A7 Tryz.prog 38 [.bp 1 [] 0] (EI h f 0 0 [] [] []) [1,2]
  (A7C h f):=by
 refine JP [0,2,3,4,5,6,7,23,35,43,55,62,70,96] [18] [] Tryz.func38 Tryz.ntmps38 (AF UT (AF A6L AI)) ?_;intro w0 K O0 ρ0 a N O;simp only[Am,EI,Et];have u:RY f 0 [BN h ⟨#[83,69,77]⟩]=PD h f 0 ⟨#[83,69,77]⟩:=A2j d ha ⟨#[83,69,77]⟩ h0;have t:Y2 h f<(f.length:Int):=U0 d 0 ⟨#[83,69,77]⟩ h0;have w:smX h f<(f.length:Int):=U0 d (Y2 h f) ⟨#[73,78,68,69,88]⟩ h0;have y:GQ f []:=⟨List.Pairwise.nil,λx G=>by cases G⟩;have B:GQ f (LU h f).2:=NQ y d (Y2 h f) ⟨#[84,79,80]⟩ h0;have c:MC h f=if Y2 h f<0 then 13 else if (LU h f).1.2=false then 13 else if smX h f<0 then 13 else if (SI h f).1.2=false then 13
  else if (U9 h f).1≠0 then (U9 h f).1 else if (QD h f).1≠0 then (QD h f).1
  else if 16<(QD h f).2.2.1.length\/16<(QD h f).2.2.2.length\/256<(QD h f).2.1.length then 7 else 0:=rfl
 repeat'(first|exact trivial|apply eS rfl|apply AB|refine rX a ?_ ?_|refine rC ?_ ?_<;>intro b<;>try(cases b;done))
 .exact⟨d,h0⟩
 .have q:Y2 h f<0:=A3j (by rw[<-u];exact b);have e:MC h f=13:=c.trans (At q);exact fM a [.tmp 2] (.p DD (13:Int)) eT ⟨by rw[e],(0,0,[],[],[]),rfl,λz=>by rw[e]at z;cases z⟩
 have q:=A3i (h:=h) (f:=f) (n:=0) (s:=⟨#[83,69,77]⟩) (by rw[<-u];exact b);have v:0<=Y2 h f:=q.1;have r:(RY f 0 [BN h ⟨#[83,69,77]⟩]).1=Y2 h f:=by rw[u];exact q.2
 rw[r];replace c:=c.trans (As O1);clear q r b u;have H:A7 Tryz.prog 82 [.bp 1 [] 0,.p T3 (Y2 h f),.p T9 ⟨#[84,79,80]⟩] (EI h f 0 0 [] [] []) [1,2]
  (λres l=>res=.tup [.p T3 (LU h f).1.1,.p .bool (LU h f).1.2]/\l=EI h f 0 0 (LU h f).2 [] []):=SH hs d o ha v t ⟨#[84,79,80]⟩ y 0 0 [] []
 refine cP 3 a ?_ ?_
 .trivial
 refine rM a (H) [(1,.nm 1),(2,.nm 2),(3,.nm 3),(4,.nm 4),(5,.nm 5)] [3,4,5] ?_ ?_ ?_
 .first|exact eN|refine eM ?_
 .first|exact eN|refine eM ?_
 rintro _ _ ⟨rfl,rfl⟩;refine⟨[(1,.nm 1),(2,.nm 2),(3,.nm 3),(4,.nm 4),(5,.nm 5)],.tup [.p T3 (LU h f).1.1,.p .bool (LU h f).1.2],EI h f 0 0 (LU h f).2 [] [],rfl,rfl,?_,?_,rfl,rfl,?_⟩
 .first|exact eN|refine eM ?_
 .first|exact eN|refine eM ?_
 simp only[EI,Et];refine rL a ?_ ?_
 .trivial
 repeat'(first|exact trivial|apply eS rfl|apply AB|refine rX a ?_ ?_|refine rC ?_ ?_<;>intro b<;>try(cases b;done))
 .have e:MC h f=13:=c.trans (At b);exact fM a [.tmp 2] (.p DD (13:Int)) eT ⟨by rw[e],((LU h f).1.1,0,(LU h f).2,[],[]),rfl,λz=>by rw[e]at z;cases z⟩
 replace c:=c.trans (As (by rw[b];simp));clear b;refine cP 2 a ?_ ?_
 .trivial
 refine rM a (Yq d ha v t ⟨#[73,78,68,69,88]⟩ (LU h f).1.1 0 (Hc (LU h f).2) ((LU h f).2.map (MB h f)) [] []) [(1,.nm 1),(2,.nm 2),(3,.nm 3),(4,.nm 4),(5,.nm 5)] [3,4,5] ?_ ?_ ?_
 .first|exact eN|refine eM ?_
 .first|exact eN|refine eM ?_
 rintro _ _ ⟨rfl,rfl⟩;refine⟨[(1,.nm 1),(2,.nm 2),(3,.nm 3),(4,.nm 4),(5,.nm 5)],.tup [.p T3 (PD h f (Y2 h f) ⟨#[73,78,68,69,88]⟩).1,.p .bool (PD h f (Y2 h f) ⟨#[73,78,68,69,88]⟩).2],Et h f (LU h f).1.1 0 (Hc (LU h f).2) ((LU h f).2.map (MB h f)) [] [],rfl,rfl,?_,?_,rfl,rfl,?_⟩
 .first|exact eN|refine eM ?_
 .first|exact eN|refine eM ?_
 simp only[EI,Et];refine rL a ?_ ?_
 .trivial
 repeat'(first|exact trivial|apply eS rfl|apply AB|refine rX a ?_ ?_|refine rC ?_ ?_<;>intro b<;>try(cases b;done))
 .have e:MC h f=13:=c.trans (At (A3j b));exact fM a [.tmp 2] (.p DD (13:Int)) eT ⟨by rw[e],((LU h f).1.1,0,(LU h f).2,[],[]),rfl,λz=>by rw[e]at z;cases z⟩
 have q:=A3i b;have r:0<=smX h f:=q.1;have C:(PD h f (Y2 h f) ⟨#[73,78,68,69,88]⟩).1=smX h f:=q.2;rw[C];replace c:=c.trans (As O1);clear q C b;have A:GQ f (SI h f).2:=mI B h r w;have I:A7 Tryz.prog 84 [.bp 1 [] 0,.p T3 (smX h f)] (EI h f (LU h f).1.1 0 (LU h f).2 [] []) [1,2] (λres l=>res=.tup [.p T3 (SI h f).1.1,.p .bool (SI h f).1.2]/\l=EI h f (LU h f).1.1 0 (SI h f).2 [] []):=Yr hs d o r w B _ 0 [] [];refine cP 3 a ?_ ?_
 .trivial
 refine rM a (I) [(1,.nm 1),(2,.nm 2),(3,.nm 3),(4,.nm 4),(5,.nm 5)] [3,4,5] ?_ ?_ ?_
 .first|exact eN|refine eM ?_
 .first|exact eN|refine eM ?_
 rintro _ _ ⟨rfl,rfl⟩;refine⟨[(1,.nm 1),(2,.nm 2),(3,.nm 3),(4,.nm 4),(5,.nm 5)],.tup [.p T3 (SI h f).1.1,.p .bool (SI h f).1.2],EI h f (LU h f).1.1 0 (SI h f).2 [] [],rfl,rfl,?_,?_,rfl,rfl,?_⟩
 .first|exact eN|refine eM ?_
 .first|exact eN|refine eM ?_
 simp only[EI,Et];refine rL a ?_ ?_
 .trivial
 repeat'(first|exact trivial|apply eS rfl|apply AB|refine rX a ?_ ?_|refine rC ?_ ?_<;>intro b<;>try(cases b;done))
 .have e:MC h f=13:=c.trans (At b);exact fM a [.tmp 2] (.p DD (13:Int)) eT ⟨by rw[e],((LU h f).1.1,(SI h f).1.1,(SI h f).2,[],[]),rfl,λz=>by rw[e]at z;cases z⟩
 replace c:=c.trans (As (by rw[b];simp));clear b;have J:A7 Tryz.prog 85 [.bp 1 [] 0,.p T3 (Y2 h f),.p T9 ⟨#[82,69,76,83]⟩,.clo (1000000+86) [1]] (EI h f (LU h f).1.1 (SI h f).1.1 (SI h f).2 [] []) [1,2] (λres l=>res=.p DD (U9 h f).1/\l=EI h f (LU h f).1.1 (SI h f).1.1 (U9 h f).2.1 (U9 h f).2.2.1 (U9 h f).2.2.2) :=
  U8 d o ha v t ⟨#[82,69,76,83]⟩ (LU h f).1.1 (SI h f).1.1 _ (A2k h f) (λk st=>GQ f st.1/\st.2.1.length<=k) (λk st x g hk i j=>A2h hs d o ha i j g.1 _ _ st.2.1 O1 st.2.2) (λk st x g i j=>by have:=A3k (h:=h) d g.1 st.2.1 i j;exact⟨this.1,gO this.2 O1⟩) ((SI h f).2,[],[]) ⟨A,Do _⟩
 have E:GQ f (U9 h f).2.1:=mL d (A2k h f) (λst=>GQ f st.1) (λst x g i j=>(A3k d g st.2.1 i j).1) _ _ _ A;refine cP 4 a ?_ ?_
 .trivial
 refine rM a (J) [(1,.nm 1),(2,.nm 2),(3,.nm 3),(4,.nm 4),(5,.nm 5)] [3,4,5] ?_ ?_ ?_
 .first|exact eN|refine eM ?_
 .first|exact eN|refine eM ?_
 rintro _ _ ⟨rfl,rfl⟩;refine⟨[(1,.nm 1),(2,.nm 2),(3,.nm 3),(4,.nm 4),(5,.nm 5)],.p DD (U9 h f).1,EI h f (LU h f).1.1 (SI h f).1.1 (U9 h f).2.1 (U9 h f).2.2.1 (U9 h f).2.2.2,rfl,rfl,?_,?_,rfl,rfl,?_⟩
 .first|exact eN|refine eM ?_
 .first|exact eN|refine eM ?_
 simp only[EI,Et];refine rL a ?_ ?_
 .trivial
 repeat'(first|exact trivial|apply eS rfl|apply AB|refine rX a ?_ ?_|refine rC ?_ ?_<;>intro b<;>try(cases b;done))
 .have e:MC h f=(U9 h f).1:=c.trans (At b);exact fM a [.tmp 2] (.p DD (U9 h f).1) eT ⟨by rw[e],((LU h f).1.1,(SI h f).1.1,(U9 h f).2),rfl,λz=>by rw[e]at z;exact absurd z b⟩
 have M:(U9 h f).1=0:=by simpa using b
 replace c:=c.trans (As (by rw[M];simp));clear b;have F:(U9 h f).2.2.2=[]:=mL d (A2k h f) (λst=>st.2.2=[]) (λst x g _ _=>g) _ _ _ rfl;have L:A7 Tryz.prog 85 [.bp 1 [] 0,.p T3 (Y2 h f),.p T9 ⟨#[67,79,78,83]⟩,.clo (1000000+87) [1]] (EI h f (LU h f).1.1 (SI h f).1.1 (U9 h f).2.1 (U9 h f).2.2.1 (U9 h f).2.2.2) [1,2] (λres l=>res=.p DD (QD h f).1/\l=EI h f (LU h f).1.1 (SI h f).1.1 (QD h f).2.1 (QD h f).2.2.1 (QD h f).2.2.2) :=
  U8 d o ha v t ⟨#[67,79,78,83]⟩ (LU h f).1.1 (SI h f).1.1 _ (A6N h f) (λk st=>GQ f st.1/\st.2.2.length<=k) (λk st x g hk i j=>A2i hs d o ha i j g.1 _ _ st.2.1 st.2.2 O1) (λk st x g i j=>by have:=A6O (h:=h) d g.1 st.2.2 i j;exact⟨this.1,gO this.2 O1⟩) (U9 h f).2 ⟨E,by rw[F];exact OS 0⟩
 refine cP 4 a ?_ ?_
 .trivial
 refine rM a (L) [(1,.nm 1),(2,.nm 2),(3,.nm 3),(4,.nm 4),(5,.nm 5)] [3,4,5] ?_ ?_ ?_
 .first|exact eN|refine eM ?_
 .first|exact eN|refine eM ?_
 rintro _ _ ⟨rfl,rfl⟩;refine⟨[(1,.nm 1),(2,.nm 2),(3,.nm 3),(4,.nm 4),(5,.nm 5)],.p DD (QD h f).1,EI h f (LU h f).1.1 (SI h f).1.1 (QD h f).2.1 (QD h f).2.2.1 (QD h f).2.2.2,rfl,rfl,?_,?_,rfl,rfl,?_⟩
 .first|exact eN|refine eM ?_
 .first|exact eN|refine eM ?_
 simp only[EI,Et];refine rL a ?_ ?_
 .trivial
 repeat'(first|exact trivial|apply eS rfl|apply AB|refine rX a ?_ ?_|refine rC ?_ ?_<;>intro b<;>try(cases b;done))
 .have e:MC h f=(QD h f).1:=c.trans (At b);exact fM a [.tmp 2] (.p DD (QD h f).1) eT ⟨by rw[e],qL h f,rfl,λ_=>rfl⟩
 .rename_i m;have m:(QD h f).1=0:=by simpa using m
  have D:((QD h f).2.1.map (MB h f)).length=(QD h f).2.1.length:=dB _;have e:MC h f=7:=c.trans ((As (by rw[m];simp)).trans (At O1));exact fM a [.tmp 2] (.p DD (7:Int)) eT ⟨by rw[e],qL h f,rfl,λ_=>rfl⟩
 rename_i m;have m:(QD h f).1=0:=by simpa using m
 have D:((QD h f).2.1.map (MB h f)).length=(QD h f).2.1.length:=dB _;have e:MC h f=0:=c.trans ((As (by rw[m];simp)).trans (As O1));exact fM a [.tmp 2] (.p DD (0:Int)) eT ⟨by rw[e],qL h f,rfl,λ_=>rfl⟩
end
section
attribute [local go_sem] Et EI KD KB MQ JW IJ M6
theorem VA {c:Cx} {k:List CU} {ops:Array Oper} {rest:List Oper} {d:Nat} {av:AV} {env:List (Nat×AV)} {objs:List (Nat×Obj)} (t:Ty) (x:t.den)
  (hk:Dq c R k ops rest ⟨(d,.p t x) :: env,objs⟩) (h:Hz false ⟨(d,av) :: env,objs⟩ t av=some x:=by simp only[go_sem,Nat.reduceEqDiff,reduceCtorEq,Nat.reduceAdd,Nat.reduceSub,Nat.reduceMul,Nat.reduceLeDiff,Nat.reduceLT,Int.reduceLE,Int.reduceToNat,Int.reduceNeg,↓reduceIte]):Dq c R k ops rest ⟨(d,av) :: env,objs⟩:=by
 intro f g a w i;obtain⟨ρ,b⟩:=i;refine hk f g a w ⟨ρ,b.frm,b.nt,b.defers,b.pin,b.objs,b.free,b.dist,λs v hs=>?_⟩;by_cases e:s=d
 .subst e;simp only[lk,AAB,AAK]at hs;subst hs;exact Eu (V:=vw w c.O0 ⟨(s,av) :: env,objs⟩ ρ) (O':=own c.O0 ⟨(s,av) :: env,objs⟩ ρ) (λ_ h=>h) (λh=>by cases h) b.objs h (b.env s av (by simp only[lk,AAB]))
 exact b.env s v (by simp only[lk,As e]at hs ⊢;exact hs)
def A54 (h:AE) (f:List AD) (x:Int×Int×EX):Cv:=(x.1,x.2.1,x.2.2.1.map (MB h f),x.2.2.2.1,x.2.2.2.2)
def QE (h:AE) (f:List AD):Cv×Int:=if MC h f≠0 then (zM,MC h f) else (A54 h f (qL h f),0)
def A55:AX:={ ins:=[GL,MM],pre:=λ(h,f,_)=>rD h/\Aa f/\DP h f/\RZ h f/\0<List.length f,out:=λ(h,f,_)=>[.p kJ (QE h f).1,.p DD (QE h f).2] }
theorem A56:Ac Tryz.prog 15 A55:=by
 refine fKP [0,1,2,3,4,5,6,7,16] [11] [] Tryz.func15 Tryz.ntmps15 AI ?_;rintro w0 O0 ⟨h,f,u⟩ a-⟨hs,c,d,ha,h0⟩;have hs:rD h:=hs;have c:Aa f:=c;have d:DP h f:=d;have ha:RZ h f:=ha;have h0:0<f.length:=h0;have i:(h.1,h.2)=h:=rfl;simp only[A55,AM];repeat'(first|exact trivial|apply eS rfl|apply AB|refine rP a ?_ ?_|fail)
 refine cP 1 a ?_ ?_
 .trivial
 refine VA GL h ?_;refine rN 1 a ?_ ?_
 .trivial
 refine VA MM f ?_;refine rL a ?_ ?_
 .trivial
 repeat'(first|exact trivial|apply eS rfl|apply AB|refine rP a ?_ ?_|fail)
 refine cP 1 a ?_ ?_
 .trivial
 refine rM a (A2l hs c d ha h0) [(1,.nm 12),(2,.nm 10),(3,.nil),(4,.nil),(5,.nil)] [] ?_ ?_ ?_
 .first|exact eN|refine eM ?_
 .first|exact eN|refine eM ?_
  rfl
 rintro _ _ ⟨rfl,x,rfl,g⟩;refine⟨[(12,.nm 1),(10,.nm 2),(103,.nm 3),(104,.nm 4),(105,.nm 5)],.p DD (MC h f),[(12,.box 81 true [.p GL h,.p MM f,.mp 10,.ag [.p T3 x.1,.p T3 x.2.1,.sr 103 T9 0 (x.2.2.1.map (MB h f)).length,.sr 104 T54 0 x.2.2.2.1.length,.sr 105 T93 0 x.2.2.2.2.length]]),(10,.mapo T3 T3 (Hc x.2.2.1)),(103,.arr 9 T9 (x.2.2.1.map (MB h f))),(104,.arr 54 T54 x.2.2.2.1),(105,.arr 93 T93 x.2.2.2.2)],rfl,rfl,?_,?_,rfl,rfl,?_⟩
 .first|exact eN|refine eM ?_
 .first|exact eN|refine eM ?_
 refine rL a ?_ ?_
 .trivial
 repeat'(first|exact trivial|apply eS rfl|apply AB|refine rX a ?_ ?_|refine rC ?_ ?_<;>intro b<;>try(cases b;done))
 .have e:QE h f=(zM,MC h f):=At b;exact fI a [.cell 4 41,.tmp 5] (by rw[e];first|exact eR|refine N9 ?_;rfl)
 have z:MC h f=0:=by simpa using b
 have e:QE h f=(A54 h f (qL h f),0):=As (by rw[z];simp);rw[e,<-g z];refine C8 [103,104,105] ?_;exact fI a [.cell 4 41,.tmp 5] (by unfold A54;exact eR)
end
def A2m (a b:List Int):Prop:=∀y,0<=kT a y->kT b y=kT a y
theorem A2m.trans {a b c:List Int} (h:A2m a b) (k:A2m b c):A2m a c:=λy d=>by
 have:=h y d;rw[k y O1,this]
theorem y5:∀(x y:List UInt8),Op.bytesLess x y=true↔x<y
 | _,[]=>by
  unfold Op.bytesLess;simp
 | [],b :: y=>by
  unfold Op.bytesLess;simp
 | a :: x,b :: y=>by
  unfold Op.bytesLess;rw[qY,AT,y5 x y,List.cons_lt_cons_iff];simp
theorem Fs {x:ByteArray}:CA x y=true↔x.toList<y.toList:=y5 _ _
theorem LV {x z:ByteArray} (h1:CA x y=true) (a:CA y z=true):CA x z=true:=Fs.2 (List.lt_trans (Fs.1 h1) (Fs.1 a))
theorem cQ {x:ByteArray} (h1:¬CA x y=true) (c:¬AL x y=true):CA y x=true:=by
 refine Fs.2 ?_;have a:¬x.toList<y.toList:=λq=>h1 (Fs.2 q);have b:¬x.toList=y.toList:=λq=>c (by unfold AL;rw[q];exact beq_self_eq_true _);exact DO λq=>b (List.le_antisymm (List.not_lt.1 q) (List.not_lt.1 a))
def i6 (l:List ByteArray):Prop:=l.Pairwise λa b=>CA a b=true
theorem y6 {l:List ByteArray} (d:i6 l) (s:ByteArray):i6 (DZ l s):=by
 unfold DZ;split
 .exact d
 rename_i hn;have k:l.take (VL l s)=l.takeWhile λx=>CA x s:=by
  unfold VL;exact(List.prefix_iff_eq_take.1 (List.takeWhile_prefix _)).symm
 have h1:∀x∈l.take (VL l s),CA x s=true:=λx c=>by
  rw[k]at c;have:=List.all_takeWhile (p:=λx=>CA x s) (l:=l);rw[No]at this;exact this x c
 have h:∀x∈l.drop (VL l s),CA s x=true:=by
  by_cases f:VL l s<l.length
  .have j:=OF f;have e:l.getD (VL l s) ByteArray.empty=l[VL l s]:=by simp[AS,f]
   have hh:CA s l[VL l s]=true:=by
    refine cQ (λq=>?_) λq=>hn ?_
    .have:=(fG (λx=>CA x s) ByteArray.empty l (VL l s) (OS _)).1 ⟨f,by rw[e];exact q⟩;exact absurd this (by unfold VL;omega)
    rw[AT,IN,e];exact⟨f,q⟩
   intro x c;have i:(l.drop (VL l s)).Pairwise λa b=>CA a b=true:=d.drop;rw[j]at c i;rcases BY.1 c with rfl|c
   .exact hh
   exact LV hh ((AAf.1 i).1 x c)
  rw[ON O1];exact λx c=>by cases c
 show List.Pairwise _ _;rw[AA5,ABi];refine⟨d.take,AAf.2 ⟨h,d.drop⟩,λa ha b g=>?_⟩;rcases BY.1 g with rfl|g
 .exact h1 a ha
 exact LV (h1 a ha) (h b g)
theorem qM (d:List AH):i6 (BC d):=by
 have b:∀(l:List (ByteArray×ByteArray)) (o:List ByteArray),i6 o->i6 (l.foldl Ig o):=by
  intro l;induction l with
  | nil=>exact λo h=>h
  | cons x l a=>exact λo h=>a _ (y6 h x.1)
 have c:∀(l:List AH) (o:List ByteArray),i6 o->i6 (l.foldl IG o):=by
  intro l;induction l with
  | nil=>exact λo h=>h
  | cons x l a=>exact λo h=>a _ (b x.2.2 o h)
 exact c d [] .nil
def A2n (h:AE):Prop:=h.2.Pairwise λa b=>CA a.1 b.1=true
theorem cR (d:List AH):A2n (AW d).1:=by
 unfold AW;split
 .exact .nil
 show List.Pairwise _ (Cy d).1;unfold Cy;split
 .exact .nil
 show List.Pairwise _ ((BC d).map (K7 d));rw[AAy];exact qM d
theorem LX (s:ByteArray):∀(l:List Qu) (k:Nat),0<=g9 s k l->∃i,i<l.length/\g9 s k l=((k+i:Nat):Int)/\∃x,l[i]?=some x/\AL x.1 s=true
 | [],k,h=>absurd h (by unfold g9;decide)
 | x :: l,k,h=>by
  unfold g9 at h ⊢;split
  .rename_i e;exact⟨0,by simp,by omega,x,rfl,e⟩
  rename_i e;rw[As e]at h;obtain⟨i,h1,a,y,b,c⟩:=LX s l (k+1) h;exact⟨i+1,by simp only[NO];omega,by rw[a];omega,y,by rw[List.getElem?_cons_succ];exact b,c⟩
theorem A6P (hs:A2n h) {s t:ByteArray} (e:CA s t=true) (h1:0<=BN h s) (n:0<=BN h t):BN h s<BN h t:=by
 obtain⟨i,f,p,x,g,r⟩:=LX s h.2 0 h1;obtain⟨j,k,u,y,b,v⟩:=LX t h.2 0 n;have ex:x.1.toList=s.toList:=AA3.1 r;have c:y.1.toList=t.toList:=AA3.1 v;have d:=Fs.1 e;unfold BN;rw[p,u];by_cases w:i<j
 .omega
 exfalso;by_cases o:i=j
 .subst o;rw[g]at b;injection b with b
  subst b;rw[ex]at c;rw[c]at d;exact List.lt_irrefl _ d
 have a:=mX.1 hs j i k f O1;have l:h.2[i]=x:=by have:=An f;rw[g]at this;injection this with q;exact q.symm
 have m:h.2[j]=y:=by have:=An k;rw[b]at this;injection this with q;exact q.symm
 rw[l,m]at a;have a:=Fs.1 a;rw[ex,c]at a;exact List.lt_irrefl _ (List.lt_trans a d)
theorem VB (s:ByteArray):∀(l:List FE) (k:Nat),0<=Wn s k l->∃i,i<l.length/\Wn s k l=((k+i:Nat):Int)/\∃x,l[i]?=some x/\AL x.1 s=true
 | [],k,h=>absurd h (by unfold Wn;decide)
 | x :: l,k,h=>by
  unfold Wn at h ⊢;split
  .rename_i e;exact⟨0,by simp,by omega,x,rfl,e⟩
  rename_i e;rw[As e]at h;obtain⟨i,h1,a,y,b,c⟩:=VB s l (k+1) h;exact⟨i+1,by simp only[NO];omega,by rw[a];omega,y,by rw[List.getElem?_cons_succ];exact b,c⟩
theorem A6Q {s t:ByteArray} (e:AL s t=false) (h1:0<=Ap h s):Ap h s≠Ap h t:=λq=>by
 obtain⟨i,m,c,x,d,f⟩:=VB s h.1 0 h1;obtain⟨j,n,g,y,a,k⟩:=VB t h.1 0 (show 0<=Ap h t by rw[<-q];exact h1);have l:((0+i:Nat):Int)=((0+j:Nat):Int):=c.symm.trans (q.trans g);have:i=j:=by omega
 subst this;rw[d]at a;injection a with a
 subst a;have ex:x.1.toList=s.toList:=AA3.1 f;have b:x.1.toList=t.toList:=AA3.1 k;have:AL s t=true:=by
  unfold AL;rw[<-ex,<-b];exact beq_self_eq_true _
 rw[e]at this;cases this
structure LOk (h:AE):Prop where
 lw:RU h=true
 srt:A2n h
theorem LOk.ne (l:LOk h):(D0 h).list≠(D0 h).null:=A6Q (by decide +kernel) (xG l.lw).2.2.2.1
theorem LOk.rng (l:LOk h):((D0 h).list<(h.1.length:Int)/\(D0 h).cons<(h.1.length:Int)/\(D0 h).null<(h.1.length:Int)/\(D0 h).dlist<(h.1.length:Int))/\(D0 h).first<(h.2.length:Int)/\(D0 h).rest<(h.2.length:Int)/\(D0 h).head<(h.2.length:Int)/\(D0 h).last<(h.2.length:Int) :=
 ⟨⟨(C4 h _).2,(C4 h _).2,(C4 h _).2,(C4 h _).2⟩,(Fx h _).2,(Fx h _).2,(Fx h _).2,(Fx h _).2⟩
theorem LOk.sub (l:LOk h):Ad h (D0 h).list (D0 h).cons=true/\Ad h (D0 h).list (D0 h).null=true:=by
 have e:=l.lw;unfold RU at e;rw[AT,AT]at e;exact⟨e.1.2,e.2⟩
theorem y7 {all:List ByteArray} {l:List FV}:∀ {r:List FV} {k:Nat},k6 all l k r=0->∀y∈r,BJ y.1 true=true
 | [],_,_,y,a=>by cases a
 | x :: r,k,h,y,a=>by
  simp only[k6]at h;split at h
  .cases h
  rename_i h0;split at h
  .cases h
  split at h
  .cases h
  rcases BY.1 a with rfl|a
  .simpa using h0
  exact y7 h y a
theorem mM {all:List ByteArray}:∀ {l:List AH},Tr all l=0->∀x∈l,∀y∈x.2.2,BJ y.1 true=true
 | [],_,x,a=>by cases a
 | z :: l,h,x,a=>by
  simp only[Tr]at h;split at h
  .rename_i h1;exact absurd h h1
  rename_i h1;rcases BY.1 a with rfl|a
  .exact y7 (DO h1)
  exact mM h x a
theorem XI:∀(l:List (ByteArray×ByteArray)) (o:List ByteArray),∀s∈l.foldl Ig o,s∈o\/∃y∈l,y.1=s
 | [],o,s,h=>.inl h
 | x :: l,o,s,h=>by
  rcases XI l _ s h with h|⟨y,a,e⟩
  .rcases FD h with h|h
   .exact .inl h
   exact .inr ⟨x,iF,h.symm⟩
  exact .inr ⟨y,GO _ a,e⟩
theorem VC:∀(l:List AH) (o:List ByteArray),∀s∈l.foldl IG o,s∈o\/∃x∈l,∃y∈x.2.2,y.1=s
 | [],o,s,h=>.inl h
 | x :: l,o,s,h=>by
  rcases VC l _ s h with h|⟨z,b,y,a,e⟩
  .rcases XI x.2.2 o s h with h|⟨y,a,e⟩
   .exact .inl h
   exact .inr ⟨x,iF,y,a,e⟩
  exact .inr ⟨z,GO _ b,y,a,e⟩
def A6R (h:AE):Prop:=∀x∈h.2,BJ x.1 true=true
theorem i7 (d:List AH):A6R (AW d).1:=by
 by_cases a:Ah d=0
 .rw[Jl a];obtain⟨-,-,c,-,-⟩:=Ui a;intro x b;rw[LO a]at b;obtain⟨s,hs,rfl⟩:=IF.1 b;rcases VC d [] s hs with h|⟨z,g,y,f,e⟩
  .cases h
  show BJ s true=true;rw[<-e];exact mM c z g y f
 have:(AW d).1=([],[]):=by
  unfold AW A1;rw[At a,At a]
 rw[this];exact λx b=>by cases b
section
attribute [local go_sem] Ou KC KD KB MQ JW IJ M6
def HX (h:AE) (a:List AD):List (Nat×Obj) :=
 [(1,.box 98 true [.p GL h,.ag [.sr 2 dC 0 a.length]]),(2,.nest 57 59 T3 DR a none)]
def Dk (a:List AD) (n e m:Int):List AD:=a.set n.toNat ((a.getD n.toNat (0,[])).1,(a.getD n.toNat (0,[])).2++[(e,m)])
def IK (h:AE) (a:List AD) (s:ByteArray):List AD:=a++[(Ap h s,[])]
theorem GG (h:AE) (a:List AD) (g:a.length<=100000) (s:ByteArray):A7 Tryz.prog 46 [.bp 1 [] 0,.p T9 s] (HX h a) [1]
  (λres f=>res=.p T3 (a.length:Int)/\f=HX h (IK h a s)):=by
 refine JP [0,1,4] [] [(18,59)] Tryz.func46 Tryz.ntmps46 (AF Ov AI) ?_;intro w0 K O0 ρ0 b i j;simp only[Am,HX];repeat'(first|exact trivial|apply eS rfl|apply AB|refine rP b ?_ ?_|fail)
 refine Mu drawsAny b 15 [([1,2,3,4,5,6,7,8,9,10,11,12,13],14)] [0] (by kernel_rfl) (mxA ?_ ?_)
 .trivial
 refine mxL b [2,18] ?_ ?_
 .simp only[AO];omega
 refine mxE b ?_ ?_ ?_
 .trivial
 .trivial
 repeat'(first|exact trivial|apply eS rfl|apply AB|refine rX b ?_ ?_|refine rC ?_ ?_<;>intro c<;>try(cases c;done))
 .omega
 have d:a.length+1=(a++[(Ap h s,([]:List (Int×Int)))]).length:=by simp
 have e:(a.length:Int)+1-1=a.length:=by omega
 rw[e,d];refine Ev.ent (σ':=⟨[(4,.p (.int .i64) (a.length:Int))],HX h (a++[(Ap h s,[])])⟩) ?_ (AC [(1,.nm 1),(2,.nm 2)] rfl rfl ?_ ?_)
 .exact fM b [.tmp 4] (.p T3 (a.length:Int)) eT ⟨rfl,rfl⟩
 .simp only[HX];first|exact eN|refine eM ?_
 first|exact eN|refine eM ?_
attribute [local go_sem] TR eQ ne_eq not_false_eq_true
theorem EP (h:AE) (a:List AD) (f:a.length<=100000) (h0:0<=n) (h1:n<(a.length:Int)) (j:(a.getD n.toNat (0,[])).2.length<=100000) (s:ByteArray) (m:Int):A7 Tryz.prog 47 [.bp 1 [] 0,.p T3 n,.p T9 s,.p T3 m] (HX h a) [1]
  (λres e=>res=.raw (.tuple #[])/\e=HX h (Dk a n (BN h s) m)):=by
 refine JP [0,1,2,3] [31] [] Tryz.func47 Tryz.ntmps47 (AF UT AI) ?_;intro w0 K O0 ρ0 b g i;simp only[Am,HX];repeat'(first|exact trivial|apply eS rfl|apply AB|refine rP b ?_ ?_|fail)
 refine Mu drawsAny b 25 [([6,7,8,9,10,11,12,13,14,15,16,17,18,19,20,21,22,23],24)] [0,1,2,3,4,5] (by kernel_rfl) (mxA ?_ ?_)
 .exact⟨h0,h1⟩
 refine mxN b 2 ?_ ?_
 .simp only[AO];dsimp only[Ty.den]at *;omega
 refine mxE b ?_ ?_ ?_
 .trivial
 .exact⟨h0,h1⟩
 repeat'(first|exact trivial|apply eS rfl|apply AB|refine rX b ?_ ?_|refine rC ?_ ?_<;>intro c<;>try(cases c;done))
 have d:a.length=(Dk a n (BN h s) m).length:=(AAc ..).symm;rw[d];refine Ev.ent (σ':=⟨[],HX h (Dk a n (BN h s) m)⟩) ?_ (AC [(1,.nm 1),(2,.nm 2)] rfl rfl ?_ ?_)
 .exact fM b [] (.raw (.tuple #[])) rfl ⟨rfl,rfl⟩
 .simp only[HX];first|exact eN|refine eM ?_
  rfl
 first|exact eN|refine eM ?_
end
section
attribute [local go_sem] HX KD KB MQ JW IJ M6
def Iw (K:Nat) (a:List AD):Prop:=∀x∈a,x.2.length<=K
theorem NR (h:AE) (a:List AD) (s:ByteArray):(IK h a s).length=a.length+1:=by simp[IK]
theorem A2o {b:List AD} {K:Nat} (hk:Iw K b) (s:ByteArray):Iw K (IK h b s):=by
 intro x a;rcases IS.1 a with a|a
 .exact hk x a
 rw[oF.1 a];exact Do _
theorem Ys (a:List AD) (n e m:Int):(Dk a n e m).length=a.length:=AAc ..
theorem cS {a:List AD} {K:Nat} (hk:Iw K a) (n:Int):(a.getD n.toNat (0,[])).2.length<=K:=by
 by_cases h:n.toNat<a.length
 .exact hk _ (AG a (0,[]) h)
 rw[AS,oS O1];exact Do _
theorem A2p {b:List AD} {K:Nat} (hk:Iw K b) (n e m:Int):Iw (K+1) (Dk b n e m):=by
 intro x a;rcases AAN a with a|rfl
 .have:=hk x a;omega
 have:=cS hk n;simp only[If,nO];omega
def EE (h:AE) (st:List AD×Int×ByteArray) (x:Int):List AD×Int×ByteArray :=
 (Dk (Dk (IK h st.1 ⟨#[99,111,110,115]⟩) st.2.1 (BN h st.2.2) (st.1.length:Int)) (st.1.length:Int) (BN h ⟨#[70,73,82,83,84]⟩) x,(st.1.length:Int),⟨#[82,69,83,84]⟩)
def mN (h:AE) (d:Int) (st:List AD×Int×ByteArray):List AD :=
 Dk (Dk (IK h st.1 ⟨#[108,105,115,116]⟩) st.2.1 (BN h st.2.2) (st.1.length:Int)) d (BN h ⟨#[76,65,83,84]⟩) (st.1.length:Int)
def cU (h:AE) (a:List AD) (l:List Int):List AD:=mN h (a.length:Int) (l.foldl (EE h) (IK h a ⟨#[100,108,105,115,116]⟩,(a.length:Int),⟨#[76,73,83,84]⟩))
theorem y8 {α β:Type} (g:β->α->β) (l:List α) (d:α) (b:β) {k:Nat} (h:k<l.length):(l.drop k).foldl g b=(l.drop (k+1)).foldl g (g b (l.getD k d)):=by
 rw[OF h,AS,An h];rfl
theorem y9 {st:List AD×Int×ByteArray} {L K:Nat} (h1:st.1.length=L) (a:Iw K st.1) (b:0<=st.2.1/\st.2.1<(st.1.length:Int)) (x:Int) :
  (EE h st x).1.length=L+1/\Iw (K+2) (EE h st x).1/\0<=(EE h st x).2.1/\(EE h st x).2.1<((EE h st x).1.length:Int):=by
 refine⟨by simp only[EE,Ys,NR,h1],A2p (A2p (A2o a _) _ _ _) _ _ _,by simp only[EE];omega,?_⟩;simp only[EE,Ys,NR];omega
theorem cV (h:AE) (b:List AD) (I:b.length<=1000) {K:Nat} (y:Iw K b) (G:K<=1000) (l:List Int) (J:l.length<=1000):A7 Tryz.prog 48 [.bp 1 [] 0,.p CH l] (HX h b) [1]
  (λres E=>res=.p T3 (b.length:Int)/\E=HX h (cU h b l)):=by
 refine JP [0,1,4,5,6,7,9,10,11,15,16,17,18] [] [] Tryz.func48 Tryz.ntmps48 AI ?_;intro w0 F O0 ρ0 a L M;have B:cU h b l=mN h (b.length:Int) (l.foldl (EE h) (IK h b ⟨#[100,108,105,115,116]⟩,(b.length:Int),⟨#[76,73,83,84]⟩)):=rfl;simp only[Am,HX];repeat'(first|exact trivial|apply eS rfl|apply AB|refine rP a ?_ ?_|fail)
 refine cP 1 a ?_ ?_
 .trivial
 refine rM a (GG h b O1 ⟨#[100,108,105,115,116]⟩) [(1,.nm 1),(2,.nm 2)] [2] ?_ ?_ ?_
 .first|exact eN|refine eM ?_
 .first|exact eN|refine eM ?_
 rintro _ _ ⟨rfl,rfl⟩;refine⟨[(1,.nm 1),(2,.nm 2)],.p T3 (b.length:Int),HX h (IK h b ⟨#[100,108,105,115,116]⟩),rfl,rfl,?_,?_,rfl,rfl,?_⟩
 .first|exact eN|refine eM ?_
 .first|exact eN|refine eM ?_
 simp only[HX];refine rL a ?_ ?_
 .trivial
 repeat'(first|exact trivial|apply eS rfl|apply AB|refine rX a ?_ ?_|refine rC ?_ ?_<;>intro c<;>try(cases c;done))
 have u:=NR h b ⟨#[100,108,105,115,116]⟩;have C:=A2o (h:=h) y ⟨#[100,108,105,115,116]⟩;generalize IK h b ⟨#[100,108,105,115,116]⟩=s at *;refine AJ (ι:={x:Nat×List AD×Int×ByteArray//x.1<=l.length/\(l.drop x.1).foldl (EE h) x.2=l.foldl (EE h) (s,(b.length:Int),⟨#[76,73,83,84]⟩)/\x.2.1.length=b.length+1+x.1/\Iw (K+2*x.1) x.2.1/\0<=x.2.2.1/\x.2.2.1<(x.2.1.length:Int)}) (λx=>⟨[(0,.bp 1 [] 0),(5,.p T3 (b.length:Int)),(6,.p T3 x.1.2.2.1),(7,.p T9 x.1.2.2.2),(15,.p CH l),(16,.p (.int .i64) (l.length:Int)),(17,.p (.int .i64) (x.1.1:Int))],HX h x.1.2.1⟩) (λx=>l.length-x.1.1) ⟨(0,s,(b.length:Int),⟨#[76,73,83,84]⟩),Do _,rfl,by simpa using u,by simpa using C,by simp,by simp only[u];omega⟩ (AC [(1,.nm 1),(2,.nm 2)] rfl rfl ?_ ?_) (λx=>?_)
 .first|exact eN|refine eM ?_
 .first|exact eN|refine eM ?_
 obtain⟨⟨i,Z⟩,hi,k,v,f,g,w⟩:=x;simp only at hi k v f g w;have r:=λq:i<l.length=>y8 (EE h) l 0 Z q;simp only[HX];repeat'(first|exact trivial|apply eS rfl|apply AB|refine rX a ?_ ?_|refine rC ?_ ?_<;>intro c<;>try(cases c;done))
 .exact c
 .have t:i<l.length:=by omega
  have r:=r t;have e:=y9 (h:=h) v f ⟨g,w⟩ (l.getD i 0);have D:=NR h Z.1 ⟨#[99,111,110,115]⟩;have d:=A2o (h:=h) f ⟨#[99,111,110,115]⟩;refine cP 1 a ?_ ?_
  .trivial
  refine rM a (GG h Z.1 O1 ⟨#[99,111,110,115]⟩) [(1,.nm 1),(2,.nm 2)] [2] ?_ ?_ ?_
  .first|exact eN|refine eM ?_
  .first|exact eN|refine eM ?_
  rintro _ _ ⟨rfl,rfl⟩;refine⟨[(1,.nm 1),(2,.nm 2)],.p T3 (Z.1.length:Int),HX h (IK h Z.1 ⟨#[99,111,110,115]⟩),rfl,rfl,?_,?_,rfl,rfl,?_⟩
  .first|exact eN|refine eM ?_
  .first|exact eN|refine eM ?_
  simp only[HX];refine rL a ?_ ?_
  .trivial
  repeat'(first|exact trivial|apply eS rfl|apply AB|refine rX a ?_ ?_|refine rC ?_ ?_<;>intro c<;>try(cases c;done))
  have m:=cS d Z.2.1;have A:=Ys (IK h Z.1 ⟨#[99,111,110,115]⟩) Z.2.1 (BN h Z.2.2) (Z.1.length:Int);have j:=A2p d Z.2.1 (BN h Z.2.2) (Z.1.length:Int);have o:=cS j (Z.1.length:Int);refine cP 4 a ?_ ?_
  .trivial
  refine rM a (EP h (IK h Z.1 ⟨#[99,111,110,115]⟩) O1 g O1 (gO m O1) Z.2.2 (Z.1.length:Int)) [(1,.nm 1),(2,.nm 2)] [2] ?_ ?_ ?_
  .first|exact eN|refine eM ?_
  .first|exact eN|refine eM ?_
  rintro _ _ ⟨rfl,rfl⟩;refine⟨[(1,.nm 1),(2,.nm 2)],.raw (.tuple #[]),HX h (Dk (IK h Z.1 ⟨#[99,111,110,115]⟩) Z.2.1 (BN h Z.2.2) (Z.1.length:Int)),rfl,rfl,?_,?_,rfl,rfl,?_⟩
  .first|exact eN|refine eM ?_
  .first|exact eN|refine eM ?_
  simp only[HX];refine rL a ?_ ?_
  .trivial
  repeat'(first|exact trivial|apply eS rfl|apply AB|refine rX a ?_ ?_|refine rC ?_ ?_<;>intro c<;>try(cases c;done))
  refine cP 3 a ?_ ?_
  .trivial
  refine rM a (EP h (Dk (IK h Z.1 ⟨#[99,111,110,115]⟩) Z.2.1 (BN h Z.2.2) (Z.1.length:Int)) O1 (n:=(Z.1.length:Int)) O1 O1 (gO o O1) ⟨#[70,73,82,83,84]⟩ (l.getD i 0)) [(1,.nm 1),(2,.nm 2)] [2] ?_ ?_ ?_
  .first|exact eN|refine eM ?_
  .first|exact eN|refine eM ?_
  rintro _ _ ⟨rfl,rfl⟩;refine⟨[(1,.nm 1),(2,.nm 2)],.raw (.tuple #[]),HX h (Dk (Dk (IK h Z.1 ⟨#[99,111,110,115]⟩) Z.2.1 (BN h Z.2.2) (Z.1.length:Int)) (Z.1.length:Int) (BN h ⟨#[70,73,82,83,84]⟩) (l.getD i 0)),rfl,rfl,?_,?_,rfl,rfl,?_⟩
  .first|exact eN|refine eM ?_
  .first|exact eN|refine eM ?_
  simp only[HX];refine rL a ?_ ?_
  .trivial
  repeat'(first|exact trivial|apply eS rfl|apply AB|refine rX a ?_ ?_|refine rC ?_ ?_<;>intro c<;>try(cases c;done))
  .exact eV
  refine⟨⟨(i+1,EE h Z (l.getD i 0)),t,by rw[<-k,r],by simp only;rw[e.1];omega,by have:=e.2.1;rw[show K+2*i+2=K+2*(i+1) by omega]at this;exact this,e.2.2.1,e.2.2.2⟩,by simp only;omega,AC [(1,.nm 1),(2,.nm 2)] rfl rfl ?_ ?_⟩
  .simp only[EE];first|exact eN|refine eM ?_
  simp only[EE];first|exact eN|refine eM ?_
 have H:i=l.length:=by omega
 have z:cU h b l=mN h (b.length:Int) Z:=by rw[B,<-k,ON O1];rfl
 have D:=NR h Z.1 ⟨#[108,105,115,116]⟩;have d:=A2o (h:=h) f ⟨#[108,105,115,116]⟩;refine cP 1 a ?_ ?_
 .trivial
 refine rM a (GG h Z.1 O1 ⟨#[108,105,115,116]⟩) [(1,.nm 1),(2,.nm 2)] [2] ?_ ?_ ?_
 .first|exact eN|refine eM ?_
 .first|exact eN|refine eM ?_
 rintro _ _ ⟨rfl,rfl⟩;refine⟨[(1,.nm 1),(2,.nm 2)],.p T3 (Z.1.length:Int),HX h (IK h Z.1 ⟨#[108,105,115,116]⟩),rfl,rfl,?_,?_,rfl,rfl,?_⟩
 .first|exact eN|refine eM ?_
 .first|exact eN|refine eM ?_
 simp only[HX];refine rL a ?_ ?_
 .trivial
 repeat'(first|exact trivial|apply eS rfl|apply AB|refine rX a ?_ ?_|refine rC ?_ ?_<;>intro c<;>try(cases c;done))
 have m:=cS d Z.2.1;have A:=Ys (IK h Z.1 ⟨#[108,105,115,116]⟩) Z.2.1 (BN h Z.2.2) (Z.1.length:Int);have j:=A2p d Z.2.1 (BN h Z.2.2) (Z.1.length:Int);have o:=cS j (b.length:Int);refine cP 4 a ?_ ?_
 .trivial
 refine rM a (EP h (IK h Z.1 ⟨#[108,105,115,116]⟩) O1 g O1 (gO m O1) Z.2.2 (Z.1.length:Int)) [(1,.nm 1),(2,.nm 2)] [2] ?_ ?_ ?_
 .first|exact eN|refine eM ?_
 .first|exact eN|refine eM ?_
 rintro _ _ ⟨rfl,rfl⟩;refine⟨[(1,.nm 1),(2,.nm 2)],.raw (.tuple #[]),HX h (Dk (IK h Z.1 ⟨#[108,105,115,116]⟩) Z.2.1 (BN h Z.2.2) (Z.1.length:Int)),rfl,rfl,?_,?_,rfl,rfl,?_⟩
 .first|exact eN|refine eM ?_
 .first|exact eN|refine eM ?_
 simp only[HX];refine rL a ?_ ?_
 .trivial
 repeat'(first|exact trivial|apply eS rfl|apply AB|refine rX a ?_ ?_|refine rC ?_ ?_<;>intro c<;>try(cases c;done))
 refine cP 3 a ?_ ?_
 .trivial
 refine rM a (EP h (Dk (IK h Z.1 ⟨#[108,105,115,116]⟩) Z.2.1 (BN h Z.2.2) (Z.1.length:Int)) O1 (n:=(b.length:Int)) O1 O1 (gO o O1) ⟨#[76,65,83,84]⟩ (Z.1.length:Int)) [(1,.nm 1),(2,.nm 2)] [2] ?_ ?_ ?_
 .first|exact eN|refine eM ?_
 .first|exact eN|refine eM ?_
 rintro _ _ ⟨rfl,rfl⟩;refine⟨[(1,.nm 1),(2,.nm 2)],.raw (.tuple #[]),HX h (Dk (Dk (IK h Z.1 ⟨#[108,105,115,116]⟩) Z.2.1 (BN h Z.2.2) (Z.1.length:Int)) (b.length:Int) (BN h ⟨#[76,65,83,84]⟩) (Z.1.length:Int)),rfl,rfl,?_,?_,rfl,rfl,?_⟩
 .first|exact eN|refine eM ?_
 .first|exact eN|refine eM ?_
 simp only[HX];refine rL a ?_ ?_
 .trivial
 repeat'(first|exact trivial|apply eS rfl|apply AB|refine rX a ?_ ?_|refine rC ?_ ?_<;>intro c<;>try(cases c;done))
 rw[z];exact fM a [.tmp 4] (.p T3 (b.length:Int)) eT ⟨rfl,rfl⟩
end
section
attribute [local go_sem] Ou KC MT KD KB MQ JW IJ M6
def VD (h:AE):List Th->Bool
 | []=>false
 | a :: l=>if BN h a.1<0 then true else VD h l
def He (h:AE):List HZ->Int
 | []=>0
 | e :: l=>if Ap h e.1<0 then 5 else if Ad h (Ap h ⟨#[114,101,108]⟩) (Ap h e.1)=false then 13 else if VD h e.2.2=true then 5 else He h l
theorem qO (h:AE) (l:List Th) {k:Nat} (q:k<l.length):VD h (l.drop k)=if BN h (l.getD k (ByteArray.empty,0)).1<0 then true else VD h (l.drop (k+1)):=by
 rw[OF q,AS,An q];rfl
theorem qP (h:AE) (l:List HZ) {k:Nat} (q:k<l.length):He h (l.drop k)=if Ap h (l.getD k (ByteArray.empty,0,[])).1<0 then 5 else if Ad h (Ap h ⟨#[114,101,108]⟩) (Ap h (l.getD k (ByteArray.empty,0,[])).1)=false then 13 else if VD h (l.getD k (ByteArray.empty,0,[])).2.2=true then 5 else He h (l.drop (k+1)):=by
 rw[OF q,AS,An q];rfl
def Yt:AX:={ ins:=[GL,kJ],pre:=λ(h,m,_)=>rD h/\RQ m,out:=λ(h,m,_)=>[.p DD (He h (m:Cv).2.2.2.1)],lend:=true }
theorem qQ:Ac Tryz.prog 45 Yt:=by
 refine fK [0,1,2,3,4,6,7,9,11,12,13,14,22,28,30,31,32,33,40] Tryz.func45 Tryz.ntmps45 (AF Ov (AF UT (AF OZ AI))) ?_;rintro w0 O0 ⟨h,m,u⟩ j-⟨hs,t⟩;have hs:rD h:=hs;have t:RQ m:=t;have o:(h.1,h.2)=h:=rfl;obtain⟨w,x,v,y⟩:=t;obtain⟨a,b,C,c,qs⟩:=m;simp only at w x v y;simp only[Yt,AM];repeat'(first|exact trivial|apply eS rfl|apply AB|refine rX j ?_ ?_|refine rC ?_ ?_<;>intro d<;>try(cases d;done))
 refine AJ (ι:={i:Nat//i<=c.length/\He h (c.drop i)=He h c}) (λi=>⟨[(2,.bp 2 [] 0),(11,.p L7 c),(12,.p (.int .i64) (c.length:Int)),(13,.p (.int .i64) (i.1:Int))],[(2,.box 26 true [.p Zu h.1,.p fB h.2])]⟩) (λi=>c.length-i.1) ⟨0,Do _,rfl⟩ (AC [(2,.nm 2)] rfl rfl ?_ ?_) (λi=>?_)
 .first|exact eN|refine eM ?_
 .first|exact eN|refine eM ?_
 obtain⟨i,hi,l⟩:=i;have g:=λq:i<c.length=>qP h c q;simp only;repeat'(first|exact trivial|apply eS rfl|apply AB|refine rX j ?_ ?_|refine rC ?_ ?_<;>intro d<;>try(cases d;done))
 all_goals have o:(h.1,h.2)=h:=rfl
 all_goals try simp only[o]at *
 .exact d
 .have e:He h c=5:=by rw[<-l,g O1,At d]
  exact fI j [.tmp 4] (by rw[e];exact eR)
 .exact⟨⟨hs.2.1,Fy h _⟩,d,Fy h _⟩
 .rename_i z A;have e:He h c=13:=by rw[<-l,g O1,As O1,At d]
  exact fI j [.tmp 4] (by rw[e];exact eR)
 .rename_i z A;have g:=g O1;rw[As O1,As (by rw[d];simp)]at g;have B:(c.getD i (ByteArray.empty,0,[])).2.2.length<=100000:=v _ (AG c (ByteArray.empty,0,[]) O1);generalize (c.getD i (ByteArray.empty,0,[])).2.2=f at *;refine AJ (ι:={k:Nat//k<=f.length/\VD h (f.drop k)=VD h f}) (λk=>⟨[(2,.bp 2 [] 0),(11,.p L7 c),(12,.p (.int .i64) (c.length:Int)),(13,.p (.int .i64) (i:Int)),(30,.p T52 f),(31,.p (.int .i64) (f.length:Int)),(32,.p (.int .i64) (k.1:Int))],[(2,.box 26 true [.p Zu h.1,.p fB h.2])]⟩) (λk=>f.length-k.1) ⟨0,Do _,rfl⟩ (AC [(2,.nm 2)] rfl rfl ?_ ?_) (λk=>?_)
  .first|exact eN|refine eM ?_
  .first|exact eN|refine eM ?_
  obtain⟨k,hk,s⟩:=k;have n:=λq:k<f.length=>qO h f q;simp only;repeat'(first|exact trivial|apply eS rfl|apply AB|refine rX j ?_ ?_|refine rC ?_ ?_<;>intro d<;>try(cases d;done))
  all_goals have o:(h.1,h.2)=h:=rfl
  all_goals try simp only[o]at *
  .exact d
  .have r:VD h f=true:=by rw[<-s,n O1,At d]
   have e:He h c=5:=by rw[<-l,g,At r]
   exact fI j [.tmp 4] (by rw[e];exact eR)
  .exact eV
  .have n:=n O1;rw[As O1]at n;refine⟨⟨k+1,by omega,by rw[<-s,n]⟩,by simp only;omega,AC [(2,.nm 2)] rfl rfl ?_ ?_⟩
   .first|exact eN|refine eM ?_
   first|exact eN|refine eM ?_
  .exact eV
  have r:VD h f=false:=by rw[<-s,ON O1];rfl
  rw[As (by rw[r];simp)]at g;refine⟨⟨i+1,by omega,by rw[<-l,g]⟩,by simp only;omega,AC [(2,.nm 2)] rfl rfl ?_ ?_⟩
  .first|exact eN|refine eM ?_
  first|exact eN|refine eM ?_
 have e:He h c=0:=by rw[<-l,ON (AAe.1 d)];rfl
 exact fI j [.tmp 4] (by rw[e];exact eR)
end
section
attribute [local go_sem] Ot KC cJ KD KB MQ JW IJ M6
def A57:AX:={ ins:=[GL,T9,T3],pre:=λ_=>True,out:=λ(h,s,m,_)=>[.p DR (BN h s,m)] }
def XJ (h:AE) (v:ByteArray):Int:=if AL v ⟨#[104]⟩=true then Ap h ⟨#[104,97,110,100,108,101]⟩ else if AL v ⟨#[101]⟩=true then Ap h ⟨#[101,118,101,110,116]⟩ else if AL v ⟨#[120]⟩=true then Ap h ⟨#[101,110,116,105,116,121]⟩ else Ap h ⟨#[105,110,100,101,120]⟩
def A58:AX:={ ins:=[MM,dC],pre:=λ(f,_,_)=>List.length f<=100000,out:=λ(f,x,_)=>[.p MM ((f:List AD)++[(x:AD)])] }
end
section
attribute [local go_sem] KB IJ
def eqV (a b:List ByteArray) (i:Nat):Option Bool:=if AL (a.getD i ByteArray.empty) (b.getD i ByteArray.empty)=true then none else some false
def eqA (a b:List Th) (i:Nat):Option Bool:=if (AL (a.getD i (ByteArray.empty,0)).1 (b.getD i (ByteArray.empty,0)).1&&(a.getD i (ByteArray.empty,0)).2==(b.getD i (ByteArray.empty,0)).2)=true then none else some false
def qR (x y:HZ):Bool:=AL x.1 y.1&&x.2.1==y.2.1&&decide ((x.2.2.length:Int)=(y.2.2.length:Int))&&BD (eqA x.2.2 y.2.2) true x.2.2.length 0
def eqR (a b:List HZ) (i:Nat):Option Bool:=if qR (a.getD i (ByteArray.empty,0,[])) (b.getD i (ByteArray.empty,0,[]))=true then none else some false
def eqQ (a b:List RP) (i:Nat):Option Bool:=if ((a.getD i (0,0)).1==(b.getD i (0,0)).1&&(a.getD i (0,0)).2==(b.getD i (0,0)).2)=true then none else some false
def qS (a b:Cv):Bool:=a.1==b.1&&a.2.1==b.2.1&&decide ((a.2.2.1.length:Int)=(b.2.2.1.length:Int))&&decide ((a.2.2.2.1.length:Int)=(b.2.2.2.1.length:Int))&&decide ((a.2.2.2.2.length:Int)=(b.2.2.2.2.length:Int))
def XK (a b:Cv):Bool:=qS a b&&BD (eqV a.2.2.1 b.2.2.1) true a.2.2.1.length 0&&BD (eqR a.2.2.2.1 b.2.2.2.1) true a.2.2.2.1.length 0&&BD (eqQ a.2.2.2.2 b.2.2.2.2) true a.2.2.2.2.length 0
def zA:AX:={ ins:=[kJ,kJ],pre:=λ_=>True,out:=λ(a,b,_)=>[.p .bool (XK a b)] }
theorem A2q:Ac Tryz.prog 17 zA:=by
 refine fK [0,1,2,3,4,5,6,7,8,9,10,49,54,67,72,105,110,123,128,141] Tryz.func17 Tryz.ntmps17 AI ?_;rintro w0 O0 ⟨⟨tp,ix,f,a,cs⟩,⟨r,o,n,c,m⟩,u⟩ d ⟨⟨-,-,⟨N,-⟩,⟨L,M⟩,⟨K,-⟩⟩,-⟩ -;simp only[AO]at N L K;simp only[zA,AM];repeat'(first|exact trivial|apply eS rfl|apply AB|refine rX d ?_ ?_|refine rC ?_ ?_<;>intro b<;>try(cases b;done))
 .have e:XK (tp,ix,f,a,cs) (r,o,n,c,m)=false:=by
   have q:qS (tp,ix,f,a,cs) (r,o,n,c,m)=false:=by
    cases v:qS (tp,ix,f,a,cs) (r,o,n,c,m) with
    | false=>rfl
    | true =>
     simp only[qS,AT,AA3,IN]at v;obtain⟨⟨⟨⟨s,t⟩,w⟩,y⟩,z⟩:=v;rcases b with (((h|h)|h)|h)|h
     .exact absurd s h
     .exact absurd t h
     .exact absurd w h
     .exact absurd y h
     exact absurd z h
   unfold XK;rw[q];rfl
  exact fI d [.tmp 4] (by rw[e];exact eR)
 simp only[ABE]at b;obtain⟨⟨⟨⟨s,t⟩,w⟩,y⟩,z⟩:=b;have e:XK (tp,ix,f,a,cs) (r,o,n,c,m)=(BD (eqV f n) true f.length 0&&BD (eqR a c) true a.length 0&&BD (eqQ cs m) true cs.length 0):=by
  have q:qS (tp,ix,f,a,cs) (r,o,n,c,m)=true:=by
   simp only[qS,AT,AA3,IN];exact⟨⟨⟨⟨s,t⟩,w⟩,y⟩,z⟩
  unfold XK;rw[q];rfl
 rw[e];clear e s t;generalize D:BD (eqV f n) true f.length 0=V;generalize C:BD (eqR a c) true a.length 0=R;generalize H:BD (eqQ cs m) true cs.length 0=Q;refine AJ (ι:={i:Nat//i<=f.length/\BD (eqV f n) true (f.length-i) i=V}) (λi=>⟨[(2,.bp 2 [] 0),(3,.bp 3 [] 0),(5,.p (.int .i64) (i.1:Int))],[(3,.box 41 true [.p T3 r,.p T3 o,.p CQ n,.p L7 c,.p NT m]),(2,.box 41 true [.p T3 tp,.p T3 ix,.p CQ f,.p L7 a,.p NT cs])]⟩) (λi=>f.length-i.1) ⟨0,Do _,D⟩ (AC [(2,.nm 2),(3,.nm 3)] rfl rfl ?_ ?_) (λi=>?_)
 .first|exact eN|refine eM ?_
 .first|exact eN|refine eM ?_
 obtain⟨i,hi,g⟩:=i;simp only;repeat'(first|exact trivial|apply eS rfl|apply AB|refine rX d ?_ ?_|refine rC ?_ ?_<;>intro b<;>try(cases b;done))
 .exact⟨b,by exact eV⟩
 .rw[Ce g (by exact eV) (As (by rw[b];simp))];exact fI d [.tmp 4]
 .omega
 .refine⟨⟨i+1,by exact eV,DN g (by exact eV) (At b)⟩,by simp only;omega,AC [(2,.nm 2),(3,.nm 3)] rfl rfl ?_ ?_⟩
  .first|exact eN|refine eM ?_
  first|exact eN|refine eM ?_
 rw[EA g (by exact eV)];clear g D;refine AJ (ι:={j:Nat//j<=a.length/\BD (eqR a c) true (a.length-j) j=R}) (λj=>⟨[(2,.bp 2 [] 0),(3,.bp 3 [] 0),(6,.p (.int .i64) (j.1:Int))],[(3,.box 41 true [.p T3 r,.p T3 o,.p CQ n,.p L7 c,.p NT m]),(2,.box 41 true [.p T3 tp,.p T3 ix,.p CQ f,.p L7 a,.p NT cs])]⟩) (λj=>a.length-j.1) ⟨0,Do _,C⟩ (AC [(2,.nm 2),(3,.nm 3)] rfl rfl ?_ ?_) (λj=>?_)
 .first|exact eN|refine eM ?_
 .first|exact eN|refine eM ?_
 obtain⟨j,S,g⟩:=j;simp only;repeat'(first|exact trivial|apply eS rfl|apply AB|refine rX d ?_ ?_|refine rC ?_ ?_<;>intro b<;>try(cases b;done))
 .exact b
 .exact eV
 .have q:qR (a.getD j (ByteArray.empty,0,[])) (c.getD j (ByteArray.empty,0,[]))=false:=by
   cases v:qR (a.getD j (ByteArray.empty,0,[])) (c.getD j (ByteArray.empty,0,[])) with
   | false=>rfl
   | true =>
    simp only[qR,AT,AA3,IN]at v;obtain⟨⟨⟨s,t⟩,w⟩,-⟩:=v;rcases b with (h|h)|h
    .rw[s]at h;cases h
    .exact absurd t h
    exact absurd w h
  rw[Ce g (by exact eV) (As (by rw[q];simp))];exact fI d [.tmp 4]
 .have J:j<a.length:=by exact eV
  have I:(a.getD j (ByteArray.empty,0,[])).2.2.length<=AO:=(M _ (AG a (ByteArray.empty,0,[]) J)).2.2.1;simp only[AO]at I;obtain⟨⟨O,P⟩,B⟩:=b;have q:qR (a.getD j (ByteArray.empty,0,[])) (c.getD j (ByteArray.empty,0,[]))=BD (eqA (a.getD j (ByteArray.empty,0,[])).2.2 (c.getD j (ByteArray.empty,0,[])).2.2) true (a.getD j (ByteArray.empty,0,[])).2.2.length 0:=by
   unfold qR;rw[O,AA3.2 (ABE.1 P),ABf (ABE.1 B)];rfl
  have B:=ABE.1 B;generalize E:BD (eqA (a.getD j (ByteArray.empty,0,[])).2.2 (c.getD j (ByteArray.empty,0,[])).2.2) true (a.getD j (ByteArray.empty,0,[])).2.2.length 0=A at q;refine AJ (ι:={k:Nat//k<=(a.getD j (ByteArray.empty,0,[])).2.2.length/\BD (eqA (a.getD j (ByteArray.empty,0,[])).2.2 (c.getD j (ByteArray.empty,0,[])).2.2) true ((a.getD j (ByteArray.empty,0,[])).2.2.length-k) k=A}) (λk=>⟨[(2,.bp 2 [] 0),(3,.bp 3 [] 0),(6,.p (.int .i64) (j:Int)),(7,.bp 7 [] 0),(8,.bp 8 [] 0),(9,.p (.int .i64) (k.1:Int))],[(8,.box 54 true [.p T9 (c.getD j (ByteArray.empty,0,[])).1,.p T3 (c.getD j (ByteArray.empty,0,[])).2.1,.p T52 (c.getD j (ByteArray.empty,0,[])).2.2]),(7,.box 54 true [.p T9 (a.getD j (ByteArray.empty,0,[])).1,.p T3 (a.getD j (ByteArray.empty,0,[])).2.1,.p T52 (a.getD j (ByteArray.empty,0,[])).2.2]),(3,.box 41 true [.p T3 r,.p T3 o,.p CQ n,.p L7 c,.p NT m]),(2,.box 41 true [.p T3 tp,.p T3 ix,.p CQ f,.p L7 a,.p NT cs])]⟩) (λk=>(a.getD j (ByteArray.empty,0,[])).2.2.length-k.1) ⟨0,Do _,E⟩ (AC [(2,.nm 2),(3,.nm 3),(7,.nm 7),(8,.nm 8)] rfl rfl ?_ ?_) (λk=>?_)
  .first|exact eN|refine eM ?_
  .first|exact eN|refine eM ?_
  obtain⟨k,hk,x⟩:=k;simp only;repeat'(first|exact trivial|apply eS rfl|apply AB|refine rX d ?_ ?_|refine rC ?_ ?_<;>intro b<;>try(cases b;done))
  .refine cD 10 d ?_ ?_
   .exact⟨b,by exact eV⟩
   refine A66 (j:=.i64) d (by kernel_rfl) ?_;refine rL d ?_ ?_
   .trivial
   repeat'(first|exact trivial|apply eS rfl|apply AB|refine rX d ?_ ?_|refine rC ?_ ?_<;>intro b<;>try(cases b;done))
   .have F:=Ce x (by exact eV) (As (by simp only[AT,AA3];exact λh=>b h.1 h.2));rw[Ce g (by exact eV) (As (by rw[q,F];simp))];exact fI d [.tmp 4]
   .exact eV
   refine⟨⟨k+1,by exact eV,DN x (by exact eV) (At (by simp only[AT,AA3];exact b))⟩,by simp only;omega,AC [(2,.nm 2),(3,.nm 3),(7,.nm 7),(8,.nm 8)] rfl rfl ?_ ?_⟩
   .first|exact eN|refine eM ?_
   first|exact eN|refine eM ?_
  .omega
  have G:=EA x (by exact eV);refine⟨⟨j+1,by exact eV,DN g (by exact eV) (At (q.trans G))⟩,by simp only;omega,AC [(2,.nm 2),(3,.nm 3)] rfl rfl ?_ ?_⟩
  .first|exact eN|refine eM ?_
  first|exact eN|refine eM ?_
 rw[EA g (by exact eV)];clear g C;refine AJ (ι:={l:Nat//l<=cs.length/\BD (eqQ cs m) true (cs.length-l) l=Q}) (λl=>⟨[(2,.bp 2 [] 0),(3,.bp 3 [] 0),(10,.p (.int .i64) (l.1:Int))],[(3,.box 41 true [.p T3 r,.p T3 o,.p CQ n,.p L7 c,.p NT m]),(2,.box 41 true [.p T3 tp,.p T3 ix,.p CQ f,.p L7 a,.p NT cs])]⟩) (λl=>cs.length-l.1) ⟨0,Do _,H⟩ (AC [(2,.nm 2),(3,.nm 3)] rfl rfl ?_ ?_) (λl=>?_)
 .first|exact eN|refine eM ?_
 .first|exact eN|refine eM ?_
 obtain⟨l,T,g⟩:=l;simp only;repeat'(first|exact trivial|apply eS rfl|apply AB|refine rX d ?_ ?_|refine rC ?_ ?_<;>intro b<;>try(cases b;done))
 .refine cD 10 d ?_ ?_
  .exact⟨b,by exact eV⟩
  refine A67 d ?_;refine rL d ?_ ?_
  .trivial
  repeat'(first|exact trivial|apply eS rfl|apply AB|refine rX d ?_ ?_|refine rC ?_ ?_<;>intro b<;>try(cases b;done))
  .rw[Ce g (by exact eV) (As (by simp only[AT,AA3];exact λh=>b h.1 h.2))];exact fI d [.tmp 4]
  .omega
  refine⟨⟨l+1,by exact eV,DN g (by exact eV) (At (by simp only[AT,AA3];exact b))⟩,by simp only;omega,AC [(2,.nm 2),(3,.nm 3)] rfl rfl ?_ ?_⟩
  .first|exact eN|refine eM ?_
  first|exact eN|refine eM ?_
 rw[EA g (by exact eV)];exact fI d [.tmp 4]
end
section
attribute [local go_sem] Po FF k7 KD KB MQ JW IJ M6
theorem zB:A7 Tryz.prog 29 [] [] [] (λres c=>res=.sr 20 tV 0 Bi.length/\c=[(20,.arr 65 tV Bi)]):=by
 refine JP [0] [3,6,12,14,16,18] [] Tryz.func29 Tryz.ntmps29 (AF k8 AI) ?_;intro w0 K O0 ρ0 a d e;simp only[Am];repeat'(first|exact trivial|apply eS rfl|apply AB|refine rX a ?_ ?_|refine rC ?_ ?_<;>intro b<;>try(cases b;done))
 exact fM a [.tmp 0] (.sr 20 tV 0 13) eT ⟨rfl,rfl⟩
def dcB (d:List AH) (i:Nat):Bool:=decide (8<((d.getD i (ByteArray.empty,[],[])).2.1.length:Int))||decide (8<((d.getD i (ByteArray.empty,[],[])).2.2.length:Int))
def Yu (d:List AH):Bool:=decide (d.length<=8)&&(List.range d.length).all λi=>!dcB d i
def VE (d:List AH):AE×Bool:=if Yu d=true then ((AW (Bi++d)).1,(AW (Bi++d)).2==0) else (([],[]),false)
def i8:AX:={ ins:=[Ee],pre:=λ_=>True,out:=λ(d,_)=>[.p GL (VE d).1,.p .bool (VE d).2] }
theorem A7D {c:Cx} {k:List CU} {ops:Array Oper} {rest:List Oper} {σ a:St} (l:List Nat) (hk:Dq c R k ops rest a) (h:Ci l σ=a:=by simp only[go_sem,Nat.reduceEqDiff,reduceCtorEq,Nat.reduceAdd,Nat.reduceSub,Nat.reduceMul,Nat.reduceLeDiff,Nat.reduceLT,Int.reduceLE,Int.reduceToNat,Int.reduceNeg,↓reduceIte];rfl):Dq c R k ops rest σ:=A0L hk (Xq l h λ_ _ h=>h)
theorem zC:Ac Tryz.prog 9 i8:=by
 refine fK [0,2,3,4,5,6,9,12,13,14,31] Tryz.func9 Tryz.ntmps9 (AF Tv AI) ?_;rintro w0 O0 ⟨d,u⟩ a - -;simp only[i8,AM];repeat'(first|exact trivial|apply eS rfl|apply AB|refine rX a ?_ ?_|refine rC ?_ ?_<;>intro b<;>try(cases b;done))
 .have e:VE d=(([],[]),false):=As (by unfold Yu;rw[decide_eq_false O1];simp);exact fI a [.cell 2 26,.tmp 3] (by rw[e];first|exact eR|refine N9 ?_;rfl)
 refine AJ (ι:={i:Nat//i<=d.length/\∀j,j<i->dcB d j=false}) (λi=>⟨[(0,.p Ee d),(2,.bp 2 [] 0),(12,.p (.int .i64) (d.length:Int)),(13,.p (.int .i64) (i.1:Int))],[(2,.box 26 true [.raw (.slice none 0 0),.raw (.slice none 0 0)])]⟩) (λi=>d.length-i.1) ⟨0,Do _,λ_ h=>by omega⟩ (AC [(2,.nm 2)] rfl rfl ?_ ?_) (λi=>?_)
 .first|exact eN|refine eM ?_
 .first|exact eN|refine eM ?_
 obtain⟨i,hi,c⟩:=i;simp only;repeat'(first|exact trivial|apply eS rfl|apply AB|refine rX a ?_ ?_|refine rC ?_ ?_<;>intro b<;>try(cases b;done))
 .exact⟨b,λ_=>b⟩
 .have f:dcB d i=true:=by unfold dcB;rw[qY,IN,IN];exact b
  have e:VE d=(([],[]),false):=by
   refine As λq=>?_;unfold Yu at q;have:=No.1 (Bool.and_eq_true_iff.1 q).2 i (oN.2 O1);rw[f]at this;cases this
  exact fI a [.cell 2 26,.tmp 3] (by rw[e];first|exact eR|refine N9 ?_;rfl)
 .exact eV
 .have f:dcB d i=false:=by unfold dcB;rw[AAa,TO,TO];exact⟨AAS.2 b.1,AAS.2 b.2⟩
  refine⟨⟨i+1,by omega,λj g=>?_⟩,by simp only;omega,AC [(2,.nm 2)] rfl rfl ?_ ?_⟩
  .by_cases e:j=i
   .rw[e];exact f
   exact c j O1
  .first|exact eN|refine eM ?_
  first|exact eN|refine eM ?_
 have e:VE d=((AW (Bi++d)).1,(AW (Bi++d)).2==0):=by
  refine At ?_;unfold Yu;rw[AT];refine⟨ABf O1,No.2 λj g=>?_⟩;rw[oN]at g;rw[c j O1];rfl
 rw[e];have k:=zB;have l:Bi.length=13:=rfl;clear e c;generalize Bi=p at *;repeat'(first|exact trivial|apply eS rfl|apply AB|refine rP a ?_ ?_|fail)
 refine cP 0 a ?_ ?_
 .trivial
 refine rM a (k) [] [] ?_ ?_ ?_
 .first|exact eN|refine eM ?_
 .first|exact eN|refine eM ?_
 rintro _ _ ⟨rfl,rfl⟩;refine⟨[(20,.nm 20)],.sr 20 tV 0 p.length,[(20,.arr 65 tV p)],rfl,rfl,?_,?_,rfl,rfl,?_⟩
 .first|exact eN|refine eM ?_
 .first|exact eN|refine eM ?_
 refine rN 2 a ?_ ?_
 .have m:d.length<=8:=by exact eV
  rw[l];simp only[AO];dsimp only[Ty.den]at *;omega
 refine A7D [20] ?_;refine rL a ?_ ?_
 .trivial
 repeat'(first|exact trivial|apply eS rfl|apply AB|refine rX a ?_ ?_|refine rC ?_ ?_<;>intro b<;>try(cases b;done))
 exact fI a [.cell 2 26,.tmp 3]
end
theorem mO (s:ByteArray):∀(l:List FE) (r:List AP) (k:Nat),(l.map λx=>x.1)=(r.map λx=>x.1)->Wn s k l=JV s k r
 | [],[],_,_=>rfl
 | x :: l,y :: r,k,h=>by
  simp only[AA2,AB0]at h;unfold Wn JV;rw[h.1,mO s l r (k+1) h.2]
 | [],y :: r,_,h=>by simp at h
 | x :: l,[],_,h=>by simp at h
theorem A2r (d:List AH) (s:ByteArray):Ap (Be d) s=BE (AK d) s:=by
 refine mO s _ _ 0 (AAl (by simp[Uh d]) λi h1 a=>?_);have hi:i<(AK d).length:=by simpa using a
 have b:i<(Be d).1.length:=by simpa using h1
 have:=ABa (λx:FE=>x.1) (iI d hi);simpa[AS,hi,b] using this
theorem zD (s:ByteArray):∀(l:List Qu) (k:Nat),(∃x∈l,AL x.1 s=true)->0<=g9 s k l
 | [],_,h=>by obtain⟨x,a,-⟩:=h;cases a
 | y :: l,k,h=>by
  unfold g9;split
  .omega
  rename_i q;obtain⟨x,a,e⟩:=h;rcases BY.1 a with rfl|a
  .exact absurd e q
  exact zD s l (k+1) ⟨x,a,e⟩
theorem NS {s:ByteArray}:∀(l:List (ByteArray×ByteArray)) (o:List ByteArray),AU o s=true->AU (l.foldl Ig o) s=true
 | [],_,h=>h
 | x :: l,o,h=>NS l _ (Gu (λ_=>Ik) h)
theorem XL {y:ByteArray×ByteArray}:∀(l:List (ByteArray×ByteArray)) (o:List ByteArray),y∈l->AU (l.foldl Ig o) y.1=true
 | x :: l,o,h=>by
  rcases BY.1 h with rfl|h
  .exact NS l _ K5
  exact XL l _ h
theorem RC {s:ByteArray}:∀(l:List AH) (o:List ByteArray),AU o s=true->AU (l.foldl IG o) s=true
 | [],_,h=>h
 | x :: l,o,h=>RC l _ (NS x.2.2 o h)
theorem VG {x:AH} {y:ByteArray×ByteArray} (a:y∈x.2.2):∀(l:List AH) (o:List ByteArray),x∈l->AU (l.foldl IG o) y.1=true
 | z :: l,o,h=>by
  rcases BY.1 h with rfl|h
  .exact RC l _ (XL _ o a)
  exact VG a l _ h
def A3l:List ByteArray:=Bi.map λx=>x.1
def A3m:List ByteArray:=Bi.flatMap λx=>x.2.2.map λy=>y.1
structure FL (h:AE):Prop where
 h14:H14 h
 srt:A2n h
 nm:A6R h
 ty:∀s,(A3l.any λx=>AL x s)=true->0<=Ap h s
 ft:∀s,(A3m.any λx=>AL x s)=true->0<=BN h s
theorem qT (a:(A1 d).2=0):Ah d=0:=by
 unfold A1 at a;split at a
 .rename_i h;exact absurd a h
 rename_i h;exact DO h
theorem qU (h:(AW d).2=0):Ah d=0:=by
 unfold AW at h;split at h
 .rename_i q;exact absurd h q
 rename_i q;exact qT (DO q)
theorem zE (d:List AH) (h:(AW (Bi++d)).2=0):FL (AW (Bi++d)).1:=by
 have b:=qU h;obtain⟨g,-,k,-,-⟩:=Ui b;refine⟨Uq _,cR _,i7 _,λs hs=>?_,λs hs=>?_⟩
 .obtain⟨x,a,e⟩:=VK.1 hs;obtain⟨y,c,rfl⟩:=IF.1 a;rw[Jl b,A2r,<-PA e];exact K6 g (tO _ c)
 obtain⟨x,a,e⟩:=VK.1 hs;obtain⟨z,j,a⟩:=AB2.1 a;obtain⟨y,c,rfl⟩:=IF.1 a;rw[Jl b,<-PA e];have:=VG c (Bi++d) [] (tO _ j);obtain⟨w,i,f⟩:=VK.1 this;refine zD _ _ 0 ⟨K7 (Bi++d) w,?_,f⟩;rw[LO b];exact List.mem_map_of_mem i
theorem A2s (h:(VE d).2=true):FL (VE d).1:=by
 unfold VE at h ⊢;split at h
 .rename_i q;rw[At q];exact zE d (AA3.1 h)
 cases h
theorem FL.so (p:FL h):rD h:=⟨⟨p.ty _ (by decide +kernel),p.ty _ (by decide +kernel),p.ty _ (by decide +kernel),p.ty _ (by decide +kernel)⟩,p.ty _ (by decide +kernel),p.ty _ (by decide +kernel)⟩
def rE (h:AE):Nat->List Int->List AD
 | _,[]=>[(Ap h ⟨#[108,105,115,116]⟩,[])]
 | b,x :: l=>(Ap h ⟨#[99,111,110,115]⟩,[(BN h ⟨#[70,73,82,83,84]⟩,x),(BN h ⟨#[82,69,83,84]⟩,((b+1:Nat):Int))]) :: rE h (b+1) l
def VH (h:AE) (n:Nat) (l:List Int):List AD:=(Ap h ⟨#[100,108,105,115,116]⟩,[(BN h ⟨#[76,73,83,84]⟩,((n+1:Nat):Int)),(BN h ⟨#[76,65,83,84]⟩,((n+1+l.length:Nat):Int))]) :: rE h (n+1) l
theorem Gk (A B:List AD) (t:Int) (L:List (Int×Int)) (n e m:Int) (hn:n=(A.length:Int)):Dk (A++(t,L) :: B) n e m=A++(t,L++[(e,m)]) :: B:=by
 subst hn;unfold Dk;rw[iS,AS,AA4 (OS _),AAY,List.set_append,As (Nat.lt_irrefl _),AAY];rfl
theorem XM (h:AE):∀(l:List Int) (A:List AD) (t:Int) (L:List (Int×Int)) (s:ByteArray),
  Dk (IK h (l.foldl (EE h) (A++[(t,L)],(A.length:Int),s)).1 ⟨#[108,105,115,116]⟩) (l.foldl (EE h) (A++[(t,L)],(A.length:Int),s)).2.1 (BN h (l.foldl (EE h) (A++[(t,L)],(A.length:Int),s)).2.2) ((l.foldl (EE h) (A++[(t,L)],(A.length:Int),s)).1.length:Int)=A++(t,L++[(BN h s,((A.length+1:Nat):Int))]) :: rE h (A.length+1) l /\
  (l.foldl (EE h) (A++[(t,L)],(A.length:Int),s)).1.length=A.length+1+l.length
 | [],A,t,L,s=>by
  refine⟨?_,by simp⟩;simp only[List.foldl_nil];unfold IK;rw[AA5];rw[show [(t,L)]++[(Ap h ⟨#[108,105,115,116]⟩,([]:List (Int×Int)))]=(t,L) :: [(Ap h ⟨#[108,105,115,116]⟩,[])] from rfl,Gk A _ t L _ _ _ rfl];simp only[If,NO,AAd];rfl
 | x :: l,A,t,L,s=>by
  have e:EE h (A++[(t,L)],(A.length:Int),s) x=((A++[(t,L++[(BN h s,((A.length+1:Nat):Int))])])++[(Ap h ⟨#[99,111,110,115]⟩,[(BN h ⟨#[70,73,82,83,84]⟩,x)])],((A++[(t,L++[(BN h s,((A.length+1:Nat):Int))])]).length:Int),⟨#[82,69,83,84]⟩):=by
   unfold EE IK;simp only;rw[AA5,show [(t,L)]++[(Ap h ⟨#[99,111,110,115]⟩,([]:List (Int×Int)))]=(t,L) :: [(Ap h ⟨#[99,111,110,115]⟩,[])] from rfl,Gk A _ t L _ _ _ rfl];have a:(A++[(t,L)]).length=A.length+1:=by simp
   rw[a];have b:A++(t,L++[(BN h s,((A.length+1:Nat):Int))]) :: [(Ap h ⟨#[99,111,110,115]⟩,([]:List (Int×Int)))]=(A++[(t,L++[(BN h s,((A.length+1:Nat):Int))])])++(Ap h ⟨#[99,111,110,115]⟩,[]) :: []:=by simp
   rw[b,Gk _ [] _ _ _ _ _ sc];simp
  rw[OR,e];obtain⟨h1,c⟩:=XM h l (A++[(t,L++[(BN h s,((A.length+1:Nat):Int))])]) (Ap h ⟨#[99,111,110,115]⟩) [(BN h ⟨#[70,73,82,83,84]⟩,x)] ⟨#[82,69,83,84]⟩;refine⟨?_,?_⟩
  .rw[h1,rE];simp
  rw[c];simp;omega
theorem mP (h:AE) (a:List AD) (l:List Int):cU h a l=a++VH h a.length l:=by
 obtain⟨h1,b⟩:=XM h l a (Ap h ⟨#[100,108,105,115,116]⟩) [] ⟨#[76,73,83,84]⟩;unfold cU mN;rw[show IK h a ⟨#[100,108,105,115,116]⟩=a++[(Ap h ⟨#[100,108,105,115,116]⟩,[])] from rfl,h1,b,Gk _ _ _ _ _ _ _ rfl];rfl
theorem mQ (h:AE):∀(l:List Int) (b:Nat),(rE h b l).length=l.length+1
 | [],_=>rfl
 | x :: l,b=>by simp[rE,mQ h l]
theorem Yv (h:AE) (n:Nat) (l:List Int):(VH h n l).length=l.length+2:=by simp[VH,mQ]
def rkF (h:AE) (e:HZ):AD:=(Ap h e.1,(BN h ⟨#[76,65,66,69,76]⟩,2+e.2.1) :: e.2.2.map λa=>(BN h a.1,2+a.2))
def ckF (h:AE) (q:RP):AD:=(Ap h ⟨#[113,101,113]⟩,[(BN h ⟨#[72,73,71,72]⟩,2+q.1),(BN h ⟨#[76,79,87]⟩,2+q.2)])
def vkF (h:AE) (v:ByteArray):AD:=(XJ h v,[])
def Yw (h:AE) (m:Cv):List AD:=m.2.2.1.map (vkF h)++m.2.2.2.1.map (rkF h)++m.2.2.2.2.map (ckF h)
def zF (h:AE) (m:Cv) (r c:Int):List AD:=(Ap h ⟨#[115,105,103,110]⟩,[(BN h ⟨#[83,69,77]⟩,1)]) :: (Ap h ⟨#[115,101,109]⟩,[(BN h ⟨#[84,79,80]⟩,2+m.1),(BN h ⟨#[73,78,68,69,88]⟩,2+m.2.1),(BN h ⟨#[82,69,76,83]⟩,r),(BN h ⟨#[67,79,78,83]⟩,c)]) :: Yw h m
def GH (b k:Nat):List Int:=(List.range k).map λi=>((b+i:Nat):Int)
def pN (m:Cv):Nat:=2+m.2.2.1.length+m.2.2.2.1.length+m.2.2.2.2.length
def qN (m:Cv):Nat:=pN m+m.2.2.2.1.length+2
def qV (m:Cv):List Int:=GH (2+m.2.2.1.length) m.2.2.2.1.length
def qW (m:Cv):List Int:=GH (2+m.2.2.1.length+m.2.2.2.1.length) m.2.2.2.2.length
def Dl (h:AE) (m:Cv):List AD:=zF h m (pN m:Int) (qN m:Int)++VH h (pN m) (qV m)++VH h (qN m) (qW m)
theorem Gl (b k:Nat):(GH b k).length=k:=by simp[GH]
theorem SJ (h:AE) (m:Cv):(Yw h m).length=pN m-2:=by simp[Yw,pN];omega
theorem A2u (h:AE) (m:Cv) (r c:Int):(zF h m r c).length=pN m:=by
 have:=SJ h m;have:2<=pN m:=by unfold pN;omega
 simp[zF,SJ];omega
theorem VI (h:AE) (m:Cv):(Dl h m).length=qN m+m.2.2.2.2.length+2:=by
 simp only[Dl,If,A2u,Yv,qV,qW,Gl,qN];omega
def i9 (m:Cv):Prop:=∀x∈Eh m,0<=x/\x<(m.2.2.1.length:Int)
theorem A3o {e:HZ} (b:e∈m.2.2.2.1):e.2.1∈Eh m/\∀a∈e.2.2,a.2∈Eh m:=by
 refine⟨?_,λa ha=>?_⟩
 .refine tO _ (AAA _ (AB2.2 ⟨e,b,?_⟩));exact iF
 refine tO _ (AAA _ (AB2.2 ⟨e,b,?_⟩));exact GO _ (List.mem_map_of_mem ha)
theorem A3p {q:RP} (a:q∈m.2.2.2.2):q.1∈Eh m/\q.2∈Eh m:=by
 refine⟨AAA _ (AB2.2 ⟨q,a,?_⟩),AAA _ (AB2.2 ⟨q,a,?_⟩)⟩<;>simp[Ij]
theorem A3q (m:Cv):m.1∈Eh m/\m.2.1∈Eh m:=by
 refine⟨?_,?_⟩<;>exact tO _ (tO _ sc)
theorem A2v (d:i9 m):∀x∈Yw h m,∀a∈x.2,2<=a.2/\a.2<((2+m.2.2.1.length:Nat):Int):=by
 intro x c a ha;unfold Yw at c;rw[IS,IS]at c;rcases c with (c|c)|c
 .obtain⟨v,d,rfl⟩:=IF.1 c;cases ha
 .obtain⟨e,j,rfl⟩:=IF.1 c;obtain⟨f,g⟩:=A3o j;rcases BY.1 ha with rfl|ha
  .have:=d _ f;simp only;omega
  obtain⟨b,i,rfl⟩:=IF.1 ha;have:=d _ (g b i);simp only;omega
 obtain⟨q,k,rfl⟩:=IF.1 c;obtain⟨f,g⟩:=A3p k;have v1:=d _ f;have l:=d _ g;unfold ckF at ha;simp only[BY,ABq,ACB]at ha;rcases ha with rfl|rfl<;>simp only<;>omega
theorem A2w {b:Nat} {x:Int} (h:x∈GH b k):(b:Int)<=x/\x<((b+k:Nat):Int):=by
 obtain⟨i,hi,rfl⟩:=IF.1 h;have:=oN.1 hi;omega
theorem Ma {s t:ByteArray} (e:AL s t=false) (h1:0<=BN h s):BN h s≠BN h t:=λq=>by
 obtain⟨i,l,b,x,c,d⟩:=LX s h.2 0 h1;obtain⟨j,m,f,y,a,g⟩:=LX t h.2 0 (show 0<=BN h t by rw[<-q];exact h1);have k:((0+i:Nat):Int)=((0+j:Nat):Int):=b.symm.trans (q.trans f);have:i=j:=by omega
 subst this;rw[c]at a;injection a with a
 subst a;have:=BF (Bm d) g;rw[e]at this;cases this
structure mR (m:Cv):Prop where
 loose:GN m=0
 chk:YE m=0
 rels:m.2.2.2.1.length<=4
 cons:m.2.2.2.2.length<=4
 vars:m.2.2.1.length<=256
 args:∀e∈m.2.2.2.1,e.2.2.length<=10
theorem mR.prd (k:mR m):∀e∈m.2.2.2.1,aD e=0:=by
 have l:=k.loose;unfold GN at l;split at l
 .cases l
 split at l
 .cases l
 split at l
 .rename_i q;exact absurd l q
 rename_i q;intro e b;obtain⟨j,c,rfl⟩:=AAn.1 b;have h1:=K2 (λi r a=>by unfold aE at a;split at a<;>cases a;assumption) _ 0 (DO q) j (Do _) O1;unfold aE at h1;split at h1
 .rename_i d;simpa[AS,c] using d
 cases h1
theorem mR.rng (k:mR m):i9 m:=by
 have l:=k.loose;unfold GN at l;split at l
 .cases l
 split at l
 .cases l
 split at l
 .rename_i q;exact absurd l q
 split at l
 .cases l
 rename_i q;exact kV (DO q)
theorem mR.srt (k:mR m):∀v∈m.2.2.1,YC v=true:=by
 have l:=k.loose;unfold GN at l;split at l
 .cases l
 split at l
 .cases l
 rename_i q;intro v c;obtain⟨j,b,rfl⟩:=AAn.1 c;have h1:=K2 (λi r a=>by unfold oV at a;split at a<;>cases a;decide) _ 0 (DO q) j (Do _) O1;unfold oV at h1;split at h1
 .rename_i d;simpa[AS,b] using d
 cases h1
theorem qX {e:HZ} (h:aD e=0):BJ e.1 false=true/\(∀a∈e.2.2,BJ a.1 true=true/\AL a.1 ⟨#[76,65,66,69,76]⟩=false)/\e.2.2.Pairwise λa b=>CA a.1 b.1=true:=by
 unfold aD at h;split at h
 .rename_i q;have key:∀j,(c:j<e.2.2.length)->v8 e.2.2 j=none:=λj c=>K2 (λi r f=>by unfold v8 at f;split at f<;>(try split at f)<;>cases f<;>decide) _ 0 h j (Do _) O1;have d:∀j,(c:j<e.2.2.length)->BJ (e.2.2[j]).1 true=true/\AL (e.2.2[j]).1 ⟨#[76,65,66,69,76]⟩=false/\(0<j->CA (e.2.2[j-1]).1 (e.2.2[j]).1=true):=by
   intro j c;have:=key j c;unfold v8 at this;split at this
   .cases this
   rename_i m;split at this
   .cases this
   rename_i g;have n:e.2.2.getD j (ByteArray.empty,0)=e.2.2[j]:=by simp[AS,c]
   have o:e.2.2.getD (j-1) (ByteArray.empty,0)=e.2.2[j-1]:=by simp[AS,show j-1<e.2.2.length by omega]
   rw[n]at m g;rw[o]at g;refine⟨?_,?_,λh0=>?_⟩
   .cases l:BJ (e.2.2[j]).1 true with
    | true=>rfl
    | false=>exact absurd (.inl l) m
   .cases l:AL (e.2.2[j]).1 ⟨#[76,65,66,69,76]⟩ with
    | true=>exact absurd (.inr l) m
    | false=>rfl
   refine cQ (λz=>g ⟨by omega,.inl z⟩) (λz=>g ⟨by omega,.inr z⟩)
  refine⟨q,λa ha=>?_,?_⟩
  .obtain⟨j,c,rfl⟩:=AAn.1 ha;exact⟨(d j c).1,(d j c).2.1⟩
  rw[mX];intro i j hi c s;have step:∀k,(hk:i+k+1<e.2.2.length)->CA (e.2.2[i]).1 (e.2.2[i+k+1]).1=true:=by
   intro k;induction k with
   | zero=>exact λhk=>(d (i+1) hk).2.2 O1
   | succ k p =>
    intro hk;exact LV (p O1) ((d (i+k+2) hk).2.2 O1)
  have:=step (j-i-1) O1;simpa[show i+(j-i-1)+1=j by omega] using this
 cases h
theorem XN {h:AE}:∀ {l:List HZ},He h l=0->∀e∈l,0<=Ap h e.1/\Ad h (Ap h ⟨#[114,101,108]⟩) (Ap h e.1)=true/\∀a∈e.2.2,0<=BN h a.1
 | [],_,e,c=>by cases c
 | x :: l,b,e,c=>by
  unfold He at b;split at b
  .cases b
  rename_i h1;split at b
  .cases b
  rename_i f;split at b
  .cases b
  rename_i g;rcases BY.1 c with rfl|c
  .refine⟨by omega,by simpa using f,?_⟩;have key:∀l:List Th,VD h l=false->∀a∈l,0<=BN h a.1:=by
    intro l;induction l with
    | nil=>exact λ_ a ha=>by cases ha
    | cons y l i =>
     intro d a ha;unfold VD at d;split at d
     .cases d
     rcases BY.1 ha with rfl|ha
     .omega
     exact i d a ha
   exact key _ (by simpa using g)
  exact XN b e c
structure NOk (h:AE) (n:Nat) (x:AD):Prop where
 ty:0<=x.1/\x.1<(h.1.length:Int)
 nd:bE x.2
 len:x.2.length<=12
 arc:∀a∈x.2,(0<=a.1/\a.1<(h.2.length:Int))/\0<=a.2/\a.2<(n:Int)
theorem nd2 {a b:Int×Int} (e:a.1≠b.1):bE [a,b]:=by
 unfold bE;simp[e]
theorem FL.tyr (p:FL h) (s:ByteArray) (q:(A3l.any λx=>AL x s)=true):0<=Ap h s/\Ap h s<(h.1.length:Int):=⟨p.ty s q,(C4 h s).2⟩
theorem FL.ftr (p:FL h) (s:ByteArray) (q:(A3m.any λx=>AL x s)=true):0<=BN h s/\BN h s<(h.2.length:Int):=⟨p.ft s q,(Fx h s).2⟩
theorem zG {h:AE} (p:FL h) {n:Nat}:∀(l:List Int) (b:Nat),(∀x∈l,0<=x/\x<(n:Int))->b+l.length<n->∀x∈rE h b l,NOk h n x
 | [],b,_,_,x,c=>by
  rw[rE,oF]at c;subst c;exact⟨p.tyr _ (by decide +kernel),List.Pairwise.nil,by simp,λa ha=>by cases ha⟩
 | y :: l,b,d,e,x,c=>by
  rw[rE,BY]at c;simp only[NO]at e;rcases c with rfl|c
  .refine⟨p.tyr _ (by decide +kernel),nd2 (Ma (by decide +kernel) (p.ft _ (by decide +kernel))),by simp,λa ha=>?_⟩;simp only[BY,ABq,ACB]at ha;rcases ha with rfl|rfl
   .exact⟨p.ftr _ (by decide +kernel),d y iF⟩
   exact⟨p.ftr _ (by decide +kernel),by simp only;omega,by simp only;omega⟩
  exact zG p l (b+1) (λz f=>d z (GO _ f)) O1 x c
theorem zH (p:FL h) {n b:Nat} {l:List Int} (d:∀x∈l,0<=x/\x<(n:Int)) (e:b+1+l.length<n):∀x∈VH h b l,NOk h n x:=by
 intro x c;rw[VH,BY]at c;rcases c with rfl|c
 .refine⟨p.tyr _ (by decide +kernel),nd2 (Ma (by decide +kernel) (p.ft _ (by decide +kernel))),by simp,λa ha=>?_⟩;simp only[BY,ABq,ACB]at ha;rcases ha with rfl|rfl
  .exact⟨p.ftr _ (by decide +kernel),by simp only;omega,by simp only;omega⟩
  exact⟨p.ftr _ (by decide +kernel),by simp only;omega,by simp only;omega⟩
 exact zG p l (b+1) d O1 x c
theorem A2x (p:FL h) (v:ByteArray):0<=XJ h v/\XJ h v<(h.1.length:Int):=by
 unfold XJ;split
 .exact p.tyr _ (by decide +kernel)
 split
 .exact p.tyr _ (by decide +kernel)
 split
 .exact p.tyr _ (by decide +kernel)
 exact p.tyr _ (by decide +kernel)
theorem A3r {b n:Nat} (hn:b+k<=n):∀x∈GH b k,0<=x/\x<(n:Int):=λx a=>by
 have:=A2w a;omega
theorem cW (p:FL h) (k:mR m) (G:He h m.2.2.2.1=0):∀x∈Dl h m,NOk h (Dl h m).length x:=by
 have o:=k.rng;have O:pN m=2+m.2.2.1.length+m.2.2.2.1.length+m.2.2.2.2.length:=rfl;have F:qN m=pN m+m.2.2.2.1.length+2:=rfl;have I:(qV m).length=m.2.2.2.1.length:=Gl _ _;have H:(qW m).length=m.2.2.2.2.length:=Gl _ _;rw[VI];intro x d;unfold Dl at d;rw[IS,IS]at d;rcases d with (d|d)|d
 .unfold zF at d;rw[BY,BY]at d;rcases d with rfl|rfl|d
  .refine⟨p.tyr _ (by decide +kernel),List.pairwise_singleton _ _,by simp,λa ha=>?_⟩;rw[oF]at ha;subst ha;exact⟨p.ftr _ (by decide +kernel),by simp only;omega,by simp only;omega⟩
  .obtain⟨L,M⟩:=A3q m;have v1:=o _ L;have Q:=o _ M;refine⟨p.tyr _ (by decide +kernel),?_,by simp,λa ha=>?_⟩
   .have g:=p.ft ⟨#[84,79,80]⟩ (by decide +kernel);have u:=p.ft ⟨#[73,78,68,69,88]⟩ (by decide +kernel);have D:=p.ft ⟨#[82,69,76,83]⟩ (by decide +kernel);have w:=Ma (h:=h) (s:=⟨#[84,79,80]⟩) (t:=⟨#[73,78,68,69,88]⟩) (by decide +kernel) g;have y:=Ma (h:=h) (s:=⟨#[84,79,80]⟩) (t:=⟨#[82,69,76,83]⟩) (by decide +kernel) g;have z:=Ma (h:=h) (s:=⟨#[84,79,80]⟩) (t:=⟨#[67,79,78,83]⟩) (by decide +kernel) g;have A:=Ma (h:=h) (s:=⟨#[73,78,68,69,88]⟩) (t:=⟨#[82,69,76,83]⟩) (by decide +kernel) u;have B:=Ma (h:=h) (s:=⟨#[73,78,68,69,88]⟩) (t:=⟨#[67,79,78,83]⟩) (by decide +kernel) u;have C:=Ma (h:=h) (s:=⟨#[82,69,76,83]⟩) (t:=⟨#[67,79,78,83]⟩) (by decide +kernel) D;unfold bE;simp[w,y,z,A,B,C]
   simp only[BY,ABq,ACB]at ha;rcases ha with rfl|rfl|rfl|rfl
   .exact⟨p.ftr _ (by decide +kernel),by simp only;omega,by simp only;omega⟩
   .exact⟨p.ftr _ (by decide +kernel),by simp only;omega,by simp only;omega⟩
   .exact⟨p.ftr _ (by decide +kernel),by simp only;omega,by simp only;omega⟩
   exact⟨p.ftr _ (by decide +kernel),by simp only;omega,by simp only;omega⟩
  have f:=A2v (h:=h) o x d;unfold Yw at d;rw[IS,IS]at d;rcases d with (d|d)|d
  .obtain⟨v,-,rfl⟩:=IF.1 d;exact⟨A2x p v,List.Pairwise.nil,by simp[vkF],λa ha=>by cases ha⟩
  .obtain⟨e,n,rfl⟩:=IF.1 d;obtain⟨N,-,r⟩:=XN G e n;obtain⟨-,J,K⟩:=qX (k.prd e n);have P:=k.args e n;refine⟨⟨N,(C4 h _).2⟩,?_,by simp[rkF];omega,λa ha=>⟨?_,by have:=f a ha;omega,by have:=f a ha;omega⟩⟩
   .show bE ((BN h ⟨#[76,65,66,69,76]⟩,2+e.2.1) :: e.2.2.map λa=>(BN h a.1,2+a.2));refine AAf.2 ⟨λb i=>?_,?_⟩
    .obtain⟨c,j,rfl⟩:=IF.1 i;exact Ma (Hw (J c j).2) (p.ft _ (by decide +kernel))
    rw[AAy];refine List.Pairwise.imp_of_mem ?_ K;intro a b ha i E;have:=A6P p.srt E (r a ha) (r b i);simp only;omega
   rcases BY.1 ha with rfl|ha
   .exact p.ftr _ (by decide +kernel)
   obtain⟨c,j,rfl⟩:=IF.1 ha;exact⟨r c j,(Fx h _).2⟩
  obtain⟨q,F,rfl⟩:=IF.1 d;refine⟨p.tyr _ (by decide +kernel),nd2 (Ma (by decide +kernel) (p.ft _ (by decide +kernel))),by simp[ckF],λa ha=>⟨?_,by have:=f a ha;omega,by have:=f a ha;omega⟩⟩;unfold ckF at ha;simp only[BY,ABq,ACB]at ha;rcases ha with rfl|rfl
  .exact p.ftr _ (by decide +kernel)
  exact p.ftr _ (by decide +kernel)
 .exact zH p (l:=qV m) (A3r O1) (by rw[I];omega) x d
 exact zH p (l:=qW m) (A3r O1) (by rw[H];omega) x d
theorem zI (g:f.length<=4096) (h0:0<f.length) (hn:∀x∈f,NOk h f.length x):Aa f/\NdF f/\Q1 f/\FQ f=0/\PF h (DE f):=by
 have d:Aa f:=⟨by omega,λx b=>⟨by have:=(hn x b).len;omega,λa ha=>((hn x b).arc a ha).2⟩⟩;have hs:Q1 f:=λx b=>⟨by have:=(hn x b).len;omega,.inl (hn x b).len⟩;have e:NdF f:=λx b=>⟨(hn x b).nd,hs x b⟩;refine⟨d,e,hs,?_,Lw d,by rw[EC];exact h0,λx b=>?_,λx b=>?_,λx b a ha=>?_⟩
 .unfold FQ;rw[As O1,As O1];refine cC λx b=>⟨(hn x b).ty.1,yK ?_ λa ha=>⟨((hn x b).arc a ha).1.1,((hn x b).arc a ha).2⟩⟩;rw[List.Nodup,AAy];exact(hn x b).nd
 .obtain⟨y,c,rfl⟩:=IF.1 b;exact(hn y c).ty
 .obtain⟨y,c,rfl⟩:=IF.1 b;exact Jg (hn y c).nd
 obtain⟨y,c,rfl⟩:=IF.1 b;have:=(FH y.2).mem_iff.1 ha;exact((hn y c).arc a this).1
theorem jA (k:mR m) (h:AE):(Dl h m).length<=1000:=by
 have a:pN m=2+m.2.2.1.length+m.2.2.2.1.length+m.2.2.2.2.length:=rfl;have b:qN m=pN m+m.2.2.2.1.length+2:=rfl;have:=k.rels;have:=k.cons;have:=k.vars;rw[VI];omega
theorem zJ (h:AE) (m:Cv):0<(Dl h m).length:=by
 rw[VI];omega
theorem zK (p:FL h) (k:mR m) (e:He h m.2.2.2.1=0):Ck (Dl h m)=(AQ (DE (Dl h m)) 0,0)/\VF h (AQ (DE (Dl h m)) 0)/\Q1 (Dl h m):=by
 have h0:=zJ h m;obtain⟨h1,a,b,c,d⟩:=zI (by have:=jA k h;omega) h0 (cW p k e);refine⟨?_,A4Y d (ABg _) (by rw[EC];omega),b⟩;unfold Ck;rw[At c,Q0 h1 a (ABg _) O1]
section
attribute [local go_sem] HX Yt Ol UV KD KB MQ JW IJ M6
def mkF (h:AE) (m:Cv):List AD×Int:=if He h m.2.2.2.1≠0 then ([],He h m.2.2.2.1) else if (Dt h (Ck (Dl h m)).1).2=true then ((Dt h (Ck (Dl h m)).1).1,0) else ([],12)
def A59:AX:={ ins:=[GL,kJ],pre:=λ(h,m,_)=>FL h/\mR m,out:=λ(h,m,_)=>[.p MM (mkF h m).1,.p DD (mkF h m).2] }
def DT (h:AE) (a:List AD):List (Nat×Obj) :=
 [(37,.box 98 true [.p GL h,.ag [.sr 200 dC 0 a.length]]),(200,.nest 57 59 T3 DR a none)]
attribute [local go_sem] DT
theorem zL (h:AE) {j:Nat} (a:j<4) (q:AL (II.getD j (ByteArray.empty,ByteArray.empty)).1 v=true):Ap h (II.getD j (ByteArray.empty,ByteArray.empty)).2=XJ h v:=by
 have e:=PA q;rw[<-e];unfold XJ;match j,a with
 | 0,_=>exact(At (by decide +kernel)).symm
 | 1,_=>rw[As (by decide +kernel),At (by decide +kernel)];rfl
 | 2,_=>rw[As (by decide +kernel),As (by decide +kernel),At (by decide +kernel)];rfl
 | 3,_=>rw[As (by decide +kernel),As (by decide +kernel),As (by decide +kernel)];rfl
theorem A2y:∀i:Nat,i<4->∀j:Nat,j<4->AL (II.getD i (ByteArray.empty,ByteArray.empty)).1 (II.getD j (ByteArray.empty,ByteArray.empty)).1=true->i=j:=by decide +kernel
theorem zN {j:Nat} (hi:i<4) (a:j<4) (b:AL (II.getD i (ByteArray.empty,ByteArray.empty)).1 v=true) (c:AL (II.getD j (ByteArray.empty,ByteArray.empty)).1 v=true):i=j :=
 A2y i hi j a (BF b (Bm c))
theorem zO (q:YC v=true):∃j,j<4/\AL (II.getD j (ByteArray.empty,ByteArray.empty)).1 v=true:=by
 unfold YC at q;simp only[qY]at q;rcases q with ((q|q)|q)|q
 .exact⟨0,by omega,Bm q⟩
 .exact⟨1,by omega,Bm q⟩
 .exact⟨2,by omega,Bm q⟩
 exact⟨3,by omega,Bm q⟩
def jB (h:AE) (v:ByteArray) (A:List AD) (L:List Int) (x:Nat×List AD×List Int):Prop :=
 (∀j,j<x.1->¬AL (II.getD j (ByteArray.empty,ByteArray.empty)).1 v=true)/\x.2=(A,L)\/(∃j,j<x.1/\j<4/\AL (II.getD j (ByteArray.empty,ByteArray.empty)).1 v=true)/\x.2=(A++[vkF h v],L++[(A.length:Int)])
theorem A5a {A:List AD} {j:Nat} (c:jB h v A L (j,Z,M)) (a:j<4) (q:AL (II.getD j (ByteArray.empty,ByteArray.empty)).1 v=true) :
  jB h v A L (j+1,IK h Z (II.getD j (ByteArray.empty,ByteArray.empty)).2,M++[(Z.length:Int)]):=by
 rcases c with ⟨h1,b⟩|⟨⟨i,d,e,f⟩,-⟩
 .cases b;refine .inr ⟨⟨j,AAT j,a,q⟩,?_⟩;unfold IK vkF;rw[zL h a q]
 have:=zN e a f q;simp only at d;omega
theorem A5b {A:List AD} {j:Nat} (b:jB h v A L (j,Z,M)) (q:AL (II.getD j (ByteArray.empty,ByteArray.empty)).1 v=false):jB h v A L (j+1,Z,M):=by
 rcases b with ⟨h1,a⟩|⟨⟨i,c,d,f⟩,a⟩
 .refine .inl ⟨λi hi=>?_,a⟩;by_cases e:i=j
  .rw[e,q];simp
  exact h1 i (by simp only at hi ⊢;omega)
 exact .inr ⟨⟨i,by simp only at c ⊢;omega,d,f⟩,a⟩
theorem A5c {A:List AD} {j:Nat} (b:jB h v A L (j,Z,M)) (d:4<=j) (q:YC v=true):Z=A++[vkF h v]/\M=L++[(A.length:Int)]:=by
 rcases b with ⟨h1,a⟩|⟨-,a⟩
 .obtain⟨i,e,c⟩:=zO q;exact absurd c (h1 i (by simp only;omega))
 cases a;exact⟨rfl,rfl⟩
theorem zP {A:List AD} {j:Nat} (b:jB h v A L (j,Z,M)):Z.length<=A.length+1/\M.length<=L.length+1:=by
 rcases b with ⟨h1,a⟩|⟨-,a⟩<;>cases a<;>simp
theorem VJ (b k:Nat):GH b (k+1)=GH b k++[((b+k:Nat):Int)]:=by simp[GH,AAh]
theorem A2z {b:Nat} {x:Int} (a:0<=x) (c:x<(k:Int)):(GH b k).getD x.toNat 0=(b:Int)+x:=by
 have:x.toNat<k:=by omega
 simp[GH,AS,this];omega
def cX (h:AE):List AD:=[(Ap h ⟨#[115,105,103,110]⟩,[(BN h ⟨#[83,69,77]⟩,1)]),(Ap h ⟨#[115,101,109]⟩,[])]
def zQ (h:AE) (a:List ByteArray) (i:Nat):List AD:=cX h++(a.take i).map (vkF h)
def zR (h:AE) (b:List ByteArray) (a:List HZ) (i:Nat):List AD:=cX h++b.map (vkF h)++(a.take i).map (rkF h)
def jC (h:AE) (A:List AD) (e:HZ) (q:Nat):List AD:=A++[(Ap h e.1,(BN h ⟨#[76,65,66,69,76]⟩,2+e.2.1) :: (e.2.2.take q).map λa=>(BN h a.1,2+a.2))]
theorem A2A (h:AE) (A:List AD) (e:HZ) (q:Nat):(jC h A e q).length=A.length+1:=by simp[jC]
theorem PE (A:List AD) (x:AD):(A++[x]).getD ((A.length:Int)).toNat (0,[])=x:=by simp[AS]
theorem A2B (h:AE) (A:List AD) (e:HZ) (q:Nat) (a:e.2.2.length<=10):((jC h A e q).getD ((A.length:Int)).toNat (0,[])).2.length<=100000:=by
 unfold jC;rw[PE];simp only[NO,dB,On];omega
theorem A6S (h:AE) (A:List AD) (e:HZ):Dk (IK h A e.1) (A.length:Int) (BN h ⟨#[76,65,66,69,76]⟩) (2+e.2.1)=jC h A e 0:=by
 unfold IK jC;exact Gk A [] _ _ _ _ _ rfl
theorem A6T (h:AE) (A:List AD) (e:HZ) {q:Nat} (b:q<e.2.2.length):Dk (jC h A e q) (A.length:Int) (BN h (e.2.2.getD q (ByteArray.empty,0)).1) (2+(e.2.2.getD q (ByteArray.empty,0)).2)=jC h A e (q+1):=by
 unfold jC;rw[OL (λa:Th=>(BN h a.1,2+a.2)) e.2.2 (ByteArray.empty,0) b];exact Gk A [] _ _ _ _ _ rfl
theorem A2C (h:AE) (A:List AD) (e:HZ):jC h A e e.2.2.length=A++[rkF h e]:=by
 unfold jC rkF;rw[By (OS _)]
theorem A7F (h:AE) (A:List AD) (q:RP):Dk (IK h A ⟨#[113,101,113]⟩) (A.length:Int) (BN h ⟨#[72,73,71,72]⟩) (2+q.1)=A++[(Ap h ⟨#[113,101,113]⟩,[(BN h ⟨#[72,73,71,72]⟩,2+q.1)])]:=by
 unfold IK;exact Gk A [] _ _ _ _ _ rfl
theorem A7G (h:AE) (A:List AD) (q:RP):Dk (A++[(Ap h ⟨#[113,101,113]⟩,[(BN h ⟨#[72,73,71,72]⟩,2+q.1)])]) (A.length:Int) (BN h ⟨#[76,79,87]⟩) (2+q.2)=A++[ckF h q]:=by
 unfold ckF;exact Gk A [] _ _ _ _ _ rfl
theorem A2D (h:AE) (a:List ByteArray) (b:List HZ):zQ h a a.length=zR h a b 0:=by simp[zQ,zR]
def rF (h:AE) (b:List ByteArray) (a:List HZ) (cs:List RP) (i:Nat):List AD:=cX h++b.map (vkF h)++a.map (rkF h)++(cs.take i).map (ckF h)
theorem A2E (h:AE) (a:List ByteArray) (hi:i<=a.length):(zQ h a i).length=2+i:=by simp[zQ,cX];omega
theorem zS (h:AE) (a:List ByteArray) (hi:i<a.length):zQ h a (i+1)=zQ h a i++[vkF h (a.getD i ByteArray.empty)]:=by
 unfold zQ;rw[OL (vkF h) a ByteArray.empty hi,AA5]
theorem A2F (h:AE) (b:List ByteArray) (a:List HZ) (hi:i<=a.length):(zR h b a i).length=2+b.length+i:=by simp[zR,cX];omega
theorem zT (h:AE) (b:List ByteArray) (a:List HZ) (hi:i<a.length):zR h b a (i+1)=zR h b a i++[rkF h (a.getD i (ByteArray.empty,0,[]))]:=by
 unfold zR;rw[OL (rkF h) a (ByteArray.empty,0,[]) hi];simp only[AA5]
theorem A2G (h:AE) (b:List ByteArray) (a:List HZ) (cs:List RP):zR h b a a.length=rF h b a cs 0:=by simp[zR,rF]
def VN (h:AE) (m:Cv) (L:List (Int×Int)):List AD:=(Ap h ⟨#[115,105,103,110]⟩,[(BN h ⟨#[83,69,77]⟩,1)]) :: (Ap h ⟨#[115,101,109]⟩,L) :: Yw h m
theorem A2H (h:AE) (tp ix:Int) (b:List ByteArray) (a:List HZ) (cs:List RP):rF h b a cs cs.length=VN h (tp,ix,b,a,cs) []:=by simp[rF,cX,VN,Yw]
theorem A2I (h:AE) (m:Cv) (L:List (Int×Int)) (D:List AD) (e x:Int):Dk (VN h m L++D) 1 e x=VN h m (L++[(e,x)])++D:=Gk [(Ap h ⟨#[115,105,103,110]⟩,[(BN h ⟨#[83,69,77]⟩,1)])] (Yw h m++D) (Ap h ⟨#[115,101,109]⟩) L 1 e x rfl
theorem A5d (h:AE) (m:Cv) (L:List (Int×Int)):(VN h m L).length=pN m:=by
 have:=SJ h m;have:2<=pN m:=by unfold pN;omega
 simp[VN,SJ];omega
theorem Yx (h:AE) (m:Cv) (L:List (Int×Int)) (D:List AD) (a:L.length<=10):((VN h m L++D).getD (1:Int).toNat (0,[])).2.length<=100000:=by
 show L.length<=100000;omega
theorem A7H (p:FL h) (k:mR m) (c:He h m.2.2.2.1=0) (L:List (Int×Int)) (D:List AD) (d:L.length<=10) (b:Iw 12 D):Iw 12 (VN h m L++D):=by
 intro x a;unfold VN at a;rw[To,To,BY,BY,IS]at a;rcases a with rfl|rfl|a|a
 .simp
 .simp only;omega
 .refine(cW p k c x ?_).len;unfold Dl zF;exact tO _ (tO _ (GO _ (GO _ a)))
 exact b x a
theorem A7I (h:AE) (n:Nat) (l:List Int):Iw 12 (VH h n l):=by
 have key:∀(l:List Int) (b:Nat),Iw 12 (rE h b l):=by
  intro l;induction l with
  | nil =>
   intro b x a;rw[rE,oF]at a;subst a;simp
  | cons y l c =>
   intro b x a;rw[rE,BY]at a;rcases a with rfl|a
   .simp
   exact c _ x a
 intro x a;unfold VH at a;rcases BY.1 a with rfl|a
 .simp
 exact key _ _ x a
theorem A2J (h:AE) (m:Cv):VN h m [(BN h ⟨#[84,79,80]⟩,2+m.1),(BN h ⟨#[73,78,68,69,88]⟩,2+m.2.1),(BN h ⟨#[82,69,76,83]⟩,(pN m:Int)),(BN h ⟨#[67,79,78,83]⟩,(qN m:Int))]++(VH h (pN m) (qV m)++VH h (qN m) (qW m))=Dl h m:=by
 unfold Dl;rw[AA5];rfl
theorem zU (p:FL h) (k:mR m) (d:He h m.2.2.2.1=0):xL h (Ck (Dl h m)).1/\(Ck (Dl h m)).2=0/\Q1 (Dl h m):=by
 obtain⟨h1,a,b⟩:=zK p k d;have c:=A4W p.h14 a;generalize AQ (DE (Dl h m)) 0=e at *;rw[h1];exact⟨c,rfl,b⟩
theorem mS (h:AE) (b:List ByteArray) (a:List HZ) (cs:List RP) (hi:i<=cs.length):(rF h b a cs i).length=2+b.length+a.length+i:=by simp[rF,cX];omega
theorem zV (h:AE) (b:List ByteArray) (a:List HZ) (cs:List RP) (hi:i<cs.length):rF h b a cs (i+1)=rF h b a cs i++[ckF h (cs.getD i (0,0))]:=by
 unfold rF;rw[OL (ckF h) cs (0,0) hi];simp only[AA5]
theorem zW:Ac Tryz.prog 19 A59:=by
 refine fKP [0,1,2,3,4,5,6,7,8,9,10,11,12,14,16,18,19,21,23,24,25,26,27,32,47,48,49,50,53,54,55,56,62,73,74,75,76,92,93,94,95,115,116,117,118,181,191] [36,68,111,141] [] Tryz.func19 Tryz.ntmps19 (AF qQ (AF pM (AF xM AI))) ?_;rintro w0 O0 ⟨h,⟨tp,ix,b,f,cs⟩,u⟩ c-⟨I,r⟩;have I:FL h:=I;have r:mR (tp,ix,b,f,cs):=r;have bf:=I.so;have bc:RQ (tp,ix,b,f,cs):=⟨trivial,by have:=r.rels;omega,λe ad=>by have:=r.args e ad;omega,by have:=r.cons;omega⟩;have ca:b.length<=256:=r.vars;have bz:f.length<=4:=r.rels;have br:cs.length<=4:=r.cons;have av:∀e∈f,e.2.2.length<=10:=r.args;have bh:∀v∈b,YC v=true:=r.srt;have E:i9 (tp,ix,b,f,cs):=r.rng;have ao:mkF h (tp,ix,b,f,cs)=if He h f≠0 then ([],He h f) else if (Dt h (Ck (Dl h (tp,ix,b,f,cs))).1).2=true then ((Dt h (Ck (Dl h (tp,ix,b,f,cs))).1).1,0) else ([],12):=rfl
 have ad:(h.1,h.2)=h:=rfl;simp only[A59,AM];repeat'(first|exact trivial|apply eS rfl|apply AB|refine rP c ?_ ?_|fail)
 all_goals try simp only[ad]at *
 .exact⟨bf,bc⟩
 refine rC ?_ ?_<;>intro g
 .have g:He h f≠0:=by simpa using g
  rw[ao,At g];repeat'(first|exact trivial|apply eS rfl|apply AB|refine rX c ?_ ?_|refine rC ?_ ?_<;>intro g<;>try(cases g;done))
  exact fI c [.cell 4 34,.tmp 5] (by first|exact eR|refine N9 ?_;rfl)
 have ak:He h f=0:=by simpa using g
 clear g;rw[ao,As (by rw[ak];simp)];repeat'(first|exact trivial|apply eS rfl|apply AB|refine rP c ?_ ?_|fail)
 refine cP 1 c ?_ ?_
 .trivial
 refine VA GL h ?_;refine rL c ?_ ?_
 .trivial
 repeat'(first|exact trivial|apply eS rfl|apply AB|refine rP c ?_ ?_|fail)
 refine cP 1 c ?_ ?_
 .trivial
 refine rM c (GG h [] sc ⟨#[115,105,103,110]⟩) [(1,.nm 37),(2,.nil)] [] ?_ ?_ ?_
 .first|exact eN|refine eM ?_
 .first|exact eN|refine eM ?_
 rintro _ _ ⟨rfl,rfl⟩;refine⟨[(37,.nm 1),(200,.nm 2)],.p T3 0,DT h ([(Ap h ⟨#[115,105,103,110]⟩,[])]),rfl,rfl,?_,?_,rfl,rfl,?_⟩
 .simp only[HX,DT,IK,bY];first|exact eN|refine eM ?_
 .first|exact eN|refine eM ?_
 simp only[DT];refine rN 1 c ?_ ?_
 .trivial
 refine rM c (GG h [(Ap h ⟨#[115,105,103,110]⟩,[])] sc ⟨#[115,101,109]⟩) [(1,.nm 37),(2,.nm 200)] [200] ?_ ?_ ?_
 .first|exact eN|refine eM ?_
 .first|exact eN|refine eM ?_
 rintro _ _ ⟨rfl,rfl⟩;refine⟨[(37,.nm 1),(200,.nm 2)],.p T3 1,DT h ([(Ap h ⟨#[115,105,103,110]⟩,[]),(Ap h ⟨#[115,101,109]⟩,[])]),rfl,rfl,?_,?_,rfl,rfl,?_⟩
 .simp only[HX,DT,IK,ABu];first|exact eN|refine eM ?_
 .first|exact eN|refine eM ?_
  all_goals rfl
 simp only[DT];refine rL c ?_ ?_
 .trivial
 repeat'(first|exact trivial|apply eS rfl|apply AB|refine rP c ?_ ?_|fail)
 refine cP 3 c ?_ ?_
 .trivial
 refine rM c (EP h [(Ap h ⟨#[115,105,103,110]⟩,[]),(Ap h ⟨#[115,101,109]⟩,[])] sc (n:=0) O1 sc sc ⟨#[83,69,77]⟩ 1) [(1,.nm 37),(2,.nm 200)] [200] ?_ ?_ ?_
 .first|exact eN|refine eM ?_
 .first|exact eN|refine eM ?_
 rintro _ _ ⟨rfl,rfl⟩;refine⟨[(37,.nm 1),(200,.nm 2)],.raw (.tuple #[]),DT h (zQ h b 0),rfl,rfl,?_,?_,rfl,rfl,?_⟩
 .simp only[HX,DT,zQ,cX,AAJ,ABG,AAk];first|exact eN|refine eM ?_
  exact⟨rfl,rfl⟩
 .first|exact eN|refine eM ?_
 simp only[DT];refine rL c ?_ ?_
 .trivial
 repeat'(first|exact trivial|apply eS rfl|apply AB|refine rP c ?_ ?_|fail)
 refine AJ (ι:={i:Nat//i<=b.length}) (λi=>⟨[(2,.bp 2 [] 0),(3,.bp 3 [] 0),(4,.bp 4 [] 0),(7,.bp 37 [] 0),(9,.p T3 1),(10,.sr 69 T3 0 (GH 2 i.1).length),(11,.raw (.slice none 0 0)),(12,.raw (.slice none 0 0)),(47,.p CQ b),(48,.p (.int .i64) (b.length:Int)),(49,.p (.int .i64) (i.1:Int))],DT h (zQ h b i.1)++[(69,.arr 3 T3 (GH 2 i.1)),(4,.box 34 true [.raw (.slice none 0 0)]),(3,.box 41 true [.p T3 tp,.p T3 ix,.p CQ b,.p L7 f,.p NT cs]),(2,.box 26 true [.p Zu h.1,.p fB h.2])]⟩) (λi=>b.length-i.1) ⟨0,Do _⟩ (AC [(2,.nm 2),(3,.nm 3),(4,.nm 4),(37,.nm 37),(200,.nm 200),(69,.nil)] rfl rfl ?_ ?_) (λi=>?_)
 .simp only[DT,To,bY];first|exact eN|refine eM ?_
  rfl
 .simp only[DT,To,bY];first|exact eN|refine eM ?_
  rfl
 obtain⟨i,hi⟩:=i;have y:=A2E h b hi;have ae:=Gl 2 i;have V:=λq=>zS h b (i:=i) q;have t:=VJ 2 i;simp only[DT,To,bY];repeat'(first|exact trivial|apply eS rfl|apply AB|refine rP c ?_ ?_|fail)
 refine rC ?_ ?_<;>intro g
 .have R:i<b.length:=by exact eV
  have V:=V R;have bi:YC (b.getD i ByteArray.empty)=true:=bh _ (Ax R);generalize al:zQ h b i=A at *;generalize N:GH 2 i=L at *;repeat'(first|exact trivial|apply eS rfl|apply AB|refine rP c ?_ ?_|fail)
  .exact g
  refine cP 0 c ?_ ?_
  .trivial
  refine A64 c ?_;refine rL c ?_ ?_
  .trivial
  repeat'(first|exact trivial|apply eS rfl|apply AB|refine rP c ?_ ?_|fail)
  refine AJ (ι:={x:Nat×List AD×List Int//x.1<=4/\jB h (b.getD i ByteArray.empty) A L x}) (λx=>⟨[(2,.bp 2 [] 0),(3,.bp 3 [] 0),(4,.bp 4 [] 0),(7,.bp 37 [] 0),(9,.p T3 1),(10,.sr 69 T3 0 x.1.2.2.length),(11,.raw (.slice none 0 0)),(12,.raw (.slice none 0 0)),(14,.p T9 (b.getD i ByteArray.empty)),(47,.p CQ b),(48,.p (.int .i64) (b.length:Int)),(49,.p (.int .i64) (i:Int)),(53,.p T71 II),(54,.p (.int .i64) 4),(55,.p (.int .i64) (x.1.1:Int))],DT h x.1.2.1++[(69,.arr 3 T3 (x.1.2.2)),(4,.box 34 true [.raw (.slice none 0 0)]),(3,.box 41 true [.p T3 tp,.p T3 ix,.p CQ b,.p L7 f,.p NT cs]),(2,.box 26 true [.p Zu h.1,.p fB h.2])]⟩) (λx=>4-x.1.1) ⟨(0,A,L),Do _,.inl ⟨λj H=>absurd H (Nat.not_lt_zero j),rfl⟩⟩ (AC [(2,.nm 2),(3,.nm 3),(4,.nm 4),(37,.nm 37),(200,.nm 200),(69,.nm 69)] rfl rfl ?_ ?_) (λx=>?_)
  .simp only[DT,To,bY];first|exact eN|refine eM ?_
  .simp only[DT,To,bY];first|exact eN|refine eM ?_
   exact⟨rfl,rfl⟩
  obtain⟨⟨j,Z,M⟩,H,G⟩:=x;simp only at H G;have cc:=zP G;simp only[DT,To,bY];repeat'(first|exact trivial|apply eS rfl|apply AB|refine rP c ?_ ?_|fail)
  refine rC ?_ ?_<;>intro g
  .have z:j<4:=by omega
   repeat'(first|exact trivial|apply eS rfl|apply AB|refine rP c ?_ ?_|fail)
   .exact g
   refine rC ?_ ?_<;>intro g
   .repeat'(first|exact trivial|apply eS rfl|apply AB|refine rP c ?_ ?_|fail)
    refine cP 4 c ?_ ?_
    .trivial
    refine rM c (GG h Z O1 (II.getD j (ByteArray.empty,ByteArray.empty)).2) [(1,.nm 37),(2,.nm 200)] [200] ?_ ?_ ?_
    .first|exact eN|refine eM ?_
    .first|exact eN|refine eM ?_
    rintro _ _ ⟨rfl,rfl⟩;refine⟨[(37,.nm 1),(200,.nm 2)],.p T3 (Z.length:Int),DT h (IK h Z (II.getD j (ByteArray.empty,ByteArray.empty)).2),rfl,rfl,?_,?_,rfl,rfl,?_⟩
    .simp only[HX,DT];first|exact eN|refine eM ?_
    .first|exact eN|refine eM ?_
    simp only[DT];refine rL c ?_ ?_
    .simp only[AO];omega
    repeat'(first|exact trivial|apply eS rfl|apply AB|refine rP c ?_ ?_|fail)
    .exact eV
    refine⟨⟨(j+1,IK h Z (II.getD j (ByteArray.empty,ByteArray.empty)).2,M++[(Z.length:Int)]),by simp only;omega,A5a G z g⟩,by simp only;omega,AC [(2,.nm 2),(3,.nm 3),(4,.nm 4),(37,.nm 37),(200,.nm 200),(69,.nm 69)] rfl rfl ?_ ?_⟩
    .simp only[DT,To,bY];first|exact eN|refine eM ?_
    simp only[DT,To,bY];first|exact eN|refine eM ?_
   have g:AL (II.getD j (ByteArray.empty,ByteArray.empty)).1 (b.getD i ByteArray.empty)=false:=by simpa using g
   repeat'(first|exact trivial|apply eS rfl|apply AB|refine rP c ?_ ?_|fail)
   .exact eV
   refine⟨⟨(j+1,Z,M),by simp only;omega,A5b G g⟩,by simp only;omega,AC [(2,.nm 2),(3,.nm 3),(4,.nm 4),(37,.nm 37),(200,.nm 200),(69,.nm 69)] rfl rfl ?_ ?_⟩
   .simp only[DT,To,bY];first|exact eN|refine eM ?_
   simp only[DT,To,bY];first|exact eN|refine eM ?_
  obtain⟨ap,aq⟩:=A5c G O1 bi;subst ap;subst aq;repeat'(first|exact trivial|apply eS rfl|apply AB|refine rP c ?_ ?_|fail)
  .exact eV
  refine⟨⟨i+1,by omega⟩,by simp only;omega,AC [(2,.nm 2),(3,.nm 3),(4,.nm 4),(37,.nm 37),(200,.nm 200),(69,.nm 69)] rfl rfl ?_ ?_⟩
  .simp only[DT,To,bY,V,t];first|exact eN|refine eM ?_
   rw[y]
  simp only[DT,To,bY,V,t];first|exact eN|refine eM ?_
 have R:i=b.length:=by omega
 subst R;repeat'(first|exact trivial|apply eS rfl|apply AB|refine rP c ?_ ?_|fail)
 refine C8 [69] ?_;have bl:=A2D h b f;have F:=Gl 2 b.length;have C:∀x:Int,0<=x->x<(b.length:Int)->(GH 2 b.length).getD x.toNat 0=2+x:=λx bo bq=>A2z bo bq;simp only[bl];refine AJ (ι:={k:Nat//k<=f.length}) (λk=>⟨[(2,.bp 2 [] 0),(3,.bp 3 [] 0),(4,.bp 4 [] 0),(7,.bp 37 [] 0),(9,.p T3 1),(10,.p CH (GH 2 b.length)),(11,.sr 112 T3 0 (GH (2+b.length) k.1).length),(12,.raw (.slice none 0 0)),(73,.p L7 f),(74,.p (.int .i64) (f.length:Int)),(75,.p (.int .i64) (k.1:Int))],DT h (zR h b f k.1)++[(112,.arr 3 T3 (GH (2+b.length) k.1)),(4,.box 34 true [.raw (.slice none 0 0)]),(3,.box 41 true [.p T3 tp,.p T3 ix,.p CQ b,.p L7 f,.p NT cs]),(2,.box 26 true [.p Zu h.1,.p fB h.2])]⟩) (λk=>f.length-k.1) ⟨0,Do _⟩ (AC [(2,.nm 2),(3,.nm 3),(4,.nm 4),(37,.nm 37),(200,.nm 200),(112,.nil)] rfl rfl ?_ ?_) (λk=>?_)
 .simp only[DT,To,bY];first|exact eN|refine eM ?_
  rfl
 .simp only[DT,To,bY];first|exact eN|refine eM ?_
  rfl
 obtain⟨k,hk⟩:=k;have y:=A2F h b f hk;have ae:=Gl (2+b.length) k;have w:=λq=>zT h b f (i:=k) q;have t:=VJ (2+b.length) k;simp only[DT,To,bY];repeat'(first|exact trivial|apply eS rfl|apply AB|refine rP c ?_ ?_|fail)
 refine rC ?_ ?_<;>intro g
 .have S:k<f.length:=by exact eV
  have w:=w S;have P:f.getD k (ByteArray.empty,0,[])∈f:=Ax S;have az:=av _ P;obtain⟨ah,ai⟩:=A3o (m:=(tp,ix,b,f,cs)) P;have o:=E _ ah;have s:∀a∈(f.getD k (ByteArray.empty,0,[])).2.2,0<=a.2/\a.2<(b.length:Int):=λa ha=>E _ (ai a ha);simp only at o;generalize al:zR h b f k=A at *;generalize N:GH (2+b.length) k=L at *;repeat'(first|exact trivial|apply eS rfl|apply AB|refine rP c ?_ ?_|fail)
  .exact g
  generalize au:f.getD k (ByteArray.empty,0,[])=e at *;have B:=C e.2.1 o.1 o.2;have bm:=NR h A e.1;have h0:=A6S h A e;rw[<-B]at h0;refine cP 3 c ?_ ?_
  .trivial
  refine rM c (GG h A O1 e.1) [(1,.nm 37),(2,.nm 200)] [200] ?_ ?_ ?_
  .first|exact eN|refine eM ?_
  .first|exact eN|refine eM ?_
  rintro _ _ ⟨rfl,rfl⟩;refine⟨[(37,.nm 1),(200,.nm 2)],.p T3 (A.length:Int),DT h (IK h A e.1),rfl,rfl,?_,?_,rfl,rfl,?_⟩
  .simp only[HX,DT];first|exact eN|refine eM ?_
  .first|exact eN|refine eM ?_
  simp only[DT];refine rL c ?_ ?_
  .trivial
  repeat'(first|exact trivial|apply eS rfl|apply AB|refine rP c ?_ ?_|fail)
  refine cP 7 c ?_ ?_
  .rw[F];exact o
  refine rM c (EP h (IK h A e.1) O1 (n:=(A.length:Int)) O1 O1 (by unfold IK;rw[PE];simp) ⟨#[76,65,66,69,76]⟩ ((GH 2 b.length).getD e.2.1.toNat 0)) [(1,.nm 37),(2,.nm 200)] [200] ?_ ?_ ?_
  .first|exact eN|refine eM ?_
  .first|exact eN|refine eM ?_
  rintro _ _ ⟨rfl,rfl⟩;refine⟨[(37,.nm 1),(200,.nm 2)],.raw (.tuple #[]),DT h (jC h A e 0),rfl,rfl,?_,?_,rfl,rfl,?_⟩
  .simp only[HX,DT,h0];first|exact eN|refine eM ?_
  .first|exact eN|refine eM ?_
  simp only[DT];have am:=A2A h A e;have aa:=λq=>A2B h A e q az;refine rL c ?_ ?_
  .trivial
  repeat'(first|exact trivial|apply eS rfl|apply AB|refine rP c ?_ ?_|fail)
  refine AJ (ι:={q:Nat//q<=e.2.2.length}) (λq=>⟨[(2,.bp 2 [] 0),(3,.bp 3 [] 0),(4,.bp 4 [] 0),(7,.bp 37 [] 0),(9,.p T3 1),(10,.p CH (GH 2 b.length)),(11,.sr 112 T3 0 L.length),(12,.raw (.slice none 0 0)),(18,.bp 18 [] 0),(19,.p T3 (A.length:Int)),(73,.p L7 f),(74,.p (.int .i64) (f.length:Int)),(75,.p (.int .i64) (k:Int)),(92,.p T52 e.2.2),(93,.p (.int .i64) (e.2.2.length:Int)),(94,.p (.int .i64) (q.1:Int))],DT h (jC h A e q.1)++[(112,.arr 3 T3 (L)),(18,.box 54 true [.p T9 e.1,.p T3 e.2.1,.p T52 e.2.2]),(4,.box 34 true [.raw (.slice none 0 0)]),(3,.box 41 true [.p T3 tp,.p T3 ix,.p CQ b,.p L7 f,.p NT cs]),(2,.box 26 true [.p Zu h.1,.p fB h.2])]⟩) (λq=>e.2.2.length-q.1) ⟨0,Do _⟩ (AC [(2,.nm 2),(3,.nm 3),(4,.nm 4),(37,.nm 37),(200,.nm 200),(112,.nm 112),(18,.nm 18)] rfl rfl ?_ ?_) (λq=>?_)
  .simp only[DT,To,bY];first|exact eN|refine eM ?_
  .simp only[DT,To,bY];first|exact eN|refine eM ?_
  obtain⟨q,bw⟩:=q;have aa:=aa q;have am:=am q;simp only[DT,To,bY];repeat'(first|exact trivial|apply eS rfl|apply AB|refine rP c ?_ ?_|fail)
  refine rC ?_ ?_<;>intro g
  .have U:q<e.2.2.length:=by exact eV
   have hs:=A6T h A e U;have ag:=s _ (Ax (d:=(ByteArray.empty,(0:Int))) U);have ba:=C _ ag.1 ag.2;rw[<-ba]at hs;repeat'(first|exact trivial|apply eS rfl|apply AB|refine rP c ?_ ?_|fail)
   .exact g
   refine cD 9 c ?_ ?_
   .rw[F];exact ag
   refine rM c (EP h (jC h A e q) O1 (n:=(A.length:Int)) O1 O1 aa (e.2.2.getD q (ByteArray.empty,0)).1 ((GH 2 b.length).getD (e.2.2.getD q (ByteArray.empty,0)).2.toNat 0)) [(1,.nm 37),(2,.nm 200)] [200] ?_ ?_ ?_
   .first|exact eN|refine eM ?_
   .first|exact eN|refine eM ?_
   rintro _ _ ⟨rfl,rfl⟩;refine⟨[(37,.nm 1),(200,.nm 2)],.raw (.tuple #[]),DT h (jC h A e (q+1)),rfl,rfl,?_,?_,rfl,rfl,?_⟩
   .simp only[HX,DT,hs];first|exact eN|refine eM ?_
   .first|exact eN|refine eM ?_
   simp only[DT];refine rL c ?_ ?_
   .trivial
   repeat'(first|exact trivial|apply eS rfl|apply AB|refine rP c ?_ ?_|fail)
   .exact eV
   refine⟨⟨q+1,by omega⟩,by simp only;omega,AC [(2,.nm 2),(3,.nm 3),(4,.nm 4),(37,.nm 37),(200,.nm 200),(112,.nm 112),(18,.nm 18)] rfl rfl ?_ ?_⟩
   .simp only[DT,To,bY];first|exact eN|refine eM ?_
   simp only[DT,To,bY];first|exact eN|refine eM ?_
  have U:q=e.2.2.length:=by omega
  subst U;rw[A2C,<-w];repeat'(first|exact trivial|apply eS rfl|apply AB|refine rP c ?_ ?_|fail)
  .simp only[AO];omega
  .exact eV
  refine⟨⟨k+1,by omega⟩,by simp only;omega,AC [(2,.nm 2),(3,.nm 3),(4,.nm 4),(37,.nm 37),(200,.nm 200),(112,.nm 112)] rfl rfl ?_ ?_⟩
  .simp only[DT,To,bY,t,y];first|exact eN|refine eM ?_
  simp only[DT,To,bY,t,y];first|exact eN|refine eM ?_
 have S:k=f.length:=by omega
 subst S;repeat'(first|exact trivial|apply eS rfl|apply AB|refine rP c ?_ ?_|fail)
 refine C8 [112] ?_;have bd:=A2G h b f cs;simp only[bd];refine AJ (ι:={j:Nat//j<=cs.length}) (λj=>⟨[(2,.bp 2 [] 0),(3,.bp 3 [] 0),(4,.bp 4 [] 0),(7,.bp 37 [] 0),(9,.p T3 1),(10,.p CH (GH 2 b.length)),(11,.p CH (GH (2+b.length) f.length)),(12,.sr 142 T3 0 (GH (2+b.length+f.length) j.1).length),(115,.p NT cs),(116,.p (.int .i64) (cs.length:Int)),(117,.p (.int .i64) (j.1:Int))],DT h (rF h b f cs j.1)++[(142,.arr 3 T3 (GH (2+b.length+f.length) j.1)),(4,.box 34 true [.raw (.slice none 0 0)]),(3,.box 41 true [.p T3 tp,.p T3 ix,.p CQ b,.p L7 f,.p NT cs]),(2,.box 26 true [.p Zu h.1,.p fB h.2])]⟩) (λj=>cs.length-j.1) ⟨0,Do _⟩ (AC [(2,.nm 2),(3,.nm 3),(4,.nm 4),(37,.nm 37),(200,.nm 200),(142,.nil)] rfl rfl ?_ ?_) (λj=>?_)
 .simp only[DT,To,bY];first|exact eN|refine eM ?_
  rfl
 .simp only[DT,To,bY];first|exact eN|refine eM ?_
  rfl
 obtain⟨j,H⟩:=j;have y:=mS h b f cs H;have ae:=Gl (2+b.length+f.length) j;have w:=λq=>zV h b f cs (i:=j) q;have t:=VJ (2+b.length+f.length) j;simp only[DT,To,bY];repeat'(first|exact trivial|apply eS rfl|apply AB|refine rP c ?_ ?_|fail)
 refine rC ?_ ?_<;>intro g
 .have z:j<cs.length:=by exact eV
  have w:=w z;have P:cs.getD j (0,0)∈cs:=Ax z;obtain⟨ah,ai⟩:=A3p (m:=(tp,ix,b,f,cs)) P;have o:=E _ ah;have s:=E _ ai;simp only at o s;generalize al:rF h b f cs j=A at *;generalize N:GH (2+b.length+f.length) j=L at *;repeat'(first|exact trivial|apply eS rfl|apply AB|refine rP c ?_ ?_|fail)
  .exact g
  generalize au:cs.getD j (0,0)=e at *;have B:=C e.1 o.1 o.2;have Q:=C e.2 s.1 s.2;have bm:=NR h A ⟨#[113,101,113]⟩;have h1:=A7F h A e;have J:=A7G h A e;rw[<-B]at h1 J;rw[<-Q]at J;rw[<-w]at J;refine cP 1 c ?_ ?_
  .trivial
  refine rM c (GG h A O1 ⟨#[113,101,113]⟩) [(1,.nm 37),(2,.nm 200)] [200] ?_ ?_ ?_
  .first|exact eN|refine eM ?_
  .first|exact eN|refine eM ?_
  rintro _ _ ⟨rfl,rfl⟩;refine⟨[(37,.nm 1),(200,.nm 2)],.p T3 (A.length:Int),DT h (IK h A ⟨#[113,101,113]⟩),rfl,rfl,?_,?_,rfl,rfl,?_⟩
  .simp only[HX,DT];first|exact eN|refine eM ?_
  .first|exact eN|refine eM ?_
  simp only[DT];refine rL c ?_ ?_
  .trivial
  repeat'(first|exact trivial|apply eS rfl|apply AB|refine rP c ?_ ?_|fail)
  refine cP 7 c ?_ ?_
  .rw[F];exact o
  refine rM c (EP h (IK h A ⟨#[113,101,113]⟩) O1 (n:=(A.length:Int)) O1 O1 (by unfold IK;rw[PE];simp) ⟨#[72,73,71,72]⟩ ((GH 2 b.length).getD e.1.toNat 0)) [(1,.nm 37),(2,.nm 200)] [200] ?_ ?_ ?_
  .first|exact eN|refine eM ?_
  .first|exact eN|refine eM ?_
  rintro _ _ ⟨rfl,rfl⟩;refine⟨[(37,.nm 1),(200,.nm 2)],.raw (.tuple #[]),DT h (A++[(Ap h ⟨#[113,101,113]⟩,[(BN h ⟨#[72,73,71,72]⟩,(GH 2 b.length).getD e.1.toNat 0)])]),rfl,rfl,?_,?_,rfl,rfl,?_⟩
  .simp only[HX,DT,h1];first|exact eN|refine eM ?_
  .first|exact eN|refine eM ?_
  simp only[DT];refine rL c ?_ ?_
  .trivial
  repeat'(first|exact trivial|apply eS rfl|apply AB|refine rP c ?_ ?_|fail)
  refine cP 7 c ?_ ?_
  .rw[F];exact s
  refine rM c (EP h (A++[(Ap h ⟨#[113,101,113]⟩,[(BN h ⟨#[72,73,71,72]⟩,(GH 2 b.length).getD e.1.toNat 0)])]) (by simp only[If,nO];omega) (n:=(A.length:Int)) O1 (by simp only[If,nO];omega) (by rw[PE];simp) ⟨#[76,79,87]⟩ ((GH 2 b.length).getD e.2.toNat 0)) [(1,.nm 37),(2,.nm 200)] [200] ?_ ?_ ?_
  .first|exact eN|refine eM ?_
  .first|exact eN|refine eM ?_
  rintro _ _ ⟨rfl,rfl⟩;refine⟨[(37,.nm 1),(200,.nm 2)],.raw (.tuple #[]),DT h (rF h b f cs (j+1)),rfl,rfl,?_,?_,rfl,rfl,?_⟩
  .simp only[HX,DT,J];first|exact eN|refine eM ?_
  .first|exact eN|refine eM ?_
  simp only[DT];refine rL c ?_ ?_
  .trivial
  repeat'(first|exact trivial|apply eS rfl|apply AB|refine rP c ?_ ?_|fail)
  .simp only[AO];omega
  .exact eV
  have cb:=mS h b f cs z;refine⟨⟨j+1,by omega⟩,by simp only;omega,AC [(2,.nm 2),(3,.nm 3),(4,.nm 4),(37,.nm 37),(200,.nm 200),(142,.nm 142)] rfl rfl ?_ ?_⟩
  .simp only[DT,To,bY,t,y];first|exact eN|refine eM ?_
  simp only[DT,To,bY,t,y];first|exact eN|refine eM ?_
 have z:j=cs.length:=by omega
 subst z;repeat'(first|exact trivial|apply eS rfl|apply AB|refine rP c ?_ ?_|fail)
 refine C8 [142] ?_;have an:=A2H h tp ix b f cs;simp only[an];clear an w y ae t;obtain⟨bj,bk⟩:=A3q (tp,ix,b,f,cs);have o:=E _ bj;have s:=E _ bk;simp only at o s;have B:=C tp o.1 o.2;have Q:=C ix s.1 s.2;have bv:pN (tp,ix,b,f,cs)=2+b.length+f.length+cs.length:=rfl;have bx:qN (tp,ix,b,f,cs)=pN (tp,ix,b,f,cs)+f.length+2:=rfl;have be:qV (tp,ix,b,f,cs)=GH (2+b.length) f.length:=rfl;have ax:qW (tp,ix,b,f,cs)=GH (2+b.length+f.length) cs.length:=rfl;have l:=A5d h (tp,ix,b,f,cs);have W:=A2I h (tp,ix,b,f,cs) [] [] (BN h ⟨#[84,79,80]⟩) ((GH 2 b.length).getD tp.toNat 0);have X:=A2I h (tp,ix,b,f,cs) [(BN h ⟨#[84,79,80]⟩,2+tp)] [] (BN h ⟨#[73,78,68,69,88]⟩) ((GH 2 b.length).getD ix.toNat 0);simp only[AAk,bY,ABu]at W X;rw[B]at W;rw[Q]at X;have T:=A2J h (tp,ix,b,f,cs);simp only at T;have af:=λL D (N:L.length<=10) ar=>A7H I r ak L D N ar;obtain⟨bb,aw,bg⟩:=zU I r ak;generalize bu:(tp,ix,b,f,cs)=m at *;have bt:=Gl (2+b.length) f.length;have bs:=Gl (2+b.length+f.length) cs.length;have O:=Yv h (pN m) (GH (2+b.length) f.length);refine cP 7 c ?_ ?_
 .rw[F];exact o
 refine rM c (EP h (VN h m []) (by rw[l];omega) (n:=1) O1 (by rw[l];omega) (by simpa using Yx h m [] [] sc) ⟨#[84,79,80]⟩ ((GH 2 b.length).getD tp.toNat 0)) [(1,.nm 37),(2,.nm 200)] [200] ?_ ?_ ?_
 .first|exact eN|refine eM ?_
 .first|exact eN|refine eM ?_
 rintro _ _ ⟨rfl,rfl⟩;refine⟨[(37,.nm 1),(200,.nm 2)],.raw (.tuple #[]),DT h (VN h m [(BN h ⟨#[84,79,80]⟩,2+tp)]),rfl,rfl,?_,?_,rfl,rfl,?_⟩
 .simp only[HX,DT,B,W,l];first|exact eN|refine eM ?_
 .first|exact eN|refine eM ?_
 simp only[DT];refine rL c ?_ ?_
 .trivial
 repeat'(first|exact trivial|apply eS rfl|apply AB|refine rP c ?_ ?_|fail)
 refine cP 7 c ?_ ?_
 .rw[F];exact s
 refine rM c (EP h (VN h m [(BN h ⟨#[84,79,80]⟩,2+tp)]) (by rw[l];omega) (n:=1) O1 (by rw[l];omega) (by simpa using Yx h m [(BN h ⟨#[84,79,80]⟩,2+tp)] [] sc) ⟨#[73,78,68,69,88]⟩ ((GH 2 b.length).getD ix.toNat 0)) [(1,.nm 37),(2,.nm 200)] [200] ?_ ?_ ?_
 .first|exact eN|refine eM ?_
 .first|exact eN|refine eM ?_
 rintro _ _ ⟨rfl,rfl⟩;refine⟨[(37,.nm 1),(200,.nm 2)],.raw (.tuple #[]),DT h (VN h m [(BN h ⟨#[84,79,80]⟩,2+tp),(BN h ⟨#[73,78,68,69,88]⟩,2+ix)]),rfl,rfl,?_,?_,rfl,rfl,?_⟩
 .simp only[HX,DT,Q,X,l];first|exact eN|refine eM ?_
 .first|exact eN|refine eM ?_
 simp only[DT];refine rL c ?_ ?_
 .trivial
 repeat'(first|exact trivial|apply eS rfl|apply AB|refine rP c ?_ ?_|fail)
 refine cP 4 c ?_ ?_
 .trivial
 refine rM c (cV h (VN h m [(BN h ⟨#[84,79,80]⟩,2+tp),(BN h ⟨#[73,78,68,69,88]⟩,2+ix)]) (by rw[l];omega) (K:=12) (by simpa using af [(BN h ⟨#[84,79,80]⟩,2+tp),(BN h ⟨#[73,78,68,69,88]⟩,2+ix)] [] sc (λx bn=>by cases bn)) O1 (GH (2+b.length) f.length) O1) [(1,.nm 37),(2,.nm 200)] [200] ?_ ?_ ?_
 .first|exact eN|refine eM ?_
 .first|exact eN|refine eM ?_
 rintro _ _ ⟨rfl,rfl⟩;refine⟨[(37,.nm 1),(200,.nm 2)],.p T3 (pN m:Int),DT h (VN h m [(BN h ⟨#[84,79,80]⟩,2+tp),(BN h ⟨#[73,78,68,69,88]⟩,2+ix)]++VH h (pN m) (GH (2+b.length) f.length)),rfl,rfl,?_,?_,rfl,rfl,?_⟩
 .simp only[HX,DT,mP,l];first|exact eN|refine eM ?_
 .first|exact eN|refine eM ?_
  all_goals rw[l]
 simp only[DT];have aj:=A2I h m [(BN h ⟨#[84,79,80]⟩,2+tp),(BN h ⟨#[73,78,68,69,88]⟩,2+ix)] (VH h (pN m) (GH (2+b.length) f.length)) (BN h ⟨#[82,69,76,83]⟩) (pN m:Int);simp only[To,bY]at aj;refine rM c (EP h (VN h m [(BN h ⟨#[84,79,80]⟩,2+tp),(BN h ⟨#[73,78,68,69,88]⟩,2+ix)]++VH h (pN m) (GH (2+b.length) f.length)) (by rw[If,l,O];omega) (n:=1) O1 (by rw[If,l,O];omega) (Yx h m [(BN h ⟨#[84,79,80]⟩,2+tp),(BN h ⟨#[73,78,68,69,88]⟩,2+ix)] _ sc) ⟨#[82,69,76,83]⟩ (pN m:Int)) [(1,.nm 37),(2,.nm 200)] [200] ?_ ?_ ?_
 .first|exact eN|refine eM ?_
 .first|exact eN|refine eM ?_
 rintro _ _ ⟨rfl,rfl⟩;refine⟨[(37,.nm 1),(200,.nm 2)],.raw (.tuple #[]),DT h (VN h m [(BN h ⟨#[84,79,80]⟩,2+tp),(BN h ⟨#[73,78,68,69,88]⟩,2+ix),(BN h ⟨#[82,69,76,83]⟩,(pN m:Int))]++VH h (pN m) (GH (2+b.length) f.length)),rfl,rfl,?_,?_,rfl,rfl,?_⟩
 .simp only[HX,DT,aj];first|exact eN|refine eM ?_
 .first|exact eN|refine eM ?_
 simp only[DT];refine rL c ?_ ?_
 .trivial
 repeat'(first|exact trivial|apply eS rfl|apply AB|refine rP c ?_ ?_|fail)
 have ay:=Yv h (qN m) (GH (2+b.length+f.length) cs.length);have ab:(VN h m [(BN h ⟨#[84,79,80]⟩,2+tp),(BN h ⟨#[73,78,68,69,88]⟩,2+ix),(BN h ⟨#[82,69,76,83]⟩,(pN m:Int))]++VH h (pN m) (GH (2+b.length) f.length)).length=qN m:=by rw[If,l,O];omega
 refine cP 4 c ?_ ?_
 .trivial
 refine rM c (cV h (VN h m [(BN h ⟨#[84,79,80]⟩,2+tp),(BN h ⟨#[73,78,68,69,88]⟩,2+ix),(BN h ⟨#[82,69,76,83]⟩,(pN m:Int))]++VH h (pN m) (GH (2+b.length) f.length)) (by rw[ab];omega) (K:=12) (af [(BN h ⟨#[84,79,80]⟩,2+tp),(BN h ⟨#[73,78,68,69,88]⟩,2+ix),(BN h ⟨#[82,69,76,83]⟩,(pN m:Int))] _ sc (A7I h _ _)) O1 (GH (2+b.length+f.length) cs.length) O1) [(1,.nm 37),(2,.nm 200)] [200] ?_ ?_ ?_
 .first|exact eN|refine eM ?_
 .first|exact eN|refine eM ?_
 rintro _ _ ⟨rfl,rfl⟩;refine⟨[(37,.nm 1),(200,.nm 2)],.p T3 (qN m:Int),DT h (VN h m [(BN h ⟨#[84,79,80]⟩,2+tp),(BN h ⟨#[73,78,68,69,88]⟩,2+ix),(BN h ⟨#[82,69,76,83]⟩,(pN m:Int))]++(VH h (pN m) (GH (2+b.length) f.length)++VH h (qN m) (GH (2+b.length+f.length) cs.length))),rfl,rfl,?_,?_,rfl,rfl,?_⟩
 .simp only[HX,DT,mP,ab,AA5];first|exact eN|refine eM ?_
 .first|exact eN|refine eM ?_
  all_goals(rw[<-If,ab])
 simp only[DT];have Y:=A2I h m [(BN h ⟨#[84,79,80]⟩,2+tp),(BN h ⟨#[73,78,68,69,88]⟩,2+ix),(BN h ⟨#[82,69,76,83]⟩,(pN m:Int))] (VH h (pN m) (GH (2+b.length) f.length)++VH h (qN m) (GH (2+b.length+f.length) cs.length)) (BN h ⟨#[67,79,78,83]⟩) (qN m:Int);simp only[To,bY]at Y;rw[be,ax]at T;rw[T]at Y;refine rM c (EP h (VN h m [(BN h ⟨#[84,79,80]⟩,2+tp),(BN h ⟨#[73,78,68,69,88]⟩,2+ix),(BN h ⟨#[82,69,76,83]⟩,(pN m:Int))]++(VH h (pN m) (GH (2+b.length) f.length)++VH h (qN m) (GH (2+b.length+f.length) cs.length))) (by rw[If,If,l,O,ay];omega) (n:=1) O1 (by rw[If,l];omega) (Yx h m [(BN h ⟨#[84,79,80]⟩,2+tp),(BN h ⟨#[73,78,68,69,88]⟩,2+ix),(BN h ⟨#[82,69,76,83]⟩,(pN m:Int))] _ sc) ⟨#[67,79,78,83]⟩ (qN m:Int)) [(1,.nm 37),(2,.nm 200)] [200] ?_ ?_ ?_
 .first|exact eN|refine eM ?_
 .first|exact eN|refine eM ?_
 rintro _ _ ⟨rfl,rfl⟩;refine⟨[(37,.nm 1),(200,.nm 2)],.raw (.tuple #[]),DT h (Dl h m),rfl,rfl,?_,?_,rfl,rfl,?_⟩
 .simp only[HX,DT,Y];first|exact eN|refine eM ?_
 .first|exact eN|refine eM ?_
 simp only[DT];refine rL c ?_ ?_
 .trivial
 repeat'(first|exact trivial|apply eS rfl|apply AB|refine rP c ?_ ?_|fail)
 refine C8 [200] ?_;clear T Y aj X W af;repeat'(first|exact trivial|apply eS rfl|apply AB|refine rP c ?_ ?_|fail)
 .exact bg
 refine rC ?_ ?_<;>intro g
 .exact absurd aw (by simpa using g)
 repeat'(first|exact trivial|apply eS rfl|apply AB|refine rP c ?_ ?_|fail)
 .exact bb
 refine rC ?_ ?_<;>intro g
 .have hf:(Dt h (Ck (Dl h m)).1).2=false:=by simpa using g
  rw[As (by rw[hf];simp)];repeat'(first|exact trivial|apply eS rfl|apply AB|refine rX c ?_ ?_|refine rC ?_ ?_<;>intro g<;>try(cases g;done))
  exact fI c [.cell 4 34,.tmp 5] (by first|exact eR|refine N9 ?_;rfl)
 have hf:(Dt h (Ck (Dl h m)).1).2=true:=by simpa using g
 rw[At hf];repeat'(first|exact trivial|apply eS rfl|apply AB|refine rX c ?_ ?_|refine rC ?_ ?_<;>intro g<;>try(cases g;done))
 exact fI c [.cell 4 34,.tmp 5]
end
section
attribute [local go_sem] Ii KD KB MQ JW IJ M6
abbrev Gm:=ByteArray×Int×Int×List ByteArray×List ByteArray
def A2K:AX:={ ins:=[.int .u8,.int .u8,.int .u8],pre:=λ_=>True,out:=λ(c,a,b,_)=>[.p .bool (B9 a b c)] }
attribute [local go_sem] A2K
theorem A5e:Ac Tryz.prog 120 A2K:=by
 refine fK [0,1,2,6] Tryz.func120 Tryz.ntmps120 AI ?_;rintro w0 O0 ⟨c,a,b,u⟩ d - -;simp only[A2K,AM];repeat'(first|exact trivial|apply eS rfl|apply AB|refine rX d ?_ ?_|refine rC ?_ ?_<;>intro e<;>try(cases e;done))
 exact fI d [.tmp 6] (by first|exact eR|refine N9 ?_;rfl)
def nxB (r:Gm) (c:Int):Bool:=r.2.2.1==0&&decide (r.2.1<(r.1.size:Int))&&MO r.1 r.2.1.toNat==c
def A2L:AX:={ ins:=[VX,.int .u8],pre:=λ(r,_,_)=>0<=(r:Gm).2.1,out:=λ(r,c,_)=>[.p .bool (nxB r c)] }
attribute [local go_sem] A2L
theorem zX:Ac Tryz.prog 121 A2L:=by
 refine fK [0,1,2,4] Tryz.func121 Tryz.ntmps121 AI ?_;rintro w0 O0 ⟨⟨s,n,e,so,te⟩,c,u⟩ a-h0;have h0:0<=n:=h0;simp only[A2L,AM];repeat'(first|exact trivial|apply eS rfl|apply AB|refine rX a ?_ ?_|refine rC ?_ ?_<;>intro b<;>try(cases b;done))
 .intro q;simp only[AT,IN]at q;exact⟨h0,q.2⟩
 exact fI a [.tmp 4] (by first|exact eR|refine N9 ?_;rfl)
def cZ:AX:={ ins:=[VX,T9],pre:=λ(r,w,_)=>ByteArray.size (r:Gm).1<=1000/\(r:Gm).2.2.1=0/\0<=(r:Gm).2.1/\(r:Gm).2.1+(ByteArray.size w:Int)<=(ByteArray.size (r:Gm).1:Int)/\∀i,i<ByteArray.size w->MO (r:Gm).1 ((r:Gm).2.1.toNat+i)=MO w i,out:=λ(r,w,_)=>[.p VX ((r:Gm).1,(r:Gm).2.1+(ByteArray.size w:Int),(0:Int),(r:Gm).2.2.2.1,(r:Gm).2.2.2.2)] }
attribute [local go_sem] cZ
theorem Yy:Ac Tryz.prog 70 cZ:=by
 refine fK [0,1,2,4,5,14,33] Tryz.func70 Tryz.ntmps70 AI ?_;rintro w0 O0 ⟨⟨s,n,e,so,te⟩,w,u⟩ c-⟨f,h0,h1,d,b⟩;have f:s.size<=1000:=f;have h0:e=0:=h0;have h1:0<=n:=h1;have d:n+(w.size:Int)<=(s.size:Int):=d;have b:∀i,i<w.size->MO s (n.toNat+i)=MO w i:=b;subst h0;dsimp only[Ty.den]at *;simp only[cZ,AM];repeat'(first|exact trivial|apply eS rfl|apply AB|refine rX c ?_ ?_|refine rC ?_ ?_<;>intro a<;>try(cases a;done))
 refine AJ (ι:={k:Nat//k<=w.size}) (λk=>⟨[(1,.p T9 w),(2,.bp 2 [] 0),(4,.bp 4 [] 0),(5,.p (.int .i64) (k.1:Int))],[(4,.box 133 true [.p T9 ByteArray.empty,.p T3 0,.p DD 0,.raw (.slice none 0 0),.raw (.slice none 0 0)]),(2,.box 133 true [.p T9 s,.p T3 (n+(k.1:Int)),.p DD 0,.p CQ so,.p CQ te])]⟩) (λk=>w.size-k.1) ⟨0,Do _⟩ (AC [(2,.nm 2),(4,.nm 4)] rfl rfl ?_ ?_) (λk=>?_)
 .first|exact eN|refine eM ?_
  all_goals exact eV
 .first|exact eN|refine eM ?_
  all_goals exact eV
 obtain⟨k,hk⟩:=k;simp only;repeat'(first|exact trivial|apply eS rfl|apply AB|refine rX c ?_ ?_|refine rC ?_ ?_<;>intro a<;>try(cases a;done))
 .exact⟨λ_=>⟨by exact eV,by exact eV⟩,λ_=>a⟩
 .exfalso;rcases a with q|q
  .exact eV
  exact q (by rw[show (n+(k:Int)).toNat=n.toNat+k by exact eV];exact b k (by exact eV))
 .exact eV
 .exact eV
 .refine⟨⟨k+1,by exact eV⟩,by simp only;omega,AC [(2,.nm 2),(4,.nm 4)] rfl rfl ?_ ?_⟩
  .first|exact eN|refine eM ?_
   all_goals exact eV
  first|exact eN|refine eM ?_
  all_goals exact eV
 have e:n+(w.size:Int)=n+(k:Int):=by exact eV
 exact fI c [.cell 4 133] (by rw[e];exact eR)
theorem A5f (s w:ByteArray) (n:Int) (so te:List ByteArray) (j:s.size<=1000) (h1:0<=n) (f:n+(w.size:Int)<=(s.size:Int)) (c:∀i,i<w.size->MO s (n.toNat+i)=MO w i):A7 Tryz.prog 70 [.ag [.p T9 s,.p T3 (n),.p DD 0,.sr 501 T9 0 so.length,.sr 502 T9 0 te.length],.p T9 w] [(501,.arr 9 T9 so),(502,.arr 9 T9 te)] [] (λres d=>res=.ag [.p T9 s,.p T3 (n+(w.size:Int)),.p DD 0,.sr 501 T9 0 so.length,.sr 502 T9 0 te.length]/\d=[(4,.box 133 true [.p T9 s,.p T3 (n+(w.size:Int)),.p DD 0,.sr 501 T9 0 so.length,.sr 502 T9 0 te.length]),(501,.arr 9 T9 so),(502,.arr 9 T9 te)]):=by
 refine JP [0,1,2,4,5,14,33] [] [] Tryz.func70 Tryz.ntmps70 AI ?_;intro w0 K O0 ρ0 b g h;simp only[Am];repeat'(first|exact trivial|apply eS rfl|apply AB|refine rX b ?_ ?_|refine rC ?_ ?_<;>intro a<;>try(cases a;done))
 refine AJ (ι:={k:Nat//k<=w.size}) (λk=>⟨[(1,.p T9 w),(2,.bp 2 [] 0),(4,.bp 4 [] 0),(5,.p (.int .i64) (k.1:Int))],[(4,.box 133 true [.p T9 ByteArray.empty,.p T3 0,.p DD 0,.raw (.slice none 0 0),.raw (.slice none 0 0)]),(2,.box 133 true [.p T9 s,.p T3 (n+(k.1:Int)),.p DD 0,.sr 501 T9 0 so.length,.sr 502 T9 0 te.length]),(501,.arr 9 T9 so),(502,.arr 9 T9 te)]⟩) (λk=>w.size-k.1) ⟨0,Do _⟩ (AC [(2,.nm 2),(4,.nm 4),(501,.nm 501),(502,.nm 502)] rfl rfl ?_ ?_) (λk=>?_)
 .first|exact eN|refine eM ?_
  all_goals exact eV
 .first|exact eN|refine eM ?_
  all_goals exact eV
 obtain⟨k,hk⟩:=k;simp only;repeat'(first|exact trivial|apply eS rfl|apply AB|refine rX b ?_ ?_|refine rC ?_ ?_<;>intro a<;>try(cases a;done))
 .exact⟨λ_=>⟨by exact eV,by exact eV⟩,λ_=>a⟩
 .exfalso;rcases a with q|q
  .exact eV
  exact q (by rw[show (n+(k:Int)).toNat=n.toNat+k by omega];exact c k (by exact eV))
 .exact eV
 .exact eV
 .refine⟨⟨k+1,by exact eV⟩,by simp only;omega,AC [(2,.nm 2),(4,.nm 4),(501,.nm 501),(502,.nm 502)] rfl rfl ?_ ?_⟩
  .first|exact eN|refine eM ?_
   all_goals exact eV
  first|exact eN|refine eM ?_
  all_goals exact eV
 have e:n+(w.size:Int)=n+(k:Int):=by exact eV
 rw[e];refine Ev.ent (σ':=⟨[(4,.bp 4 [] 0)],[(4,.box 133 true [.p T9 s,.p T3 (n+(k:Int)),.p DD 0,.sr 501 T9 0 so.length,.sr 502 T9 0 te.length]),(501,.arr 9 T9 so),(502,.arr 9 T9 te)]⟩) ?_ (AC [(4,.nm 4),(501,.nm 501),(502,.nm 502)] rfl rfl ?_ ?_)
 .exact fM b [.cell 4 133] (.ag [.p T9 s,.p T3 (n+(k:Int)),.p DD 0,.sr 501 T9 0 so.length,.sr 502 T9 0 te.length]) eT ⟨rfl,rfl⟩
 .first|exact eN|refine eM ?_
 first|exact eN|refine eM ?_
theorem mT (s:ByteArray) (n:Int) (so te:List ByteArray) (z:s.size<=1000) (h1:0<=n) (u:n+2<(s.size:Int)) (h:s.extract n.toNat (n+1).toNat=⟨#[104]⟩) (d:MO s (n+1).toNat=48) (j:s.extract (n+1).toNat (n+2).toNat=⟨#[48]⟩) (v:so.length<=10) (w:te.length<=10):A7 Tryz.prog 69 [.ag [.p T9 s,.p T3 (n),.p DD 0,.sr 501 T9 0 so.length,.sr 502 T9 0 te.length]] [(501,.arr 9 T9 so),(502,.arr 9 T9 te)] [] (λres t=>res=.tup [.ag [.p T9 s,.p T3 (n+2),.p DD 0,.sr 501 T9 0 (so++[(⟨#[104]⟩:ByteArray)]).length,.sr 502 T9 0 (te++[(⟨#[48]⟩:ByteArray)]).length],.p T3 (te.length:Int)]/\t=[(2,.box 133 true [.p T9 s,.p T3 (n+2),.p DD 0,.sr 501 T9 0 (so++[(⟨#[104]⟩:ByteArray)]).length,.sr 502 T9 0 (te++[(⟨#[48]⟩:ByteArray)]).length]),(501,.arr 9 T9 (so++[(⟨#[104]⟩:ByteArray)])),(502,.arr 9 T9 (te++[(⟨#[48]⟩:ByteArray)]))]):=by
 refine JP [0,1,2,3,4,5,8,27,56,87] [95,106] [] Tryz.func69 Tryz.ntmps69 (AF Qo (AF A5e AI)) ?_;intro w0 K O0 ρ0 a x y;have r:YC ⟨#[104]⟩=true:=by decide +kernel
 have f:B9 48 57 48=true:=by decide
 have m:∀n:Int,n+1+((0:Nat):Int)=n+1:=λn=>by omega
 have o:∀n:Int,n+1+((1:Nat):Int)=n+2:=λn=>by omega
 simp only[Am];repeat'(first|exact trivial|apply eS rfl|apply AB|refine rX a ?_ ?_|refine rC ?_ ?_<;>intro b<;>try(cases b;done))
 all_goals try simp only[h,d,r,f]at b ⊢
 .exact eV
 .exfalso;rcases b with q|q
  .omega
  cases q
 .exact eV
 .exact eV
 .exact eV
 .exfalso;rcases b with q|q
  .omega
  cases q
 refine AJ (ι:={k:Nat//k<=1}) (λk=>⟨[(1,.bp 1 [] 0),(2,.bp 2 [] 0),(4,.p T9 ⟨#[104]⟩),(5,.p (.int .i64) (n+1))],[(2,.box 133 true [.p T9 ByteArray.empty,.p T3 0,.p DD 0,.raw (.slice none 0 0),.raw (.slice none 0 0)]),(1,.box 133 true [.p T9 s,.p T3 (n+1+(k.1:Int)),.p DD 0,.sr 501 T9 0 so.length,.sr 502 T9 0 te.length]),(501,.arr 9 T9 so),(502,.arr 9 T9 te)]⟩) (λk=>1-k.1) ⟨0,by omega⟩ (AC [(1,.nm 1),(2,.nm 2),(501,.nm 501),(502,.nm 502)] rfl rfl ?_ ?_) (λk=>?_)
 .first|exact eN|refine eM ?_
  all_goals exact eV
 .first|exact eN|refine eM ?_
  all_goals exact eV
 obtain⟨k,hk⟩:=k;simp only;repeat'(first|exact trivial|apply eS rfl|apply AB|refine rP a ?_ ?_|fail)
 refine rX a ?_ ?_
 .exact⟨λq=>⟨by exact eV,q⟩,λ_=>⟨by exact eV,by exact eV⟩⟩
 repeat'(first|exact trivial|apply eS rfl|apply AB|refine rP a ?_ ?_|fail)
 refine rC ?_ ?_<;>intro b
 .have e:k=0:=by
   rcases b.2 with q|q
   .omega
   exact absurd d q
  subst e;repeat'(first|exact trivial|apply eS rfl|apply AB|refine rX a ?_ ?_|refine rC ?_ ?_<;>intro b<;>try(cases b;done))
  .exact eV
  refine⟨⟨1,by omega⟩,by simp only;omega,AC [(1,.nm 1),(2,.nm 2),(501,.nm 501),(502,.nm 502)] rfl rfl ?_ ?_⟩
  .first|exact eN|refine eM ?_
   all_goals exact eV
  first|exact eN|refine eM ?_
  all_goals exact eV
 have l:k=1:=by
  refine DO λq=>?_;have e:k=0:=by omega
  subst e;have c:=m n;rw[c]at b;have i:((s.data.getD (n+1).toNat 0).toNat:Int)=48:=d;have:=b ⟨by omega,by rw[i];exact f⟩;exact this.1 rfl
 subst l;have c:=o n;simp only[c];repeat'(first|exact trivial|apply eS rfl|apply AB|refine rP a ?_ ?_|fail)
 .simp only[AO];omega
 refine rX a ?_ ?_
 .simp only[AO];exact⟨⟨by exact eV,by exact eV,by exact eV⟩,by exact eV⟩
 repeat'(first|exact trivial|apply eS rfl|apply AB|refine rP a ?_ ?_|fail)
 refine Mu drawsAny a 6 [([0],5)] [1,2,3,4] (by kernel_rfl) (mxA ?_ ?_)
 .exact eV
 refine mxL a [] ?_ ?_
 .trivial
 refine mxE a ?_ ?_ ?_
 .exact eV
 .trivial
 repeat'(first|exact trivial|apply eS rfl|apply AB|refine rX a ?_ ?_|refine rC ?_ ?_<;>intro b<;>try(cases b;done))
 have g:(te.length:Int)+1-1=(te.length:Int):=by omega
 simp only[g,j];refine Ev.ent (σ':=⟨[(2,.bp 2 [] 0),(3,.p (.int .i64) (te.length:Int))],[(2,.box 133 true [.p T9 s,.p T3 (n+2),.p DD 0,.sr 501 T9 0 (so++[(⟨#[104]⟩:ByteArray)]).length,.sr 502 T9 0 (te++[(⟨#[48]⟩:ByteArray)]).length]),(501,.arr 9 T9 (so++[(⟨#[104]⟩:ByteArray)])),(502,.arr 9 T9 (te++[(⟨#[48]⟩:ByteArray)]))]⟩) ?_ (AC [(2,.nm 2),(501,.nm 501),(502,.nm 502)] rfl rfl ?_ ?_)
 .exact fM a [.cell 2 133,.tmp 3] (.tup [.ag [.p T9 s,.p T3 (n+2),.p DD 0,.sr 501 T9 0 (so++[(⟨#[104]⟩:ByteArray)]).length,.sr 502 T9 0 (te++[(⟨#[48]⟩:ByteArray)]).length],.p T3 (te.length:Int)]) eT ⟨rfl,rfl⟩
 .first|exact eN|refine eM ?_
  all_goals simp
 first|exact eN|refine eM ?_
end
section
attribute [local go_sem] A2K A2L cZ Xy Ih KD KB MQ JW IJ M6
def mU:AX:={ ins:=[T9],pre:=λ(s,_)=>(s:ByteArray)=⟨#[48]⟩,out:=λ_=>[.p T3 0,.p DD 0] }
attribute [local go_sem] mU
theorem A2M:Ac Tryz.prog 124 mU:=by
 refine fK [0,2,3,4,5,6,7,8,17,36,40,47,51,63,72,77] Tryz.func124 Tryz.ntmps124 (AF TW AI) ?_;rintro w0 O0 ⟨s,u⟩ b-hs;have hs:s=⟨#[48]⟩:=hs;have g:s.size=1:=by rw[hs];rfl
 have h0:((s.data.getD 0 0).toNat:Int)=48:=by rw[hs];rfl
 have d:AL s ⟨#[]⟩=false:=by rw[hs];decide +kernel
 clear hs;simp only[mU,AM];repeat'(first|exact trivial|apply eS rfl|apply AB|refine rP b ?_ ?_|fail)
 refine rX b ?_ ?_
 .exact id
 repeat'(first|exact trivial|apply eS rfl|apply AB|refine rP b ?_ ?_|fail)
 refine rC (λa=>?_) (λ_=>?_)
 .exfalso;have:=a.2;omega
 repeat'(first|exact trivial|apply eS rfl|apply AB|refine rP b ?_ ?_|fail)
 refine rX b ?_ ?_
 .intro _;exact eV
 repeat'(first|exact trivial|apply eS rfl|apply AB|refine rP b ?_ ?_|fail)
 refine rC (λa=>?_) (λ_=>?_)
 .exfalso;rcases a with q|q
  .rw[d]at q;cases q
  omega
 repeat'(first|exact trivial|apply eS rfl|apply AB|refine rP b ?_ ?_|fail)
 refine AJ (ι:={k:Nat//k<=1}) (λk=>⟨[(0,.p T9 s),(4,.p T9 s),(5,.p (.int .i64) (k.1:Int))],[]⟩) (λk=>1-k.1) ⟨0,by omega⟩ (AC [] rfl rfl ?_ ?_) (λk=>?_)
 .first|exact eN|refine eM ?_
 .first|exact eN|refine eM ?_
 obtain⟨k,hk⟩:=k;simp only;repeat'(first|exact trivial|apply eS rfl|apply AB|refine rX b ?_ ?_|refine rC ?_ ?_<;>intro a<;>try(cases a;done))
 .exact eV
 .exfalso;have c:k=0:=by omega
  subst c;rw[h0]at a;exact absurd a dg
 .exact eV
 .have c:k=0:=by exact eV
  subst c;refine⟨⟨1,by omega⟩,by simp only;omega,AC [] rfl rfl ?_ ?_⟩
  .first|exact eN|refine eM ?_
   all_goals rfl
  first|exact eN|refine eM ?_
  all_goals rfl
 refine AJ (ι:={j:Nat//j<=1}) (λj=>⟨[(0,.p T9 s),(4,.p T9 s),(6,.p (.int .u64) 0),(7,.p (.int .i64) (j.1:Int))],[]⟩) (λj=>1-j.1) ⟨0,by omega⟩ (AC [] rfl rfl ?_ ?_) (λj=>?_)
 .first|exact eN|refine eM ?_
 .first|exact eN|refine eM ?_
 obtain⟨j,f⟩:=j;simp only;repeat'(first|exact trivial|apply eS rfl|apply AB|refine rP b ?_ ?_|fail)
 refine rC ?_ ?_<;>intro a
 .have e:j=0:=by exact eV
  subst e;repeat'(first|exact trivial|apply eS rfl|apply AB|refine rX b ?_ ?_|refine rC ?_ ?_<;>intro a<;>try(cases a;done))
  .rw[h0];exact⟨a,by decide,by decide⟩
  .rw[h0];decide
  .exfalso;rw[h0]at a;exact absurd a dg
  .rw[h0];decide
  .decide
  refine⟨⟨1,by omega⟩,by simp only;omega,AC [] rfl rfl ?_ ?_⟩
  .first|exact eN|refine eM ?_
   all_goals(first|rfl|(rw[h0];decide))
  first|exact eN|refine eM ?_
  all_goals(first|rfl|(rw[h0];decide))
 repeat'(first|exact trivial|apply eS rfl|apply AB|refine rP b ?_ ?_|fail)
 refine rC ?_ ?_<;>intro a
 .exact absurd a (Int.lt_irrefl _)
 repeat'(first|exact trivial|apply eS rfl|apply AB|refine rP b ?_ ?_|fail)
 refine rC ?_ ?_<;>intro a
 .cases a
 repeat'(first|exact trivial|apply eS rfl|apply AB|refine rX b ?_ ?_|refine rC ?_ ?_<;>intro a<;>try(cases a;done))
 exact fI b [.tmp 2,.tmp 3]
def A5g:AX:={ ins:=[VX],pre:=λ(r,_)=>(r:Gm).2.2.2.1=[⟨#[104]⟩,⟨#[104]⟩]/\(r:Gm).2.2.2.2=[⟨#[48]⟩,⟨#[48]⟩],out:=λ_=>[.p CH [0,0],.p CQ [⟨#[104]⟩],.p DD 0] }
theorem A5h:Ac Tryz.prog 74 A5g:=by
 refine fK [0,1,2,3,4,5,6,7,8,9,10,11,12,13,14,20,33,44,49,73,77,81,88] Tryz.func74 Tryz.ntmps74 (AF A2M (AF Ti AI)) ?_;rintro w0 O0 ⟨⟨s,n,e,so,te⟩,u⟩ a-⟨h1,d⟩;have h1:so=[⟨#[104]⟩,⟨#[104]⟩]:=h1;have d:te=[⟨#[48]⟩,⟨#[48]⟩]:=d;subst h1;subst d;have m:∀i:Nat,i<2->([(⟨#[48]⟩:ByteArray),⟨#[48]⟩]).getD i ByteArray.empty=⟨#[48]⟩:=λi hi=>by
  match i,hi with
  | 0,_=>rfl
  | 1,_=>rfl
 have l:∀i:Nat,i<2->([0,0]:List Int).take i++[0]=([0,0]:List Int).take (i+1):=λi hi=>by
  match i,hi with
  | 0,_=>rfl
  | 1,_=>rfl
 have hh:∀i:Nat,i<2->([(⟨#[104]⟩:ByteArray),⟨#[104]⟩]).getD i ByteArray.empty=⟨#[104]⟩:=λi hi=>by
  match i,hi with
  | 0,_=>rfl
  | 1,_=>rfl
 have g:kT [0,0] 0=0:=rfl;simp only[A5g,AM];repeat'(first|exact trivial|apply eS rfl|apply AB|refine rP a ?_ ?_|fail)
 refine AJ (ι:={i:Nat//i<=2}) (λi=>⟨[(1,.bp 1 [] 0),(5,.sr 15 T3 0 (([0,0]:List Int).take i.1).length),(6,.p (.int .i64) (if i.1=0 then (-1:Int) else 0)),(7,.p (.int .i64) (i.1:Int))],[(15,.arr 3 T3 (([0,0]:List Int).take i.1)),(1,.box 133 true [.p T9 s,.p T3 n,.p DD e,.p CQ [⟨#[104]⟩,⟨#[104]⟩],.p CQ [⟨#[48]⟩,⟨#[48]⟩]])]⟩) (λi=>2-i.1) ⟨0,by omega⟩ (AC [(1,.nm 1),(15,.nm 15)] rfl rfl ?_ ?_) (λi=>?_)
 .first|exact eN|refine eM ?_
 .first|exact eN|refine eM ?_
 obtain⟨i,hi⟩:=i;simp only;repeat'(first|exact trivial|apply eS rfl|apply AB|refine rP a ?_ ?_|fail)
 refine rC ?_ ?_<;>intro b
 .have c:i<2:=by exact eV
  repeat'(first|exact trivial|apply eS rfl|apply AB|refine rX a ?_ ?_|refine rC ?_ ?_<;>intro b<;>try(cases b;done))
  .exact⟨b,m i c⟩
  .simp only[AO,On];omega
  .exact eV
  have h:(if (if i=0 then (-1:Int) else 0)<0 then (0:Int) else (if i=0 then (-1:Int) else 0))=(if i+1=0 then (-1:Int) else 0):=by
   rw[As (ACq i)];by_cases q:i=0
   .rw[At q];rfl
   rw[As q];rfl
  refine⟨⟨i+1,by omega⟩,by simp only;omega,AC [(1,.nm 1),(15,.nm 15)] rfl rfl ?_ ?_⟩
  .simp only[<-l i c];first|exact eN|refine eM ?_
   all_goals(rw[h,As (ACq i)])
  simp only[<-l i c];first|exact eN|refine eM ?_
  all_goals(rw[h,As (ACq i)])
 have c:i=2:=by exact eV
 subst c;repeat'(first|exact trivial|apply eS rfl|apply AB|refine rP a ?_ ?_|fail)
 refine C8 [15] ?_;refine AJ (ι:={j:Nat//j<=2}) (λj=>⟨[(1,.bp 1 [] 0),(5,.p CH [0,0]),(6,.p (.int .i64) 0),(10,.p (.int .i64) (j.1:Int))],[(1,.box 133 true [.p T9 s,.p T3 n,.p DD e,.p CQ [⟨#[104]⟩,⟨#[104]⟩],.p CQ [⟨#[48]⟩,⟨#[48]⟩]])]⟩) (λj=>2-j.1) ⟨0,by omega⟩ (AC [(1,.nm 1)] rfl rfl ?_ ?_) (λj=>?_)
 .first|exact eN|refine eM ?_
 .first|exact eN|refine eM ?_
 obtain⟨j,o⟩:=j;simp only;repeat'(first|exact trivial|apply eS rfl|apply AB|refine rP a ?_ ?_|fail)
 refine rC ?_ ?_<;>intro b
 .have r:j<2:=by exact eV
  repeat'(first|exact trivial|apply eS rfl|apply AB|refine rP a ?_ ?_|fail)
  refine AJ (ι:={k:Nat//k<=j}) (λk=>⟨[(1,.bp 1 [] 0),(5,.p CH [0,0]),(6,.p (.int .i64) 0),(10,.p (.int .i64) (j:Int)),(11,.p (.int .i64) (k.1:Int))],[(1,.box 133 true [.p T9 s,.p T3 n,.p DD e,.p CQ [⟨#[104]⟩,⟨#[104]⟩],.p CQ [⟨#[48]⟩,⟨#[48]⟩]])]⟩) (λk=>j-k.1) ⟨0,by omega⟩ (AC [(1,.nm 1)] rfl rfl ?_ ?_) (λk=>?_)
  .first|exact eN|refine eM ?_
  .first|exact eN|refine eM ?_
  obtain⟨k,hk⟩:=k;simp only;repeat'(first|exact trivial|apply eS rfl|apply AB|refine rX a ?_ ?_|refine rC ?_ ?_<;>intro b<;>try(cases b;done))
  .exact⟨by exact eV,by exact eV,λ_=>by exact eV,λ_=>by exact eV⟩
  .exfalso;have q:=b.2;rw[hh k (by exact eV),hh j (by exact eV)]at q;exact absurd q (by decide +kernel)
  .exact eV
  .refine⟨⟨k+1,by exact eV⟩,by simp only;exact eV,AC [(1,.nm 1)] rfl rfl ?_ ?_⟩
   .first|exact eN|refine eM ?_
   first|exact eN|refine eM ?_
  .exact eV
  refine⟨⟨j+1,by exact eV⟩,by simp only;exact eV,AC [(1,.nm 1)] rfl rfl ?_ ?_⟩
  .first|exact eN|refine eM ?_
  first|exact eN|refine eM ?_
 repeat'(first|exact trivial|apply eS rfl|apply AB|refine rP a ?_ ?_|fail)
 refine rC ?_ ?_<;>intro b
 .exact absurd b dg
 repeat'(first|exact trivial|apply eS rfl|apply AB|refine rP a ?_ ?_|fail)
 refine AJ (ι:={i:Nat//i<=1}) (λi=>⟨[(1,.bp 1 [] 0),(5,.p CH [0,0]),(6,.p (.int .i64) 0),(12,.sr 78 T9 0 (([⟨#[104]⟩]:List ByteArray).take i.1).length),(13,.p (.int .i64) (i.1:Int))],[(78,.arr 9 T9 (([⟨#[104]⟩]:List ByteArray).take i.1)),(1,.box 133 true [.p T9 s,.p T3 n,.p DD e,.p CQ [⟨#[104]⟩,⟨#[104]⟩],.p CQ [⟨#[48]⟩,⟨#[48]⟩]])]⟩) (λi=>1-i.1) ⟨0,by omega⟩ (AC [(1,.nm 1),(78,.nm 78)] rfl rfl ?_ ?_) (λi=>?_)
 .first|exact eN|refine eM ?_
 .first|exact eN|refine eM ?_
 obtain⟨i,hi⟩:=i;simp only;repeat'(first|exact trivial|apply eS rfl|apply AB|refine rP a ?_ ?_|fail)
 refine rC ?_ ?_<;>intro b
 .have f:i=0:=by exact eV
  subst f;repeat'(first|exact trivial|apply eS rfl|apply AB|refine rX a ?_ ?_|refine rC ?_ ?_<;>intro b<;>try(cases b;done))
  .rw[g];exact⟨⟨by decide,by decide⟩,by decide⟩
  .decide
  refine⟨⟨1,by omega⟩,by simp only;omega,AC [(1,.nm 1),(78,.nm 78)] rfl rfl ?_ ?_⟩
  .first|exact eN|refine eM ?_
   all_goals(rw[g];rfl)
  first|exact eN|refine eM ?_
  all_goals(rw[g];rfl)
 have f:i=1:=by exact eV
 subst f;repeat'(first|exact trivial|apply eS rfl|apply AB|refine rP a ?_ ?_|fail)
 refine C8 [78] ?_;exact fI a [.tmp 2,.tmp 3,.tmp 4]
def A6V (c:Int):Gm->Prop:=λr=>r.1.size<=1000/\r.2.2.1=0/\0<=r.2.1/\r.2.1<(r.1.size:Int)/\MO r.1 r.2.1.toNat=c
def jD:AX:={ ins:=[VX],pre:=λ(r,_)=>A6V 125 r,out:=λ(r,_)=>[.p VX ((r:Gm).1,(r:Gm).2.1+1,(0:Int),(r:Gm).2.2.2.1,(r:Gm).2.2.2.2),.p L7 []] }
theorem zY:Ac Tryz.prog 71 jD:=by
 refine fKP [0,1,2,3,4,5,6,7,21,51] [8] [] Tryz.func71 Tryz.ntmps71 (AF zX (AF Yy AI)) ?_;rintro w0 O0 ⟨⟨s,n,e,so,te⟩,u⟩ f-⟨h0,h1,a,d,b⟩;have h0:s.size<=1000:=h0;have h1:e=0:=h1;have a:0<=n:=a;have d:n<(s.size:Int):=d;have b:MO s n.toNat=125:=b;subst h1;have hn:nxB (s,n,0,so,te) 125=true:=by
  unfold nxB;simp only[b];simpa using d
 simp only[jD,AM];repeat'(first|exact trivial|apply eS rfl|apply AB|refine rP f ?_ ?_|fail)
 refine AJ (ι:={i:Nat//i<=0}) (λi=>⟨[(1,.bp 1 [] 0),(2,.bp 2 [] 0),(4,.p L7 [])],[(2,.box 133 true [.p T9 ByteArray.empty,.p T3 0,.p DD 0,.raw (.slice none 0 0),.raw (.slice none 0 0)]),(1,.box 133 true [.p T9 s,.p T3 n,.p DD 0,.p CQ so,.p CQ te])]⟩) (λi=>0) ⟨0,by omega⟩ (AC [(1,.nm 1),(2,.nm 2)] rfl rfl ?_ ?_) (λi=>?_)
 .first|exact eN|refine eM ?_
 .first|exact eN|refine eM ?_
 repeat'(first|exact trivial|apply eS rfl|apply AB|refine rX f ?_ ?_|refine rC ?_ ?_<;>intro c<;>try(cases c;done))
 .exact λ_=>a
 .rw[hn]at c;cases c
 .refine⟨h0,a,?_,λi hi=>?_⟩
  .have:((⟨#[125]⟩:ByteArray).size:Int)=1:=rfl;rw[this];exact eV
  have hi:i<1:=hi;have g:i=0:=by omega
  subst g;exact b
 exact fI f [.cell 2 133,.tmp 3] (by first|exact eR|refine N9 ?_;rfl)
def jE:AX:={ ins:=[VX],pre:=λ(r,_)=>A6V 125 r,out:=λ(r,_)=>[.p VX ((r:Gm).1,(r:Gm).2.1+1,(0:Int),(r:Gm).2.2.2.1,(r:Gm).2.2.2.2),.p NT []] }
theorem zZ:Ac Tryz.prog 72 jE:=by
 refine fKP [0,1,2,3,4,5,6,20,41] [7] [] Tryz.func72 Tryz.ntmps72 (AF zX (AF Yy AI)) ?_;rintro w0 O0 ⟨⟨s,n,e,so,te⟩,u⟩ f-⟨h0,h1,a,d,b⟩;have h0:s.size<=1000:=h0;have h1:e=0:=h1;have a:0<=n:=a;have d:n<(s.size:Int):=d;have b:MO s n.toNat=125:=b;subst h1;have hn:nxB (s,n,0,so,te) 125=true:=by
  unfold nxB;simp only[b];simpa using d
 simp only[jE,AM];repeat'(first|exact trivial|apply eS rfl|apply AB|refine rP f ?_ ?_|fail)
 refine AJ (ι:={i:Nat//i<=0}) (λi=>⟨[(1,.bp 1 [] 0),(2,.bp 2 [] 0),(4,.p NT [])],[(2,.box 133 true [.p T9 ByteArray.empty,.p T3 0,.p DD 0,.raw (.slice none 0 0),.raw (.slice none 0 0)]),(1,.box 133 true [.p T9 s,.p T3 n,.p DD 0,.p CQ so,.p CQ te])]⟩) (λi=>0) ⟨0,by omega⟩ (AC [(1,.nm 1),(2,.nm 2)] rfl rfl ?_ ?_) (λi=>?_)
 .first|exact eN|refine eM ?_
 .first|exact eN|refine eM ?_
 repeat'(first|exact trivial|apply eS rfl|apply AB|refine rX f ?_ ?_|refine rC ?_ ?_<;>intro c<;>try(cases c;done))
 .exact λ_=>a
 .rw[hn]at c;cases c
 .refine⟨h0,a,?_,λi hi=>?_⟩
  .have:((⟨#[125]⟩:ByteArray).size:Int)=1:=rfl;rw[this];exact eV
  have hi:i<1:=hi;have g:i=0:=by omega
  subst g;exact b
 exact fI f [.cell 2 133,.tmp 3] (by first|exact eR|refine N9 ?_;rfl)
end
section
attribute [local go_sem] mU A5g jD jE cZ Po KD KB cs2 MQ JW IJ M6
def A6W:ByteArray:=⟨#[104,48,32,104,48,32,123,125,32,123,125]⟩
def Yz:Cv:=(0,0,[⟨#[104]⟩],[],[])
def A5i:AX:={ ins:=[T9],pre:=λ(s,_)=>(s:ByteArray)=A6W,out:=λ_=>[.p kJ Yz,.p DD 0] }
theorem A5j:Ac Tryz.prog 30 A5i:=by
 refine fKP [0,2,3,4,5,6,7,8,9,10,11,12,13,14,15,16,17,18,21,67,72,83,102,129,171,201] [23,24,26] [] Tryz.func30 Tryz.ntmps30 (AF Yy (AF zY (AF zZ (AF A5h (AF wA AI))))) ?_;rintro w0 O0 ⟨s,u⟩ a-hs;have hs:s=A6W:=hs;have d:s.size=11:=by rw[hs];rfl
 have v1:s.extract 0 1=⟨#[104]⟩:=by rw[hs];decide +kernel
 have r:MO s 1=48:=by rw[hs];rfl
 have t:s.extract 1 2=⟨#[48]⟩:=by rw[hs];decide +kernel
 have v4:s.extract 3 4=⟨#[104]⟩:=by rw[hs];decide +kernel
 have v:MO s 4=48:=by rw[hs];rfl
 have v6:s.extract 4 5=⟨#[48]⟩:=by rw[hs];decide +kernel
 have c2:MO s 2=32:=by rw[hs];rfl
 have h:MO s 5=32:=by rw[hs];rfl
 have k:MO s 6=123:=by rw[hs];rfl
 have l:MO s 7=125:=by rw[hs];rfl
 have m:MO s 8=32:=by rw[hs];rfl
 have n:MO s 9=123:=by rw[hs];rfl
 have g:MO s 10=125:=by rw[hs];rfl
 clear hs;have c:s.size<=1000:=by omega
 have q:YE (0,0,[⟨#[104]⟩],[],[])=0:=by decide +kernel
 simp only[A5i,AM];repeat'(first|exact trivial|apply eS rfl|apply AB|refine rP a ?_ ?_|fail)
 refine rC ?_ ?_<;>intro b
 .exfalso;exact eV
 repeat'(first|exact trivial|apply eS rfl|apply AB|refine rP a ?_ ?_|fail)
 refine cP 1 a ?_ ?_
 .trivial
 refine rM a (mT s 0 [] [] c O1 O1 v1 r t sc sc) [(501,.nil),(502,.nil)] [] ?_ ?_ ?_
 .first|exact eN|refine eM ?_
 .first|exact eN|refine eM ?_
 rintro _ _ ⟨rfl,rfl⟩;refine⟨[(302,.nm 2),(501,.nm 501),(502,.nm 502)],.tup [.ag [.p T9 s,.p T3 2,.p DD 0,.sr 501 T9 0 1,.sr 502 T9 0 1],.p T3 0],[(302,.box 133 true [.p T9 s,.p T3 2,.p DD 0,.sr 501 T9 0 1,.sr 502 T9 0 1]),(501,.arr 9 T9 ([⟨#[104]⟩]:List ByteArray)),(502,.arr 9 T9 ([⟨#[48]⟩]:List ByteArray))],rfl,rfl,?_,?_,rfl,rfl,?_⟩
 .first|exact eN|refine eM ?_
  all_goals(first|rfl|decide|exact⟨rfl,rfl⟩)
 .first|exact eN|refine eM ?_
  all_goals(first|rfl|decide|exact⟨rfl,rfl⟩)
 refine rL a ?_ ?_
 .trivial
 repeat'(first|exact trivial|apply eS rfl|apply AB|refine rP a ?_ ?_|fail)
 refine cP 1 a ?_ ?_
 .trivial
 refine rM a (A5f s ⟨#[32]⟩ 2 [⟨#[104]⟩] [⟨#[48]⟩] c O1 (by rw[d];decide) (λi hi=>by have hi:i<1:=hi;obtain rfl:i=0:=(by omega);exact c2)) [(501,.nm 501),(502,.nm 502)] [302,501,502] ?_ ?_ ?_
 .first|exact eN|refine eM ?_
 .first|exact eN|refine eM ?_
 rintro _ _ ⟨rfl,rfl⟩;refine⟨[(303,.nm 4),(501,.nm 501),(502,.nm 502)],.ag [.p T9 s,.p T3 3,.p DD 0,.sr 501 T9 0 1,.sr 502 T9 0 1],[(303,.box 133 true [.p T9 s,.p T3 3,.p DD 0,.sr 501 T9 0 1,.sr 502 T9 0 1]),(501,.arr 9 T9 ([⟨#[104]⟩]:List ByteArray)),(502,.arr 9 T9 ([⟨#[48]⟩]:List ByteArray))],rfl,rfl,?_,?_,rfl,rfl,?_⟩
 .first|exact eN|refine eM ?_
  all_goals(first|rfl|decide|exact⟨rfl,rfl⟩)
 .first|exact eN|refine eM ?_
  all_goals(first|rfl|decide|exact⟨rfl,rfl⟩)
 refine rL a ?_ ?_
 .trivial
 repeat'(first|exact trivial|apply eS rfl|apply AB|refine rP a ?_ ?_|fail)
 refine cP 1 a ?_ ?_
 .trivial
 refine rM a (mT s 3 [⟨#[104]⟩] [⟨#[48]⟩] c O1 O1 v4 v v6 sc sc) [(501,.nm 501),(502,.nm 502)] [303,501,502] ?_ ?_ ?_
 .first|exact eN|refine eM ?_
 .first|exact eN|refine eM ?_
 rintro _ _ ⟨rfl,rfl⟩;refine⟨[(304,.nm 2),(501,.nm 501),(502,.nm 502)],.tup [.ag [.p T9 s,.p T3 5,.p DD 0,.sr 501 T9 0 2,.sr 502 T9 0 2],.p T3 1],[(304,.box 133 true [.p T9 s,.p T3 5,.p DD 0,.sr 501 T9 0 2,.sr 502 T9 0 2]),(501,.arr 9 T9 ([⟨#[104]⟩,⟨#[104]⟩]:List ByteArray)),(502,.arr 9 T9 ([⟨#[48]⟩,⟨#[48]⟩]:List ByteArray))],rfl,rfl,?_,?_,rfl,rfl,?_⟩
 .first|exact eN|refine eM ?_
  all_goals(first|rfl|decide|exact⟨rfl,rfl⟩)
 .first|exact eN|refine eM ?_
  all_goals(first|rfl|decide|exact⟨rfl,rfl⟩)
 refine rL a ?_ ?_
 .trivial
 repeat'(first|exact trivial|apply eS rfl|apply AB|refine rP a ?_ ?_|fail)
 refine C8 [501,502] ?_;have f:(⟨#[32,123]⟩:ByteArray).size=2:=rfl;repeat'(first|exact trivial|apply eS rfl|apply AB|refine rX a ?_ ?_|refine rC ?_ ?_<;>intro b<;>try(cases b;done))
 .refine⟨c,by rw[f,d];decide,λi hi=>?_⟩;have hi:i<2:=hi;rcases (by omega:i=0\/i=1) with rfl|rfl
  .exact h
  exact k
 .exact⟨c,rfl,by show (0:Int)<=5+((⟨#[32,123]⟩:ByteArray).size:Int);omega,by show (5:Int)+((⟨#[32,123]⟩:ByteArray).size:Int)<(s.size:Int);rw[f,d];decide,l⟩
 .refine⟨c,by rw[f];decide,by rw[f,d];decide,λi hi=>?_⟩;have hi:i<2:=hi;rcases (by omega:i=0\/i=1) with rfl|rfl
  .exact m
  exact n
 .exact⟨c,rfl,by show (0:Int)<=5+((⟨#[32,123]⟩:ByteArray).size:Int)+1+((⟨#[32,123]⟩:ByteArray).size:Int);omega,by show (5:Int)+((⟨#[32,123]⟩:ByteArray).size:Int)+1+((⟨#[32,123]⟩:ByteArray).size:Int)<(s.size:Int);rw[f,d];decide,g⟩
 .exfalso;rw[f,d]at b;exact absurd b dg
 .exact⟨by decide,by decide⟩
 refine AJ (ι:={i:Nat//i<=0}) (λi=>⟨[(2,.bp 2 [] 0),(9,.bp 9 [] 0),(10,.p CH [0,0]),(13,.bp 13 [] 0),(14,.p (.int .i64) 0)],[(13,.box 41 true [.p T3 0,.p T3 0,.p CQ [⟨#[104]⟩],.raw (.slice none 0 0),.raw (.slice none 0 0)]),(9,.box 41 true [.p T3 0,.p T3 1,.raw (.slice none 0 0),.p L7 [],.p NT []]),(2,.box 41 true [.p T3 0,.p T3 0,.raw (.slice none 0 0),.raw (.slice none 0 0),.raw (.slice none 0 0)])]⟩) (λi=>0) ⟨0,by omega⟩ (AC [(2,.nm 2),(9,.nm 9),(13,.nm 13)] rfl rfl ?_ ?_) (λi=>?_)
 .first|exact eN|refine eM ?_
  all_goals(first|rfl|exact⟨rfl,rfl⟩)
 .first|exact eN|refine eM ?_
  all_goals(first|rfl|exact⟨rfl,rfl⟩)
 repeat'(first|exact trivial|apply eS rfl|apply AB|refine rX a ?_ ?_|refine rC ?_ ?_<;>intro b<;>try(cases b;done))
 refine AJ (ι:={j:Nat//j<=0}) (λj=>⟨[(2,.bp 2 [] 0),(9,.bp 9 [] 0),(10,.p CH [0,0]),(13,.bp 13 [] 0),(17,.p (.int .i64) 0)],[(13,.box 41 true [.p T3 0,.p T3 0,.p CQ [⟨#[104]⟩],.raw (.slice none 0 0),.raw (.slice none 0 0)]),(9,.box 41 true [.p T3 0,.p T3 1,.raw (.slice none 0 0),.p L7 [],.p NT []]),(2,.box 41 true [.p T3 0,.p T3 0,.raw (.slice none 0 0),.raw (.slice none 0 0),.raw (.slice none 0 0)])]⟩) (λj=>0) ⟨0,by omega⟩ (AC [(2,.nm 2),(9,.nm 9),(13,.nm 13)] rfl rfl ?_ ?_) (λj=>?_)
 .first|exact eN|refine eM ?_
 .first|exact eN|refine eM ?_
 repeat'(first|exact trivial|apply eS rfl|apply AB|refine rX a ?_ ?_|refine rC ?_ ?_<;>intro b<;>try(cases b;done))
 .exact⟨trivial,by decide,(λe o=>by cases o),by decide⟩
 .exact absurd q b
 exact fI a [.cell 2 41,.tmp 3] (by unfold Yz;exact eR)
end
def DU:AE:=([(ByteArray.mk #[116,111,112],[8191],[],[]),(ByteArray.mk #[105,110,100,101,120],[60],[0],[]),(ByteArray.mk #[108,105,115,116],[193],[0],[]),(ByteArray.mk #[99,111,110,115],[1],[2],[(2,0),(10,2)]),(ByteArray.mk #[100,108,105,115,116],[2],[0],[(6,2),(7,2)]),(ByteArray.mk #[101,110,116,105,116,121],[4],[1],[]),(ByteArray.mk #[101,118,101,110,116],[8],[1],[]),(ByteArray.mk #[104,97,110,100,108,101],[16],[1],[]),(ByteArray.mk #[110,117,108,108],[128],[2],[]),(ByteArray.mk #[113,101,113],[256],[0],[(3,7),(8,7)]),(ByteArray.mk #[114,101,108],[512],[0],[(5,7)]),(ByteArray.mk #[115,101,109],[1024],[0],[(1,4),(4,1),(9,4),(12,7)]),(ByteArray.mk #[115,105,103,110],[2048],[0],[(0,2),(11,11)])],[(ByteArray.mk #[65,82,71,83],12),(ByteArray.mk #[67,79,78,83],11),(ByteArray.mk #[70,73,82,83,84],3),(ByteArray.mk #[72,73,71,72],9),(ByteArray.mk #[73,78,68,69,88],11),(ByteArray.mk #[76,65,66,69,76],10),(ByteArray.mk #[76,65,83,84],4),(ByteArray.mk #[76,73,83,84],4),(ByteArray.mk #[76,79,87],9),(ByteArray.mk #[82,69,76,83],11),(ByteArray.mk #[82,69,83,84],3),(ByteArray.mk #[83,69,77],12),(ByteArray.mk #[84,79,80],11)])
instance baDec:DecidableEq ByteArray:=λa b =>
 if h:a.data.toList=b.data.toList then isTrue (by
  cases a
  cases b
  exact ABa ByteArray.mk (Array.toList_inj.1 h))
 else isFalse λe=>h (by rw[e])
theorem z0:((Lx []).1:List (ByteArray×List Int×List Int×List (Int×Int)))=DU.1:=by decide +kernel
theorem z4:((Lx []).2:List (ByteArray×Int))=DU.2:=by decide +kernel
theorem Y0:Lx []=DU:=Prod.ext z0 z4
theorem A2N:GC DU:=by rw[<-Y0];exact(show GC (if _ then _ else _) by split<;>exact GD _)
theorem z5:IH DU:=by rw[<-Y0];exact(show IH (if _ then _ else _) by split<;>exact Qw _)
def A6X (h:AE):Bool:=(h.2.all λx=>decide (0<=x.2)&&decide (x.2<(h.1.length:Int)))&&h.1.all λt=>t.2.2.2.all λp=>decide (0<=p.2)&&decide (p.2<(h.1.length:Int))
theorem A5k (e:A6X h=true):dF h:=by
 unfold A6X at e;rw[AT,No,No]at e;refine⟨λx c=>?_,λt b p a=>?_⟩
 .have:=e.1 x c;simpa using this
 have:=No.1 (e.2 t b) p a;simpa using this
theorem A2O:dF DU:=A5k (by decide +kernel)
def mV (h:AE) (f:List AD):Bool:=decide (f.length<=100)&&f.all λx=>decide (x.2.length<=12)&&(decide (0<=x.1)&&decide (x.1<(h.1.length:Int)))&&x.2.all λa=>(decide (0<=a.1)&&decide (a.1<(h.2.length:Int)))&&(decide (0<=a.2)&&decide (a.2<(f.length:Int)))
theorem A5l (hk:GC h) (hi:IH h) (hf:dF h) (d:h.2.length<=100000) (e:mV h f=true):xL h f/\gY f/\Q1 f/\∀x∈f,x.2.length<=100:=by
 unfold mV at e;rw[AT,IN,No]at e;have c:∀x∈f,x.2.length<=12/\(0<=x.1/\x.1<(h.1.length:Int))/\∀a∈x.2,J5 h f.length a:=λx b=>by
  have:=e.2 x b;rw[AT,AT,AT,IN,IN,IN,No]at this;refine⟨this.1.1,this.1.2,λa ha=>?_⟩;have:=this.2 a ha;rw[AT,AT,AT,IN,IN,IN,IN]at this;exact⟨this.1,this.2⟩
 refine⟨⟨hk,hi,hf,d,⟨by omega,λx b=>⟨by have:=(c x b).1;omega,λa ha=>((c x b).2.2 a ha).2⟩⟩,λx b=>(c x b).2.2,λx b=>(c x b).2.1⟩,⟨by omega,λx b=>by have:=(c x b).1;omega⟩,λx b=>⟨by have:=(c x b).1;omega,.inl (c x b).1⟩,λx b=>by have:=(c x b).1;omega⟩
section
attribute [local go_sem] HO FF A5i A59 A55 U1 Ot Ou zA bM KD KB MQ JW IJ M6
theorem A7J {α:Type} (a b c d e f g h i j k:UInt8) (x y:α):(if ({ data:=#[a,b,c,d,e,f,g,h,i,j,k] }:ByteArray).size<=AO then x else y)=x:=At (by show 11<=AO;decide)
attribute [local go_sem] A7J
theorem dA:(AW Bi).2=0:=by decide +kernel
theorem XO:(AW Bi).1=DU:=by
 rw[<-Y0];unfold Lx;split
 .rename_i q;exact absurd q.2 (by decide +kernel)
 rfl
theorem LY:FL DU:=by
 rw[<-XO];exact zE [] dA
theorem A6Y:mR Yz:=⟨by decide +kernel,by decide +kernel,by decide,by decide,by decide,λe a=>by cases a⟩
def XP:List AD:=(mkF DU Yz).1
theorem A5m:(mkF DU Yz).2=0:=by decide +kernel
theorem z6:mV DU XP=true/\0<XP.length:=by decide +kernel
theorem A5n:(QE DU XP).2=0/\XK Yz (QE DU XP).1=true:=by decide +kernel
theorem A5o:(QE DU [(0,[])]).2=13:=by decide +kernel
theorem A5p:AL (B3 DU (Ap DU ⟨#[101,118,101,110,116]⟩)) ⟨#[101]⟩=true/\AL (B3 DU 0) ⟨#[]⟩=true:=by decide +kernel
theorem A5q:0<=Ap DU ⟨#[101,118,101,110,116]⟩/\Ap DU ⟨#[101,118,101,110,116]⟩<(DU.1.length:Int)/\(0:Int)<(DU.1.length:Int):=by decide +kernel
theorem mW (e:mV DU f=true):Aa f/\DP DU f/\RZ DU f:=by
 obtain⟨h1,-,-,-⟩:=A5l A2N z5 A2O (by decide +kernel) e;exact⟨h1.good,h1.ty,λx b a ha=>(h1.arcs x b a ha).1⟩
def z7:AX:={ ins:=[],pre:=λ_=>True,out:=λ_=>[.p .bool true] }
theorem A2P:Ac Tryz.prog 10 z7:=by
 refine fK [0,1,2,3,4,5,6,7,8,10] Tryz.func10 Tryz.ntmps10 (AF gD (AF Tv (AF A5j (AF zW (AF A56 (AF A1A (AF A2q (AF lN (AF U2 AI))))))))) ?_;rintro w0 O0 u a - -;have f:AW Bi=(DU,0):=Prod.ext XO dA;have m:(DU.1,DU.2)=DU:=rfl;simp only[z7,AM];have o:(Yz.1,Yz.2.1,Yz.2.2.1,Yz.2.2.2.1,Yz.2.2.2.2)=Yz:=rfl;have v:(mkF DU Yz).1=XP:=rfl;have c:=mW z6.1;have g:=A5n;have n:=z6.2;have ha:=A5m;repeat'(first|exact trivial|apply eS rfl|apply AB|refine rP a ?_ ?_|fail)
 all_goals try simp only[f,m,o,v,ha]at *
 .rfl
 .exact⟨LY,A6Y⟩
 .exact⟨LY.so,c.1,c.2.1,c.2.2,n⟩
 generalize XP=G at *;have b:Aa [((0:Int),([]:List (Int×Int)))]/\DP DU [(0,[])]/\RZ DU [(0,[])]:=mW (by decide +kernel);refine Mu drawsAny a 8 [([0,1,2,3,4,6],7)] [5] (by kernel_rfl) (mxA ?_ ?_)
 .exact⟨LY.so,b.1,b.2.1,b.2.2⟩
 refine mxL a [] ?_ ?_
 .trivial
 refine mxE a ?_ ?_ ?_
 .trivial
 .trivial
 have j:=A5o;obtain⟨k,l⟩:=A5p;obtain⟨r,s,t⟩:=A5q;have d:(DU.1,DU.2)=DU:=rfl;have p:(Yz.1,Yz.2.1,Yz.2.2.1,Yz.2.2.2.1,Yz.2.2.2.2)=Yz:=rfl;have q:((QE DU G).1.1,(QE DU G).1.2.1,(QE DU G).1.2.2.1,(QE DU G).1.2.2.2.1,(QE DU G).1.2.2.2.2)=(QE DU G).1:=rfl;obtain⟨h,i⟩:=g;repeat'(first|exact trivial|apply eS rfl|apply AB|refine rX a ?_ ?_|refine rC ?_ ?_<;>intro e<;>try(cases e;done))
 .simp only[d];exact⟨λ_=>⟨LY.so.1,r,s⟩,λ_=>⟨LY.so.1,t⟩⟩
 simp only[d,p,q,h,i,j,k,l];exact fI a [.tmp 0] (by first|exact eR|refine N9 ?_;rfl)
end
section
attribute [local go_sem] i8 z7 U1 SG KD KB MQ JW IJ M6
def z8:AX:={ ins:=[Ee],pre:=λ_=>True,out:=λ_=>[.p .bool true] }
theorem z9:Ac Tryz.prog 3 z8:=by
 refine fK [0,2,3,4,5,12,16,17,18,26] Tryz.func3 Tryz.ntmps3 (AF zC (AF A2P (AF U2 (AF qJ AI)))) ?_;rintro w0 O0 ⟨d,u⟩ c - -;simp only[z8,AM];have e:(VE d).2=true->FL (VE d).1:=A2s;generalize f:VE d=b at *;repeat'(first|exact trivial|apply eS rfl|apply AB|refine rP c ?_ ?_|fail)
 refine rC ?_ ?_<;>intro a
 .repeat'(first|exact trivial|apply eS rfl|apply AB|refine rX c ?_ ?_|refine rC ?_ ?_<;>intro a<;>try(cases a;done))
  exact fI c [.tmp 2]
 have a:b.2=true:=by simpa[f] using a
 have e:=e a;simp only[f];repeat'(first|exact trivial|apply eS rfl|apply AB|refine rP c ?_ ?_|fail)
 refine AJ (ι:={i:Nat//i<=b.1.1.length}) (λi=>⟨[(2,.p .bool false),(3,.bp 3 [] 0),(16,.p (.int .i64) (b.1.1.length:Int)),(17,.p (.int .i64) (i.1:Int))],[(3,.box 26 true [.p Zu b.1.1,.p fB b.1.2])]⟩) (λi=>b.1.1.length-i.1) ⟨0,Do _⟩ (AC [(3,.nm 3)] rfl rfl ?_ ?_) (λi=>?_)
 .first|exact eN|refine eM ?_
 .first|exact eN|refine eM ?_
 obtain⟨i,hi⟩:=i;simp only;have g:(b.1.1,b.1.2)=b.1:=rfl;repeat'(first|exact trivial|apply eS rfl|apply AB|refine rX c ?_ ?_|refine rC ?_ ?_<;>intro a<;>try(cases a;done))
 .simp only[g];exact⟨⟨e.so.1,a⟩,e.h14.ok,a⟩
 .rw[CO]at a;cases a
 .have:b.1.1.length<=256:=e.h14.b1;exact eV
 .refine⟨⟨i+1,by exact eV⟩,by simp only;exact eV,AC [(3,.nm 3)] rfl rfl ?_ ?_⟩
  .first|exact eN|refine eM ?_
  first|exact eN|refine eM ?_
 exact fI c [.tmp 2]
end
end Go.Proofs.YtglkoagnnnpimaaGreatDoor.Fw
