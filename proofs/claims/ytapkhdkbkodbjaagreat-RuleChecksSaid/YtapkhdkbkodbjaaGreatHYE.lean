/- Contracts of the program's and the reference's functions, and the plain laws of what they compute: I5 T29 K1 K2 I3 I4 I6 I7 K3 K4 C38 K7 U16 K8 C36 K9 K5 K6 M1. -/
import Derived.Test.YtapkhdkbkodbjaaGreatHYD
import Derived.Test.YtapkhdkbkodbjaaGreatHYC
import Derived.Test.YtapkhdkbkodbjaaGreatHYB
import Derived.Test.YtapkhdkbkodbjaaGreatHZI
import Derived.Test.YtapkhdkbkodbjaaGreatHYA
set_option linter.unusedVariables false
set_option linter.unusedSimpArgs false
namespace Go.Proofs.YtapkhdkbkodbjaaGreat.Fw
open Go
attribute [local irreducible] Ev
attribute [local go_sem] YY AM List.toList_toArray Bq evG evK VA Ef Jj Fs E7 II Pi L2 DA Cp Kj B3 Cq frz d7 GV DE A6 Fa Bd AV.frz AV.frzs AV.drp AV.drps AV.names AV.namess aq GW J4 Ja RP H7 BX Be Iz EZ Hf Ea Hh Hg Hi Tr Np GX I0 Fc Dx Ts Pd qUn I8 IA Kd FJ Df IB Jc EE RQ DJ EF Eq Pe IC Lz FP Ly Nq Pf LS ID Jd EH Dg Gt Di HN DK Er DL EI Y1 B3 Cg PX Pa Lx F6 H9 H8 Jb Nt Pg L1 Ki Kg Jg Ph Kh Jh X6 Nv Nu AV.trn AV.trns Eo C0 Obj.trn JJ bF Dh EK Dy EJ CU Es Ao lk Gn GP HK bin d6 Uz d9 Pc uN uP pfs AV.cells CD Ix OQ Jf Ns CT Lv Ty.cell1 He Ep De F5 Kb E5 J0 LR PZ Em Gr Lu RN Tp Ln Jz X3 aC Pb Lw Co Iy RV.flat Ty.flat Ty.size St.add upd del Bj Value.oneCell' KZ Ty.dflt Hd NE Gx NK List.take_succ_cons List.take_zero List.length_cons Yf Yg NJ IQ KD Gb Hz yF E8 Kr Ks Kt Ku Od Oe Kv Hn Rc Option.map_some Option.map_none Option.bind_some Option.getD_some Option.getD_none Option.isNone_none Option.isNone_some Bool.and_true Bool.true_and Bool.and_false Bool.false_and Bool.not_true Bool.not_false if_true if_false List.length_cons List.length_nil and_true true_and and_self List.all_cons List.all_nil List.append_nil List.nil_append List.cons_append List.getElem?_cons_zero List.getElem?_cons_succ List.getElem?_nil List.map_cons List.map_nil List.set_cons_zero List.set_cons_succ List.isEmpty_nil List.isEmpty_cons decide_true decide_false beq_self_eq_true bne_self_eq_false Nat.zero_add Nat.add_zero Nat.sub_zero Int.toNat_natCast Int.toNat_zero Int.toNat_one List.take_length List.length_append List.length_singleton true_or or_true or_self false_or or_false Ty.agg.injEq Ty.slice.injEq Ty.prod.injEq Ty.int.injEq Option.some.injEq beq_iff_eq La evMG evMQ opM HR LZ B2 JD Gy Nz JC HQ Ho JE KB MD MF ME Rd KA NG NH Hy Aa Aj Op.operands Call.operands List.filterMap_cons List.filterMap_nil List.append_eq Bool.cond_false_right Bool.cond_true_left cond_true cond_false implies_true decide_eq_true_eq beq_true beq_false Bool.or_true Bool.or_false Bool.true_or Bool.false_or Option.isSome_some Array.empty_append List.append_toArray Fb Kk Et HZ X5 Nr FQ Fl Fk IE HL Je Ke U0 d8 Hv inB Ji FY F7 IG Am Yh List.drop_zero DU Ha YA CL Jr CJ AV.fgt AV.fgts Obj.fgt Av Ah Aa Cs IR BK GB List.any_cons List.any_nil pX bB YB bC Lo QC qs List.flatMap_cons List.flatMap_nil List.cons_append tn YC JK List.take_succ_cons List.drop_succ_cons YD Gd BT fV KF B4 CM Ae Ey Jp Bk Ex Dj HO Hm GA HP
attribute [local go_sem] ty1 ty2 ty3 ty4 ty5 ty9 A22 A23 A24 A25 A26 A27 A28 A29 A2a A2b A2c A2d A2e A2f A2g A2h A2i A2j A2k A2l A2m A2n A2o A2p A2q A2r A2s A2t A2u A2v A2w A2x A2y A2z A2A A2B A2C A2D A2E A2F A2G A2H A2I A2J A2K A2L A2M A2N A2O A2P A2Q A2R A2S A2T A2U A2V A2W A2X A2Y A2Z A30 A31 A32 A33 A34 A35 A36 A37 A38 A39 A3a f5 f6 f7 f8 f9 gB gC gD gE gF gG gH gI gJ gK gL gM gN gP gQ gR gS gT gU gV gW gX gY gZ g9 hC hH hZ iA iB iC iD iE iG iH iI iJ iK iL iM iO iP iQ iR iT iU iV iW iX iY iZ i3 i4 i5 i6 i7 i8 i9 jA jB jC jD jE jF jG jH jI jJ jK jL jM jN jO jP jQ jR jS jT jU jV jW jX jY jZ j5 j6 j7 j8 j9 kA kB kC kD kE kF kG kH kI kJ kK kL kM kN kO kP kQ kR kS kT kU kV kW kX kY kZ k5 k6 k7 k8 k9 lA lB lC lD lE lF lG lH lI lJ lK lL lM lN lO lQ lS lU lV lW lX lY lZ l3 l4 l7 l8 l9 mA mB mC mD mE mF mG mH mI mJ mK mL mM
set_option maxRecDepth 100000
set_option maxHeartbeats 4000000
section
attribute [local go_sem] Z1 PU cR cs4 cs5
def RE:Ac:={ ins:=[Eg],pre:=λ(h,_)=>GL h,out:=λ(h,_)=>[.p .bool (PT h)],lend:=true }
attribute [local go_sem] RE
theorem uE:Ad Tryz.prog 47 RE:=by
 refine fK [0,1,2,3,4,5,26,44] Tryz.func47 Tryz.ntmps47 (AF Nh (AF dP (AF Mp AG))) ?_;rintro w0 O0 ⟨⟨a,hf⟩,u⟩ d-hk;have hk:GL (a,hf):=hk;obtain⟨f,g,h,i,j,k,l,m⟩:=M2 (a,hf);obtain⟨⟨r,s,t,v⟩,n,o,p,q⟩:=SS (a,hf);simp only[RE,AM];repeat'(first|exact trivial|refine eS rfl ?_|refine AB ?_|refine rX d ?_ ?_|refine rC ?_ ?_<;>intro e<;>try(cases e;done))
 all_goals simp only[f,g,h,i,j,k,l,m]at *
 ·have c:PT (a,hf)=false:=by
   rw[ADE];intro b;unfold PT at b;simp only[AT,Fj]at b;omega
  exact fI d [.tmp 2] (by rw[c];exact eR)
 ·have c:PT (a,hf)=false:=by
   rw[ADE];intro b;unfold PT at b;simp only[AT,Fj]at b;omega
  exact fI d [.tmp 2] (by rw[c];exact eR)
 ·grind
 ·have c:PT (a,hf)=(A7 (a,hf) (BG (a,hf)).list (BG (a,hf)).cons&&A7 (a,hf) (BG (a,hf)).list (BG (a,hf)).null):=by
   unfold PT;rw[ADm (by omega),AER]
  exact fI d [.tmp 2] (by rw[c];exact eR)
def dQ:Ac:={ ins:=[Eg,Dw,T3,T9],pre:=λ(_,f,n,_)=>AX f/\(0:Int)<=n/\n<(List.length f:Int),out:=λ(h,f,n,s,_)=>[.p T3 (Db (List.getD (f:List AD) n.toNat (0,[])).2 (X2 h s))],lend:=true }
attribute [local go_sem] dQ
theorem Xs:Ad Tryz.prog 92 dQ:=by
 refine fK [0,1,2,3,4,5,8,9,10,22,36] Tryz.func92 Tryz.ntmps92 (AF dP AG) ?_;rintro w0 O0 ⟨⟨l,hf⟩,f,n,s,u⟩ d-⟨g,hn⟩;have g:AX f:=g;have hn:0<=n/\n<(f.length:Int):=hn;simp only[dQ,AM];repeat'(first|exact trivial|refine eS rfl ?_|refine AB ?_|refine rX d ?_ ?_|refine rC ?_ ?_<;>intro a<;>try(cases a;done))
 have o:=(g.2 _ (AE f (0,[]) (ST hn))).1;generalize m:X2 (l,hf) s=e at *;generalize j:(f.getD n.toNat (0,[])).2=L at *;refine AK (ι:={k:Nat//k<=L.length/\Db L e=Db (L.drop k) e}) (λk=>⟨[(2,.p T3 n),(5,.bp 5 [] 0),(9,.p T3 e),(10,.p (.int .i64) (k.1:Int))],[(5,.box 25 true [.p Fe f])]⟩) (λk=>L.length-k.1) ⟨0,IN _,rfl⟩ (eW [(5,.nm 5)]) (λk=>?_)
 ·obtain⟨k,hk,b⟩:=k;have i:=λh:k<L.length=>Zf e L h;simp only;repeat'(first|exact trivial|refine eS rfl ?_|refine AB ?_|refine rX d ?_ ?_|refine rC ?_ ?_<;>intro a<;>try(cases a;done))
  all_goals try rw[j]at *
  ·exact hn
  ·exact⟨hn,a⟩
  ·exact⟨hn,by assumption⟩
  ·have c:k<L.length:=by exact eV
   rw[i c,BY a]at b;exact fI d [.tmp 8] (by rw[b];exact eR)
  ·omega
  ·have c:k<L.length:=by exact eV
   rw[i c,An a]at b;exact⟨⟨k+1,by omega,b⟩,by simp only;omega,eW [(5,.nm 5)]⟩
  ·have c:L.drop k=[]:=By (by exact eV);rw[c]at b;exact fI d [.tmp 8] (by rw[b];first|exact eR|refine Xy ?_;rfl)
def dS:Ac:={ ins:=[Eg,Dw,T3],pre:=λ(_,f,n,_)=>AX f/\(0:Int)<=n/\n<(List.length f:Int),out:=λ(h,f,n,_)=>[.p .bool (RC (BG h) (List.getD (f:List AD) n.toNat (0,[])).2)],lend:=true }
attribute [local go_sem] dS
theorem Z2:Ad Tryz.prog 140 dS:=by
 refine fK [0,1,2,3,4,6] Tryz.func140 Tryz.ntmps140 (AF Xs AG) ?_;rintro w0 O0 ⟨⟨g,hf⟩,f,n,u⟩ b-⟨a,hn⟩;have a:AX f:=a;obtain⟨h,i,j,k,d,e,l,m⟩:=M2 (g,hf);simp only[dS,AM];repeat'(first|exact trivial|refine eS rfl ?_|refine AB ?_|refine rX b ?_ ?_|refine rC ?_ ?_<;>intro c<;>try(cases c;done))
 all_goals simp only[d,e]at *
 ·exact⟨⟨a,hn⟩,λ_=>⟨a,hn⟩⟩
 ·exact fI b [.tmp 6] (by unfold RC;exact eR)
def Uu:Ac:={ ins:=[Eg,Dw,T3],pre:=λ(h,f,n,_)=>(PT h=true/\GL h)/\AX f/\EB h f/\(0:Int)<=n/\n<(List.length f:Int),out:=λ(h,f,n,_)=>[.p .bool (UE h (BG h) (List.getD (f:List AD) n.toNat (0,[])))],lend:=true }
attribute [local go_sem] Uu
theorem Z3:Ad Tryz.prog 113 Uu:=by
 refine fK [0,1,2,3,4,6] Tryz.func113 Tryz.ntmps113 (AF Z2 (AF Nh (AF Mp AG))) ?_;rintro w0 O0 ⟨⟨a,hf⟩,f,n,u⟩ e-⟨⟨d,hk⟩,b,c,hn⟩;have d:PT (a,hf)=true:=d;have hk:GL (a,hf):=hk;have b:AX f:=b;have c:EB (a,hf) f:=c;obtain⟨h,i,j,k,l,m,o,p⟩:=M2 (a,hf);have hn:0<=n/\n<(f.length:Int):=hn;have q:=c _ (AE f (0,[]) (ST hn));obtain⟨-,t,s,-⟩:=pL d;obtain⟨⟨-,v1,r,-⟩,-⟩:=SS (a,hf);simp only[Uu,AM];repeat'(first|exact trivial|refine eS rfl ?_|refine AB ?_|refine rX e ?_ ?_|refine rC ?_ ?_<;>intro g<;>try(cases g;done))
 all_goals simp only[h,i,j,k,l,m,o,p]at *
 ·exact⟨⟨b,hn⟩,λ_=>hn,λ_=>⟨⟨⟨s,r⟩,q⟩,hk⟩⟩
 ·exact fI e [.tmp 6] (by unfold UE;rw[AET];exact eR)
def Uv:Ac:={ ins:=[Eg,Dw,T3],pre:=λ(h,f,n,_)=>(PT h=true/\GL h)/\AX f/\EB h f/\(0:Int)<=n/\n<(List.length f:Int),out:=λ(h,f,n,_)=>[.p .bool (Lm h (BG h) (List.getD (f:List AD) n.toNat (0,[])))],lend:=true }
attribute [local go_sem] Uv
theorem A0I:Ad Tryz.prog 94 Uv:=by
 refine fK [0,1,2,3,4,6] Tryz.func94 Tryz.ntmps94 (AF Xs (AF Nh (AF Mp AG))) ?_;rintro w0 O0 ⟨⟨a,hf⟩,f,n,u⟩ e-⟨⟨d,hk⟩,b,c,hn⟩;have d:PT (a,hf)=true:=d;have hk:GL (a,hf):=hk;have b:AX f:=b;have c:EB (a,hf) f:=c;obtain⟨h,i,j,k,l,m,o,p⟩:=M2 (a,hf);have hn:0<=n/\n<(f.length:Int):=hn;have q:=c _ (AE f (0,[]) (ST hn));obtain⟨-,r,t,-⟩:=pL d;obtain⟨⟨-,v1,s,-⟩,-⟩:=SS (a,hf);simp only[Uv,AM];repeat'(first|exact trivial|refine eS rfl ?_|refine AB ?_|refine rX e ?_ ?_|refine rC ?_ ?_<;>intro g<;>try(cases g;done))
 all_goals simp only[h,i,j,k,l,m,o,p]at *
 ·exact⟨⟨b,hn⟩,λ_=>⟨b,hn⟩,λ_=>hn,λ_=>⟨⟨⟨r,v1⟩,q⟩,hk⟩⟩
 ·exact fI e [.tmp 6] (by unfold Lm Tm;rw[AET];exact eR)
def RF:Ac:={ ins:=[Eg,Dw,T3],pre:=λ(h,f,n,_)=>(PT h=true/\GL h)/\AX f/\EB h f/\(0:Int)<=n/\n<(List.length f:Int),out:=λ(h,f,n,_)=>[.p .bool (!UE h (BG h) (List.getD (f:List AD) n.toNat (0,[]))&&OP h (BG h) (List.getD (f:List AD) n.toNat (0,[])))],lend:=true }
attribute [local go_sem] RF
theorem uF:Ad Tryz.prog 95 RF:=by
 refine fK [0,1,2,3,4,6] Tryz.func95 Tryz.ntmps95 (AF Z3 (AF Z2 (AF Nh (AF Mp AG)))) ?_;rintro w0 O0 ⟨⟨a,hf⟩,f,n,u⟩ e-⟨⟨d,hk⟩,b,c,hn⟩;have d:PT (a,hf)=true:=d;have hk:GL (a,hf):=hk;have b:AX f:=b;have c:EB (a,hf) f:=c;obtain⟨h,i,j,k,l,m,o,p⟩:=M2 (a,hf);have hn:0<=n/\n<(f.length:Int):=hn;have q:=c _ (AE f (0,[]) (ST hn));obtain⟨-,r,t,-⟩:=pL d;obtain⟨⟨-,v1,s,-⟩,-⟩:=SS (a,hf);simp only[RF,AM];repeat'(first|exact trivial|refine eS rfl ?_|refine AB ?_|refine rX e ?_ ?_|refine rC ?_ ?_<;>intro g<;>try(cases g;done))
 all_goals simp only[h,i,j,k,l,m,o,p]at *
 ·exact⟨⟨⟨d,hk⟩,b,c,hn⟩,λ_=>⟨b,hn⟩,λ_=>hn,λ_=>⟨⟨q,r,v1⟩,hk⟩⟩
 ·exact fI e [.tmp 6] (by unfold OP;rw[AET (A7 _ _ _),<-Bool.and_assoc];exact eR)
def xP:Ac:={ ins:=[F3,T3],pre:=λ_=>True,out:=λ(l,n,_)=>[.p .bool (v9 l n)],lend:=true }
attribute [local go_sem] xP
theorem A7t:Ad Tryz.prog 93 xP:=by
 refine fK [0,1,4,5,9,17] Tryz.func93 Tryz.ntmps93 AG ?_;rintro w0 O0 ⟨l,n,u⟩ d ⟨⟨g,-⟩,-⟩ -;simp only[AP]at g;simp only[xP,AM];repeat'(first|exact trivial|refine eS rfl ?_|refine AB ?_|refine rX d ?_ ?_|refine rC ?_ ?_<;>intro a<;>try(cases a;done))
 refine AK (ι:={k:Nat//k<=l.length/\v9 l n=v9 (l.drop k) n}) (λk=>⟨[(0,.p F3 l),(1,.p T3 n),(5,.p (.int .i64) (k.1:Int))],[]⟩) (λk=>l.length-k.1) ⟨0,IN _,rfl⟩ (eW []) (λk=>?_)
 ·obtain⟨k,hk,b⟩:=k;have e:k<l.length->v9 (l.drop k) n=(l.getD k 0==n||v9 (l.drop (k+1)) n):=λh=>by
   rw[KW h];rfl
  simp only;repeat'(first|exact trivial|refine eS rfl ?_|refine AB ?_|refine rX d ?_ ?_|refine rC ?_ ?_<;>intro a<;>try(cases a;done))
  ·exact a
  ·have c:k<l.length:=by exact eV
   rw[e c,a,beq_self_eq_true,Bool.true_or]at b;exact fI d [.tmp 4] (by rw[b];exact eR)
  ·omega
  ·have c:k<l.length:=by exact eV
   have f:(l.getD k 0==n)=false:=AD5.2 a;rw[e c,f,AES]at b;exact⟨⟨k+1,by omega,b⟩,by simp only;omega,eW []⟩
  ·have c:l.drop k=[]:=By (by exact eV);rw[c]at b;exact fI d [.tmp 4] (by rw[b];first|exact eR|refine Xy ?_;rfl)
end
section
attribute [local go_sem] A9f SB
noncomputable def A5b:Ac:={ ins:=[Eg,Dw,F3,Dw],pre:=λ(h,a,p,b,_)=>(t8 h/\A0t h)/\VF h a/\VF h b/\FtP h p/\List.length p<=20/\List.length a<=60/\List.length b<=20,out:=λ(h,a,p,b,_)=>[.p Dw (HX h a (A4 p b)).1,.p .bool (HX h a (A4 p b)).2] }
attribute [local go_sem] A5b
theorem A9h:Ad Tryz.prog 72 A5b:=by
 refine fK [0,1,2,3,4,5,7,8,9,10,11,21] Tryz.func72 Tryz.ntmps72 (AF A9g (AF A4o AG)) ?_;rintro w0 O0 ⟨h,a,p,b,u⟩ e-⟨⟨hh,j⟩,va,i,d,g⟩;have hh:t8 h:=hh;have j:A0t h:=j;have va:VF h a:=va;have i:VF h b:=i;have g:p.length<=20/\a.length<=60/\b.length<=20:=g;have d:FtP h p:=d;simp only[A5b,AM];have f:(h.1,h.2)=h:=rfl;repeat'(first|exact trivial|refine eS rfl ?_|refine rX e ?_ ?_|refine rC ?_ ?_<;>intro c<;>try(cases c;done))
 ·exact⟨hh.hu,va,i,d,g⟩
 ·exact fI e [.cell 8 25,.tmp 9] (by unfold HX;rw[f]at c;unfold A0G at c;rw[c,An Bool.false_ne_true];exact eR)
 ·exact A9c hh (Td c).vf
 ·exact fI e [.cell 8 25,.tmp 9] (by unfold HX;rw[f]at c;unfold A0G at c;rw[c,BY rfl,f];unfold A0G;exact eR)
end
section
attribute [local go_sem] A5a PU Da cs4 cs5
theorem M3 (h:AH):X2 h ⟨#[65,82,71,83]⟩=BR h:=rfl
def dT (h:AH) (k:Nat):List Int:=BR h :: List.replicate k (BG h).rest
theorem A0J (h:AH) (k:Nat):dT h (k+1)=dT h k++[(BG h).rest]:=by
 unfold dT;rw[AEv];rfl
theorem A5c (h:AH) (k:Nat):(dT h k).length=k+1:=by simp[dT]
theorem A7u (h:AH) (k:Nat):Lt h k=dT h k++[(BG h).first]:=rfl
def A0K:Ac:={ ins:=[Eg,T3],pre:=λ(_,i,_)=>(0:Int)<=i/\(i:Int)<=100,out:=λ(h,i,_)=>[.p F3 (Lt h i.toNat)] }
attribute [local go_sem] A0K
theorem A9i:Ad Tryz.prog 73 A0K:=by
 refine fKP [0,1,2,4,5,9,10,11] [15,21] [] Tryz.func73 Tryz.ntmps73 (AF Xr AG) ?_;rintro w0 O0 ⟨h,i,u⟩ b-⟨c,d⟩;have c:(0:Int)<=(i:Int):=c;have d:(i:Int)<=100:=d;have n:(h.1,h.2)=h:=rfl;obtain⟨-,-,-,-,r,s,-,-⟩:=M2 h;have q:=M3 h;simp only[A0K,AM];obtain⟨m,rfl⟩:∃m:Nat,i=(m:Int):=⟨Int.toNat i,(AD9 c).symm⟩;have o:m<=100:=Sb.1 d;repeat'(first|exact trivial|refine eS rfl ?_|refine AB ?_|refine rX b ?_ ?_|refine rC ?_ ?_<;>intro a<;>try(cases a;done))
 refine AK (ι:={k:Nat//k<=m}) (λk=>⟨[(2,.bp 2 [] 0),(5,.sr 8 T3 0 (k.1+1)),(9,.p T3 (m:Int)),(10,.p (.int .i64) (k.1:Int))],[(2,.box 31 true [.p Xz h.1,.p Yu h.2]),(8,.arr 3 T3 (dT h k.1))]⟩) (λk=>m-k.1) ⟨0,by omega⟩ (AC [(2,.nm 2),(8,.nm 8)] rfl rfl ?_ ?_) (λk=>?_)
 ·first|exact eN|refine eM ?_
  rfl
 ·first|exact eN|refine eM ?_
 ·obtain⟨k,hk⟩:=k;have f:=A5c h k;have g:=A0J h k;simp only;repeat'(first|exact trivial|refine eS rfl ?_|refine AB ?_|refine rX b ?_ ?_|refine rC ?_ ?_<;>intro a<;>try(cases a;done))
  ·simp only[AP];omega
  ·omega
  ·have e:k<m:=If.1 a;refine⟨⟨k+1,e⟩,by simp only;omega,AC [(2,.nm 2),(8,.nm 8)] rfl rfl ?_ ?_⟩
   ·first|exact eN|refine eM ?_
    rw[g,At (by omega)];rfl
   ·first|exact eN|refine eM ?_
  ·simp only[AP];omega
  ·have e:k=m:=ADT hk (Sb.1 a);subst e;refine F1 [8] ?_;have j:Lt h (Int.toNat (k:Int))=List.take (k+1+1) (List.take (k+1) (dT h k)++[X2 (h.1,h.2) ⟨#[70,73,82,83,84]⟩]):=by
    rw[Se,A7u,At (l:=dT h k) (by omega),At (by rw[GO,f];exact NO _)];rfl
   exact fI b [.tmp 4] (by rw[j];exact eR)
theorem A5d {h:AH} (hu:HU h) {f:List AD} (v:PF h f) (l:f.length<=10000) (e:Int):AX (M0 f e)/\Lr (M0 f e):=by
 have h0:=AE f (0,[]) v.pos;have n:(M0 f e).length=f.length+1:=by simp[M0]
 have i:∀x∈M0 f e,∃y∈f,x.2.length<=y.2.length/\Nn x.2/\∀a∈x.2,a∈y.2:=λx b=>by
  rcases No.1 b with b|b
  ·exact⟨x,b,NO _,v.str x b,λa ha=>ha⟩
  ·rw[UF.1 b];exact⟨_,h0,aS _ _,pJ v.str e,λa ha=>Xi ha⟩
 refine⟨⟨by omega,λx b=>?_⟩,λx b=>?_⟩
 ·obtain⟨y,d,j,-,c⟩:=i x b;have k:=v.good.2 y d;refine⟨by omega,λa ha=>?_⟩;have:=k.2 a (c a ha);omega
 ·obtain⟨y,d,j,g,c⟩:=i x b;have m:=hu.ft;have:=dA g λa ha=>by
   have:=v.ft y d a (c a ha);omega
  exact⟨(KR _).2 g,by omega⟩
def Uw:Ac:={ ins:=[Dw,T3],pre:=λ(f,_,_)=>∃h,HU h/\PF h f/\List.length f<=10000,out:=λ(f,e,_)=>[.p Dw (RB f e)] }
attribute [local go_sem] Uw
theorem Z4:Ad Tryz.prog 74 Uw:=by
 refine fKP [0,1,2,4,5,6,8,24,25,26,27,33] [37,44] [] Tryz.func74 Tryz.ntmps74 (AF A8O AG) ?_;rintro w0 O0 ⟨f,e,u⟩ d-⟨h,hu,hp,g⟩;have hp:PF h f:=hp;have g:f.length<=10000:=g;have h0:=hp.pos;simp only[Uw,AM];have v:=(hp.good.2 _ (AE f (0,[]) h0)).1;repeat'(first|exact trivial|refine eS rfl ?_|refine AB ?_|refine rX d ?_ ?_|refine rC ?_ ?_<;>intro b<;>try(cases b;done))
 ·simp only[AP];omega
 ·exact If.2 h0
 ·exact If.2 h0
 ·have q:Tl f e=(f.getD 0 (0,[])).2.filter λa=>a.1 != e:=rfl;have s:M0 f e=f++[((f.getD 0 (0,[])).1,Tl f e)]:=rfl;have r:=A9e hp g e;generalize t:(f.getD 0 (0,[])).2=L at *;generalize (f.getD 0 (0,[])).1=ty at *;refine AK (ι:={k:Nat//k<=L.length}) (λk=>⟨[(1,.p T3 e),(2,.bp 2 [] 0),(4,.bp 4 [] 0),(5,.bp 5 [] 0),(6,.bp 6 [] 0),(24,.p DN L),(25,.p (.int .i64) (L.length:Int)),(26,.p (.int .i64) (k.1:Int))],[(6,.box 93 true [.p T3 ty,.sr 38 AU 0 ((L.take k.1).filter λa=>a.1 != e).length]),(38,.arr 106 AU ((L.take k.1).filter λa=>a.1 != e)),(5,.box 25 true [.sr 9 NN 0 f.length]),(9,.arr 93 NN f),(4,.box 25 true [.raw (.slice none 0 0)]),(2,.box 25 true [.p Fe f])]⟩) (λk=>L.length-k.1) ⟨0,by omega⟩ (AC [(6,.nm 6),(38,.nil),(5,.nm 5),(9,.nm 9),(4,.nm 4),(2,.nm 2)] rfl rfl ?_ ?_) (λk=>?_)
  ·first|exact eN|refine eM ?_
   exact⟨rfl,rfl⟩
  ·first|exact eN|refine eM ?_
  ·obtain⟨k,hk⟩:=k;have j:=λhk:k<L.length=>oT (λa:Int×Int=>a.1 != e) L hk;have o:=aS (λa:Int×Int=>a.1 != e) (L.take k);rw[OR]at o;simp only;repeat'(first|exact trivial|refine eS rfl ?_|refine AB ?_|refine rX d ?_ ?_|refine rC ?_ ?_<;>intro b<;>try(cases b;done))
   ·exact b
   ·simp only[AP];dsimp only[Ty.den]at *;omega
   ·omega
   ·have c:k<L.length:=by exact eV
    have n:((L.getD k (0,0)).1 != e)=true:=AEc.2 b;refine⟨⟨k+1,c⟩,by simp only;omega,AC [(6,.nm 6),(38,.nm 38),(5,.nm 5),(9,.nm 9),(4,.nm 4),(2,.nm 2)] rfl rfl ?_ ?_⟩
    ·simp only[j c,n,ACF];first|exact eN|refine eM ?_
    ·first|exact eN|refine eM ?_
   ·omega
   ·have c:k<L.length:=by exact eV
    refine⟨⟨k+1,c⟩,by simp only;omega,AC [(6,.nm 6),(38,.nm 38),(5,.nm 5),(9,.nm 9),(4,.nm 4),(2,.nm 2)] rfl rfl ?_ ?_⟩
    ·simp only[j c,b,AD4,ADs,Sq];first|exact eN|refine eM ?_
    ·first|exact eN|refine eM ?_
   ·simp only[AP];omega
   ·have c:L.take k=L:=At (Sb.1 b);rw[c,<-q,<-s];have m:(M0 f e).length=f.length+1:=by simp[M0]
    refine F1 [9] ?_;have l:(M0 f e).take (f.length+1)=M0 f e:=At (Nat.le_of_eq m);have i:=A5d hu hp g e;repeat'(first|exact trivial|refine eS rfl ?_|refine AB ?_|refine rX d ?_ ?_|refine rC ?_ ?_<;>intro b<;>try(cases b;done))
    ·rw[l];exact⟨i.1,i.2,If.2 (by rw[m];exact AEs _)⟩
    ·exact fI d [.cell 4 25] (by rw[l,r];exact eR)
end
section
attribute [local go_sem] A5a PU A0K Uw A5b cs4 cs5
def RG:Ac:={ ins:=[Eg,T27],pre:=λ(h,r,_)=>HU h/\VF h r.2.2/\List.length r.2.2<=10000,out:=λ(h,r,_)=>[.p Dw (RB r.2.2 (BR h))] }
attribute [local go_sem] RG
theorem A0L:Ad Tryz.prog 28 RG:=by
 refine fK [0,1,2,3,4] Tryz.func28 Tryz.ntmps28 (AF Xr (AF Z4 AG)) ?_;rintro w0 O0 ⟨h,⟨nm,ar,f⟩,u⟩ a-⟨hu,vf,c⟩;simp only[RG,AM];repeat'(first|exact trivial|refine eS rfl ?_|refine AB ?_|refine rX a ?_ ?_|refine rC ?_ ?_<;>intro b<;>try(cases b;done))
 ·exact⟨h,hu,vf.pf,c⟩
 ·exact fI a [.cell 4 25] (by rw[<-M3];exact eR)
theorem xQ {h:AH} {f:List AD} (vf:VF h f) (p:List Int) (e:(Dd f 0 p).2=true):0<=(Dd f 0 p).1/\(Dd f 0 p).1<(f.length:Int):=by
 have ha:=Xm vf.good vf.str p 0;cases a:ER f 0 p with
 | none=>rw[a]at ha;rw[ha]at e;cases e
 | some n =>
  rw[a]at ha;rw[ha];exact A4Z vf.good vf.pos p n a
noncomputable def SU:Ac:={ ins:=[Eg,T27,T38],pre:=λ(h,r,A,_)=>(List.length A:Int)=r.2.1->RA h r.2.1 r.2.2 A,out:=λ(h,r,A,_)=>[.p Dw (GK h r.2.1 r.2.2 A).1,.p .bool (GK h r.2.1 r.2.2 A).2] }
attribute [local go_sem] SU
theorem A5e:Ad Tryz.prog 23 SU:=by
 refine fK [0,1,2,3,4,6,7,8,9,10,11,12,17,21,22,23,24,39] Tryz.func23 Tryz.ntmps23 (AF A9i (AF A9h (AF Xr (AF Z4 AG)))) ?_;rintro w0 O0 ⟨h,⟨nm,ar,f⟩,A,u⟩ d-hp;have hp:(List.length A:Int)=(ar:Int)->RA h ar f A:=hp;have F:(h.1,h.2)=h:=rfl;simp only[SU,AM];repeat'(first|exact trivial|refine eS rfl ?_|refine AB ?_|refine rX d ?_ ?_|refine rC ?_ ?_<;>intro c<;>try(cases c;done))
 ·have j:GK h ar f A=([],false):=BY c;exact fI d [.cell 6 25,.tmp 7] (by rw[j];exact eR)
 ·have x:(A.length:Int)=ar:=by simpa using c
  have i:=hp x;have j:GK h ar f A=if (Ce h (Lt h) 0 f A).2=true then (RB (Ce h (Lt h) 0 f A).1 (BR h),true) else ([],false):=An (by omega)
  have E:=i.la;have z:=xN h;have q:=A59 i.ok.lw i.ok.args;have D:=i.va;refine AK (ι:={s:Nat×List AD//s.1<=A.length/\Ce h (Lt h) 0 f A=Ce h (Lt h) s.1 s.2 (A.drop s.1)/\VF h s.2/\s.2.length<=12+16*s.1}) (λs=>⟨[(3,.bp 3 [] 0),(6,.bp 6 [] 0),(8,.bp 8 [] 0),(21,.p T38 A),(22,.p (.int .i64) (A.length:Int)),(23,.p (.int .i64) (s.1.1:Int))],[(3,.box 31 true [.p Xz h.1,.p Yu h.2]),(6,.box 25 true [.raw (.slice none 0 0)]),(8,.box 25 true [.p Fe s.1.2])]⟩) (λs=>A.length-s.1.1) ⟨(0,f),IN _,rfl,i.vf,by have:=i.lf;simp only;omega⟩ (AC [(3,.nm 3),(6,.nm 6),(8,.nm 8)] rfl rfl ?_ ?_) (λs=>?_)
  ·first|exact eN|refine eM ?_
  ·first|exact eN|refine eM ?_
  ·obtain⟨⟨k,g⟩,hk,m,n,w⟩:=s;simp only at hk m n w ⊢;have B:∀l:k<A.length,Ce h (Lt h) k g (A.drop k)=if (HX h g (A4 (Lt h k) (A.getD k []))).2=true then Ce h (Lt h) (k+1) (HX h g (A4 (Lt h k) (A.getD k []))).1 (A.drop (k+1)) else ([],false):=λl=>by
    rw[Mk [] l];rfl
   repeat'(first|exact trivial|refine eS rfl ?_|refine AB ?_|refine rP d ?_ ?_|fail)
   refine rC (λc=>?_) λc=>?_
   ·repeat'(first|exact trivial|refine eS rfl ?_|refine AB ?_|refine rP d ?_ ?_|fail)
    ·exact c
    ·have l:k<A.length:=If.1 c;have o:=D _ (AE A [] l);have H:=Gl (Lt h k) (A.getD k []);have y:=z k;have r:=B l;have G:=dJ (h:=h) (a:=g) (b:=A4 (Lt h k) (A.getD k []));have C:=xI i.hh n (Xg n.h0 o.1 (q k) (by omega) (by omega)) (by omega);refine Cc drawsAny d 12 [([0,1,2,3,4,5,6,7,8,10],11)] [9] (by kernel_rfl) (Nk ?_ ?_)
     ·exact⟨show (k:Int)<=100 by omega,⟨i.hh,i.top⟩,n,o.1,q k,by rw[y];omega,by omega,Sd o.2 (by decide)⟩
     ·refine PY d [] ?_ ?_
      ·trivial
      ·refine Tw d ?_ ?_ ?_
       ·trivial
       ·trivial
       ·repeat'(first|exact trivial|refine eS rfl ?_|refine AB ?_|refine rX d ?_ ?_|refine rC ?_ ?_<;>intro c<;>try(cases c;done))
        ·have t:¬(HX h g (A4 (Lt h k) (A.getD k []))).2=true:=λe=>by
          have c:(HX h g (A4 (Lt h k) (A.getD k []))).2=false:=c;rw[e]at c;cases c
         rw[m,r,An t]at j;have j:GK h ar f A=([],false):=j;exact fI d [.cell 6 25,.tmp 7] (by rw[j];exact eR)
        ·omega
        ·refine⟨⟨(k+1,(HX h g (A4 (Lt h k) (A.getD k []))).1),l,m.trans (r.trans (BY c)),(C.vf c).wt.1,by simp only;omega⟩,by simp only;omega,AC [(3,.nm 3),(6,.nm 6),(8,.nm 8)] rfl rfl ?_ ?_⟩
         ·first|exact eN|refine eM ?_
         ·first|exact eN|refine eM ?_
   ·have v:A.drop k=[]:=By (Sb.1 c);rw[v]at m;rw[m]at j;have j:GK h ar f A=(RB g (BR h),true):=j;repeat'(first|exact trivial|refine eS rfl ?_|refine AB ?_|refine rX d ?_ ?_|refine rC ?_ ?_<;>intro c<;>try(cases c;done))
    ·exact⟨h,i.hh.hu,n.pf,by omega⟩
    ·exact fI d [.cell 6 25,.tmp 7] (by rw[j,<-M3];exact eR)
end
section
attribute [local go_sem] xO A5a PU WY cs4 cs5
def wdF (h:AH) (w:LW):f4.den:=(h,w.list,w.cons,w.null,w.dlist,w.first,w.rest,w.head,w.last)
def lwO (w:f4.den):LW:=⟨w.2.1,w.2.2.1,w.2.2.2.1,w.2.2.2.2.1,w.2.2.2.2.2.1,w.2.2.2.2.2.2.1,w.2.2.2.2.2.2.2.1,w.2.2.2.2.2.2.2.2⟩
def pQ:Ac:={ ins:=[Dw,T3,T3],pre:=λ(f,n,_)=>AX f/\(0:Int)<=n/\n<(List.length f:Int),out:=λ(f,n,e,_)=>[.p T3 (Db (List.getD (f:List AD) n.toNat (0,[])).2 e)],lend:=true }
attribute [local go_sem] pQ
theorem dU:Ad Tryz.prog 89 pQ:=by
 refine fK [0,1,2,3,6,8,14,15,16,17,23] Tryz.func89 Tryz.ntmps89 AG ?_;rintro w0 O0 ⟨f,n,e,u⟩ d-⟨g,hn⟩;have g:AX f:=g;have hn:0<=n/\n<(f.length:Int):=hn;simp only[pQ,AM];repeat'(first|exact trivial|refine eS rfl ?_|refine AB ?_|refine rX d ?_ ?_|refine rC ?_ ?_<;>intro a<;>try(cases a;done))
 ·exact hn
 ·have j:=(g.2 _ (AE f (0,[]) (ST hn))).1;generalize (f.getD n.toNat (0,[])).2=L at *;refine AK (ι:={k:Nat//k<=L.length/\Db L e=Db (L.drop k) e}) (λk=>⟨[(2,.p T3 e),(14,.p DN L),(15,.p (.int .i64) (L.length:Int)),(16,.p (.int .i64) (k.1:Int))],[]⟩) (λk=>L.length-k.1) ⟨0,IN _,rfl⟩ (eW []) (λk=>?_)
  ·obtain⟨k,hk,b⟩:=k;have i:=λh:k<L.length=>Zf e L h;simp only;repeat'(first|exact trivial|refine eS rfl ?_|refine AB ?_|refine rX d ?_ ?_|refine rC ?_ ?_<;>intro a<;>try(cases a;done))
   ·exact a
   ·have c:k<L.length:=by exact eV
    rw[i c,BY a]at b;exact fI d [.tmp 6] (by rw[b];exact eR)
   ·omega
   ·have c:k<L.length:=by exact eV
    rw[i c,An a]at b;exact⟨⟨k+1,by omega,b⟩,by simp only;omega,eW []⟩
   ·have c:L.drop k=[]:=By (by exact eV);rw[c]at b;exact fI d [.tmp 6] (by rw[b];first|exact eR|refine Xy ?_;rfl)
def WOk (h:AH) (w:LW):Prop:=(0<=w.cons/\w.cons<(h.1.length:Int))/\(0<=w.null/\w.null<(h.1.length:Int))
def Xt:Ac:={ ins:=[f4,Dw,T3],pre:=λ(w,f,n,_)=>WOk w.1 (lwO w)/\AX f/\EB w.1 f/\(0:Int)<=n/\n<(List.length f:Int),out:=λ(w,f,n,_)=>[.p T3 (BQ w.1 (lwO w) (List.getD (f:List AD) n.toNat (0,[])))],lend:=true }
attribute [local go_sem] Xt
theorem pR:Ad Tryz.prog 91 Xt:=by
 refine fK [0,1,2,3,4,6,7,8,9,28,43,56] Tryz.func91 Tryz.ntmps91 (AF dU (AF cE AG)) ?_;rintro w0 O0 ⟨⟨h,l,c,d,dl,a,e,b,la⟩,f,n,u⟩ i-⟨j,k,m,hn⟩;have j:WOk h ⟨l,c,d,dl,a,e,b,la⟩:=j;have k:AX f:=k;have m:EB h f:=m;have hn:0<=n/\n<(f.length:Int):=hn;have o:=m _ (AE f (0,[]) (ST hn));simp only[Xt,AM];repeat'(first|exact trivial|refine eS rfl ?_|refine AB ?_|refine rX i ?_ ?_|refine rC ?_ ?_<;>intro p<;>try(cases p;done))
 ·exact hn
 ·exact⟨k,hn⟩
 ·exact⟨j.2,o⟩
 ·have g:BQ h ⟨l,c,d,dl,a,e,b,la⟩ (f.getD n.toNat (0,[]))=1:=by
   unfold BQ UE Lm OP RC Tm;simp only[AT,Fj];grind
  exact fI i [.tmp 6] (by rw[show lwO (h,l,c,d,dl,a,e,b,la)=⟨l,c,d,dl,a,e,b,la⟩ from rfl,g];exact eR)
 ·exact⟨j.1,o⟩
 ·have g:BQ h ⟨l,c,d,dl,a,e,b,la⟩ (f.getD n.toNat (0,[]))=2:=by
   unfold BQ UE Lm OP RC Tm;simp only[AT,Fj];grind
  exact fI i [.tmp 6] (by rw[show lwO (h,l,c,d,dl,a,e,b,la)=⟨l,c,d,dl,a,e,b,la⟩ from rfl,g];exact eR)
 ·exact⟨o,j.1⟩
 ·have g:BQ h ⟨l,c,d,dl,a,e,b,la⟩ (f.getD n.toNat (0,[]))=3:=by
   unfold BQ UE Lm OP RC Tm;simp only[AT,Fj];grind
  exact fI i [.tmp 6] (by rw[show lwO (h,l,c,d,dl,a,e,b,la)=⟨l,c,d,dl,a,e,b,la⟩ from rfl,g];exact eR)
 ·have g:BQ h ⟨l,c,d,dl,a,e,b,la⟩ (f.getD n.toNat (0,[]))=0:=by
   unfold BQ UE Lm OP RC Tm;simp only[AT,Fj];grind
  exact fI i [.tmp 6] (by rw[show lwO (h,l,c,d,dl,a,e,b,la)=⟨l,c,d,dl,a,e,b,la⟩ from rfl,g];exact eR)
theorem A7v {a b:Int}:(if b<a then b else a)<0↔a<0\/b<0:=by split<;>omega
theorem A7w {a b:Int}:(0<=if b<a then b else a)↔0<=a/\0<=b:=by split<;>omega
def A85:f4.den:=(([],[]),0,0,0,0,0,0,0,0)
def Xu:Ac:={ ins:=[Eg],pre:=λ_=>True,out:=λ(h,_)=>[.p f4 (if PT h=true then wdF h (BG h) else A85),.p Ls (if PT h=true then 0 else 5)] }
attribute [local go_sem] Xu
theorem A5f:Ad Tryz.prog 88 Xu:=by
 refine fK [0,1,2,3,4,58] Tryz.func88 Tryz.ntmps88 (AF A7s (AF Xr (AF cE AG))) ?_;rintro w0 O0 ⟨⟨a,hf⟩,u⟩ b - -;obtain⟨f,g,i,j,k,l,m,n⟩:=M2 (a,hf);obtain⟨⟨s,t,v,w⟩,o,p,q,r⟩:=SS (a,hf);simp only[Xu,AM];repeat'(first|exact trivial|refine eS rfl ?_|refine AB ?_|refine rX b ?_ ?_|refine rC ?_ ?_<;>intro e<;>try(cases e;done))
 all_goals simp only[f,g,i,j,k,l,m,n,A7v,A7w]at *
 ·refine⟨λh=>?_,λh=>?_⟩<;>simp only[SZ,iF,Of,not_or]at h<;>grind
 ·have c:PT (a,hf)=false:=by
   rw[ADE];intro d;unfold PT at d;simp only[AT,Fj]at d;grind
  exact fI b [.cell 2 115,.tmp 3] (by simp only[c,AD4,ADs,A85];exact eR)
 ·have c:PT (a,hf)=true:=by
   unfold PT;simp only[AT,Fj];grind
  exact fI b [.cell 2 115,.tmp 3] (by simp only[c,ACF,wdF];exact eR)
end
section
attribute [local go_sem] Xu Xt pQ
def Du (h:AH) (w:LW):Obj:=.box 115 true [.p Eg h,.p T3 w.list,.p T3 w.cons,.p T3 w.null,.p T3 w.dlist,.p T3 w.first,.p T3 w.rest,.p T3 w.head,.p T3 w.last]
theorem A5g (h:AH) (w:LW) (f:List AD) (n:Int):BI Tryz.prog 90 [.p f4 (wdF h w),.p Dw f,.p T3 n] [] [] (λres c=>res=.clo 139 [5,3,4]/\c=[(5,.box 3 false [.p T3 n]),(4,.box 25 true [.p Fe f]),(3,Du h w)]):=by
 refine K0 [0,1,2,3,4,5,6] [] [] Tryz.func90 Tryz.ntmps90 AG ?_;intro w0 K O0 ρ0 a d e;simp only[Am,wdF];repeat'(first|exact trivial|refine eS rfl ?_|refine AB ?_|refine rX a ?_ ?_|refine rC ?_ ?_<;>intro b<;>try(cases b;done))
 exact fM a [.tmp 6] (.clo 139 [5,3,4]) eT ⟨rfl,rfl⟩
abbrev WS:=List Int×List Int×Bool×Int
def GN (f:List AD) (n:Int):AD:=f.getD n.toNat (0,[])
def Z5 (h:AH) (w:LW) (f:List AD) (s:WS):WS:=(s.1++[s.2.2.2],if BQ h w (GN f s.2.2.2)=2 then s.2.1++[Db (GN f s.2.2.2).2 w.first] else s.2.1,decide (BQ h w (GN f s.2.2.2)=1),Db (GN f s.2.2.2).2 w.rest)
def Az (h:AH) (w:LW) (f:List AD) (n:Int):Nat->WS
 | 0=>([],[],false,n)
 | i+1=>Z5 h w f (Az h w f n i)
def WGo (h:AH) (w:LW) (f:List AD) (n:Int) (i:Nat):Prop:=∀j,j<i->BQ h w (GN f (Az h w f n j).2.2.2)=2/\(Az h w f n j).2.2.2∉(Az h w f n j).1
theorem A0M (h:AH) (w:LW) (x:AD):BQ h w x=0\/BQ h w x=1\/BQ h w x=2\/BQ h w x=3:=by
 unfold BQ;split
 ·exact .inr (.inl rfl)
 ·split
  ·exact .inr (.inr (.inl rfl))
  ·split
   ·exact .inr (.inr (.inr rfl))
   ·exact .inl rfl
theorem RH {h:AH} {w:LW} {f:List AD} {n:Int} (hf:AX f) (n0:0<=n) (n1:n<(f.length:Int)):∀i,WGo h w f n i->KY f (Az h w f n i).1/\(Az h w f n i).1.length=i/\(0<=(Az h w f n i).2.2.2/\(Az h w f n i).2.2.2<(f.length:Int))/\(Az h w f n i).2.1.length=i
 | 0,_=>⟨Gq f,rfl,⟨n0,n1⟩,rfl⟩
 | i+1,c=>by
  obtain⟨h1,d,a,e⟩:=RH hf n0 n1 i (λj l=>c j (by omega));obtain⟨b,g⟩:=c i (by omega);have hk:=Z0 b;refine⟨h1.snoc a.1 a.2 g,?_,⟨hk.2,?_⟩,?_⟩
  ·show ((Az h w f n i).1++_).length=_;rw[GO,d];rfl
  ·exact wU (by omega) _ λx k=>(BD hf (n:=(Az h w f n i).2.2.2) k).2
  ·show (if _ then _ else _:List Int).length=_;rw[BY b,GO,e];rfl
theorem pS {h:AH} {w:LW} {f:List AD} {n:Int} (k:Nat):∀i,WGo h w f n i->RD h w f (k+i) [] [] n=RD h w f k (Az h w f n i).1 (Az h w f n i).2.1 (Az h w f n i).2.2.2
 | 0,_=>rfl
 | i+1,b=>by
  have e:=pS (h:=h) (w:=w) (f:=f) (n:=n) (k+1) i (λj g=>b j (by omega));obtain⟨a,d⟩:=b i (by omega);rw[show k+(i+1)=k+1+i by omega,e];have c:BQ h w (f.getD (Az h w f n i).2.2.2.toNat (0,[]))=2:=a;show (if _ then _ else _)=_;rw[An d,c,An (by decide),An (by decide),An (by decide)];show _=RD h w f k (Z5 h w f (Az h w f n i)).1 (Z5 h w f (Az h w f n i)).2.1 (Z5 h w f (Az h w f n i)).2.2.2;unfold Z5;rw[BY a];rfl
theorem pT {h:AH} {f:List AD} {n:Int} (hf:AX f) (j:PT h=true) (n0:0<=n) (n1:n<(f.length:Int)) {i:Nat} (c:WGo h (BG h) f n i) :
  ((Az h (BG h) f n i).2.2.2∈(Az h (BG h) f n i).1->Ak h f n=([],false,6)) /\
  ((Az h (BG h) f n i).2.2.2∉(Az h (BG h) f n i).1->BQ h (BG h) (GN f (Az h (BG h) f n i).2.2.2)=0->Ak h f n=([],false,13)) /\
  ((Az h (BG h) f n i).2.2.2∉(Az h (BG h) f n i).1->BQ h (BG h) (GN f (Az h (BG h) f n i).2.2.2)≠0->BQ h (BG h) (GN f (Az h (BG h) f n i).2.2.2)≠2->Ak h f n=((Az h (BG h) f n (i+1)).2.1,(Az h (BG h) f n (i+1)).2.2.1,0)):=by
 obtain⟨h1,k,l,-⟩:=RH hf n0 n1 i c;have m:=h1.len;have e:Ak h f n=RD h (BG h) f ((f.length-i)+1) (Az h (BG h) f n i).1 (Az h (BG h) f n i).2.1 (Az h (BG h) f n i).2.2.2:=by
  unfold Ak;rw[BY j,<-pS _ _ c,show f.length-i+1+i=f.length+1 by omega]
 rw[e];show (_->(if _ then _ else _)=_)/\(_->_->(if _ then _ else _)=_)/\(_->_->_->(if _ then _ else _)=_);refine⟨λq=>BY q,λb a=>?_,λb a d=>?_⟩
 ·have a:BQ h (BG h) (f.getD (Az h (BG h) f n i).2.2.2.toNat (0,[]))=0:=a;rw[An b,a];rfl
 ·have hk:=A0M h (BG h) (GN f (Az h (BG h) f n i).2.2.2);have hs:(Az h (BG h) f n (i+1)).2.1=(Az h (BG h) f n i).2.1:=An d;have g:(Az h (BG h) f n (i+1)).2.2.1=decide (BQ h (BG h) (GN f (Az h (BG h) f n i).2.2.2)=1):=rfl;rw[An b,hs,g];show (if BQ h (BG h) (GN f (Az h (BG h) f n i).2.2.2)=1 then _ else if BQ h (BG h) (GN f (Az h (BG h) f n i).2.2.2)=3 then _ else _)=_;rcases hk with hk|hk|hk|hk
  ·exact absurd hk a
  ·rw[hk];rfl
  ·exact absurd hk d
  ·rw[hk];rfl
def wE:List (Nat×AV):=[(4,.bp 4 [] 0),(6,.bp 6 [] 0),(7,.bp 7 [] 0),(8,.bp 8 [] 0),(9,.bp 9 [] 0),(11,.bp 11 [] 0),(12,.bp 12 [] 0),(13,.bp 13 [] 0)]
def wO (h:AH) (w:LW) (f:List AD) (L:Go.Loop) (a:Array Value) (s:WS) (m e:Int):List (Nat×Obj):=[(50,.box 3 false [.p T3 m]),(51,Du h w),(52,.box 25 true [.p Fe f]),(101,.loop L),(102,.frame a wE),(6,.box 61 false [.raw (.slice none 0 0)]),(7,.box 4 false [.p .bool false]),(8,.box 35 false [.p Ls e]),(9,Du h w),(4,.box 25 true [.p Fe f]),(11,.box 61 false [.sr 60 T3 0 s.2.1.length]),(60,.arr 3 T3 s.2.1),(12,.box 4 false [.p .bool s.2.2.1]),(13,.box 119 false [.mp 24]),(24,.mapo T3 .bool (Ll s.1))]
def JY (L:Go.Loop):Go.Loop:={ L with state:=.done,pending:=some .ret }
def WRd (h:AH) (w:LW) (f:List AD) (n:Int) (L:Go.Loop) (a:Array Value) (i:Nat) (b:Bool) (O:List (Nat×Obj)):Prop :=
 ((Az h w f n i).2.2.2∈(Az h w f n i).1/\b=false/\O=wO h w f (JY L) a (Az h w f n i) (Az h w f n i).2.2.2 6) \/
 ((Az h w f n i).2.2.2∉(Az h w f n i).1/\BQ h w (GN f (Az h w f n i).2.2.2)=0/\b=false/\O=wO h w f (JY L) a (Az h w f n i) (Az h w f n i).2.2.2 13) \/
 ((Az h w f n i).2.2.2∉(Az h w f n i).1/\BQ h w (GN f (Az h w f n i).2.2.2)≠0/\b=true/\O=wO h w f L a (Az h w f n (i+1)) (Az h w f n i).2.2.2 0)
theorem A0N (h:AH) (w:LW) (f:List AD) (n:Int) (E:WOk h w) (hf:AX f) (D:EB h f) (n0:0<=n) (n1:n<(f.length:Int)) (L:Go.Loop) (d:Array Value)
  (m:∀i,WGo h w f n i->Yr Tryz.prog 101 [.p T3 (Az h w f n i).2.2.2] (wO h w f L d (Az h w f n i) (Az h w f n i).2.2.2 0) [50,51,52,101,102,6,7,8,9,4,11,12,13,24] (λres k=>∃b,res=.p .bool b/\WRd h w f n L d i b k)) :
  BI Tryz.prog 139 [.yl 101,.bp 50 [] 0,.bp 51 [] 0,.bp 52 [] 0] (wO h w f L d (Az h w f n 0) n 0) [50,51,52,101,102,6,7,8,9,4,11,12,13,24] (λres k=>res=.raw (.tuple #[])/\∃i b,WGo h w f n i/\WRd h w f n L d i b k/\(b=true->BQ h w (GN f (Az h w f n i).2.2.2)≠2)):=by
 refine K0 [0,1,2,3,14] [] [] Tryz.func139 Tryz.ntmps139 (AF pR (AF dU AG)) ?_;intro w0 K O0 ρ0 a B C;simp only[Am,wO,Du];have t:=m;clear m;repeat'(first|exact trivial|refine eS rfl ?_|refine AB ?_|refine rX a ?_ ?_|refine rC ?_ ?_<;>intro c<;>try(cases c;done))
 refine AK (ι:={i:Nat//WGo h w f n i}) (λi=>⟨[(0,.yl 101),(1,.bp 50 [] 0),(2,.bp 51 [] 0),(3,.bp 52 [] 0)],wO h w f L d (Az h w f n i.1) (Az h w f n i.1).2.2.2 0⟩) (λi=>f.length+1-i.1) ⟨0,λj o=>by omega⟩ (AC [(50,.nm 50),(51,.nm 51),(52,.nm 52),(101,.nm 101),(102,.nm 102),(6,.nm 6),(7,.nm 7),(8,.nm 8),(9,.nm 9),(4,.nm 4),(11,.nm 11),(60,.nm 60),(12,.nm 12),(13,.nm 13),(24,.nm 24)] rfl rfl ?_ ?_) (λi=>?_)
 ·simp only[wO,Du,wE,Az];first|exact eN|refine eM ?_
 ·simp only[wO,Du,wE,Az];first|exact eN|refine eM ?_
 ·obtain⟨i,hi⟩:=i;obtain⟨q,x,r,y⟩:=RH hf n0 n1 i hi;have u:=t i hi;have z:=q.len;have A:Az h w f n (i+1)=Z5 h w f (Az h w f n i):=rfl;simp only[wO,Du,wE];repeat'(first|exact trivial|refine eS rfl ?_|refine AB ?_|refine rX a ?_ ?_|refine rC ?_ ?_<;>intro c<;>try(cases c;done))
  refine cG 2 a ?_ ?_
  ·trivial
  ·refine rY 101 101 a (u) [(50,.nm 50),(51,.nm 51),(52,.nm 52),(101,.nm 101),(102,.nm 102),(6,.nm 6),(7,.nm 7),(8,.nm 8),(9,.nm 9),(4,.nm 4),(11,.nm 11),(60,.nm 60),(12,.nm 12),(13,.nm 13),(24,.nm 24)] [60] ?_ ?_ ?_
   ·first|exact eN|refine eM ?_
   ·simp only[wO,Du,wE];first|exact eN|refine eM ?_
   ·rintro _ _ ⟨b,rfl,g⟩;have s:=g;rcases s with ⟨l,rfl,rfl⟩|⟨l,v,rfl,rfl⟩|⟨l,v,rfl,rfl⟩
    ·refine⟨[(50,.nm 50),(51,.nm 51),(52,.nm 52),(101,.nm 101),(102,.nm 102),(6,.nm 6),(7,.nm 7),(8,.nm 8),(9,.nm 9),(4,.nm 4),(11,.nm 11),(60,.nm 60),(12,.nm 12),(13,.nm 13),(24,.nm 24)],.p .bool false,wO h w f (JY L) d (Az h w f n i) (Az h w f n i).2.2.2 6,rfl,rfl,?_,?_,rfl,rfl,?_⟩
     ·simp only[wO,Du,wE];first|exact eN|refine eM ?_
     ·first|exact eN|refine eM ?_
     ·simp only[wO,Du,wE];refine rL a ?_ ?_
      ·trivial
      ·repeat'(first|exact trivial|refine eS rfl ?_|refine AB ?_|refine rX a ?_ ?_|refine rC ?_ ?_<;>intro c<;>try(cases c;done))
       refine Ev.ent (σ':=⟨[],wO h w f (JY L) d (Az h w f n i) (Az h w f n i).2.2.2 6⟩) ?_ (AC [(50,.nm 50),(51,.nm 51),(52,.nm 52),(101,.nm 101),(102,.nm 102),(6,.nm 6),(7,.nm 7),(8,.nm 8),(9,.nm 9),(4,.nm 4),(11,.nm 11),(60,.nm 60),(12,.nm 12),(13,.nm 13),(24,.nm 24)] rfl rfl ?_ ?_)
       ·exact fM a [] (.raw (.tuple #[])) rfl ⟨rfl,i,false,hi,g,λe=>by cases e⟩
       ·simp only[wO,Du,wE];first|exact eN|refine eM ?_
       ·first|exact eN|refine eM ?_
    ·refine⟨[(50,.nm 50),(51,.nm 51),(52,.nm 52),(101,.nm 101),(102,.nm 102),(6,.nm 6),(7,.nm 7),(8,.nm 8),(9,.nm 9),(4,.nm 4),(11,.nm 11),(60,.nm 60),(12,.nm 12),(13,.nm 13),(24,.nm 24)],.p .bool false,wO h w f (JY L) d (Az h w f n i) (Az h w f n i).2.2.2 13,rfl,rfl,?_,?_,rfl,rfl,?_⟩
     ·simp only[wO,Du,wE];first|exact eN|refine eM ?_
     ·first|exact eN|refine eM ?_
     ·simp only[wO,Du,wE];refine rL a ?_ ?_
      ·trivial
      ·repeat'(first|exact trivial|refine eS rfl ?_|refine AB ?_|refine rX a ?_ ?_|refine rC ?_ ?_<;>intro c<;>try(cases c;done))
       refine Ev.ent (σ':=⟨[],wO h w f (JY L) d (Az h w f n i) (Az h w f n i).2.2.2 13⟩) ?_ (AC [(50,.nm 50),(51,.nm 51),(52,.nm 52),(101,.nm 101),(102,.nm 102),(6,.nm 6),(7,.nm 7),(8,.nm 8),(9,.nm 9),(4,.nm 4),(11,.nm 11),(60,.nm 60),(12,.nm 12),(13,.nm 13),(24,.nm 24)] rfl rfl ?_ ?_)
       ·exact fM a [] (.raw (.tuple #[])) rfl ⟨rfl,i,false,hi,g,λe=>by cases e⟩
       ·simp only[wO,Du,wE];first|exact eN|refine eM ?_
       ·first|exact eN|refine eM ?_
    ·refine⟨[(50,.nm 50),(51,.nm 51),(52,.nm 52),(101,.nm 101),(102,.nm 102),(6,.nm 6),(7,.nm 7),(8,.nm 8),(9,.nm 9),(4,.nm 4),(11,.nm 11),(60,.nm 60),(12,.nm 12),(13,.nm 13),(24,.nm 24)],.p .bool true,wO h w f L d (Az h w f n (i+1)) (Az h w f n i).2.2.2 0,rfl,rfl,?_,?_,rfl,rfl,?_⟩
     ·simp only[wO,Du,wE];first|exact eN|refine eM ?_
     ·first|exact eN|refine eM ?_
     ·simp only[wO,Du,wE];refine rL a ?_ ?_
      ·trivial
      ·repeat'(first|exact trivial|refine eS rfl ?_|refine AB ?_|refine rX a ?_ ?_|refine rC ?_ ?_<;>intro c<;>try(cases c;done))
       ·exact⟨hf,r⟩
       ·refine⟨⟨i+1,λj o=>(Nat.lt_succ_iff_lt_or_eq.1 o).elim (hi j) λe=>by rw[e];exact⟨c,l⟩⟩,by simp only;omega,AC [(50,.nm 50),(51,.nm 51),(52,.nm 52),(101,.nm 101),(102,.nm 102),(6,.nm 6),(7,.nm 7),(8,.nm 8),(9,.nm 9),(4,.nm 4),(11,.nm 11),(60,.nm 60),(12,.nm 12),(13,.nm 13),(24,.nm 24)] rfl rfl ?_ ?_⟩
        ·simp only[wO,Du,wE];first|exact eN|refine eM ?_
         rfl
        ·first|exact eN|refine eM ?_
       ·refine Ev.ent (σ':=⟨[],wO h w f L d (Az h w f n (i+1)) (Az h w f n i).2.2.2 0⟩) ?_ (AC [(50,.nm 50),(51,.nm 51),(52,.nm 52),(101,.nm 101),(102,.nm 102),(6,.nm 6),(7,.nm 7),(8,.nm 8),(9,.nm 9),(4,.nm 4),(11,.nm 11),(60,.nm 60),(12,.nm 12),(13,.nm 13),(24,.nm 24)] rfl rfl ?_ ?_)
        ·exact fM a [] (.raw (.tuple #[])) rfl ⟨rfl,i,true,hi,g,λ_=>c⟩
        ·simp only[wO,Du,wE];first|exact eN|refine eM ?_
        ·first|exact eN|refine eM ?_
end
section
attribute [local go_sem] Xu Xt pQ
theorem A0O (h:AH) (f:List AD) (n:Int) (k:AX f) (G:EB h f) (n0:0<=n) (n1:n<(f.length:Int)):BI Tryz.prog 54 [.p Eg h,.p Dw f,.p T3 n] [] [] (λres ai=>res=.tup [.p F3 (Ak h f n).1,.p .bool (Ak h f n).2.1,.p Ls (Ak h f n).2.2]):=by
 refine fKR [0,1,2,3,4,6,7,8,9,10,11,12,13,14,15,22,28,29,34,38,41] [50] [] Tryz.func54 Tryz.ntmps54 (AF A5f (AF pR (AF dU AG))) ?_;intro w0 K O0 ρ0 a ad ae;simp only[Am];have R:(h.1,h.2)=h:=rfl;repeat'(first|exact trivial|refine eS rfl ?_|refine AB ?_|refine rX a ?_ ?_|refine rC ?_ ?_<;>intro c<;>try(cases c;done))
 all_goals simp only[R]at *
 ·have l:PT h=false:=by
   cases d:PT h with
   | true=>rw[d]at c;exact absurd rfl c
   | false=>rfl
  have j:Ak h f n=([],false,5):=by unfold Ak;rw[l,An (by simp)]
  simp only[l,AD4,ADs,j];exact y4 a [.cell 6 61,.cell 7 4,.cell 8 35] rfl (.inl rfl) (.tup [.p F3 [],.p .bool false,.p Ls 5]) eT rfl
 ·have l:PT h=true:=by
   cases d:PT h with
   | false=>rw[d]at c;exact absurd c (by decide)
   | true=>rfl
  simp only[l,ACF,wdF];have C:=pL l;have B:=SS h;have H:WOk h (BG h):=⟨⟨C.2.1,B.1.2.1⟩,C.2.2.1,B.1.2.2.1⟩;have v:=λ(i:Nat) (hi:WGo h (BG h) f n i)=>pT k l n0 n1 hi;have Q:=λ(i:Nat) (hi:WGo h (BG h) f n i)=>RH k n0 n1 i hi;generalize aa:BG h=w at *;refine Ev.ent (σ':=⟨[(2,.p T3 n),(4,.bp 4 [] 0),(6,.bp 6 [] 0),(7,.bp 7 [] 0),(8,.bp 8 [] 0),(9,.bp 9 [] 0),(11,.bp 11 [] 0),(12,.bp 12 [] 0),(13,.bp 13 [] 0)],[(6,.box 61 false [.raw (.slice none 0 0)]),(7,.box 4 false [.p .bool false]),(8,.box 35 false [.p Ls 0]),(9,Du h w),(4,.box 25 true [.p Fe f]),(11,.box 61 false [.raw (.slice none 0 0)]),(12,.box 4 false [.p .bool false]),(13,.box 119 false [.mp 24]),(24,.mapo T3 .bool [])]⟩) ?_ (AC [(6,.nm 6),(7,.nm 7),(8,.nm 8),(9,.nm 9),(4,.nm 4),(11,.nm 11),(12,.nm 12),(13,.nm 13),(24,.nm 24)] rfl rfl ?_ ?_)
  ·simp only[Du];refine cP 3 a ?_ ?_
   ·trivial
   ·refine rM a (A5g h w f n) [] [] ?_ ?_ ?_
    ·simp only[wdF];first|exact eN|refine eM ?_
    ·first|exact eN|refine eM ?_
    ·rintro _ _ ⟨rfl,rfl⟩;refine⟨[(50,.nm 5),(52,.nm 4),(51,.nm 3)],.clo 139 [50,51,52],[(50,.box 3 false [.p T3 n]),(52,.box 25 true [.p Fe f]),(51,Du h w)],rfl,rfl,?_,?_,rfl,rfl,CQ ?_⟩
     ·simp only[Du];first|exact eN|refine eM ?_
     ·first|exact eN|refine eM ?_
     ·simp only[Du];repeat'(first|exact trivial|refine eS rfl ?_|refine AB ?_|refine rX a ?_ ?_|refine rC ?_ ?_<;>intro c<;>try(cases c;done))
      refine fY a rfl rfl (by simp only[go_sem,Nat.reduceEqDiff,reduceCtorEq,Nat.reduceAdd,Nat.reduceSub,Nat.reduceMul,Nat.reduceLeDiff,Nat.reduceLT,Int.reduceLE,Int.reduceToNat,Int.reduceNeg,↓reduceIte];rfl) 101 103 102 rfl rfl rfl rfl ?_;intro L e r u J M N O V;refine⟨_,wO h w f L e (Az h w f n 0) n 0,[50,51,52,101,102,6,7,8,9,4,11,12,13,24],_,[(50,.nm 50),(51,.nm 51),(52,.nm 52),(101,.nm 101),(102,.nm 102),(6,.nm 6),(7,.nm 7),(8,.nm 8),(9,.nm 9),(4,.nm 4),(11,.nm 11),(60,.nil),(12,.nm 12),(13,.nm 13),(24,.nm 24)],[60],A0N h w f n H k G n0 n1 L e ?_,rfl,rfl,?_,?_,rfl,?_⟩
      ·intro i hi;obtain⟨I,Y,A,Z⟩:=Q i hi;have ab:=I.len;have t:=A6U (Az h w f n i).1 (Az h w f n i).2.2.2;have U:lwO (h,w.list,w.cons,w.null,w.dlist,w.first,w.rest,w.head,w.last)=w:=rfl;have D:Ll (Az h w f n (i+1)).1=GM T3 .bool (Az h w f n i).2.2.2 true (Ll (Az h w f n i).1):=by
        show Ll ((Az h w f n i).1++[(Az h w f n i).2.2.2])=_;simp[Ll]
       have E:(Az h w f n (i+1)).2.2.1=(BQ h w (f.getD (Az h w f n i).2.2.2.toNat (0,[]))==1):=by
        show decide (BQ h w (GN f (Az h w f n i).2.2.2)=1)=_;rw[ADz];simp[GN]
       have hT:=a.T;have hF:=a.F;refine fW (fr:=102) rfl rfl r M N O J V rfl (by kernel_rfl) (by simp) rfl rfl (by kernel_rfl) (by kernel_rfl) hT hF ?_;intro aj W X ak ah a af ag d;simp only[wO,Du,wE,Gd];repeat'(first|exact trivial|refine eS rfl ?_|refine AB ?_|refine rX a ?_ ?_|refine rC ?_ ?_<;>intro c<;>try(cases c;done))
       refine⟨rfl,?_⟩;repeat'(first|exact trivial|refine eS rfl ?_|refine AB ?_|refine rX a ?_ ?_|refine rC ?_ ?_<;>intro c<;>try(cases c;done))
       all_goals try simp only[U]at *
       ·exact⟨H,k,G,A⟩
       ·rw[t]at c;have S:(Az h w f n i).2.2.2∈(Az h w f n i).1:=by simpa[v9] using c
        refine Ev.ent (σ':=⟨[],wO h w f { L with state:=.busy } e (Az h w f n i) (Az h w f n i).2.2.2 6⟩) ?_ (AC [(50,.nm 50),(51,.nm 51),(52,.nm 52),(101,.nm 101),(102,.nm 102),(6,.nm 6),(7,.nm 7),(8,.nm 8),(9,.nm 9),(4,.nm 4),(11,.nm 11),(60,.nm 60),(12,.nm 12),(13,.nm 13),(24,.nm 24)] rfl rfl ?_ ?_)
        ·refine Ys a (yn:=101) rfl rfl (by simp) d ⟨false,rfl,.inl ⟨S,rfl,?_⟩⟩;simp only[wO,Du,wE,JY,go_sem,Nat.reduceEqDiff,reduceCtorEq,Nat.reduceAdd,Nat.reduceSub,Nat.reduceMul,Nat.reduceLeDiff,Nat.reduceLT,Int.reduceLE,Int.reduceToNat,Int.reduceNeg,↓reduceIte]
        ·simp only[wO,Du,wE];first|exact eN|refine eM ?_
        ·first|exact eN|refine eM ?_
       ·have o:(Az h w f n i).2.2.2∉(Az h w f n i).1:=by
         have g:(Bi T3 .bool (Az h w f n i).2.2.2 (Ll (Az h w f n i).1)).getD false=false:=by assumption
         rw[t]at g;intro m;have:=ADD.1 g _ m;simp at this
        refine Ev.ent (σ':=⟨[],wO h w f { L with state:=.busy } e (Az h w f n i) (Az h w f n i).2.2.2 13⟩) ?_ (AC [(50,.nm 50),(51,.nm 51),(52,.nm 52),(101,.nm 101),(102,.nm 102),(6,.nm 6),(7,.nm 7),(8,.nm 8),(9,.nm 9),(4,.nm 4),(11,.nm 11),(60,.nm 60),(12,.nm 12),(13,.nm 13),(24,.nm 24)] rfl rfl ?_ ?_)
        ·refine Ys a (yn:=101) rfl rfl (by simp) d ⟨false,rfl,.inr (.inl ⟨o,c,rfl,?_⟩)⟩;simp only[wO,Du,wE,JY,go_sem,Nat.reduceEqDiff,reduceCtorEq,Nat.reduceAdd,Nat.reduceSub,Nat.reduceMul,Nat.reduceLeDiff,Nat.reduceLT,Int.reduceLE,Int.reduceToNat,Int.reduceNeg,↓reduceIte]
        ·simp only[wO,Du,wE];first|exact eN|refine eM ?_
        ·first|exact eN|refine eM ?_
       ·refine⟨⟨k,A⟩,?_⟩;have:=k.1;simp only[AP];omega
       ·have x:BQ h w (GN f (Az h w f n i).2.2.2)≠0:=by assumption
        have o:(Az h w f n i).2.2.2∉(Az h w f n i).1:=by
         have g:(Bi T3 .bool (Az h w f n i).2.2.2 (Ll (Az h w f n i).1)).getD false=false:=by assumption
         rw[t]at g;intro m;have:=ADD.1 g _ m;simp at this
        have y:(Az h w f n (i+1)).2.1=(Az h w f n i).2.1++[Db (f.getD (Az h w f n i).2.2.2.toNat (0,[])).2 w.first]:=BY c;refine Ev.ent (σ':=⟨[],wO h w f { L with state:=.busy } e (Az h w f n (i+1)) (Az h w f n i).2.2.2 0⟩) ?_ (AC [(50,.nm 50),(51,.nm 51),(52,.nm 52),(101,.nm 101),(102,.nm 102),(6,.nm 6),(7,.nm 7),(8,.nm 8),(9,.nm 9),(4,.nm 4),(11,.nm 11),(60,.nm 60),(12,.nm 12),(13,.nm 13),(24,.nm 24)] rfl rfl ?_ ?_)
        ·refine Rl a (yn:=101) rfl rfl (by simp) d ⟨true,rfl,.inr (.inr ⟨o,x,rfl,?_⟩)⟩;simp only[wO,Du,wE,go_sem,Nat.reduceEqDiff,reduceCtorEq,Nat.reduceAdd,Nat.reduceSub,Nat.reduceMul,Nat.reduceLeDiff,Nat.reduceLT,Int.reduceLE,Int.reduceToNat,Int.reduceNeg,↓reduceIte,Wo r u]
        ·simp only[wO,Du,wE,D,E,y];first|exact eN|refine eM ?_
        ·first|exact eN|refine eM ?_
       ·have x:BQ h w (GN f (Az h w f n i).2.2.2)≠0:=by assumption
        have o:(Az h w f n i).2.2.2∉(Az h w f n i).1:=by
         have g:(Bi T3 .bool (Az h w f n i).2.2.2 (Ll (Az h w f n i).1)).getD false=false:=by assumption
         rw[t]at g;intro m;have:=ADD.1 g _ m;simp at this
        have y:(Az h w f n (i+1)).2.1=(Az h w f n i).2.1:=An c;refine Ev.ent (σ':=⟨[],wO h w f { L with state:=.busy } e (Az h w f n (i+1)) (Az h w f n i).2.2.2 0⟩) ?_ (AC [(50,.nm 50),(51,.nm 51),(52,.nm 52),(101,.nm 101),(102,.nm 102),(6,.nm 6),(7,.nm 7),(8,.nm 8),(9,.nm 9),(4,.nm 4),(11,.nm 11),(60,.nm 60),(12,.nm 12),(13,.nm 13),(24,.nm 24)] rfl rfl ?_ ?_)
        ·refine Rl a (yn:=101) rfl rfl (by simp) d ⟨true,rfl,.inr (.inr ⟨o,x,rfl,?_⟩)⟩;simp only[wO,Du,wE,go_sem,Nat.reduceEqDiff,reduceCtorEq,Nat.reduceAdd,Nat.reduceSub,Nat.reduceMul,Nat.reduceLeDiff,Nat.reduceLT,Int.reduceLE,Int.reduceToNat,Int.reduceNeg,↓reduceIte,Wo r u]
        ·simp only[wO,Du,wE,D,E,y];first|exact eN|refine eM ?_
        ·first|exact eN|refine eM ?_
      ·simp only[BT,wO,Du,wE,Az];first|exact eN|refine eM ?_
      ·simp only[BT,wO,Du,wE,Az];first|exact eN|refine eM ?_
       rfl
      ·rintro _ _ ⟨rfl,i,b,hi,P,d⟩;rcases P with ⟨q,rfl,rfl⟩|⟨q,z,rfl,rfl⟩|⟨q,z,rfl,rfl⟩
       ·have j:=(v i hi).1 q;refine⟨[(50,.nm 50),(51,.nm 51),(52,.nm 52),(101,.nm 101),(102,.nm 102),(6,.nm 6),(7,.nm 7),(8,.nm 8),(9,.nm 9),(4,.nm 4),(11,.nm 11),(60,.nm 60),(12,.nm 12),(13,.nm 13),(24,.nm 24)],wO h w f (JY L) e (Az h w f n i) (Az h w f n i).2.2.2 6,JY L,rfl,rfl,?_,rfl,rfl,rfl,rfl,?_⟩
        ·simp only[wO,Du,wE];first|exact eN|refine eM ?_
        ·intro b;simp only[JY,EvJ,wO,Du,wE,BT,go_sem,Nat.reduceEqDiff,reduceCtorEq,Nat.reduceAdd,Nat.reduceSub,Nat.reduceMul,Nat.reduceLeDiff,Nat.reduceLT,Int.reduceLE,Int.reduceToNat,Int.reduceNeg,↓reduceIte];replace a:=NM (dn:=103) (b:=b) a;repeat'(first|exact trivial|refine eS rfl ?_|refine AB ?_|refine rX a ?_ ?_|refine rC ?_ ?_<;>intro c<;>try(cases c;done))
         refine Ev.ent (σ':=⟨[(6,.bp 6 [] 0),(7,.bp 7 [] 0),(8,.bp 8 [] 0)],[(6,.box 61 false [.p F3 []]),(7,.box 4 false [.p .bool false]),(8,.box 35 false [.p Ls 6]),(103,.dfr)]⟩) ?_ (AC [(6,.nm 6),(7,.nm 7),(8,.nm 8),(103,.nm 103)] rfl rfl ?_ ?_)
         ·rw[j];exact QG a [.cell 6 61,.cell 7 4,.cell 8 35] rfl (.inl rfl) rfl rfl (.tup [.p F3 [],.p .bool false,.p Ls 6]) eT rfl
         ·first|exact eN|refine eM ?_
         ·first|exact eN|refine eM ?_
       ·have j:=(v i hi).2.1 q z;refine⟨[(50,.nm 50),(51,.nm 51),(52,.nm 52),(101,.nm 101),(102,.nm 102),(6,.nm 6),(7,.nm 7),(8,.nm 8),(9,.nm 9),(4,.nm 4),(11,.nm 11),(60,.nm 60),(12,.nm 12),(13,.nm 13),(24,.nm 24)],wO h w f (JY L) e (Az h w f n i) (Az h w f n i).2.2.2 13,JY L,rfl,rfl,?_,rfl,rfl,rfl,rfl,?_⟩
        ·simp only[wO,Du,wE];first|exact eN|refine eM ?_
        ·intro b;simp only[JY,EvJ,wO,Du,wE,BT,go_sem,Nat.reduceEqDiff,reduceCtorEq,Nat.reduceAdd,Nat.reduceSub,Nat.reduceMul,Nat.reduceLeDiff,Nat.reduceLT,Int.reduceLE,Int.reduceToNat,Int.reduceNeg,↓reduceIte];replace a:=NM (dn:=103) (b:=b) a;repeat'(first|exact trivial|refine eS rfl ?_|refine AB ?_|refine rX a ?_ ?_|refine rC ?_ ?_<;>intro c<;>try(cases c;done))
         refine Ev.ent (σ':=⟨[(6,.bp 6 [] 0),(7,.bp 7 [] 0),(8,.bp 8 [] 0)],[(6,.box 61 false [.p F3 []]),(7,.box 4 false [.p .bool false]),(8,.box 35 false [.p Ls 13]),(103,.dfr)]⟩) ?_ (AC [(6,.nm 6),(7,.nm 7),(8,.nm 8),(103,.nm 103)] rfl rfl ?_ ?_)
         ·rw[j];exact QG a [.cell 6 61,.cell 7 4,.cell 8 35] rfl (.inl rfl) rfl rfl (.tup [.p F3 [],.p .bool false,.p Ls 13]) eT rfl
         ·first|exact eN|refine eM ?_
         ·first|exact eN|refine eM ?_
       ·have j:=(v i hi).2.2 q z (d rfl);refine⟨[(50,.nm 50),(51,.nm 51),(52,.nm 52),(101,.nm 101),(102,.nm 102),(6,.nm 6),(7,.nm 7),(8,.nm 8),(9,.nm 9),(4,.nm 4),(11,.nm 11),(60,.nm 60),(12,.nm 12),(13,.nm 13),(24,.nm 24)],wO h w f L e (Az h w f n (i+1)) (Az h w f n i).2.2.2 0,L,rfl,rfl,?_,rfl,rfl,rfl,by rw[r];rfl,?_⟩
        ·simp only[wO,Du,wE];first|exact eN|refine eM ?_
        ·intro b;rw[u];generalize Az h w f n (i+1)=s at *;simp only[EvJ,wO,Du,wE,BT,go_sem,Nat.reduceEqDiff,reduceCtorEq,Nat.reduceAdd,Nat.reduceSub,Nat.reduceMul,Nat.reduceLeDiff,Nat.reduceLT,Int.reduceLE,Int.reduceToNat,Int.reduceNeg,↓reduceIte];replace a:=NM (dn:=103) (b:=b) a;refine F1 [60] ?_;repeat'(first|exact trivial|refine eS rfl ?_|refine AB ?_|refine rP a ?_ ?_|fail)
         refine Cc drawsAny a 3 [([0],2)] [1] (by kernel_rfl) (Nk ?_ ?_)
         ·trivial
         ·refine PY a [] ?_ ?_
          ·trivial
          ·refine Tw a ?_ ?_ ?_
           ·trivial
           ·trivial
           ·repeat'(first|exact trivial|refine eS rfl ?_|refine AB ?_|refine rX a ?_ ?_|refine rC ?_ ?_<;>intro c<;>try(cases c;done))
            refine Ev.ent (σ':=⟨[(6,.bp 6 [] 0),(7,.bp 7 [] 0),(8,.bp 8 [] 0)],[(6,.box 61 false [.p F3 s.2.1]),(7,.box 4 false [.p .bool s.2.2.1]),(8,.box 35 false [.p Ls 0]),(103,.dfr)]⟩) ?_ (AC [(6,.nm 6),(7,.nm 7),(8,.nm 8),(103,.nm 103)] rfl rfl ?_ ?_)
            ·rw[j];exact QG a [.cell 6 61,.cell 7 4,.cell 8 35] rfl (.inl rfl) rfl rfl (.tup [.p F3 s.2.1,.p .bool s.2.2.1,.p Ls 0]) eT rfl
            ·first|exact eN|refine eM ?_
            ·first|exact eN|refine eM ?_
  ·simp only[Du];first|exact eN|refine eM ?_
  ·first|exact eN|refine eM ?_
end
section
attribute [local go_sem] RE dQ Uu Uv RF xP cs4 cs5
theorem A7x (h:AH) (w:LW) (x:AD):(UE h w x=true->BQ h w x=1)/\(UE h w x=false->OP h w x=true->BQ h w x=3)/\(UE h w x=false->OP h w x=false->Lm h w x=false->BQ h w x=0)/\(UE h w x=false->Lm h w x=true->BQ h w x=2):=by
 unfold BQ;refine⟨λh1=>BY h1,λh1 a=>?_,λh1 a b=>?_,λh1 a=>?_⟩
 ·have b:Lm h w x=false:=by
   unfold OP RC at a;unfold Lm Tm;simp only[AT,Fj]at a;have:decide (0<=Db x.2 w.first)=false:=ADn (by omega);rw[this];simp
  rw[h1,a,b];rfl
 ·rw[h1,a,b];rfl
 ·rw[h1,a];rfl
def RI:Ac:={ ins:=[Eg,Dw,T3],pre:=λ(h,f,n,_)=>GL h/\AX f/\EB h f/\(0:Int)<=n/\n<(List.length f:Int),out:=λ(h,f,n,_)=>[.p F3 (Ak h f n).1,.p .bool (Ak h f n).2.1,.p Ls (Ak h f n).2.2] }
attribute [local go_sem] RI
theorem uG:Ad Tryz.prog 55 RI:=by
 refine fKP [0,1,2,3,4,6,7,8,9,10,13,14,18,24,30] [38,45] [] Tryz.func55 Tryz.ntmps55 (AF uE (AF Xs (AF Z3 (AF A0I (AF uF (AF A7t AG)))))) ?_;rintro w0 O0 ⟨h,f,n,u⟩ g-⟨hk,c,q,hn⟩;have hk:GL h:=hk;have c:AX f:=c;have q:EB h f:=q;have hn:0<=n/\n<(f.length:Int):=hn;have F:(h.1,h.2)=h:=rfl;simp only[RI,AM];repeat'(first|exact trivial|refine eS rfl ?_|refine AB ?_|refine rX g ?_ ?_|refine rC ?_ ?_<;>intro b<;>try(cases b;done))
 all_goals try simp only[F]at *
 ·exact hk
 ·have m:Ak h f n=([],false,5):=by unfold Ak;rw[b,An (by simp)]
  exact fI g [.tmp 6,.tmp 7,.tmp 8] (by rw[m];exact eR)
 ·have t:PT h=true:=b;have D:=λ(i:Nat) (hi:WGo h (BG h) f n i)=>pT c t hn.1 hn.2 hi;have E:=λ(i:Nat) (hi:WGo h (BG h) f n i)=>RH c hn.1 hn.2 i hi;obtain⟨-,-,-,-,P,Q,-,-⟩:=M2 h;refine AK (ι:={i:Nat//WGo h (BG h) f n i}) (λi=>⟨[(2,.p T3 (Az h (BG h) f n i.1).2.2.2),(3,.bp 3 [] 0),(4,.bp 4 [] 0),(9,.sr 46 T3 0 (Az h (BG h) f n i.1).2.1.length),(10,.sr 39 T3 0 (Az h (BG h) f n i.1).1.length)],[(3,.box 31 true [.p Xz h.1,.p Yu h.2]),(4,.box 25 true [.p Fe f]),(46,.arr 3 T3 (Az h (BG h) f n i.1).2.1),(39,.arr 3 T3 (Az h (BG h) f n i.1).1)]⟩) (λi=>f.length+1-i.1) ⟨0,λj w=>by omega⟩ (AC [(3,.nm 3),(4,.nm 4),(46,.nil),(39,.nil)] rfl rfl ?_ ?_) (λi=>?_)
  ·first|exact eN|refine eM ?_
   try exact⟨rfl,rfl⟩
  ·first|exact eN|refine eM ?_
   exact⟨rfl,rfl,rfl⟩
  ·obtain⟨i,hi⟩:=i;obtain⟨A,B,d⟩:=D i hi;obtain⟨C,L,o,M⟩:=E i hi;have N:=C.len;have O:=c.1;obtain⟨H,I,J,K⟩:=A7x h (BG h) (GN f (Az h (BG h) f n i).2.2.2);simp only;repeat'(first|exact trivial|refine eS rfl ?_|refine AB ?_|refine rX g ?_ ?_|refine rC ?_ ?_<;>intro b<;>try(cases b;done))
   ·have G:(Az h (BG h) f n i).2.2.2∈(Az h (BG h) f n i).1:=by simpa[v9] using b
    exact fI g [.tmp 6,.tmp 7,.tmp 8] (by rw[A G];exact eR)
   ·exact⟨⟨t,hk⟩,c,q,o⟩
   ·have a:(Az h (BG h) f n i).2.2.2∉(Az h (BG h) f n i).1:=by
     have k:v9 (Az h (BG h) f n i).1 (Az h (BG h) f n i).2.2.2=false:=by assumption
     intro l;have:=ADD.1 k _ l;simp at this
    have b1:BQ h (BG h) (GN f (Az h (BG h) f n i).2.2.2)=1->Ak h f n=((Az h (BG h) f n i).2.1,true,0):=λe=>by
     rw[d a (by rw[e];decide) (by rw[e];decide),show (Az h (BG h) f n (i+1)).2.1=(Az h (BG h) f n i).2.1 from An (by rw[e];decide),show (Az h (BG h) f n (i+1)).2.2.1=true from ADm e]
    have r:BQ h (BG h) (GN f (Az h (BG h) f n i).2.2.2)=3->Ak h f n=((Az h (BG h) f n i).2.1,false,0):=λe=>by
     rw[d a (by rw[e];decide) (by rw[e];decide),show (Az h (BG h) f n (i+1)).2.1=(Az h (BG h) f n i).2.1 from An (by rw[e];decide),show (Az h (BG h) f n (i+1)).2.2.1=false from ADn (by rw[e];decide)]
    have m:=b1 (H b);refine F1 [46] ?_;exact fI g [.tmp 6,.tmp 7,.tmp 8] (by rw[m];exact eR)
   ·exact⟨⟨t,hk⟩,c,q,o⟩
   ·have a:(Az h (BG h) f n i).2.2.2∉(Az h (BG h) f n i).1:=by
     have k:v9 (Az h (BG h) f n i).1 (Az h (BG h) f n i).2.2.2=false:=by assumption
     intro l;have:=ADD.1 k _ l;simp at this
    have b1:BQ h (BG h) (GN f (Az h (BG h) f n i).2.2.2)=1->Ak h f n=((Az h (BG h) f n i).2.1,true,0):=λe=>by
     rw[d a (by rw[e];decide) (by rw[e];decide),show (Az h (BG h) f n (i+1)).2.1=(Az h (BG h) f n i).2.1 from An (by rw[e];decide),show (Az h (BG h) f n (i+1)).2.2.1=true from ADm e]
    have r:BQ h (BG h) (GN f (Az h (BG h) f n i).2.2.2)=3->Ak h f n=((Az h (BG h) f n i).2.1,false,0):=λe=>by
     rw[d a (by rw[e];decide) (by rw[e];decide),show (Az h (BG h) f n (i+1)).2.1=(Az h (BG h) f n i).2.1 from An (by rw[e];decide),show (Az h (BG h) f n (i+1)).2.2.1=false from ADn (by rw[e];decide)]
    have m:=r (I b.1 b.2);refine F1 [46] ?_;exact fI g [.tmp 6,.tmp 7,.tmp 8] (by rw[m];exact eR)
   ·exact⟨⟨t,hk⟩,c,q,o⟩
   ·have a:(Az h (BG h) f n i).2.2.2∉(Az h (BG h) f n i).1:=by
     have k:v9 (Az h (BG h) f n i).1 (Az h (BG h) f n i).2.2.2=false:=by assumption
     intro l;have:=ADD.1 k _ l;simp at this
    have b1:BQ h (BG h) (GN f (Az h (BG h) f n i).2.2.2)=1->Ak h f n=((Az h (BG h) f n i).2.1,true,0):=λe=>by
     rw[d a (by rw[e];decide) (by rw[e];decide),show (Az h (BG h) f n (i+1)).2.1=(Az h (BG h) f n i).2.1 from An (by rw[e];decide),show (Az h (BG h) f n (i+1)).2.2.1=true from ADm e]
    have r:BQ h (BG h) (GN f (Az h (BG h) f n i).2.2.2)=3->Ak h f n=((Az h (BG h) f n i).2.1,false,0):=λe=>by
     rw[d a (by rw[e];decide) (by rw[e];decide),show (Az h (BG h) f n (i+1)).2.1=(Az h (BG h) f n i).2.1 from An (by rw[e];decide),show (Az h (BG h) f n (i+1)).2.2.1=false from ADn (by rw[e];decide)]
    rename_i s z;have m:=B a (J s (z s) b);exact fI g [.tmp 6,.tmp 7,.tmp 8] (by rw[m];exact eR)
   ·simp only[AP];omega
   ·refine⟨⟨c,o⟩,?_⟩;simp only[AP];omega
   ·exact⟨c,o⟩
   ·have a:(Az h (BG h) f n i).2.2.2∉(Az h (BG h) f n i).1:=by
     have k:v9 (Az h (BG h) f n i).1 (Az h (BG h) f n i).2.2.2=false:=by assumption
     intro l;have:=ADD.1 k _ l;simp at this
    have b1:BQ h (BG h) (GN f (Az h (BG h) f n i).2.2.2)=1->Ak h f n=((Az h (BG h) f n i).2.1,true,0):=λe=>by
     rw[d a (by rw[e];decide) (by rw[e];decide),show (Az h (BG h) f n (i+1)).2.1=(Az h (BG h) f n i).2.1 from An (by rw[e];decide),show (Az h (BG h) f n (i+1)).2.2.1=true from ADm e]
    have r:BQ h (BG h) (GN f (Az h (BG h) f n i).2.2.2)=3->Ak h f n=((Az h (BG h) f n i).2.1,false,0):=λe=>by
     rw[d a (by rw[e];decide) (by rw[e];decide),show (Az h (BG h) f n (i+1)).2.1=(Az h (BG h) f n i).2.1 from An (by rw[e];decide),show (Az h (BG h) f n (i+1)).2.2.1=false from ADn (by rw[e];decide)]
    rename_i s z;have v:=K s b;have y:(Az h (BG h) f n (i+1)).2.1=(Az h (BG h) f n i).2.1++[Db (List.getD f (Az h (BG h) f n i).2.2.2.toNat (0,[])).2 (BG h).first]:=BY v;have x:(Az h (BG h) f n (i+1)).1=(Az h (BG h) f n i).1++[(Az h (BG h) f n i).2.2.2]:=rfl;refine⟨⟨i+1,λj w=>(Nat.lt_succ_iff_lt_or_eq.1 w).elim (hi j) λe=>by rw[e];exact⟨v,a⟩⟩,by simp only;omega,AC [(3,.nm 3),(4,.nm 4),(46,.nm 46),(39,.nm 39)] rfl rfl ?_ ?_⟩
    ·simp only[y,x];first|exact eN|refine eM ?_
     rfl
    ·simp only[y,x];first|exact eN|refine eM ?_
     rfl
end
section
attribute [local go_sem] A5a PU Qs Qt atS cs4 cs5
theorem Ux {h:AH} {f:List AD} (e:BP h f≠0):Ag h f=BP h f:=by
 unfold Ag;rw[An e]
theorem Ni {h:AH} {f:List AD} (e:Ag h f=0):BP h f=0:=by
 unfold Ag at e;split at e
 ·assumption
 ·exact e
def A7y (h:AH) (f:List AD):Prop:=(dY h/\GL h)/\Dp f/\TY f/\(BP h f=0->VF h f)
def Tn:Ac:={ ins:=[Eg,T27],pre:=λ(h,r,_)=>A7y h r.2.2,out:=λ(h,r,_)=>[.p Ls (CS h r.2.1 r.2.2)] }
attribute [local go_sem] Tn
theorem xR:Ad Tryz.prog 20 Tn:=by
 refine fKP [0,1,2,3,4,5,6,7,8,9,10,11,12,20,26,33,38,48,70] [43] [] Tryz.func20 Tryz.ntmps20 (AF Zb (AF A0c (AF Xr (AF ACG AG)))) ?_;rintro w0 O0 ⟨h,⟨nm,ar,f⟩,u⟩ g-hp;have hp:A7y h f:=hp;obtain⟨⟨w,hk⟩,hs,r,s⟩:=hp;have z:(h.1,h.2)=h:=rfl;have A:=M3 h;have i:CS h ar f=if ar<1\/2<ar then 2 else if Ag h f≠0 then Ag h f else if BR h<0 then 13 else if (Dd f 0 [BR h]).2=false then 13
 else if (Ak h f (Dd f 0 [BR h]).1).2.2≠0\/(Ak h f (Dd f 0 [BR h]).1).2.1=false\/((Ak h f (Dd f 0 [BR h]).1).1.length:Int)≠ar then 13 else 0:=rfl
 simp only[Tn,AM];repeat'(first|exact trivial|refine eS rfl ?_|refine AB ?_|refine rX g ?_ ?_|refine rC ?_ ?_<;>intro c<;>try(cases c;done))
 ·have d:CS h ar f=2:=i.trans (BY c);exact fI g [.tmp 4] (by rw[d];exact eR)
 ·exact⟨hs,r⟩
 ·have ha:¬((ar:Int)<1\/2<(ar:Int)):=by
   have a:(1:Int)<=(ar:Int)/\(ar:Int)<=2:=by assumption
   exact λq=>q.elim (λq=>absurd a.1 (ACk.2 q)) λq=>absurd a.2 (ACk.2 q)
  have c:BP h f≠0:=c;have d:CS h ar f=BP h f:=by rw[i,An ha,BY (by rw[Ux c];exact c),Ux c]
  exact fI g [.tmp 4] (by rw[d];exact eR)
 ·exact⟨w,hs,r⟩
 ·have ha:¬((ar:Int)<1\/2<(ar:Int)):=by
   have a:(1:Int)<=(ar:Int)/\(ar:Int)<=2:=by assumption
   exact λq=>q.elim (λq=>absurd a.1 (ACk.2 q)) λq=>absurd a.2 (ACk.2 q)
  have d:CS h ar f=Ag h f:=by rw[i,An ha,BY c]
  exact fI g [.tmp 4] (by rw[d];exact eR)
 ·have ha:¬((ar:Int)<1\/2<(ar:Int)):=by
   have a:(1:Int)<=(ar:Int)/\(ar:Int)<=2:=by assumption
   exact λq=>q.elim (λq=>absurd a.1 (ACk.2 q)) λq=>absurd a.2 (ACk.2 q)
  have j:Ag h f=0:=by
   have a:(Ag h f != 0)=false:=by assumption
   simpa using a
  have d:CS h ar f=13:=by rw[i,An ha,An (λq=>q j),BY (show BR h<0 from c)]
  exact fI g [.tmp 4] (by rw[d];exact eR)
 ·have j:Ag h f=0:=by
   have a:(Ag h f != 0)=false:=by assumption
   simpa using a
  have vf:=s (Ni j);exact⟨vf.good,vf.pos⟩
 ·have ha:¬((ar:Int)<1\/2<(ar:Int)):=by
   have a:(1:Int)<=(ar:Int)/\(ar:Int)<=2:=by assumption
   exact λq=>q.elim (λq=>absurd a.1 (ACk.2 q)) λq=>absurd a.2 (ACk.2 q)
  have j:Ag h f=0:=by
   have a:(Ag h f != 0)=false:=by assumption
   simpa using a
  have k:¬BR h<0:=ACU.2 (by assumption);have d:CS h ar f=13:=by rw[i,An ha,An (λq=>q j),An k,BY (show (Dd f 0 [BR h]).2=false from c)]
  exact fI g [.tmp 4] (by rw[d];exact eR)
 ·have ha:¬((ar:Int)<1\/2<(ar:Int)):=by
   have a:(1:Int)<=(ar:Int)/\(ar:Int)<=2:=by assumption
   exact λq=>q.elim (λq=>absurd a.1 (ACk.2 q)) λq=>absurd a.2 (ACk.2 q)
  have j:Ag h f=0:=by
   have a:(Ag h f != 0)=false:=by assumption
   simpa using a
  have k:¬BR h<0:=ACU.2 (by assumption);have vf:=s (Ni j);have c:(Dd f 0 [BR h]).2=true:=c;have o:=xQ vf _ c;rw[An ha,An (λq=>q j),An k,An (by rw[c];simp)]at i;have hn:=A0O h f _ vf.good vf.ty o.1 o.2;have v:X2 (h.1,h.2) ⟨#[65,82,71,83]⟩=BR h:=rfl;simp only[v]at *;generalize (Dd f 0 [BR h]).1=n at *;generalize y:Ak h f n=N at *;obtain⟨l,b,e⟩:=N;refine cP 4 g ?_ ?_
  ·trivial
  ·refine rM g (hn) [] [] ?_ ?_ ?_
   ·first|exact eN|refine eM ?_
   ·first|exact eN|refine eM ?_
   ·rintro _ B rfl;refine⟨[],.tup [.p F3 l,.p .bool b,.p Ls e],[],rfl,rfl,?_,?_,rfl,rfl,?_⟩
    ·first|exact eN|refine eM ?_
    ·first|exact eN|refine eM ?_
    ·refine rL g ?_ ?_
     ·trivial
     ·repeat'(first|exact trivial|refine eS rfl ?_|refine AB ?_|refine rX g ?_ ?_|refine rC ?_ ?_<;>intro c<;>try(cases c;done))
      ·have d:CS h ar f=13:=i.trans (BY (by
        rcases c with (q|q)|q
        ·exact .inl q
        ·exact .inr (.inl q)
        ·exact .inr (.inr q)))
       exact fI g [.tmp 4] (by rw[d];exact eR)
      ·have d:CS h ar f=0:=i.trans (An (by
        obtain⟨⟨x,t⟩,m⟩:=c;have m:((l.length:Int) != (ar:Int))=false:=m;rintro (q|q|q)
        ·exact q (by simpa using x)
        ·have q:b=false:=q;rw[q]at t;cases t
        ·exact q (by simpa using m)))
       exact fI g [.tmp 4] (by rw[d];exact eR)
end
section
attribute [local go_sem] PU LN Mq XW ZM RI cs4 cs5
theorem Z6 (e:Int):∀l:List (Int×Int),YL l e=E4 l e
 | []=>rfl
 | a :: l=>by unfold YL E4;rw[Z6 e l]
def A9k:Ac:={ ins:=[Dw,F3],pre:=λ(f,_,_)=>AX f/\0<List.length f,out:=λ(f,p,_)=>[.p T3 (Dd f 0 p).1,.p .bool (Dd f 0 p).2] }
attribute [local go_sem] A9k
theorem A9l:Ad Tryz.prog 71 A9k:=by
 refine fK [0,1,2,4,5,6,7,8,9,13,27] Tryz.func71 Tryz.ntmps71 (AF A4L AG) ?_;rintro w0 O0 ⟨f,p,u⟩ g ⟨-,⟨l,-⟩,-⟩ ⟨hf,h0⟩;simp only[AP]at l;simp only[A9k,AM];repeat'(first|exact trivial|refine eS rfl ?_|refine AB ?_|refine rX g ?_ ?_|refine rC ?_ ?_<;>intro b<;>try(cases b;done))
 refine AK (ι:={s:Nat×Int//s.1<=p.length/\(0<=s.2/\s.2<(f.length:Int))/\Dd f 0 p=Dd f s.2 (p.drop s.1)}) (λs=>⟨[(1,.p F3 p),(2,.bp 2 [] 0),(6,.p (.int .i64) s.1.2),(7,.p (.int .i64) (s.1.1:Int))],[(2,.box 25 true [.p Fe f])]⟩) (λs=>p.length-s.1.1) ⟨(0,0),IN _,⟨ADZ 0,by show (0:Int)<_;omega⟩,rfl⟩ (AC [(2,.nm 2)] rfl rfl ?_ ?_) (λs=>?_)
 ·first|exact eN|refine eM ?_
 ·first|exact eN|refine eM ?_
 ·obtain⟨⟨k,n⟩,hk,hn,d⟩:=s;simp only at hk hn d ⊢;have h:=λe=>Z6 e (f.getD n.toNat (0,[])).2;repeat'(first|exact trivial|refine eS rfl ?_|refine AB ?_|refine rX g ?_ ?_|refine rC ?_ ?_<;>intro b<;>try(cases b;done))
  ·exact⟨b,hn⟩
  ·have c:k<p.length:=by exact eV
   rw[h]at b;have h1:Dd f 0 p=(0,false):=by
    rw[d,KW c];simp only[Dd];rw[An (by rw[AR,b];simp)]
   exact fI g [.tmp 4,.tmp 5] (by rw[h1];exact eR)
  ·exact eV
  ·have c:k<p.length:=by exact eV
   rw[h]at b;have h1:=d;rw[KW c]at h1;simp only[Dd]at h1;rw[BY b]at h1;obtain⟨a,ha,-,j⟩:=Xl b;have i:=BD hf ha;rw[j]at i;refine⟨⟨(k+1,(E4 (f.getD n.toNat (0,[])).2 (p.getD k 0)).1),c,i,h1⟩,by simp only;omega,AC [(2,.nm 2)] rfl rfl ?_ ?_⟩
   ·first|exact eN|refine eM ?_
   ·simp only;rw[<-h];first|exact eN|refine eM ?_
  ·have c:p.drop k=[]:=By (Sb.1 b);rw[c]at d;exact fI g [.tmp 4,.tmp 5] (by rw[d];first|exact eR|refine Xy ?_;exact⟨rfl,rfl⟩)
theorem A5i:Ad Tryz.prog 21 Tn:=by
 refine fKP [0,1,2,3,4,5,6,7,8,9,10,18,24,30,35,45,67] [40] [] Tryz.func21 Tryz.ntmps21 (AF ZO (AF tF (AF dP (AF A9l (AF uG AG))))) ?_;rintro w0 O0 ⟨h,⟨nm,ar,f⟩,u⟩ g-hp;have hp:A7y h f:=hp;obtain⟨⟨o,hk⟩,hs,s,j⟩:=hp;have r:(h.1,h.2)=h:=rfl;have t:=M3 h;have e:CS h ar f=if ar<1\/2<ar then 2 else if Ag h f≠0 then Ag h f else if BR h<0 then 13 else if (Dd f 0 [BR h]).2=false then 13
 else if (Ak h f (Dd f 0 [BR h]).1).2.2≠0\/(Ak h f (Dd f 0 [BR h]).1).2.1=false\/((Ak h f (Dd f 0 [BR h]).1).1.length:Int)≠ar then 13 else 0:=rfl
 simp only[Tn,AM];repeat'(first|exact trivial|refine eS rfl ?_|refine AB ?_|refine rX g ?_ ?_|refine rC ?_ ?_<;>intro b<;>try(cases b;done))
 ·have c:CS h ar f=2:=e.trans (BY b);exact fI g [.tmp 4] (by rw[c];exact eR)
 ·exact hs
 ·exact⟨o,hs,hk⟩
 ·have ha:¬((ar:Int)<1\/2<(ar:Int)):=by
   have a:(1:Int)<=(ar:Int)/\(ar:Int)<=2:=by assumption
   exact λq=>q.elim (λq=>absurd a.1 (ACk.2 q)) λq=>absurd a.2 (ACk.2 q)
  have c:CS h ar f=Ag h f:=by rw[e,An ha,BY b]
  exact fI g [.tmp 4] (by rw[c];exact eR)
 ·have ha:¬((ar:Int)<1\/2<(ar:Int)):=by
   have a:(1:Int)<=(ar:Int)/\(ar:Int)<=2:=by assumption
   exact λq=>q.elim (λq=>absurd a.1 (ACk.2 q)) λq=>absurd a.2 (ACk.2 q)
  have d:Ag h f=0:=by
   have a:(Ag h f != 0)=false:=by assumption
   simpa using a
  have c:CS h ar f=13:=by rw[e,An ha,An (λq=>q d),BY (show BR h<0 from b)]
  exact fI g [.tmp 4] (by rw[c];exact eR)
 ·have d:Ag h f=0:=by
   have a:(Ag h f != 0)=false:=by assumption
   simpa using a
  have vf:=j (Ni d);exact⟨vf.good,vf.pos⟩
 ·have ha:¬((ar:Int)<1\/2<(ar:Int)):=by
   have a:(1:Int)<=(ar:Int)/\(ar:Int)<=2:=by assumption
   exact λq=>q.elim (λq=>absurd a.1 (ACk.2 q)) λq=>absurd a.2 (ACk.2 q)
  have d:Ag h f=0:=by
   have a:(Ag h f != 0)=false:=by assumption
   simpa using a
  have i:¬BR h<0:=ACU.2 (by assumption);have c:CS h ar f=13:=by rw[e,An ha,An (λq=>q d),An i,BY (show (Dd f 0 [BR h]).2=false from b)]
  exact fI g [.tmp 4] (by rw[c];exact eR)
 ·have d:Ag h f=0:=by
   have a:(Ag h f != 0)=false:=by assumption
   simpa using a
  have vf:=j (Ni d);exact⟨hk,vf.good,vf.ty,xQ vf _ b⟩
 ·have ha:¬((ar:Int)<1\/2<(ar:Int)):=by
   have a:(1:Int)<=(ar:Int)/\(ar:Int)<=2:=by assumption
   exact λq=>q.elim (λq=>absurd a.1 (ACk.2 q)) λq=>absurd a.2 (ACk.2 q)
  have d:Ag h f=0:=by
   have a:(Ag h f != 0)=false:=by assumption
   simpa using a
  have i:¬BR h<0:=ACU.2 (by assumption);have vf:=j (Ni d);have k:(Dd f 0 [BR h]).2=true:=by assumption
  rw[An ha,An (λq=>q d),An i,An (by rw[k];simp)]at e;have c:CS h ar f=13:=e.trans (BY (by
   rcases b with (q|q)|q
   ·exact .inl q
   ·exact .inr (.inl q)
   ·exact .inr (.inr q)))
  exact fI g [.tmp 4] (by rw[c];exact eR)
 ·have ha:¬((ar:Int)<1\/2<(ar:Int)):=by
   have a:(1:Int)<=(ar:Int)/\(ar:Int)<=2:=by assumption
   exact λq=>q.elim (λq=>absurd a.1 (ACk.2 q)) λq=>absurd a.2 (ACk.2 q)
  have d:Ag h f=0:=by
   have a:(Ag h f != 0)=false:=by assumption
   simpa using a
  have i:¬BR h<0:=ACU.2 (by assumption);have vf:=j (Ni d);have k:(Dd f 0 [BR h]).2=true:=by assumption
  rw[An ha,An (λq=>q d),An i,An (by rw[k];simp)]at e;have c:CS h ar f=0:=e.trans (An (by
   obtain⟨⟨l,p⟩,m⟩:=b;rintro (q|q|q)
   ·have l:((Ak h f (Dd f 0 [BR h]).1).2.2 != 0)=false:=l;exact q (by simpa using l)
   ·rw[show (Ak h f (Dd f 0 [BR h]).1).2.1=true from p]at q;cases q
   ·have m:(((Ak h f (Dd f 0 [BR h]).1).1.length:Int) != (ar:Int))=false:=m;exact q (by simpa using m)))
  exact fI g [.tmp 4] (by rw[c];exact eR)
 ·have ha:¬((ar:Int)<1\/2<(ar:Int)):=by
   have a:(1:Int)<=(ar:Int)/\(ar:Int)<=2:=by assumption
   exact λq=>q.elim (λq=>absurd a.1 (ACk.2 q)) λq=>absurd a.2 (ACk.2 q)
  have b:BP h f≠0:=b;have c:CS h ar f=BP h f:=by rw[e,An ha,BY (by rw[Ux b];exact b),Ux b]
  exact fI g [.tmp 4] (by rw[c];exact eR)
 all_goals
  exfalso;have n:¬BP h f=0:=by assumption
  have a:(BP h f != 0)=false:=by assumption
  exact n (by simpa using a)
end
section
attribute [local go_sem] MY LN
end
section
attribute [local go_sem] KM Z1 PU MY Mq Tn cs1 cs2 cs3 cs4 cs5
def RJ:List AI:=Cv++[(⟨#[97,103,114]⟩,[⟨#[116,111,112]⟩],[]),(⟨#[115,103]⟩,[⟨#[97,103,114]⟩],[]),(⟨#[112,108]⟩,[⟨#[97,103,114]⟩],[])]++[(⟨#[99,97,116]⟩,[⟨#[115,105,103,110]⟩],[(⟨#[65,71,82]⟩,⟨#[97,103,114]⟩)])]++[(⟨#[100,101,116]⟩,[⟨#[99,97,116]⟩],[]),(⟨#[110]⟩,[⟨#[99,97,116]⟩],[]),(⟨#[110,112]⟩,[⟨#[99,97,116]⟩],[])]
def RK:Ac:={ ins:=[],pre:=λ_=>True,out:=λ_=>[.p FM RJ] }
attribute [local go_sem] RK
theorem uH:Ad Tryz.prog 64 RK:=by
 refine fKP [0,1] [6,8,10,12,15,17,19,22,24,26,28] [] Tryz.func64 Tryz.ntmps64 (AF WM AG) ?_;rintro w0 O0 u b - -;simp only[RK,AM];have a:Cv.length=13:=rfl;repeat'(first|exact trivial|refine eS rfl ?_|refine AB ?_|refine rX b ?_ ?_|refine rC ?_ ?_<;>intro c<;>try(cases c;done))
 ·rw[a];decide
 ·rw[a];decide
 ·rw[a];decide
 ·rw[a];decide
 ·refine F1 [2] ?_;exact fI b [.tmp 0] (by rw[show RJ=List.take (Cv.length+3+1+3) (List.take (Cv.length+3+1) (List.take (Cv.length+3) (Cv++[(⟨#[97,103,114]⟩,[⟨#[116,111,112]⟩],[]),(⟨#[115,103]⟩,[⟨#[97,103,114]⟩],[]),(⟨#[112,108]⟩,[⟨#[97,103,114]⟩],[])])++[(⟨#[99,97,116]⟩,[⟨#[115,105,103,110]⟩],[(⟨#[65,71,82]⟩,⟨#[97,103,114]⟩)])])++[(⟨#[100,101,116]⟩,[⟨#[99,97,116]⟩],[]),(⟨#[110]⟩,[⟨#[99,97,116]⟩],[]),(⟨#[110,112]⟩,[⟨#[99,97,116]⟩],[])]) from rfl];exact eR)
def Gm (h:AH) (fs:List ByteArray) (a:List Int) (n:Nat):List (Int×Int):=(List.range n).map λi=>(X2 h (fs.getD i ByteArray.empty),a.getD i 0)
theorem pU (h:AH) (fs:List ByteArray) (a:List Int) (n:Nat):Gm h fs a (n+1)=Gm h fs a n++[(X2 h (fs.getD n ByteArray.empty),a.getD n 0)]:=by simp[Gm,UJ]
theorem uI (h:AH) (fs:List ByteArray) (a:List Int) (n:Nat):(Gm h fs a n).length=n:=by simp[Gm]
def Uy:Ac:={ ins:=[Eg,T9,F4,F3],pre:=λ(_,_,fs,a,_)=>List.length fs<=1000/\List.length fs<=List.length a,out:=λ(h,s,fs,a,_)=>[.p NN (Hu h s,Gm h fs a (List.length fs))] }
attribute [local go_sem] Uy
theorem A0P:Ad Tryz.prog 65 Uy:=by
 refine fKP [0,1,2,3,4,8,9,10,18] [34] [] Tryz.func65 Tryz.ntmps65 (AF Nh (AF dP AG)) ?_;rintro w0 O0 ⟨h,s,fs,b,u⟩ c-⟨f,e⟩;have f:fs.length<=1000:=f;have e:fs.length<=b.length:=e;simp only[Uy,AM];have l:(h.1,h.2)=h:=rfl;repeat'(first|exact trivial|refine eS rfl ?_|refine AB ?_|refine rX c ?_ ?_|refine rC ?_ ?_<;>intro a<;>try(cases a;done))
 refine AK (ι:={k:Nat//k<=fs.length}) (λk=>⟨[(2,.p F4 fs),(3,.p F3 b),(4,.bp 4 [] 0),(8,.bp 8 [] 0),(9,.bp 9 [] 0),(10,.p (.int .i64) (k.1:Int))],[(4,.box 31 true [.p Xz h.1,.p Yu h.2]),(8,.box 93 true [.p T3 (0:Int),.raw (.slice none 0 0)]),(9,.box 93 true [.p T3 (Hu h s),.sr 35 AU 0 (Gm h fs b k.1).length]),(35,.arr 106 AU (Gm h fs b k.1))]⟩) (λk=>fs.length-k.1) ⟨0,IN _⟩ (AC [(4,.nm 4),(8,.nm 8),(9,.nm 9),(35,.nil)] rfl rfl ?_ ?_) (λk=>?_)
 ·first|exact eN|refine eM ?_
  exact⟨rfl,rfl⟩
 ·first|exact eN|refine eM ?_
 ·obtain⟨k,hk⟩:=k;have i:=uI h fs b k;have j:=pU h fs b k;simp only;repeat'(first|exact trivial|refine eS rfl ?_|refine AB ?_|refine rX c ?_ ?_|refine rC ?_ ?_<;>intro a<;>try(cases a;done))
  ·have d:k<fs.length:=If.1 a;refine⟨a,If.2 (ACq d e),?_⟩;rw[i];simp only[AP];omega
  ·omega
  ·have d:k<fs.length:=If.1 a;refine⟨⟨k+1,d⟩,by simp only;omega,AC [(4,.nm 4),(8,.nm 8),(9,.nm 9),(35,.nm 35)] rfl rfl ?_ ?_⟩
   ·simp only[j];first|exact eN|refine eM ?_
    try rfl
   ·first|exact eN|refine eM ?_
  ·have g:k=fs.length:=ADT hk (Sb.1 a);subst g;exact fI c [.cell 8 93]
theorem ACH (d:List AI):t8 (HB d):=by
 unfold HB;split
 ·exact Q7 d
 ·exact Q7 Cv
theorem A5j (d:List AI):A0t (HB d):=by
 unfold HB;split
 ·exact Mx d
 ·exact Mx Cv
theorem Z7 {h:AH} (hh:t8 h) {f:List AD} (c:GD f=true):A7y h f:=by
 obtain⟨h1,b⟩:=Mc c;refine⟨⟨hh.ft,hh.ok⟩,⟨Sd h1 (by decide),λx a=>Sd (b x a) (by decide)⟩,λx a=>Sd (b x a) (by decide),λd=>?_⟩;refine(A50 hh.b1 hh.b2 ?_).1;unfold cC;rw[c,d];rfl
end
def Cn:Nat->List Int->Int->Int
 | 0,_,n=>n
 | k+1,p,n=>if EY p n=n then n else Cn k p (EY p n)
def Xv (p:List Int) (n:Int):Bool:=EY p (Cn 100 p n)==Cn 100 p n
theorem pV {p:List Int}:∀ {k:Nat} {n:Int},EY p (Cn k p n)=Cn k p n->Rt p n (Cn k p n)
 | 0,n,h=>.base h
 | k+1,n,h=>by
  unfold Cn at h ⊢;split
  ·rename_i e;exact .base e
  ·rename_i e;rw[An e]at h;exact .step e (pV h)
theorem Xw {p:List Int} {n:Int} (h:Xv p n=true):Rt p n (Cn 100 p n):=pV (by unfold Xv at h;simpa using h)
abbrev ClD:=List Int×List Int×List (List (Int×Int))
def Z8 (h:AH):Nat->ClD->List (Int×Int)->Option (Option ClD)
 | 0,_,_=>none
 | k+1,s,W=>match W.getLast? with
  | none=>some (some s)
  | some w =>
   if (Xv s.1 w.1&&Xv s.1 w.2)=true then
    if Cn 100 s.1 w.1=Cn 100 s.1 w.2 then Z8 h k s W.dropLast
    else if (Bo h (s.2.1.getD (Cn 100 s.1 w.1).toNat 0) (s.2.1.getD (Cn 100 s.1 w.2).toNat 0)).2=false then some none
    else Z8 h k (s.1.set (Cn 100 s.1 w.2).toNat (Cn 100 s.1 w.1),s.2.1.set (Cn 100 s.1 w.1).toNat (Bo h (s.2.1.getD (Cn 100 s.1 w.1).toNat 0) (s.2.1.getD (Cn 100 s.1 w.2).toNat 0)).1,s.2.2.set (Cn 100 s.1 w.1).toNat (Bz (s.2.2.getD (Cn 100 s.1 w.1).toNat []) (s.2.2.getD (Cn 100 s.1 w.2).toNat [])).1)
     (W.dropLast++(Bz (s.2.2.getD (Cn 100 s.1 w.1).toNat []) (s.2.2.getD (Cn 100 s.1 w.2).toNat [])).2)
   else none
theorem A7z {α:Type} {W:List α} {w:α} (h:W.getLast?=some w):W=W.dropLast++[w]:=by
 obtain⟨a,e⟩:=List.getLast?_eq_some_iff.1 h;rw[e];simp
theorem Xx {h:AH} (hk:GL h) {N:List AD} {P:List (Int×Int)}:∀(k:Nat) (s:ClD) (W:List (Int×Int)),JI h N P s.1 s.2.1 s.2.2 W ->
  (∀t,Z8 h k s W=some (some t)->JI h N P t.1 t.2.1 t.2.2 [])/\(Z8 h k s W=some none->∀X v,EB h X->¬dZ h N P X v)
 | 0,s,W,a=>⟨λt e=>(by cases e),λe=>(by cases e)⟩
 | k+1,s,W,a=>by
  unfold Z8;cases g:W.getLast? with
  | none =>
   have:W=[]:=List.getLast?_eq_none_iff.1 g;subst this;refine⟨λt e=>?_,λe=>(by cases e)⟩;have e:s=t:=by simpa using e
   rw[<-e];exact a
  | some w =>
   simp only;have i:=A7z g;obtain⟨x,y⟩:=w;rw[i]at a;by_cases c:(Xv s.1 x&&Xv s.1 y)=true
   ·rw[BY c];rw[AT]at c;have ha:=Xw c.1;have d:=Xw c.2;by_cases f:Cn 100 s.1 x=Cn 100 s.1 y
    ·rw[BY f];rw[<-f]at d;exact Xx hk k s _ (cV a ha d)
    ·rw[An f];by_cases b:(Bo h (s.2.1.getD (Cn 100 s.1 x).toNat 0) (s.2.1.getD (Cn 100 s.1 y).toNat 0)).2=false
     ·rw[BY b];refine⟨λt e=>(by cases e),λ_ X v j l=>?_⟩;have:=(Uo hk a ha d j l).2.1;rw[b]at this;cases this
     ·rw[An b];have b:(Bo h (s.2.1.getD (Cn 100 s.1 x).toNat 0) (s.2.1.getD (Cn 100 s.1 y).toNat 0)).2=true:=by simpa using b
      exact Xx hk k _ _ (W9 hk a ha d f b)
   ·rw[An c];exact⟨λt e=>(by cases e),λe=>(by cases e)⟩
def SV (h:AH):ClD->List (Int×Int)->Option (Option ClD)
 | s,[]=>some (some s)
 | s,q :: P=>match Z8 h 1000 s [q] with
  | some (some t)=>SV h t P
  | r=>r
theorem Z9 {h:AH} (hk:GL h) {N:List AD}:∀(R P:List (Int×Int)) (s:ClD),(∀q∈R,(0<=q.1/\q.1<(N.length:Int))/\(0<=q.2/\q.2<(N.length:Int)))->JI h N P s.1 s.2.1 s.2.2 [] ->
  (∀t,SV h s R=some (some t)->JI h N (P++R) t.1 t.2.1 t.2.2 [])/\(SV h s R=some none->∀X v,EB h X->¬dZ h N (P++R) X v)
 | [],P,s,g,f=>⟨λt e=>by
   have e:s=t:=by simpa[SV] using e
   rw[<-e,Sq];exact f,λe=>(by cases e)⟩
 | q :: R,P,s,g,f=>by
  obtain⟨a,b⟩:=q;have c:=g (a,b) (by simp);obtain⟨m,n⟩:=Xx hk 1000 s [(a,b)] (XA f c.1 c.2);have i:P++(a,b) :: R=P++[(a,b)]++R:=by simp
  unfold SV;rw[i];split
  ·rename_i t l;exact Z9 hk R (P++[(a,b)]) t (λq c=>g q (by simp[c])) (m t l)
  ·rename_i r k;refine⟨λt e=>absurd e (k t),λe X v j d=>n e X v j ⟨d.rng,d.ty,d.arc,λq c=>d.eq q (UG _ c)⟩⟩
def A7A (s:ClD):List AD:=(List.range s.1.length).map λk=>(s.2.1.getD k 0,(s.2.2.getD k []).map λa=>(a.1,Cn 100 s.1 a.2))
def dV (s:ClD):Bool:=(List.range s.1.length).all λ(k:Nat)=>Xv s.1 (k:Int)
theorem aA {h:AH} {N:List AD} {P:List (Int×Int)} {s:ClD} (b:JI h N P s.1 s.2.1 s.2.2 []) (a:dV s=true) {x:Int} (c:0<=x) (e:x<(N.length:Int)):Cn 100 s.1 x=El s.1 x:=by
 unfold dV at a;rw[IS]at a;have d:=b.lp;have:=a x.toNat (Sl.2 (by omega));rw[AD9 c]at this;rw[cX (Xw this)]
theorem A7B {h:AH} {N:List AD} {P:List (Int×Int)} {s:ClD} (b:JI h N P s.1 s.2.1 s.2.2 []) (c:dV s=true):A7A s=quo s.1 s.2.1 s.2.2:=by
 unfold A7A quo;refine Sg λk _=>?_
 congr 1
 refine Sg λa ha=>?_;have:=(b.arr k a ha).1;rw[aA b c this.1 this.2]
def A5l (N:List AD):ClD:=(Cm 0 N.length,Mw N,Te N)
def A7C (h:AH) (N:List AD) (P:List (Int×Int)):Option (List AD×Bool):=match SV h (A5l N) P with
 | some (some s)=>if dV s=true then some (AO (A7A s) (Cn 100 s.1 0),true) else none
 | some none=>some ([],false)
 | none=>none
theorem A7D {h:AH} (hk:GL h) {N:List AD} (j:AX N) (k:EB h N) (hs:∀x∈N,Nn x.2) (h0:0<N.length) {P:List (Int×Int)} (i:∀q∈P,(0<=q.1/\q.1<(N.length:Int))/\(0<=q.2/\q.2<(N.length:Int))) :
  (∀a,A7C h N P=some (a,true)->∃p ty ar,JI h N P p ty ar []/\a=AO (quo p ty ar) (El p 0))/\(∀a,A7C h N P=some (a,false)->a=[]/\∀X v,EB h X->¬dZ h N P X v):=by
 obtain⟨f,g⟩:=Z9 hk P [] (A5l N) i (c9 j k hs);rw[ADw]at f g;unfold A7C;split
 ·rename_i s c;have b:=f s c;split
  ·rename_i d;refine⟨λa e=>⟨s.1,s.2.1,s.2.2,b,?_⟩,λa e=>(by cases e)⟩;have e:AO (A7A s) (Cn 100 s.1 0)=a:=by simpa using e
   rw[<-e,A7B b d,aA b d (by omega) (by omega)]
  ·exact⟨λa e=>(by cases e),λa e=>(by cases e)⟩
 ·rename_i c;refine⟨λa e=>(by cases e),λa e=>⟨?_,g c⟩⟩;have e:[]=a:=by simpa using e
  exact e.symm
 ·exact⟨λa e=>(by cases e),λa e=>(by cases e)⟩
def uJ (h:AH) (a b:List AD):Option (List AD×Bool):=A7C h (Ca a b) [(0,(a.length:Int))]
theorem aB {h:AH} (hu:HU h) {a b:List AD} (va:VF h a) (c:VF h b) (s:a.length+b.length<=10000) {r:List AD×Bool} (g:uJ h a b=some r):Ee h a b=r:=by
 have n:=FG a b;have hap:=va.pos;have o:=c.pos;obtain⟨d,z⟩:=r;have i:=PQ va.good c.good (by omega);obtain⟨l,m⟩:=A7D hu.ok (N:=Ca a b) i (XP va.ty c.ty) (Nf va.str c.str) (by omega) (P:=[(0,(a.length:Int))]) (λq k=>by
  have e:q=(0,(a.length:Int)):=by simpa using k
  subst e;simp only;omega)
 cases z with
 | true =>
  obtain⟨p,ty,ar,f,rfl⟩:=l d g;exact Tc hu (c7 va c f (XR f (by omega) (XQ (va.ft64 hu) (c.ft64 hu))))
 | false =>
  obtain⟨rfl,j⟩:=m d g;exact Zm va c j
def roB (f:List AD):Bool:=(List.range f.length).all λ(i:Nat)=>i==0||(List.range i).any λj=>(f.getD j (0,[])).2.any λa=>a.2==(i:Int)
def A7E:List (Int×Int)->Bool
 | a :: b :: l=>decide (a.1<b.1)&&A7E (b :: l)
 | _=>true
theorem xS:∀ {l:List (Int×Int)},A7E l=true->Nn l
 | [],_=>.nil
 | [a],_=>List.pairwise_singleton _ _
 | a :: b :: l,h=>by
  simp only[A7E,AT,Fj]at h;have e:=xS h.2;refine To.2 ⟨λc d=>?_,e⟩;rcases Do.1 d with rfl|d
  ·exact h.1
  ·have:=(To.1 e).1 c d;omega
def vfB (h:AH) (f:List AD):Bool :=
 decide (0<f.length)&&decide (f.length<=100)&&roB f&&(AO f 0==f)&&f.all λx=>decide (0<=x.1)&&decide (x.1<(h.1.length:Int))&&decide (x.2.length<=100)&&A7E x.2&&x.2.all λa=>decide (0<=a.1)&&decide (a.1<(h.2.length:Int))&&decide (0<=a.2)&&decide (a.2<(f.length:Int))
theorem PW {h:AH} {f:List AD} (g:vfB h f=true):VF h f:=by
 unfold vfB at g;simp only[AT,Fj,IS,UH]at g;obtain⟨⟨⟨⟨h1,m⟩,d⟩,l⟩,c⟩:=g;refine⟨⟨by omega,λx b=>⟨by have:=(c x b).1.1.2;omega,λa ha=>?_⟩⟩,h1,λx b=>?_,λx b=>?_,λx b a ha=>?_,l,λi n o=>?_⟩
 ·have:=(c x b).2 a ha;exact⟨this.1.2,this.2⟩
 ·exact(c x b).1.1.1
 ·exact xS (c x b).1.2
 ·exact((c x b).2 a ha).1.1
 ·unfold roB at d;rw[IS]at d;have:=d i.toNat (Sl.2 (by omega));rw[Su,UH]at this;rcases this with e|e
  ·omega
  ·obtain⟨j,k,e⟩:=Sc.1 e;obtain⟨a,ha,e⟩:=Sc.1 e;have k:=Sl.1 k;refine⟨(j:Int),by omega,by omega,a,by rw[AR,Se];exact ha,?_⟩;have e:a.2=(i.toNat:Int):=by simpa using e
   omega
def JZ:AH:=([(⟨#[116,111,112]⟩,[1048575],[],[]),(⟨#[115,105,103,110]⟩,[265226],[0],[(1,5),(12,18)]),(⟨#[99,97,116]⟩,[3082],[1],[(0,4),(1,5),(12,18)]),(⟨#[105,110,100,101,120]⟩,[480],[0],[]),(⟨#[97,103,114]⟩,[139265],[0],[]),(⟨#[108,105,115,116]⟩,[4612],[0],[]),(⟨#[99,111,110,115]⟩,[4],[5],[(3,0),(11,5)]),(⟨#[100,101,116]⟩,[8],[2],[(0,4),(1,5),(12,18)]),(⟨#[100,108,105,115,116]⟩,[16],[0],[(7,5),(8,5)]),(⟨#[101,110,116,105,116,121]⟩,[32],[3],[]),(⟨#[101,118,101,110,116]⟩,[64],[3],[]),(⟨#[104,97,110,100,108,101]⟩,[128],[3],[]),(⟨#[110]⟩,[1024],[2],[(0,4),(1,5),(12,18)]),(⟨#[110,112]⟩,[2048],[2],[(0,4),(1,5),(12,18)]),(⟨#[110,117,108,108]⟩,[4096],[5],[]),(⟨#[112,108]⟩,[8192],[4],[]),(⟨#[113,101,113]⟩,[16384],[0],[(4,11),(9,11)]),(⟨#[114,101,108]⟩,[32768],[0],[(6,11)]),(⟨#[115,101,109]⟩,[65536],[0],[(2,8),(5,3),(10,8),(13,11)]),(⟨#[115,103]⟩,[131072],[4],[])],[(⟨#[65,71,82]⟩,2),(⟨#[65,82,71,83]⟩,1),(⟨#[67,79,78,83]⟩,18),(⟨#[70,73,82,83,84]⟩,6),(⟨#[72,73,71,72]⟩,16),(⟨#[73,78,68,69,88]⟩,18),(⟨#[76,65,66,69,76]⟩,17),(⟨#[76,65,83,84]⟩,8),(⟨#[76,73,83,84]⟩,8),(⟨#[76,79,87]⟩,16),(⟨#[82,69,76,83]⟩,18),(⟨#[82,69,83,84]⟩,6),(⟨#[83,69,77]⟩,1),(⟨#[84,79,80]⟩,18)])
def uK:List AD:=[(13,[(0,1),(1,2)]),(4,[]),(6,[(3,3),(11,4)]),(7,[(0,1)]),(6,[(3,5),(11,6)]),(12,[(0,1)]),(14,[])]
def pZ:List AD:=[(7,[(0,1)]),(19,[])]
def exN:List AD:=[(12,[])]
def exM:List AD:=[(13,[(0,1)]),(4,[])]
def exW:List AD:=[(13,[(0,1)]),(19,[])]
def exF:List AD:=[(13,[(0,1),(1,2)]),(19,[]),(6,[(3,3),(11,4)]),(7,[(0,1)]),(6,[(3,5),(11,6)]),(12,[(0,1)]),(14,[])]
instance baDecK:DecidableEq ByteArray:=λa b =>
 if h:a.data.toList=b.data.toList then isTrue (by
  cases a
  cases b
  exact AD0 ByteArray.mk (Array.toList_inj.1 h))
 else isFalse λe=>h (by rw[e])
theorem A7G:((HB RJ).1:List (ByteArray×List Int×List Int×List (Int×Int)))=JZ.1:=by decide +kernel
theorem A7H:((HB RJ).2:List (ByteArray×Int))=JZ.2:=by decide +kernel
theorem uL:HB RJ=JZ:=AF2 A7G A7H
theorem SW:t8 JZ:=by rw[<-uL];exact ACH _
theorem xT:A0t JZ:=by rw[<-uL];exact A5j _
theorem pW:VF JZ uK:=PW (by decide +kernel)
theorem A5m:VF JZ pZ:=PW (by decide +kernel)
theorem ACI:VF JZ exN:=PW (by decide +kernel)
theorem A86:VF JZ exF:=PW (by decide +kernel)
theorem A87:CS JZ 2 uK=0:=by decide +kernel
theorem ACJ:CS JZ 1 uK=13:=by decide +kernel
theorem ACK {h:AH} (hh:t8 h) {a b u:List AD} {r:List AD×Bool} (va:VF h a) (e:VF h b) (d:a.length+b.length<=10000) (h1:uJ h a b=some (u,true)) (c:Gk h u=r):HX h a b=r:=by
 unfold HX;rw[aB hh.hu va e d h1,BY rfl];exact c
theorem ACL {h:AH} (hh:t8 h) {a b:List AD} (va:VF h a) (d:VF h b) (c:a.length+b.length<=10000) (h1:uJ h a b=some ([],false)):HX h a b=([],false):=by
 unfold HX;rw[aB hh.hu va d c h1,An (by simp)]
theorem A88:Lt JZ 0=[1,3]:=by decide +kernel
theorem A89:Lt JZ 1=[1,11,3]:=by decide +kernel
theorem A9n:VF JZ (A4 [1,3] pZ):=PW (by decide +kernel)
theorem A9o:VF JZ (A4 [1,11,3] exN):=PW (by decide +kernel)
theorem A9p:VF JZ (A4 [1,11,3] pZ):=PW (by decide +kernel)
theorem A8a:HX JZ uK (A4 [1,3] pZ)=(exF,true):=ACK SW (u:=exF) pW A9n (by decide) (by decide +kernel) (by decide +kernel)
theorem ACM:HX JZ exF (A4 [1,11,3] exN)=(exF,true):=ACK SW (u:=exF) A86 A9o (by decide) (by decide +kernel) (by decide +kernel)
theorem ACN:HX JZ exF (A4 [1,11,3] pZ)=([],false):=ACL SW A86 A9p (by decide) (by decide +kernel)
theorem ACO:RB exF (BR JZ)=exW:=by decide +kernel
theorem ACP:RB uK (BR JZ)=exM:=by decide +kernel
theorem A5n:uD JZ 2 uK:=A7q (λ_=>pW) A87
theorem ACQ:GK JZ 2 uK [pZ,exN]=(exW,true):=by
 have h1:Ce JZ (Lt JZ) 0 uK [pZ,exN]=(exF,true):=by
  unfold Ce;rw[A88,A8a,BY rfl];unfold Ce;rw[A89,ACM,BY rfl];rfl
 unfold GK;rw[An (by decide),h1,BY rfl,ACO]
theorem ACR:GK JZ 2 uK [pZ,pZ]=([],false):=by
 have h1:Ce JZ (Lt JZ) 0 uK [pZ,pZ]=([],false):=by
  unfold Ce;rw[A88,A8a,BY rfl];unfold Ce;rw[A89,ACN,An (by simp)]
 unfold GK;rw[An (by decide),h1,An (by simp)]
theorem ACS:GK JZ 2 uK [pZ]=([],false):=BY (by decide)
theorem A9q:RA JZ 2 uK [pZ,exN]:=⟨SW,xT,pW,by decide,A5n,λx a=>by
 rcases Do.1 a with rfl|a
 ·exact⟨A5m,by decide⟩
 ·rw[UF.1 a];exact⟨ACI,by decide⟩,by decide⟩
theorem A9r:RA JZ 2 uK [pZ,pZ]:=⟨SW,xT,pW,by decide,A5n,λx a=>by
 rcases Do.1 a with rfl|a
 ·exact⟨A5m,by decide⟩
 ·rw[UF.1 a];exact⟨A5m,by decide⟩,by decide⟩
section
attribute [local go_sem] KO KM
def xU:Ac:={ ins:=[FM],pre:=λ_=>True,out:=λ(d,_)=>[.p Eg (HB d)] }
theorem xV:Ad Tryz.prog 17 xU:=by
 refine fK [0,2,3,4,5,9,16] Tryz.func17 Tryz.ntmps17 (AF sI (AF WM AG)) ?_;rintro w0 O0 ⟨d,u⟩ a - -;simp only[xU,AM];repeat'(first|exact trivial|refine eS rfl ?_|refine AB ?_|refine rX a ?_ ?_|refine rC ?_ ?_<;>intro b<;>try(cases b;done))
 ·have h1:HB d=(Ar d).1:=by unfold HB;rw[BY ⟨by exact eV,b⟩]
  exact fI a [.cell 2 31] (by rw[h1];exact eR)
 ·have h1:HB d=(Ar Cv).1:=by unfold HB;rw[An (λh=>b h.2)]
  exact fI a [.cell 2 31] (by rw[h1];exact eR)
 ·have h1:HB d=(Ar Cv).1:=by
   unfold HB;rw[An];intro h;have:=h.1;exact eV
  exact fI a [.cell 2 31] (by rw[h1];exact eR)
end
section
attribute [local go_sem] RK xU Uy Z1 ZN SU Tn RG LM cs1 cs2 cs3 cs4 cs5
def xW:Ac:={ ins:=[],pre:=λ_=>True,out:=λ_=>[.p .bool true] }
attribute [local go_sem] xW
theorem A7I:Ad Tryz.prog 19 xW:=by
 refine fKP [0,1,2,3,4,5,6,7,9,11] [15,16,21,22,25,26,29,30,33,34,38,42,43,47,50,51,55,58,59,63,72,80,89] [] Tryz.func19 Tryz.ntmps19 (AF uH (AF xV (AF A0P (AF Nh (AF A6x (AF A5e (AF xR (AF A0L (AF nU AG))))))))) ?_;rintro w0 O0 u a - -;simp only[xW,AM];have c:=uL;have h14:=SW;have s:=ACQ;have t:=ACR;have v:=ACS;have w:=A9q;have x:=A9r;have c1:=ACJ;have c2:=A87;have p:=ACP;have y:=pW;have i:Hu JZ ⟨#[110,112]⟩=13:=by decide +kernel
 have j:Hu JZ ⟨#[97,103,114]⟩=4:=by decide +kernel
 have k:Hu JZ ⟨#[99,111,110,115]⟩=6:=by decide +kernel
 have l:Hu JZ ⟨#[100,101,116]⟩=7:=by decide +kernel
 have m:Hu JZ ⟨#[110]⟩=12:=by decide +kernel
 have n:Hu JZ ⟨#[110,117,108,108]⟩=14:=by decide +kernel
 have o:Hu JZ ⟨#[115,103]⟩=19:=by decide +kernel
 have d:Gm JZ [⟨#[65,71,82]⟩,⟨#[65,82,71,83]⟩] [1,2] 2=[(0,1),(1,2)]:=by decide +kernel
 have e:Gm JZ [⟨#[70,73,82,83,84]⟩,⟨#[82,69,83,84]⟩] [3,4] 2=[(3,3),(11,4)]:=by decide +kernel
 have f:Gm JZ [⟨#[65,71,82]⟩] [1] 1=[(0,1)]:=by decide +kernel
 have g:Gm JZ [⟨#[70,73,82,83,84]⟩,⟨#[82,69,83,84]⟩] [5,6] 2=[(3,5),(11,6)]:=by decide +kernel
 have p0:Gm JZ [] [] 0=[]:=rfl;have D:uK=[(13,[(0,1),(1,2)]),(4,[]),(6,[(3,3),(11,4)]),(7,[(0,1)]),(6,[(3,5),(11,6)]),(12,[(0,1)]),(14,[])]:=rfl;have A:pZ=[(7,[(0,1)]),(19,[])]:=rfl;have C:exN=[(12,[])]:=rfl;have B:exM=[(13,[(0,1)]),(4,[])]:=rfl;have E:exW=[(13,[(0,1)]),(19,[])]:=rfl;have F:GD uK=true:=by decide +kernel
 have r:=Z7 h14 F;simp only[D,A,C,B,E]at s t v w x c1 c2 p y r;generalize JZ=h at *;have b:(h.1,h.2)=h:=rfl;repeat'(first|exact trivial|refine eS rfl ?_|refine AB ?_|refine rP a ?_ ?_|fail)
 simp only[c];refine rT 1 a ?_ ?_
 ·first|trivial|exact⟨by decide,by decide⟩|trace_state
 ·simp only[c,b,i,j,k,l,m,n,o,p0,d,e,f,g];refine eS rfl ?_;refine rT 1 a ?_ ?_
  ·first|trivial|exact⟨by decide,by decide⟩|trace_state
  ·simp only[c,b,i,j,k,l,m,n,o,p0,d,e,f,g];refine eS rfl ?_;refine rT 1 a ?_ ?_
   ·first|trivial|exact⟨by decide,by decide⟩|trace_state
   ·simp only[c,b,i,j,k,l,m,n,o,p0,d,e,f,g];refine eS rfl ?_;refine rT 1 a ?_ ?_
    ·first|trivial|exact⟨by decide,by decide⟩|trace_state
    ·simp only[c,b,i,j,k,l,m,n,o,p0,d,e,f,g];repeat'(first|exact trivial|refine eS rfl ?_|refine AB ?_|refine rP a ?_ ?_|fail)
     refine Cc drawsAny a 13 [([0,1,2,3,4,5,6,7,8,9,11],12)] [10] (by kernel_rfl) (Nk ?_ ?_)
     ·simp only[c,b,i,j,k,l,m,n,o,p0,d,e,f,g];exact λ_=>w
     ·simp only[c,b,i,j,k,l,m,n,o,p0,d,e,f,g];refine PY a [] ?_ ?_
      ·trivial
      ·refine Tw a ?_ ?_ ?_
       ·trivial
       ·simp only[c,b,i,j,k,l,m,n,o,p0,d,e,f,g]
       ·simp only[s];refine eS rfl ?_;refine rP a ?_ ?_
        ·simp only[c,b,i,j,k,l,m,n,o,p0,d,e,f,g];exact λq=>absurd q (by decide)
        ·simp only[c,b,i,j,k,l,m,n,o,p0,d,e,f,g];simp only[v];refine eS rfl ?_;refine rP a ?_ ?_
         ·simp only[c,b,i,j,k,l,m,n,o,p0,d,e,f,g];exact λ_=>x
         ·simp only[c,b,i,j,k,l,m,n,o,p0,d,e,f,g];simp only[t];repeat'(first|exact trivial|refine eS rfl ?_|refine AB ?_|refine rX a ?_ ?_|refine rC ?_ ?_<;>intro z<;>try(cases z;done))
          ·simp only[b,c2,p];exact⟨r,λ_=>⟨by decide,by decide⟩,λ_=>⟨h14.hu,y⟩,λ_=>⟨⟨by decide,by decide⟩,by decide,by decide⟩,λ_=>r⟩
          ·simp only[b,c1,c2,p,Jx];exact fI a [.tmp 0]
end
section
attribute [local go_sem] PU A0K ZM cs4 cs5 vN A8E ne_eq not_false_eq_true
end
section
attribute [local go_sem] PU A0K RG A5b SU cs4 cs5
end
section
attribute [local go_sem] xU MY xW Tn SU LM
def uM:Ac:={ ins:=[FM,T27],pre:=λ_=>True,out:=λ_=>[.p .bool true] }
attribute [local go_sem] uM
theorem A5o:Ad Tryz.prog 3 uM:=by
 refine fK [0,1,3,4,5,11] Tryz.func3 Tryz.ntmps3 (AF xV (AF A3Q (AF A7I (AF xR (AF A5i AG))))) ?_;rintro w0 O0 ⟨d,⟨nm,ar,f⟩,u⟩ a - -;simp only[uM,AM];have hh:=ACH d;have c:((HB d).1,(HB d).2)=HB d:=rfl;repeat'(first|exact trivial|refine eS rfl ?_|refine AB ?_|refine rX a ?_ ?_|refine rC ?_ ?_<;>intro b<;>try(cases b;done))
 ·exact fI a [.tmp 4]
 ·exact Z7 hh b
 ·exact fI a [.tmp 4]
end
end Go.Proofs.YtapkhdkbkodbjaaGreat.Fw
