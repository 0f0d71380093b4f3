/- Contracts of the program's and the reference's functions, and the plain laws of what they compute: V4 Q1 V5 V6 V9 V10 Q2 Q3 Q4 Q5 Q6 Q7 R08b Q8 Q9 C37 W6 W7 U17 Q17 Q11 PS Q12 PKA PKB PL. -/
/- Functions of grammarlabref08, 06, 11: Step, find, Meet, Types. -/
import Derived.Test.YtmejfnhmgbhkmabGreatIYB
import Derived.Test.YtmejfnhmgbhkmabGreatIYA
import Derived.Test.YtmejfnhmgbhkmabGreatIZI
import Derived.Test.YtmejfnhmgbhkmabGreatIZJ
set_option linter.unusedVariables false
set_option linter.unusedSimpArgs false
namespace Go.Proofs.YtmejfnhmgbhkmabGreat.Fw
open Go
attribute [local irreducible] Ev
attribute [local go_sem] Wz AN List.toList_toArray Br evG evK S8 E2 Il Fk E6 HG PE LR Cb Ck Kk CB CY frz Y3 Ff Cj Aw Ew BM AV.frz AV.frzs AV.drp AV.drps AV.names AV.namess aq Fh JH Ic P6 Hc BN BU H0 Dm G9 Dn HB HA HC Qj Mb F0 Id Ey Di Qk Nr mT H1 HD Jf Ed Dp QA Cm Dq EO Ns HE Nt Jg Hf Ie Dr DD F7 DF GM Cn EP Co Ds E0 CB CM O9 Np Ln Fc He Hd Je Me PC LQ Jk Ji Ii PD Jj Ij VA Mg Mf AV.trn AV.trns EJ Ca Obj.trn II XS DE Du Dj Dt CF ER Aj lk F9 Fg GJ sV Y2 S9 Y5 PB i8 i9 s6 AV.cells Bu Hy Ma Ih Md B7 LO Ty.cell1 G8 EK DC FF Ll Ec Ib Jd Nm Fe FK LM Pz Qi Jb Hb Uz Wc PA LP CX Hz RV.flat Ty.flat Ty.size St.add upd S7 BR Value.oneCell' JW Ty.dflt G7 My GW M6 List.take_succ_cons List.take_zero List.length_cons XH XI M5 IC J0 GI ID nQ E7 Kt Ku Kv Kw OC OD Kx HK Qz Option.map_some Option.map_none Option.bind_some Option.getD_some Option.getD_none Option.isNone_none Option.isNone_some Bool.and_true Bool.true_and Bool.and_false Bool.false_and Bool.not_true Bool.not_false if_true if_false List.length_cons List.length_nil and_true true_and and_self List.all_cons List.all_nil List.append_nil List.nil_append List.cons_append List.getElem?_cons_zero List.getElem?_cons_succ List.getElem?_nil List.map_cons List.map_nil List.set_cons_zero List.set_cons_succ List.isEmpty_nil List.isEmpty_cons decide_true decide_false beq_self_eq_true bne_self_eq_false Nat.zero_add Nat.add_zero Nat.sub_zero Int.toNat_natCast Int.toNat_zero Int.toNat_one List.take_length List.length_append List.length_singleton true_or or_true or_self false_or or_false Ty.agg.injEq Ty.slice.injEq Ty.prod.injEq Ty.int.injEq Option.some.injEq beq_iff_eq JX evMG evMQ nT GY Jx Bj IB GC PX H9 GX HL It JN Ly LX Lz QD Jy M0 M2 IA AW Ad Op.operands Call.operands List.filterMap_cons List.filterMap_nil List.append_eq Bool.cond_false_right Bool.cond_true_left cond_true cond_false implies_true decide_eq_true_eq beq_true beq_false Bool.or_true Bool.or_false Bool.true_or Bool.false_or Option.isSome_some Ex Kl ET GK U0 Mc Ez FM FL HF GL Ig Jh TA Y4 Nq zG Ik E1 Fd H4 A1 XJ List.drop_zero DJ GZ VY Cs J1 Bn AV.fgt AV.fgts Obj.fgt Af Ap AW EW L1 Bx IE List.any_cons List.any_nil ZV XM VZ XN J2 OI qs List.flatMap_cons List.flatMap_nil List.cons_append tn Vb J5 List.take_succ_cons List.drop_succ_cons Ve Gc Be cC K2 Cd Cz Ar E5 Ir B1 EV DI GV HJ F1 Hj
attribute [local go_sem] ty1 ty2 ty3 ty4 ty5 ty9 uJ uK uL uM uN uO uP uQ uR uS uT uU uV uW uX uY uZ u3 u4 u5 u6 u7 u9 vA vB vC vD vE vF vG vH vI vJ vK vL vM vN vO vP vQ vR vS vT vU vV vW vX vY vZ v4 v5 v6 v7 v8 v9 wA wB wC wD wE wF wG wH wI wJ wK wL wM wN wO wP wQ wR wS wT wU cH cI cJ cK cL cM cN cO cQ cR cS cU cV cW cX cZ c6 c7 c8 c9 dA dB dC dD dE dF dG dH dI dJ dK dL dM dN dP dQ dR dS dT dU dV dW dX dY dZ d3 d4 d5 d6 d7 d8 d9 eA eB eC eD eE eF eG eH eI eJ eK eL eO eP eQ eU eW eX eY eZ e7 e9 fA fB fC fD fE fF fG fH fI fJ fK fL fM fN fO fP fQ fR fS fT fU fV fW fX fY fZ f3 f4 f5 f8 f9 gA gB gC gD gE gF
set_option maxRecDepth 100000
set_option maxHeartbeats 4000000
section
attribute [local go_sem] La Xj
def Ou:Ae:={ ins:=[HS,T3,T3],pre:=fun(f,n,_,_)=>(0:Int)≤n∧n<(List.length f:Int),out:=fun(f,n,e,_)=>[.p T3 (TT (List.getD (f:List AL) (Int.toNat n) (0,[])).2 e).1,.p .bool (TT (List.getD (f:List AL) (Int.toNat n) (0,[])).2 e).2],lend:=true }
attribute [local go_sem] Ou
theorem rE:Ag Tryz.prog 83 Ou:=by
 refine AR Tryz.func83 (by kernel_rfl) rfl Tryz.ntmps83 (by decide) (by kernel_rfl) (AF []) AH ?_
 rintro w0 O0 ⟨f,n,e,u⟩ hc ⟨⟨hlf,hf⟩,-⟩ hn
 simp only[Ou,AN]
 repeat'(first|exact trivial|refine eS rfl ?_|refine AB ?_|refine rX [0,1,2,3,6,7,8,9,19,28] hc ?_ ?_|refine rC ?_ ?_<;>intro AA<;>try(cases AA;done))
 ·exact hn
 ·have hL:List.length (List.getD (f:List AL) (Int.toNat n) (0,[])).2≤AO:=by
   have h1:Int.toNat n<List.length f:=(Int.toNat_lt hn.1).2 hn.2
   have:=hf _ (AE (f:List AL) (0,[]) h1)
   exact this.2.1
  simp only[AO]at hL
  generalize (List.getD (f:List AL) (Int.toNat n) (0,[])).2=l at *
  refine AK (ι:={k:Nat//k≤l.length∧TT (l.drop k) e=TT l e}) (fun k=>⟨[(2,.p T3 e),(8,.p Vg l),(9,.p (.int .i64) (k.1:Int))],[]⟩) (fun k=>l.length-k.1) ⟨0,by simp⟩ (AC [] rfl rfl ?_ ?_) (fun k=>?_)
  ·first|exact eN|refine eM ?_
  ·first|exact eN|refine eM ?_
  ·obtain⟨k,hk,hg⟩:=k
   have hd:k<l.length→l.drop k=l.getD k (0,0) :: l.drop (k+1):=fun h=>by
    rw[List.drop_eq_getElem_cons h,List.getD_eq_getElem?_getD,List.getElem?_eq_getElem h];rfl
   have hgd:k<l.length→(if (l.getD k (0,0)).1=e then ((l.getD k (0,0)).2,true) else TT (l.drop (k+1)) e)=TT l e:=fun h=>by
    rw[hd h]at hg;exact hg
   repeat'(first|exact trivial|refine eS rfl ?_|refine AB ?_|refine rX [0,1,2,3,6,7,8,9,19,28] hc ?_ ?_|refine rC ?_ ?_<;>intro AA<;>try(cases AA;done))
   ·exact eV
   ·exact eV
   ·have hkl:k<l.length:=by exact eV
    have hg:=hgd hkl
    rw[if_pos AA]at hg
    exact AG hc [.tmp 6,.tmp 7] rfl (.inl rfl) (by simp) (by rw[←hg];first|exact eR|refine Al ?_)
   ·exact eV
   ·have hkl:k<l.length:=by exact eV
    have hg:=hgd hkl
    rw[if_neg AA]at hg
    refine⟨⟨k+1,by omega,hg⟩,by simp only;omega,AC [] rfl rfl ?_ ?_⟩
    ·first|exact eN|refine eM ?_
    ·first|exact eN|refine eM ?_
   ·have hk:l.drop k=[]:=List.drop_eq_nil_of_le (by exact eV)
    rw[hk]at hg
    have hg:(0,false)=TT l e:=hg
    exact AG hc [.tmp 6,.tmp 7] rfl (.inl rfl) (by simp) (by rw[←hg];first|exact eR|refine Al ?_)
def Ha (b:List Int):List IP→Nat→Int×Bool
 | [],_=>(0,false)
 | t :: r,k=>if t.2.1=b then ((k:Int),true) else Ha b r (k+1)
def WM:Ae:={ ins:=[TH,A7],pre:=fun _=>True,out:=fun(h,b,_)=>[.p T3 (Ha b (h:AP).1 0).1,.p .bool (Ha b (h:AP).1 0).2],lend:=true }
attribute [local go_sem] WM
theorem rF:Ag Tryz.prog 99 WM:=by
 refine AR Tryz.func99 (by kernel_rfl) rfl Tryz.ntmps99 (by decide) (by kernel_rfl) (AF [(125,La)]) (AD Vm AH) ?_
 rintro w0 O0 ⟨⟨l,hf⟩,b,u⟩ hc ⟨⟨⟨hl,-⟩,-⟩,-⟩ -
 simp only[AO]at hl
 simp only[WM,AN]
 repeat'(first|exact trivial|refine eS rfl ?_|refine AB ?_|refine rX [0,1,2,4,5,6,11,21] hc ?_ ?_|refine rC ?_ ?_<;>intro AA<;>try(cases AA;done))
 refine AK (ι:={k:Nat//k≤List.length l∧Ha b (List.drop k l) k=Ha b l 0}) (fun k=>⟨[(1,.p A7 b),(2,.bp 2 [] 0),(6,.p (.int .i64) (k.1:Int))],[(2,.box 37 true [.p WZ l,.p Xa hf])]⟩) (fun k=>List.length l-k.1) ⟨0,by simp⟩ (AC [(2,.nm 2)] rfl rfl ?_ ?_) (fun k=>?_)
 ·first|exact eN|refine eM ?_
 ·first|exact eN|refine eM ?_
 ·obtain⟨k,hk,hg⟩:=k
  have hgd:k<List.length l→(if (List.getD l k UX).2.1=b then ((k:Int),true) else Ha b (List.drop (k+1) l) (k+1))=Ha b l 0:=fun h=>by
   rw[List.drop_eq_getElem_cons h]at hg
   rw[List.getD_eq_getElem?_getD,List.getElem?_eq_getElem h];exact hg
  repeat'(first|exact trivial|refine eS rfl ?_|refine AB ?_|refine rX [0,1,2,4,5,6,11,21] hc ?_ ?_|refine rC ?_ ?_<;>intro AA<;>try(cases AA;done))
  ·exact eV
  ·have hkl:k<List.length l:=by exact eV
   have hg:=hgd hkl
   have AA:(List.getD l k UX).2.1=b:=by simpa[Gd] using AA
   rw[if_pos AA]at hg
   exact AG hc [.tmp 4,.tmp 5] rfl (.inl rfl) (by simp) (by rw[←hg];first|exact eR|refine Al ?_)
  ·exact eV
  ·have hkl:k<List.length l:=by exact eV
   have hg:=hgd hkl
   have AA:¬(List.getD l k UX).2.1=b:=by simpa[Gd] using AA
   rw[if_neg AA]at hg
   refine⟨⟨k+1,by omega,hg⟩,by simp only;omega,AC [(2,.nm 2)] rfl rfl ?_ ?_⟩
   ·first|exact eN|refine eM ?_
   ·first|exact eN|refine eM ?_
  ·have hk:List.drop k l=[]:=List.drop_eq_nil_of_le (by exact eV)
   rw[hk]at hg
   have hg:(0,false)=Ha b l 0:=hg
   exact AG hc [.tmp 4,.tmp 5] rfl (.inl rfl) (by simp) (by rw[←hg];first|exact eR|refine Al ?_)
def CQ (h:AP) (a b:Int):Int×Bool:=Ha (FE (BO h a) (BO h b)) h.1 0
def Ov:Ae:={ ins:=[TH,T3,T3],pre:=fun(h,a,b,_)=>((0:Int)≤a∧a<(List.length (h:AP).1:Int))∧((0:Int)≤b∧b<(List.length (h:AP).1:Int))∧(∀x∈(h:AP).1,x.2.1.length≤100000),out:=fun(h,a,b,_)=>[.p T3 (CQ h a b).1,.p .bool (CQ h a b).2],lend:=true }
attribute [local go_sem] Ov
theorem rG:Ag Tryz.prog 67 Ov:=by
 refine AR Tryz.func67 (by kernel_rfl) rfl Tryz.ntmps67 (by decide) (by kernel_rfl) (AF [(99,WM),(100,Xj)]) (AD rF (AD Ze AH)) ?_
 rintro w0 O0 ⟨⟨ht,hf⟩,a,b,u⟩ hc-⟨ha,hb,hx⟩
 simp only[Ov,AN]
 have hcd:∀x:Int,0≤x∧x<(List.length ht:Int)→List.length (BO (ht,hf) x)≤100000:=fun x h1=>by
  have h2:Int.toNat x<List.length ht:=(Int.toNat_lt h1.1).2 h1.2
  exact hx _ (AE (ht:List IP) UX h2)
 repeat'(first|exact trivial|refine eS rfl ?_|refine AB ?_|refine rX [0,1,2,3,6,7] hc ?_ ?_|refine rC ?_ ?_<;>intro AA<;>try(cases AA;done))
 ·refine⟨ha,hb,?_⟩
  exact hcd a ha
 ·exact AG hc [.tmp 6,.tmp 7] rfl (.inl rfl) (by simp) (by unfold CQ BO;first|exact eR|refine Al ?_)
end
/- Types at paths: path.Type, quick.Vector; of the references: At, Type, Vector, SameInts. -/
section
attribute [local go_sem] atS Ou
theorem Uj (e:Int):∀l:List (Int×Int),TT l e=Fv l e
 | []=>rfl
 | a :: l=>by unfold TT Fv;rw[Uj e l]
theorem Nf {f:List AL} (hf:BA f):∀(p:List Int) (n:Int),0≤n→n<(f.length:Int)→(Gz f n p).2=true→0≤(Gz f n p).1∧(Gz f n p).1<(f.length:Int)
 | [],n,h0,h1,_=>⟨h0,h1⟩
 | e :: p,n,h0,h1,h=>by
  unfold Gz at h ⊢
  split
  ·rename_i hs
   rw[if_pos hs]at h
   obtain⟨a,ha,-,e2⟩:=Sj hs
   have:=D6 hf ha
   rw[e2]at this
   exact Nf hf p _ this.1 this.2 h
  ·rename_i hs
   rw[if_neg hs]at h
   cases h
def x5:Ae:={ ins:=[HS,Bz],pre:=fun(f,_,_)=>BA f∧0<List.length f,out:=fun(f,p,_)=>[.p T3 (Gz f 0 p).1,.p .bool (Gz f 0 p).2] }
attribute [local go_sem] x5
theorem A0b:Ag Tryz.prog 57 x5:=by
 refine AR Tryz.func57 (by kernel_rfl) rfl Tryz.ntmps57 (by decide) (by kernel_rfl) (AF [(83,Ou)]) (AD rE AH) ?_
 rintro w0 O0 ⟨f,p,u⟩ hc ⟨-,⟨hpl,-⟩,-⟩ ⟨hf,h0⟩
 simp only[AO]at hpl
 simp only[x5,AN]
 repeat'(first|exact trivial|refine eS rfl ?_|refine AB ?_|refine rX [0,1,2,4,5,6,7,8,9,13,27] hc ?_ ?_|refine rC ?_ ?_<;>intro AA<;>try(cases AA;done))
 refine AK (ι:={s:Nat×Int//s.1≤p.length∧(0≤s.2∧s.2<(f.length:Int))∧Gz f 0 p=Gz f s.2 (p.drop s.1)}) (fun s=>⟨[(1,.p Bz p),(2,.bp 2 [] 0),(6,.p (.int .i64) s.1.2),(7,.p (.int .i64) (s.1.1:Int))],[(2,.box 24 true [.p MZ f])]⟩) (fun s=>p.length-s.1.1) ⟨(0,0),Nat.zero_le _,⟨Int.le_refl 0,by show (0:Int)<_;omega⟩,rfl⟩ (AC [(2,.nm 2)] rfl rfl ?_ ?_) (fun s=>?_)
 ·first|exact eN|refine eM ?_
 ·first|exact eN|refine eM ?_
 ·obtain⟨⟨k,n⟩,hk,hn,he⟩:=s
  simp only at hk hn he ⊢
  have htar:=fun e=>Uj e (f.getD n.toNat (0,[])).2
  repeat'(first|exact trivial|refine eS rfl ?_|refine AB ?_|refine rX [0,1,2,4,5,6,7,8,9,13,27] hc ?_ ?_|refine rC ?_ ?_<;>intro AA<;>try(cases AA;done))
  ·exact⟨AA,hn⟩
  ·have hk2:k<p.length:=by exact eV
   rw[htar]at AA
   have h1:Gz f 0 p=(0,false):=by
    rw[he,Da hk2]
    simp only[Gz]
    rw[if_neg (by rw[Bk,AA];simp)]
   exact AG hc [.tmp 4,.tmp 5] rfl (.inl rfl) (by simp) (by rw[h1];first|exact eR|refine Al ?_)
  ·exact eV
  ·have hk2:k<p.length:=by exact eV
   rw[htar]at AA
   have h1:=he
   rw[Da hk2]at h1
   simp only[Gz]at h1
   rw[if_pos AA]at h1
   obtain⟨a,ha,-,e2⟩:=Sj AA
   have hr:=D6 hf ha
   rw[e2]at hr
   refine⟨⟨(k+1,(Fv (f.getD n.toNat (0,[])).2 (p.getD k 0)).1),hk2,hr,h1⟩,by simp only;omega,AC [(2,.nm 2)] rfl rfl ?_ ?_⟩
   ·first|exact eN|refine eM ?_
   ·simp only
    rw[←htar]
    first|exact eN|refine eM ?_
  ·have hk2:p.drop k=[]:=List.drop_eq_nil_of_le (Int.ofNat_le.1 AA)
   rw[hk2]at he
   exact AG hc [.tmp 4,.tmp 5] rfl (.inl rfl) (by simp) (by rw[he];first|exact eR|refine Al ?_;exact⟨rfl,rfl⟩)
def JB (f:List AL) (p:List Int):Int×Bool:=if (Gz f 0 p).2=true then ((f.getD (Gz f 0 p).1.toNat (0,[])).1,true) else (0,false)
def Li:Ae:={ ins:=[HS,Bz],pre:=fun(f,_,_)=>BA f∧0<List.length f,out:=fun(f,p,_)=>[.p T3 (JB f p).1,.p .bool (JB f p).2],lend:=true }
attribute [local go_sem] Li
theorem iR:Ag Tryz.prog 33 Li:=by
 refine AR Tryz.func33 (by kernel_rfl) rfl Tryz.ntmps33 (by decide) (by kernel_rfl) (AF [(56,atS)]) (AD A2n AH) ?_
 rintro w0 O0 ⟨f,p,u⟩ hc-⟨hf,h0⟩
 simp only[Li,AN]
 have hr:=Nf hf p 0 (Int.le_refl 0) (by omega)
 repeat'(first|exact trivial|refine eS rfl ?_|refine AB ?_|refine rX [0,1,2,4,5,6,7,15] hc ?_ ?_|refine rC ?_ ?_<;>intro AA<;>try(cases AA;done))
 ·exact⟨hf,h0⟩
 ·exact AG hc [.tmp 4,.tmp 5] rfl (.inl rfl) (by simp) (by unfold JB;rw[AA,if_neg (by simp)];first|exact eR|refine Al ?_)
 ·exact hr AA
 ·exact AG hc [.tmp 4,.tmp 5] rfl (.inl rfl) (by simp) (by unfold JB;rw[AA,if_pos rfl];first|exact eR|refine Al ?_)
def rH:Ae:=Li
attribute [local go_sem] rH
theorem x6:Ag Tryz.prog 34 Li:=by
 refine AR Tryz.func34 (by kernel_rfl) rfl Tryz.ntmps34 (by decide) (by kernel_rfl) (AF [(57,x5)]) (AD A0b AH) ?_
 rintro w0 O0 ⟨f,p,u⟩ hc-⟨hf,h0⟩
 simp only[Li,AN]
 have hr:=Nf hf p 0 (Int.le_refl 0) (by omega)
 repeat'(first|exact trivial|refine eS rfl ?_|refine AB ?_|refine rX [0,1,2,4,5,6,7,15] hc ?_ ?_|refine rC ?_ ?_<;>intro AA<;>try(cases AA;done))
 ·exact⟨hf,h0⟩
 ·exact AG hc [.tmp 4,.tmp 5] rfl (.inl rfl) (by simp) (by unfold JB;rw[AA,if_neg (by simp)];first|exact eR|refine Al ?_)
 ·exact hr AA
 ·exact AG hc [.tmp 4,.tmp 5] rfl (.inl rfl) (by simp) (by unfold JB;rw[AA,if_pos rfl];first|exact eR|refine Al ?_)
def TU (f:List AL) (ps:List (List Int)):List Int:=ps.map fun p=>if (JB f p).2=true then (JB f p).1 else -1
theorem lR (f:List AL) {ps:List (List Int)} {k:Nat} (h:k<ps.length):TU f (ps.take (k+1))=TU f (ps.take k)++[if (JB f (ps.getD k [])).2=true then (JB f (ps.getD k [])).1 else -1]:=by
 unfold TU
 rw[Ab ps [] h,List.map_append]
 rfl
def lS:Ae:={ ins:=[HS,IJ],pre:=fun(f,ps,_)=>BA f∧0<List.length f∧List.length ps≤1000,out:=fun(f,ps,_)=>[.p Bz (TU f ps)] }
attribute [local go_sem] lS
theorem A0c:Ag Tryz.prog 14 lS:=by
 refine AR Tryz.func14 (by kernel_rfl) rfl Tryz.ntmps14 (by decide) (by kernel_rfl) (AF [(33,Li)]) (AD iR AH) ?_
 rintro w0 O0 ⟨f,ps,u⟩ hc-⟨hf,h0,hpl⟩
 simp only[lS,AN]
 repeat'(first|exact trivial|refine eS rfl ?_|refine AB ?_|refine rX [0,1,2,4,5,7,8,9,10,11,12,13,23] hc ?_ ?_|refine rC ?_ ?_<;>intro AA<;>try(cases AA;done))
 refine AK (ι:={k:Nat//k≤List.length ps}) (fun k=>⟨[(2,.bp 2 [] 0),(10,.p IJ ps),(11,.p (.int .i64) (List.length ps:Int)),(12,.p (.int .i64) (k.1:Int)),(5,.sr 27 T3 0 k.1)],[(2,.box 24 true [.p MZ f]),(27,.arr 3 T3 (TU f ((ps:List (List Int)).take k.1)))]⟩) (fun k=>List.length ps-k.1) ⟨0,Nat.zero_le _⟩ (AC [(2,.nm 2),(27,.nil)] rfl rfl ?_ ?_) (fun k=>?_)
 ·first|exact eN|refine eM ?_
  rfl
 ·first|exact eN|refine eM ?_
 ·obtain⟨k,hk⟩:=k
  have hvl:(TU f ((ps:List (List Int)).take k)).length=k:=by unfold TU;rw[List.length_map,List.length_take];omega
  have hvs:=fun(h:k<List.length ps)=>lR f h
  have htk:(TU f ((ps:List (List Int)).take k)).take k=TU f ((ps:List (List Int)).take k):=List.take_of_length_le (by omega)
  repeat'(first|exact trivial|refine eS rfl ?_|refine AB ?_|refine rX [0,1,2,4,5,7,8,9,10,11,12,13,23] hc ?_ ?_|refine rC ?_ ?_<;>intro AA<;>try(cases AA;done))
  ·exact AA
  ·exact⟨hf,h0⟩
  ·simp only[AO];dsimp only[Ty.den]at *;omega
  ·exact eV
  ·have hkl:k<List.length ps:=by exact eV
   have hvs:=hvs hkl
   rw[AA,if_neg (by simp)]at hvs
   refine⟨⟨k+1,hkl⟩,by simp only;omega,AC [(2,.nm 2),(27,.nm 27)] rfl rfl ?_ ?_⟩
   ·simp only
    rw[hvs]
    first|exact eN|refine eM ?_
    all_goals rw[htk]
   ·first|exact eN|refine eM ?_
  ·simp only[AO];dsimp only[Ty.den]at *;omega
  ·exact eV
  ·have hkl:k<List.length ps:=by exact eV
   have hvs:=hvs hkl
   rw[AA,if_pos rfl]at hvs
   refine⟨⟨k+1,hkl⟩,by simp only;omega,AC [(2,.nm 2),(27,.nm 27)] rfl rfl ?_ ?_⟩
   ·simp only
    rw[hvs]
    first|exact eN|refine eM ?_
    all_goals rw[htk]
   ·first|exact eN|refine eM ?_
  ·have hkl:(ps:List (List Int)).take k=ps:=List.take_of_length_le (by exact eV)
   rw[hkl]at htk ⊢
   exact AG hc [.tmp 4] rfl (.inl rfl) (by simp) (by first|exact eR|refine Al ?_;exact htk)
def Ow:Ae:={ ins:=[Bz,Bz],pre:=fun _=>True,out:=fun(a,b,_)=>[.p .bool (decide ((a:List Int)=b))],lend:=true }
attribute [local go_sem] Ow
theorem rI:Ag Tryz.prog 13 Ow:=by
 refine AR Tryz.func13 (by kernel_rfl) rfl Tryz.ntmps13 (by decide) (by kernel_rfl) (AF []) AH ?_
 rintro w0 O0 ⟨a,b,u⟩ hc ⟨⟨hal,-⟩,-⟩ -
 simp only[AO]at hal
 simp only[Ow,AN]
 repeat'(first|exact trivial|refine eS rfl ?_|refine AB ?_|refine rX [0,1,4,5,10,14,25] hc ?_ ?_|refine rC ?_ ?_<;>intro AA<;>try(cases AA;done))
 ·have hne:(a:List Int)≠b:=fun e=>AA (by rw[e])
  exact AG hc [.tmp 4] rfl (.inl rfl) (by simp) (by rw[decide_eq_false hne];first|exact eR|refine Al ?_)
 ·have hlen:List.length a=List.length b:=by
   have:=AA
   simp only[bne_eq_false_iff_eq]at this
   omega
  refine AK (ι:={k:Nat//k≤List.length a∧(a:List Int).take k=(b:List Int).take k}) (fun k=>⟨[(0,.p Bz a),(1,.p Bz b),(5,.p (.int .i64) (k.1:Int))],[]⟩) (fun k=>List.length a-k.1) ⟨0,Nat.zero_le _,rfl⟩ (AC [] rfl rfl ?_ ?_) (fun k=>?_)
  ·first|exact eN|refine eM ?_
  ·first|exact eN|refine eM ?_
  ·obtain⟨k,hk,he⟩:=k
   repeat'(first|exact trivial|refine eS rfl ?_|refine AB ?_|refine rX [0,1,4,5,10,14,25] hc ?_ ?_|refine rC ?_ ?_<;>intro AA<;>try(cases AA;done))
   ·exact⟨by assumption,by rw[←hlen];assumption⟩
   ·have hk2:k<List.length a:=by exact eV
    have hne:(a:List Int)≠b:=fun e=>AA (by rw[e])
    exact AG hc [.tmp 4] rfl (.inl rfl) (by simp) (by rw[decide_eq_false hne];first|exact eR|refine Al ?_)
   ·exact eV
   ·have hk2:k<List.length a:=by exact eV
    refine⟨⟨k+1,hk2,?_⟩,by simp only;omega,AC [] rfl rfl ?_ ?_⟩
    ·have e:List.getD a k 0=List.getD b k 0:=by simpa using AA
     rw[Ab (a:List Int) 0 hk2,Ab (b:List Int) 0 (by omega),he,e]
    ·first|exact eN|refine eM ?_
    ·first|exact eN|refine eM ?_
   ·have hk2:k=List.length a:=by exact eV
    rw[hk2,List.take_length,hlen,List.take_length]at he
    exact AG hc [.tmp 4] rfl (.inl rfl) (by simp) (by rw[decide_eq_true he];first|exact eR|refine Al ?_)
end
/- Functions of grammarlabref11: Types. -/
section
attribute [local go_sem] Ov
def A2o (h:AP) (l:List AL) (c:List Int):Nat→Option (List Int)
 | 0=>some (List.replicate l.length 0)
 | i+1=>match A2o h l c i with
  | none=>none
  | some o=>if (CQ h (o.getD (c.getD i 0).toNat 0) (l.getD i (0,[])).1).2=true then some (o.set (c.getD i 0).toNat (CQ h (o.getD (c.getD i 0).toNat 0) (l.getD i (0,[])).1).1) else none
def rJ (h:AP) (l:List AL) (c:List Int):List Int×Bool:=match A2o h l c l.length with
 | none=>([],false)
 | some o=>((List.range l.length).map fun(k:Nat)=>o.getD (c.getD k 0).toNat 0,true)
def A2U (n:Nat) (c:List Int):Prop:=c.length=n∧∀k:Nat,k<n→0≤c.getD k 0∧c.getD k 0≤(k:Int)∧c.getD (c.getD k 0).toNat 0=c.getD k 0
def A0d:Ae:={ ins:=[TH,MZ,Bz],pre:=fun(h,l,c,_)=>A2U (List.length l) c∧QJ h l∧0<List.length (h:AP).1∧List.length l≤100000∧(∀x∈(h:AP).1,x.2.1.length≤100000),out:=fun(h,l,c,_)=>[.p Bz (rJ h l c).1,.p .bool (rJ h l c).2] }
attribute [local go_sem] A0d
end
/- Functions of grammarlabref11: Quotient. -/
section
attribute [local go_sem] Ou YM
attribute [local go_sem] y3 A2O ne_eq not_false_eq_true
end
/- Plain: grammarlabref11.Close finds the least closed relation. -/
section
inductive EQ (n:Nat) (o:List Int) (W:List (Int×Int)):Int→Int→Prop
 | cls {x y:Int} (x0:0≤x) (x1:x<(n:Int)) (y0:0≤y) (y1:y<(n:Int)) (h:o.getD x.toNat 0=o.getD y.toNat 0):EQ n o W x y
 | wt {x y:Int} (h:(x,y)∈W):EQ n o W x y
 | symm {x y:Int} (h:EQ n o W x y):EQ n o W y x
 | trans {x y z:Int} (h:EQ n o W x y) (g:EQ n o W y z):EQ n o W x z
theorem EQ.mono {n:Nat} {o o':List Int} {W W':List (Int×Int)} (h1:∀x y,0≤x→x<(n:Int)→0≤y→y<(n:Int)→o.getD x.toNat 0=o.getD y.toNat 0→EQ n o' W' x y) (h2:∀x y,(x,y)∈W→EQ n o' W' x y) {x y:Int} (h:EQ n o W x y):EQ n o' W' x y:=by
 induction h with
 | cls x0 x1 y0 y1 h=>exact h1 _ _ x0 x1 y0 y1 h
 | wt h=>exact h2 _ _ h
 | symm _ ih=>exact .symm ih
 | trans _ _ ih1 ih2=>exact .trans ih1 ih2
theorem EQ.nil {n:Nat} {o:List Int} {x y:Int} (h:EQ n o [] x y):o.getD x.toNat 0=o.getD y.toNat 0:=by
 induction h with
 | cls _ _ _ _ h=>exact h
 | wt h=>cases h
 | symm _ ih=>exact ih.symm
 | trans _ _ ih1 ih2=>exact ih1.trans ih2
section
variable {h:AP} {N:List AL} {P:List (Int×Int)} {o:List Int} {ar:List (List (Int×Int))} {W:List (Int×Int)} {w:Int×Int}
end
end
/- Plain: the types of classes, the arcs of classes; grammarlabref11.Unify and unify.Unify compute one structure. -/
section
def WN (h:AP):Prop:=∀t∈h.1,y8 t.2.1
theorem Sk {b:List Int}:∀ {l:List IP} {k:Nat},(Ha b l k).2=true→∃j:Nat,j<l.length∧(Ha b l k).1=((k+j:Nat):Int)∧(l.getD j UX).2.1=b
 | [],k,h=>by cases h
 | t :: r,k,h=>by
  unfold Ha at h ⊢
  by_cases e:t.2.1=b
  ·rw[if_pos e]
   exact⟨0,by simp,by simp,by simpa using e⟩
  ·rw[if_neg e]at h ⊢
   obtain⟨j,h1,h2,h3⟩:=Sk h
   exact⟨j+1,by simp only[List.length_cons];omega,by rw[h2];congr 1;omega,by simpa using h3⟩
theorem Yc {b:List Int}:∀ {l:List IP} {k:Nat},(∃t∈l,t.2.1=b)→(Ha b l k).2=true
 | [],k,⟨t,ht,_⟩=>by cases ht
 | t :: r,k,⟨u,hu,e⟩=>by
  unfold Ha
  by_cases e2:t.2.1=b
  ·rw[if_pos e2]
  ·rw[if_neg e2]
   rcases List.mem_cons.1 hu with rfl|hu
   ·exact absurd e e2
   ·exact Yc ⟨u,hu,e⟩
theorem lT {h:AP} (hk:lE h) (hn:WN h) {a b:Int} (a0:0≤a) (a1:a<(h.1.length:Int)) (b0:0≤b) (b1:b<(h.1.length:Int)) :
  ((CQ h a b).2=true→0≤(CQ h a b).1∧(CQ h a b).1<(h.1.length:Int)∧∀i,hJ h (CQ h a b).1 i=(hJ h a i&&hJ h b i))∧((∃i,hJ h a i=true∧hJ h b i=true)→(CQ h a b).2=true):=by
 have wa:=hk.1.wds _ (B3 a0 a1)
 have wb:=hk.1.wds _ (B3 b0 b1)
 refine⟨fun hm=>?_,fun hi=>?_⟩
 ·obtain⟨j,h1,h2,h3⟩:=Sk hm
  have h2:(CQ h a b).1=((0+j:Nat):Int):=h2
  refine⟨by omega,by omega,fun i=>?_⟩
  have e:BO h (CQ h a b).1=FE (BO h a) (BO h b):=by
   rw[←h3]
   unfold BO
   rw[h2]
   simp
  unfold hJ
  rw[e,Qb wa wb]
 ·obtain⟨t,ht,e⟩:=hk.1.meet _ (B3 a0 a1) _ (B3 b0 b1) hi
  obtain⟨x,hx,rfl⟩:=List.mem_map.1 ht
  exact Yc ⟨x,hx,qZ (hk.1.wds _ ht) (V0 wa wb) (hn x hx) (MT _) fun i=>by rw[e i,Qb wa wb]⟩
theorem lU {h:AP} (hk:lE h) (hn:WN h) {a b:Int} (a0:0≤a) (a1:a<(h.1.length:Int)) (b0:0≤b) (b1:b<(h.1.length:Int)) :
  ((CQ h a b).2=true→0≤(CQ h a b).1∧(CQ h a b).1<(h.1.length:Int)∧HX h a (CQ h a b).1=true∧HX h b (CQ h a b).1=true) ∧
  ∀x,0≤x→x<(h.1.length:Int)→HX h a x=true→HX h b x=true→(CQ h a b).2=true∧HX h (CQ h a b).1 x=true:=by
 obtain⟨m1,m2⟩:=lT hk hn a0 a1 b0 b1
 refine⟨fun e=>?_,fun x x0 x1 hax hbx=>?_⟩
 ·obtain⟨q0,q1,q2⟩:=m1 e
  refine⟨q0,q1,(Cu hk a0 a1 q0 q1).2 fun i hi=>?_,(Cu hk b0 b1 q0 q1).2 fun i hi=>?_⟩
  ·rw[q2 i,Bool.and_eq_true]at hi;exact hi.1
  ·rw[q2 i,Bool.and_eq_true]at hi;exact hi.2
 ·have ga:=(Cu hk a0 a1 x0 x1).1 hax
  have gb:=(Cu hk b0 b1 x0 x1).1 hbx
  obtain⟨i,hi⟩:=hk.1.some _ (B3 x0 x1)
  have e:=m2 ⟨i,ga i hi,gb i hi⟩
  obtain⟨q0,q1,q2⟩:=m1 e
  refine⟨e,(Cu hk q0 q1 x0 x1).2 fun j hj=>?_⟩
  rw[q2 j,Bool.and_eq_true]
  exact⟨ga j hj,gb j hj⟩
section
variable {h:AP} {N:List AL} {c:List Int}
end
/-! The arcs of the classes -/
end
/- Vectors that fit: quick.Fits; of grammarlabref16: compatible, Fits. -/
section
attribute [local go_sem] SI Ov
def Fx (h:AP) (a b:Int):Bool:=decide (a<0)||decide (b<0)||(DX h a b).2
def Pt (h:AP) (a b:Int):Bool:=decide (a<0)||decide (b<0)||(CQ h a b).2
def rK (h:AP):Prop:=h.1.length≤100000∧∀x∈h.1,x.2.1.length≤100000
def y9 (h:AP) (l:List Int):Prop:=∀x∈l,x<(h.1.length:Int)
def Ng:Ae:={ ins:=[TH,T3,T3],pre:=fun(h,a,b,_)=>rK h∧a<(List.length (h:AP).1:Int)∧b<(List.length (h:AP).1:Int),out:=fun(h,a,b,_)=>[.p .bool (Pt h a b)],lend:=true }
attribute [local go_sem] Ng
theorem lV:Ag Tryz.prog 38 Ng:=by
 refine AR Tryz.func38 (by kernel_rfl) rfl Tryz.ntmps38 (by decide) (by kernel_rfl) (AF [(67,Ov)]) (AD rG AH) ?_
 rintro w0 O0 ⟨⟨ht,hf⟩,a,b,u⟩ hc-⟨hw,ha,hb⟩
 simp only[Ng,AN]
 repeat'(first|exact trivial|refine eS rfl ?_|refine AB ?_|refine rX [0,1,2,3,6,8,14] hc ?_ ?_|refine rC ?_ ?_<;>intro AA<;>try(cases AA;done))
 ·have h1:Pt (ht,hf) a b=true:=by
   unfold Pt
   rcases AA with h|h
   ·rw[decide_eq_true h];rfl
   ·rw[decide_eq_true h,Bool.or_true];rfl
  exact AG hc [.tmp 6] rfl (.inl rfl) (by simp) (by rw[h1];first|exact eR|refine Al ?_)
 ·exact⟨⟨AA.1,ha⟩,⟨AA.2,hb⟩,hw.2⟩
 ·have h1:Pt (ht,hf) a b=(CQ (ht,hf) a b).2:=by
   unfold Pt
   rw[decide_eq_false (Int.not_lt.2 AA.1),decide_eq_false (Int.not_lt.2 AA.2)]
   rfl
  exact AG hc [.tmp 6] rfl (.inl rfl) (by simp) (by rw[h1];first|exact eR|refine Al ?_)
def JV (c:Int→Int→Bool):List Int→List Int→Bool
 | x :: a,y :: b=>c x y&&JV c a b
 | _,_=>true
theorem MU (c:Int→Int→Bool) {a b:List Int} {k:Nat} (h1:k<a.length) (h2:k<b.length):JV c (a.drop k) (b.drop k)=(c (a.getD k 0) (b.getD k 0)&&JV c (a.drop (k+1)) (b.drop (k+1))):=by
 rw[Da h1,Da h2]
 rfl
theorem lW (c:Int→Int→Bool) {a b:List Int} {k:Nat} (h:a.length≤k∨b.length≤k):JV c (a.drop k) (b.drop k)=true:=by
 rcases h with h|h
 ·rw[List.drop_eq_nil_of_le h]
  rfl
 ·rw[List.drop_eq_nil_of_le h]
  cases a.drop k<;>rfl
def Ox:Ae:={ ins:=[TH,Bz,Bz],pre:=fun(h,a,b,_)=>rK h∧y9 h a∧y9 h b,out:=fun(h,a,b,_)=>[.p .bool (JV (Fx h) a b)],lend:=true }
attribute [local go_sem] Ox
theorem rN:Ag Tryz.prog 18 Ox:=by
 refine AR Tryz.func18 (by kernel_rfl) rfl Tryz.ntmps18 (by decide) (by kernel_rfl) (AF [(37,SI)]) (AD gY AH) ?_
 rintro w0 O0 ⟨⟨ht,hf⟩,a,b,u⟩ hc ⟨-,⟨hla,-⟩,⟨hlb,-⟩,-⟩ ⟨hw,ha,hb⟩
 simp only[AO]at hla hlb
 simp only[Ox,AN]
 repeat'(first|exact trivial|refine eS rfl ?_|refine AB ?_|refine rX [0,1,2,3,6,7,9,14,15,16,29,44] hc ?_ ?_|refine rC ?_ ?_<;>intro AA<;>try(cases AA;done))
 rw[show (if (List.length b:Int)<(List.length a:Int) then (List.length b:Int) else (List.length a:Int))=((min (List.length a) (List.length b):Nat):Int) by split<;>omega]
 refine AK (ι:={k:Nat//k≤List.length a∧k≤List.length b∧JV (Fx (ht,hf)) a b=JV (Fx (ht,hf)) ((a:List Int).drop k) ((b:List Int).drop k)}) (fun k=>⟨[(1,.p Bz a),(2,.p Bz b),(3,.bp 3 [] 0),(14,.p (.int .i64) ((min (List.length a) (List.length b):Nat):Int)),(15,.p (.int .i64) (k.1:Int))],[(3,.box 37 true [.p WZ ht,.p Xa hf])]⟩) (fun k=>List.length a-k.1) ⟨0,Nat.zero_le _,Nat.zero_le _,rfl⟩ (AC [(3,.nm 3)] rfl rfl ?_ ?_) (fun k=>?_)
 ·first|exact eN|refine eM ?_
 ·first|exact eN|refine eM ?_
 ·obtain⟨k,hka,hkb,he⟩:=k
  repeat'(first|exact trivial|refine eS rfl ?_|refine AB ?_|refine rX [0,1,2,3,6,7,9,14,15,16,29,44] hc ?_ ?_|refine rC ?_ ?_<;>intro AA<;>try(cases AA;done))
  ·have hk1:k<List.length a:=by omega
   have hk2:k<List.length b:=by omega
   exact⟨Int.ofNat_lt.2 hk1,fun _=>Int.ofNat_lt.2 hk2⟩
  ·exact eV
  ·have hk1:k<List.length a:=by omega
   have hk2:k<List.length b:=by omega
   have hcq:Fx (ht,hf) (List.getD a k 0) (List.getD b k 0)=true:=by
    unfold Fx
    rcases AA with h|h
    ·rw[decide_eq_true h];rfl
    ·rw[decide_eq_true h,Bool.or_true];rfl
   refine⟨⟨k+1,hk1,hk2,?_⟩,by simp only;omega,AC [(3,.nm 3)] rfl rfl ?_ ?_⟩
   ·rw[he,MU _ hk1 hk2,hcq,Bool.true_and]
   ·first|exact eN|refine eM ?_
   ·first|exact eN|refine eM ?_
  ·have hk1:k<List.length a:=by omega
   have hk2:k<List.length b:=by omega
   exact⟨Int.ofNat_lt.2 hk1,Int.ofNat_lt.2 hk2,⟨AA.1,ha _ (Ct hk1)⟩,⟨AA.2,hb _ (Ct hk2)⟩,hw⟩
  ·have hk1:k<List.length a:=by omega
   have hk2:k<List.length b:=by omega
   rename_i hp
   have hcq:Fx (ht,hf) (List.getD a k 0) (List.getD b k 0)=(DX (ht,hf) (List.getD a k 0) (List.getD b k 0)).2:=by
    unfold Fx
    rw[decide_eq_false (Int.not_lt.2 hp.1),decide_eq_false (Int.not_lt.2 hp.2)]
    rfl
   rw[MU _ hk1 hk2,hcq,AA,Bool.false_and]at he
   exact AG hc [.tmp 6] rfl (.inl rfl) (by simp) (by rw[he];first|exact eR|refine Al ?_)
  ·exact eV
  ·have hk1:k<List.length a:=by omega
   have hk2:k<List.length b:=by omega
   rename_i hp
   have hcq:Fx (ht,hf) (List.getD a k 0) (List.getD b k 0)=(DX (ht,hf) (List.getD a k 0) (List.getD b k 0)).2:=by
    unfold Fx
    rw[decide_eq_false (Int.not_lt.2 hp.1),decide_eq_false (Int.not_lt.2 hp.2)]
    rfl
   refine⟨⟨k+1,hk1,hk2,?_⟩,by simp only;omega,AC [(3,.nm 3)] rfl rfl ?_ ?_⟩
   ·rw[he,MU _ hk1 hk2,hcq,AA,Bool.true_and]
   ·first|exact eN|refine eM ?_
   ·first|exact eN|refine eM ?_
  ·have hh:List.length a≤k∨List.length b≤k:=by omega
   rw[lW _ hh]at he
   exact AG hc [.tmp 6] rfl (.inl rfl) (by simp) (by rw[he];first|exact eR|refine Al ?_)
end
/- The order of paths: slices.Compare, quick.order; of grammarlabref16: Less, SamePath, SamePaths. -/
section
attribute [local go_sem] DB
def EZ:List Int→List Int→Int
 | [],[]=>0
 | [],_ :: _=>-1
 | _ :: _,[]=>1
 | x :: p,y :: q=>if Ej x y=0 then EZ p q else Ej x y
def Ba (p q:List Int):Int:=if Ej (p.length:Int) (q.length:Int)=0 then EZ p q else Ej (p.length:Int) (q.length:Int)
theorem CA {a b:Int}:Ej a b=0↔a=b:=by
 unfold Ej
 split
 ·constructor
  ·intro h;omega
  ·intro h;omega
 ·split
  ·constructor
   ·intro h;omega
   ·intro h;omega
  ·exact⟨fun _=>by omega,fun _=>rfl⟩
theorem Oy (a b:Int):Ej b a=- Ej a b:=by
 unfold Ej
 split<;>split<;>(try split)<;>omega
theorem Cg {a b:Int}:Ej a b<0↔a<b:=by
 unfold Ej
 split
 ·exact⟨fun _=>by assumption,fun _=>by omega⟩
 ·split
  ·exact⟨fun h=>by omega,fun h=>by omega⟩
  ·exact⟨fun h=>by omega,fun h=>by omega⟩
theorem Uk:∀ {p q:List Int},EZ p q=0↔p=q
 | [],[]=>⟨fun _=>rfl,fun _=>rfl⟩
 | [],_ :: _=>⟨fun h=>by simp[EZ]at h,fun h=>by cases h⟩
 | _ :: _,[]=>⟨fun h=>by simp[EZ]at h,fun h=>by cases h⟩
 | x :: p,y :: q=>by
  unfold EZ
  split
  ·rename_i h
   rw[Uk,CA.1 h]
   exact⟨fun e=>by rw[e],fun e=>(List.cons.inj e).2⟩
  ·rename_i h
   exact⟨fun e=>absurd e h,fun e=>absurd (CA.2 (List.cons.inj e).1) h⟩
theorem Ul:∀(p q:List Int),EZ q p=- EZ p q
 | [],[]=>rfl
 | [],_ :: _=>rfl
 | _ :: _,[]=>rfl
 | x :: p,y :: q=>by
  unfold EZ
  rw[Oy x y]
  by_cases h:Ej x y=0
  ·rw[if_pos h,if_pos (by omega),Ul p q]
  ·rw[if_neg h,if_neg (by omega)]
theorem Sl:∀ {p q r:List Int},EZ p q<0→EZ q r<0→EZ p r<0
 | [],[],_,h,_=>by simp[EZ]at h
 | [],_ :: _,[],_,h=>by simp[EZ]at h
 | [],_ :: _,_ :: _,_,_=>by simp[EZ]
 | _ :: _,[],_,h,_=>by simp[EZ]at h
 | _ :: _,_ :: _,[],_,h=>by simp[EZ]at h
 | x :: p,y :: q,z :: r,h1,h2=>by
  unfold EZ at h1 h2 ⊢
  by_cases e1:Ej x y=0
  ·rw[if_pos e1]at h1
   have:=CA.1 e1
   subst this
   by_cases e2:Ej x z=0
   ·rw[if_pos e2]at h2 ⊢
    exact Sl h1 h2
   ·rw[if_neg e2]at h2 ⊢
    exact h2
  ·rw[if_neg e1]at h1
   have h1:=Cg.1 h1
   by_cases e2:Ej y z=0
   ·have:=CA.1 e2
    subst this
    rw[if_neg e1]
    exact Cg.2 h1
   ·rw[if_neg e2]at h2
    have h2:=Cg.1 h2
    have h3:x<z:=by omega
    rw[if_neg (fun e=>by have:=CA.1 e;omega)]
    exact Cg.2 h3
theorem EE {p q:List Int}:Ba p q=0↔p=q:=by
 unfold Ba
 split
 ·exact Uk
 ·rename_i h
  exact⟨fun e=>absurd e h,fun e=>absurd (CA.2 (by rw[e])) h⟩
theorem FZ (p q:List Int):Ba q p=- Ba p q:=by
 unfold Ba
 rw[Oy (p.length:Int) (q.length:Int),Ul p q]
 by_cases h:Ej (p.length:Int) (q.length:Int)=0
 ·rw[if_pos h,if_pos (by omega)]
 ·rw[if_neg h,if_neg (by omega)]
theorem Sm {p q r:List Int} (h1:Ba p q<0) (h2:Ba q r<0):Ba p r<0:=by
 unfold Ba at h1 h2 ⊢
 by_cases e1:Ej (p.length:Int) (q.length:Int)=0
 ·rw[if_pos e1]at h1
  rw[CA.1 e1]
  by_cases e2:Ej (q.length:Int) (r.length:Int)=0
  ·rw[if_pos e2]at h2 ⊢
   exact Sl h1 h2
  ·rw[if_neg e2]at h2 ⊢
   exact h2
 ·rw[if_neg e1]at h1
  have h1:=Cg.1 h1
  by_cases e2:Ej (q.length:Int) (r.length:Int)=0
  ·rw[←CA.1 e2,if_neg e1]
   exact Cg.2 h1
  ·rw[if_neg e2]at h2
   have h2:=Cg.1 h2
   have h3:(p.length:Int)<(r.length:Int):=by omega
   rw[if_neg (fun e=>by have:=CA.1 e;omega)]
   exact Cg.2 h3
theorem LH {p q:List Int} {k:Nat} (h1:k<p.length) (h2:k<q.length):EZ (p.drop k) (q.drop k)=if Ej (p.getD k 0) (q.getD k 0)=0 then EZ (p.drop (k+1)) (q.drop (k+1)) else Ej (p.getD k 0) (q.getD k 0):=by
 rw[Da h1,Da h2]
 rfl
def WO:Ae:={ ins:=[Bz,Bz],pre:=fun _=>True,out:=fun(p,q,_)=>[.p T3 (EZ p q)],lend:=true }
attribute [local go_sem] WO
theorem rO:Ag Tryz.prog 72 WO:=by
 refine AR Tryz.func72 (by kernel_rfl) rfl Tryz.ntmps72 (by decide) (by kernel_rfl) (AF [(48,DB)]) (AD Ht AH) ?_
 rintro w0 O0 ⟨p,q,u⟩ hc ⟨⟨hlp,-⟩,⟨hlq,-⟩,-⟩ -
 simp only[AO]at hlp hlq
 simp only[WO,AN]
 repeat'(first|exact trivial|refine eS rfl ?_|refine AB ?_|refine rX [0,1,4,5,6,7,8,9,10,11,12,19,28,35] hc ?_ ?_|refine rC ?_ ?_<;>intro AA<;>try(cases AA;done))
 refine AK (ι:={k:Nat//k≤List.length p∧k≤List.length q∧EZ p q=EZ ((p:List Int).drop k) ((q:List Int).drop k)}) (fun k=>⟨[(0,.p Bz p),(1,.p Bz q),(9,.p Bz p),(10,.p (.int .i64) (List.length p:Int)),(11,.p (.int .i64) (k.1:Int))],[]⟩) (fun k=>List.length p-k.1) ⟨0,Nat.zero_le _,Nat.zero_le _,rfl⟩ (AC [] rfl rfl ?_ ?_) (fun k=>?_)
 ·first|exact eN|refine eM ?_
 ·first|exact eN|refine eM ?_
 ·obtain⟨k,hk1,hk2,he⟩:=k
  repeat'(first|exact trivial|refine eS rfl ?_|refine AB ?_|refine rX [0,1,4,5,6,7,8,9,10,11,12,19,28,35] hc ?_ ?_|refine rC ?_ ?_<;>intro AA<;>try(cases AA;done))
  ·exact AA
  ·have hpk:k<List.length p:=by exact eV
   have hq:List.drop k (q:List Int)=[]:=List.drop_eq_nil_of_le (by exact eV)
   have h1:EZ p q=1:=by
    rw[he,hq,Da hpk]
    rfl
   exact AG hc [.tmp 4] rfl (.inl rfl) (by simp) (by rw[h1];first|exact eR|refine Al ?_)
  ·exact AA
  ·have hpk:k<List.length p:=by exact eV
   have hqk:k<List.length q:=by exact eV
   rw[LH hpk hqk,if_neg AA]at he
   exact AG hc [.tmp 4] rfl (.inl rfl) (by simp) (by rw[he];first|exact eR|refine Al ?_)
  ·exact eV
  ·have hpk:k<List.length p:=by exact eV
   have hqk:k<List.length q:=by exact eV
   rw[LH hpk hqk,if_pos (by simpa using AA)]at he
   refine⟨⟨k+1,hpk,hqk,he⟩,by simp only;omega,AC [] rfl rfl ?_ ?_⟩
   ·first|exact eN|refine eM ?_
   ·first|exact eN|refine eM ?_
  ·have hp:List.drop k (p:List Int)=[]:=List.drop_eq_nil_of_le (by exact eV)
   have h1:EZ p q=-1:=by
    rw[he,hp,Da (show k<List.length q by omega)]
    rfl
   exact AG hc [.tmp 4] rfl (.inl rfl) (by simp) (by rw[h1];first|exact eR|refine Al ?_)
  ·have hp:List.drop k (p:List Int)=[]:=List.drop_eq_nil_of_le (by exact eV)
   have hq:List.drop k (q:List Int)=[]:=List.drop_eq_nil_of_le (by omega)
   have h1:EZ p q=0:=by
    rw[he,hp,hq]
    rfl
   exact AG hc [.tmp 4] rfl (.inl rfl) (by simp) (by rw[h1];first|exact eR|refine Al ?_)
def JC:Ae:={ ins:=[Bz,Bz],pre:=fun _=>True,out:=fun(p,q,_)=>[.p T3 (Ba p q)],lend:=true }
attribute [local go_sem] JC
theorem Um:Ag Tryz.prog 43 JC:=by
 refine AR Tryz.func43 (by kernel_rfl) rfl Tryz.ntmps43 (by decide) (by kernel_rfl) (AF [(48,DB),(72,WO)]) (AD Ht (AD rO AH)) ?_
 rintro w0 O0 ⟨p,q,u⟩ hc - -
 simp only[JC,AN]
 repeat'(first|exact trivial|refine eS rfl ?_|refine AB ?_|refine rX [0,1,4,5,12] hc ?_ ?_|refine rC ?_ ?_<;>intro AA<;>try(cases AA;done))
 ·have h1:Ba p q=Ej (List.length p:Int) (List.length q:Int):=if_neg AA
  exact AG hc [.tmp 4] rfl (.inl rfl) (by simp) (by rw[h1];first|exact eR|refine Al ?_)
 ·have h1:Ba p q=EZ p q:=if_pos (by simpa using AA)
  exact AG hc [.tmp 4] rfl (.inl rfl) (by simp) (by rw[h1];first|exact eR|refine Al ?_)
def Un:Ae:={ ins:=[Bz,Bz],pre:=fun _=>True,out:=fun(p,q,_)=>[.p .bool (decide (Ba p q<0))],lend:=true }
attribute [local go_sem] Un
theorem iT:Ag Tryz.prog 68 Un:=by
 refine AR Tryz.func68 (by kernel_rfl) rfl Tryz.ntmps68 (by decide) (by kernel_rfl) (AF []) AH ?_
 rintro w0 O0 ⟨p,q,u⟩ hc ⟨⟨hlp,-⟩,⟨hlq,-⟩,-⟩ -
 simp only[AO]at hlp hlq
 simp only[Un,AN]
 repeat'(first|exact trivial|refine eS rfl ?_|refine AB ?_|refine rX [0,1,4,5,10,19,30] hc ?_ ?_|refine rC ?_ ?_<;>intro AA<;>try(cases AA;done))
 ·have h1:decide (Ba p q<0)=decide ((List.length p:Int)<(List.length q:Int)):=by
   unfold Ba
   rw[if_neg (fun e=>AA (CA.1 e))]
   exact decide_eq_decide.2 Cg
  exact AG hc [.tmp 4] rfl (.inl rfl) (by simp) (by rw[h1];first|exact eR|refine Al ?_)
 ·have hlen:List.length p=List.length q:=by
   have:=AA
   simp only[bne_eq_false_iff_eq]at this
   omega
  have ho:Ba p q=EZ p q:=if_pos (by rw[hlen];exact CA.2 rfl)
  rw[ho]
  refine AK (ι:={k:Nat//k≤List.length p∧EZ p q=EZ ((p:List Int).drop k) ((q:List Int).drop k)}) (fun k=>⟨[(0,.p Bz p),(1,.p Bz q),(5,.p (.int .i64) (k.1:Int))],[]⟩) (fun k=>List.length p-k.1) ⟨0,Nat.zero_le _,rfl⟩ (AC [] rfl rfl ?_ ?_) (fun k=>?_)
  ·first|exact eN|refine eM ?_
  ·first|exact eN|refine eM ?_
  ·obtain⟨k,hk1,he⟩:=k
   repeat'(first|exact trivial|refine eS rfl ?_|refine AB ?_|refine rX [0,1,4,5,10,19,30] hc ?_ ?_|refine rC ?_ ?_<;>intro AA<;>try(cases AA;done))
   ·exact⟨AA,by rw[←hlen];exact AA⟩
   ·exact⟨by assumption,by rw[←hlen];assumption⟩
   ·have hpk:k<List.length p:=by exact eV
    have h1:decide (EZ p q<0)=decide (List.getD p k 0<List.getD q k 0):=by
     rw[he,LH hpk (by omega),if_neg (fun e=>AA (CA.1 e))]
     exact decide_eq_decide.2 Cg
    exact AG hc [.tmp 4] rfl (.inl rfl) (by simp) (by rw[h1];first|exact eR|refine Al ?_)
   ·exact eV
   ·have hpk:k<List.length p:=by exact eV
    have e:List.getD p k 0=List.getD q k 0:=by simpa using AA
    rw[LH hpk (by omega),if_pos (CA.2 e)]at he
    refine⟨⟨k+1,hpk,he⟩,by simp only;omega,AC [] rfl rfl ?_ ?_⟩
    ·first|exact eN|refine eM ?_
    ·first|exact eN|refine eM ?_
   ·have hp:List.drop k (p:List Int)=[]:=List.drop_eq_nil_of_le (by exact eV)
    have hq:List.drop k (q:List Int)=[]:=List.drop_eq_nil_of_le (by rw[←hlen];exact eV)
    rw[hp,hq]at he
    have h1:decide (EZ p q<0)=false:=by rw[he];rfl
    exact AG hc [.tmp 4] rfl (.inl rfl) (by simp) (by rw[h1];first|exact eR|refine Al ?_)
def KW:Ae:={ ins:=[Bz,Bz],pre:=fun _=>True,out:=fun(p,q,_)=>[.p .bool (decide ((p:List Int)=q))],lend:=true }
attribute [local go_sem] KW
theorem Sn:Ag Tryz.prog 40 KW:=by
 refine AR Tryz.func40 (by kernel_rfl) rfl Tryz.ntmps40 (by decide) (by kernel_rfl) (AF [(68,Un)]) (AD iT AH) ?_
 rintro w0 O0 ⟨p,q,u⟩ hc - -
 simp only[KW,AN]
 have h1:decide ((p:List Int)=q)=(!decide (Ba p q<0)&&!decide (Ba q p<0)):=by
  rw[FZ p q]
  by_cases e:(p:List Int)=q
  ·have:=EE.2 e
   rw[decide_eq_true e,decide_eq_false (by omega),decide_eq_false (by omega)]
   rfl
  ·have:Ba p q≠0:=fun h=>e (EE.1 h)
   rw[decide_eq_false e]
   rcases Int.lt_or_gt_of_ne this with h|h
   ·rw[decide_eq_true h];rfl
   ·rw[decide_eq_false (show ¬Ba p q<0 by omega),decide_eq_true (show-Ba p q<0 by omega)];rfl
 rw[h1]
 repeat'(first|exact trivial|refine eS rfl ?_|refine AB ?_|refine rX [0,1,4] hc ?_ ?_|refine rC ?_ ?_<;>intro AA<;>try(cases AA;done))
 exact AG hc [.tmp 4] rfl (.inl rfl) (by simp) (by first|exact eR|refine Al ?_)
def GE:Ae:={ ins:=[IJ,IJ],pre:=fun _=>True,out:=fun(a,b,_)=>[.p .bool (decide ((a:List (List Int))=b))],lend:=true }
attribute [local go_sem] GE
theorem Oz:Ag Tryz.prog 21 GE:=by
 refine AR Tryz.func21 (by kernel_rfl) rfl Tryz.ntmps21 (by decide) (by kernel_rfl) (AF [(40,KW)]) (AD Sn AH) ?_
 rintro w0 O0 ⟨a,b,u⟩ hc ⟨⟨hal,-⟩,-⟩ -
 simp only[AO]at hal
 simp only[GE,AN]
 repeat'(first|exact trivial|refine eS rfl ?_|refine AB ?_|refine rX [0,1,4,5,10,14,26] hc ?_ ?_|refine rC ?_ ?_<;>intro AA<;>try(cases AA;done))
 ·have hne:(a:List (List Int))≠b:=fun e=>AA (by rw[e])
  exact AG hc [.tmp 4] rfl (.inl rfl) (by simp) (by rw[decide_eq_false hne];first|exact eR|refine Al ?_)
 ·have hlen:List.length a=List.length b:=by
   have:=AA
   simp only[bne_eq_false_iff_eq]at this
   omega
  refine AK (ι:={k:Nat//k≤List.length a∧(a:List (List Int)).take k=(b:List (List Int)).take k}) (fun k=>⟨[(0,.p IJ a),(1,.p IJ b),(5,.p (.int .i64) (k.1:Int))],[]⟩) (fun k=>List.length a-k.1) ⟨0,Nat.zero_le _,rfl⟩ (AC [] rfl rfl ?_ ?_) (fun k=>?_)
  ·first|exact eN|refine eM ?_
  ·first|exact eN|refine eM ?_
  ·obtain⟨k,hk,he⟩:=k
   repeat'(first|exact trivial|refine eS rfl ?_|refine AB ?_|refine rX [0,1,4,5,10,14,26] hc ?_ ?_|refine rC ?_ ?_<;>intro AA<;>try(cases AA;done))
   ·exact⟨AA,by rw[←hlen];exact AA⟩
   ·have hne:(a:List (List Int))≠b:=fun e=>AA (by rw[e])
    exact AG hc [.tmp 4] rfl (.inl rfl) (by simp) (by rw[decide_eq_false hne];first|exact eR|refine Al ?_)
   ·exact eV
   ·have hk2:k<List.length a:=by exact eV
    refine⟨⟨k+1,hk2,?_⟩,by simp only;omega,AC [] rfl rfl ?_ ?_⟩
    ·rw[Ab (a:List (List Int)) [] hk2,Ab (b:List (List Int)) [] (by omega),he,AA]
    ·first|exact eN|refine eM ?_
    ·first|exact eN|refine eM ?_
   ·have hk2:k=List.length a:=by exact eV
    rw[hk2,List.take_length,hlen,List.take_length]at he
    exact AG hc [.tmp 4] rfl (.inl rfl) (by simp) (by rw[decide_eq_true he];first|exact eR|refine Al ?_)
end
/- The insertion sort of paths. -/
section
attribute [local go_sem] JC
theorem Lj {p q r:List Int} (h1:Ba p q≤0) (h2:Ba q r≤0):Ba p r≤0:=by
 by_cases e1:Ba p q=0
 ·rw[EE.1 e1];exact h2
 ·by_cases e2:Ba q r=0
  ·rw[←EE.1 e2];exact h1
  ·have:=Sm (p:=p) (q:=q) (r:=r) (by omega) (by omega)
   omega
def rQ (m:List (List Int)) (i j:Nat):Prop:=(∀a b,a<b→b≤i→a≠j→b≠j→Ba (m.getD a []) (m.getD b [])≤0)∧∀b,j<b→b≤i→Ba (m.getD j []) (m.getD b [])≤0
def aI (m:List (List Int)) (i:Nat):Prop:=∀a b,a<b→b<i→Ba (m.getD a []) (m.getD b [])≤0
theorem aJ {m:List (List Int)} {i:Nat} (h:aI m i):rQ m i i:=⟨fun a b h1 h2 h3 h4=>h a b h1 (by omega),fun b h1 h2=>by omega⟩
theorem rR {m:List (List Int)} {i j:Nat} (h:rQ m i j) (hj:j≤i) (he:j=0∨0≤Ba (m.getD j []) (m.getD (j-1) [])):aI m (i+1):=by
 intro a b h1 h2
 by_cases e1:a=j
 ·subst e1
  exact h.2 b h1 (by omega)
 ·by_cases e2:b=j
  ·subst e2
   have he:Ba (m.getD (b-1) []) (m.getD b [])≤0:=by
    rw[FZ (m.getD b []) (m.getD (b-1) [])]
    omega
   by_cases e3:a=b-1
   ·subst e3;exact he
   ·exact Lj (h.1 a (b-1) (by omega) (by omega) e1 (by omega)) he
  ·exact h.1 a b h1 (by omega) e1 e2
def aK (m:List (List Int)) (j:Nat):List (List Int):=(m.set j (m.getD (j-1) [])).set (j-1) (m.getD j [])
theorem lX {m:List (List Int)} {j:Nat} (h:j<m.length):(aK m j).Perm m:=by
 have h2:j-1<m.length:=by omega
 have e1:m.getD (j-1) []=m[j-1]:=by rw[List.getD_eq_getElem?_getD,List.getElem?_eq_getElem h2];rfl
 have e2:m.getD j []=m[j]:=by rw[List.getD_eq_getElem?_getD,List.getElem?_eq_getElem h];rfl
 unfold aK
 rw[e1,e2]
 exact List.set_set_perm h h2
theorem rS {m:List (List Int)} {j:Nat} (h0:0<j) (h:j<m.length) (k:Nat):(aK m j).getD k []=if k=j-1 then m.getD j [] else if k=j then m.getD (j-1) [] else m.getD k []:=by
 unfold aK
 simp only[List.getD_eq_getElem?_getD,List.getElem?_set,List.length_set]
 by_cases e1:j-1=k
 ·rw[if_pos e1,if_pos (by omega),if_pos e1.symm]
  rfl
 ·rw[if_neg e1]
  by_cases e2:j=k
  ·rw[if_pos e2,if_pos (by omega),if_neg (show ¬k=j-1 by omega),if_pos e2.symm]
   rfl
  ·rw[if_neg e2,if_neg (show ¬k=j-1 by omega),if_neg (show ¬k=j by omega)]
theorem lY {m:List (List Int)} {i j:Nat} (h:rQ m i j) (h0:0<j) (hj:j≤i) (hi:i<m.length) (hlt:Ba (m.getD j []) (m.getD (j-1) [])<0):rQ (aK m j) i (j-1):=by
 have hg:=rS h0 (show j<m.length by omega)
 refine⟨fun a b h1 h2 h3 h4=>?_,fun b h1 h2=>?_⟩
 ·rw[hg a,hg b,if_neg h3,if_neg h4]
  by_cases e1:a=j
  ·subst e1
   rw[if_pos rfl,if_neg (by omega)]
   exact h.1 (a-1) b (by omega) h2 (by omega) (by omega)
  ·rw[if_neg e1]
   by_cases e2:b=j
   ·rw[if_pos e2]
    exact h.1 a (j-1) (by omega) (by omega) e1 (by omega)
   ·rw[if_neg e2]
    exact h.1 a b h1 h2 e1 e2
 ·rw[hg (j-1),hg b,if_pos rfl,if_neg (by omega)]
  by_cases e2:b=j
  ·rw[if_pos e2]
   omega
  ·rw[if_neg e2]
   exact h.2 b (by omega) h2
theorem x7 (l:List (List Int)) (hl:l.length≤100000):B9 Tryz.prog 103 [.sr 1000000 Bz 0 l.length,.p T3 (0:Int),.p T3 (l.length:Int),.fn 43] [(1000000,.arr 30 Bz l)] [1000000] (fun res objs'=>res=.raw (.tuple #[])∧∃r,objs'=[(1000000,.arr 30 Bz r)]∧List.Perm r l∧aI r l.length):=by
 refine Bw Tryz.func103 (by kernel_rfl) rfl Tryz.ntmps103 (by simp only[List.length_cons,List.length_nil];omega) (by kernel_rfl) rfl rfl (AF [(43,JC)]) (AD Um AH) ?_
 intro w0 K O0 ρ0 hc hok1 hok2
 simp only[A1]
 repeat'(first|exact trivial|refine eS rfl ?_|refine AB ?_|refine rX [0,1,2,3,8,9,14,34] hc ?_ ?_|refine rC ?_ ?_<;>intro AA<;>try(cases AA;done))
 ·omega
 ·refine AK (ι:={s:Nat×List (List Int)//1≤s.1∧(s.1=1∨s.1≤l.length)∧List.Perm s.2 l∧aI s.2 s.1}) (fun s=>⟨[(0,.sr 1000000 Bz 0 l.length),(1,.p T3 (0:Int)),(2,.p T3 (l.length:Int)),(3,.fn 43),(8,.p (.int .i64) (s.1.1:Int))],[(1000000,.arr 30 Bz s.1.2)]⟩) (fun s=>l.length-s.1.1) ⟨(1,l),Nat.le_refl 1,.inl rfl,List.Perm.refl l,fun a b h1 h2=>by omega⟩ (AC [(1000000,.nm 1000000)] rfl rfl ?_ ?_) (fun s=>?_)
  ·first|exact eN|refine eM ?_
  ·first|exact eN|refine eM ?_
  ·obtain⟨⟨i,m⟩,hi1,hi2,hp,hs⟩:=s
   simp only at hi1 hi2 hp hs ⊢
   have hml:=hp.length_eq
   repeat'(first|exact trivial|refine eS rfl ?_|refine AB ?_|refine rX [0,1,2,3,8,9,14,34] hc ?_ ?_|refine rC ?_ ?_<;>intro AA<;>try(cases AA;done))
   ·have hil:i<l.length:=by exact eV
    refine AK (ι:={t:Nat×List (List Int)//t.1≤i∧List.Perm t.2 l∧rQ t.2 i t.1}) (fun t=>⟨[(0,.sr 1000000 Bz 0 l.length),(1,.p T3 (0:Int)),(2,.p T3 (l.length:Int)),(3,.fn 43),(8,.p (.int .i64) (i:Int)),(9,.p (.int .i64) (t.1.1:Int))],[(1000000,.arr 30 Bz t.1.2)]⟩) (fun t=>t.1.1) ⟨(i,m),Nat.le_refl i,hp,aJ hs⟩ (AC [(1000000,.nm 1000000)] rfl rfl ?_ ?_) (fun t=>?_)
    ·first|exact eN|refine eM ?_
    ·first|exact eN|refine eM ?_
    ·obtain⟨⟨j,c⟩,hj,hcp,hcs⟩:=t
     simp only at hj hcp hcs ⊢
     have hcl:=hcp.length_eq
     repeat'(first|exact trivial|refine eS rfl ?_|refine AB ?_|refine rX [0,1,2,3,8,9,14,34] hc ?_ ?_)
     ·dsimp only[Ty.den]at *
      exact⟨fun _=>by omega,fun _=>⟨by omega,by omega⟩,fun _=>⟨by omega,by omega⟩⟩
     ·have ej:0<j→((j:Int)-1).toNat=j-1:=fun _=>by omega
      refine Cc (by simp only[go_sem,Nat.reduceEqDiff,reduceCtorEq,Nat.reduceAdd,Nat.reduceSub,Nat.reduceMul,Nat.reduceLeDiff,Nat.reduceLT,Int.reduceLE,Int.reduceToNat,Int.reduceNeg,↓reduceIte];rfl) ?_ ?_
      ·intro hc2
       simp only[Bool.and_eq_true,decide_eq_true_eq]at hc2
       have hj0:0<j:=by omega
       have hlt:=hc2.2
       rw[ej hj0]at hlt
       have hsw:aK c j=(c.set j (c.getD (j-1) [])).set (j-1) (c.getD j []):=rfl
       repeat'(first|exact trivial|refine eS rfl ?_|refine AB ?_|refine rP [0,1,2,3,8,9,14,34] hc ?_ ?_|fail)
       refine Df drawsAny hc 16 [([0,1,5,6,7,8,9,10,11,12,13,14],15)] [2,3,4] (by kernel_rfl) (TF ?_ ?_)
       ·dsimp only[Ty.den]at *
        omega
       ·refine TG hc [] ?_ ?_
        ·trivial
        ·refine WY [0,1,2,3,8,9,14,34] hc ?_ ?_ ?_
         ·dsimp only[Ty.den]at *
          omega
         ·dsimp only[Ty.den]at *
          omega
         ·rw[ej hj0]
          repeat'(first|exact trivial|refine eS rfl ?_|refine AB ?_|refine rX [0,1,2,3,8,9,14,34] hc ?_ ?_|refine rC ?_ ?_<;>intro AA<;>try(cases AA;done))
          ·dsimp only[Ty.den]at *
           omega
          ·refine⟨⟨(j-1,aK c j),by simp only;omega,(lX (by omega)).trans hcp,lY hcs hj0 hj (by omega) hlt⟩,by simp only;omega,AC [(1000000,.nm 1000000)] rfl rfl ?_ ?_⟩
           ·simp only
            rw[hsw]
            first|exact eN|refine eM ?_
           ·simp only
            rw[show ((j-1:Nat):Int)=(j:Int)-1 by omega]
            first|exact eN|refine eM ?_
      ·intro hc2
       have hd:j=0∨0≤Ba (c.getD j []) (c.getD (j-1) []):=by
        by_cases hj0:j=0
        ·exact .inl hj0
        ·right
         simp only[Bool.and_eq_false_iff,decide_eq_false_iff_not]at hc2
         rw[ej (by omega)]at hc2
         rcases hc2 with h|h
         ·omega
         ·omega
       repeat'(first|exact trivial|refine eS rfl ?_|refine AB ?_|refine rX [0,1,2,3,8,9,14,34] hc ?_ ?_|refine rC ?_ ?_<;>intro AA<;>try(cases AA;done))
       ·exact eV
       ·refine⟨⟨(i+1,c),by simp only;omega,.inr hil,hcp,rR hcs hj hd⟩,by simp only;omega,AC [(1000000,.nm 1000000)] rfl rfl ?_ ?_⟩
        ·first|exact eN|refine eM ?_
        ·first|exact eN|refine eM ?_
   ·have hin:l.length≤i:=by exact eV
    refine Am hc [] rfl (.inr rfl) (.raw (.tuple #[])) rfl ⟨rfl,m,rfl,hp,fun a b h1 h2=>hs a b h1 (by omega)⟩
end
/- slices.SortFunc of at most 12 paths. -/
section
theorem x8 (l:List (List Int)) (lim:Int) (hl:l.length≤12):B9 Tryz.prog 70 [.sr 1000000 Bz 0 l.length,.p T3 (0:Int),.p T3 (l.length:Int),.p T3 lim,.fn 43] [(1000000,.arr 30 Bz l)] [1000000] (fun res objs'=>res=.raw (.tuple #[])∧∃r,objs'=[(1000000,.arr 30 Bz r)]∧List.Perm r l∧aI r l.length):=by
 refine Bw Tryz.func70 (by kernel_rfl) rfl Tryz.ntmps70 (by simp only[List.length_cons,List.length_nil];omega) (by kernel_rfl) rfl rfl (AF []) AH ?_
 intro w0 K O0 ρ0 hc hok1 hok2
 simp only[A1]
 repeat'(first|exact trivial|refine eS rfl ?_|refine AB ?_|refine rX [0,1,2,3,4,10,11,12,13,14,15,16,17,18,19,20,25,32,39,56,75,80,97,125] hc ?_ ?_|refine rC ?_ ?_<;>intro AA<;>try(cases AA;done))
 refine AK (ι:=Unit) (fun x=>⟨[(0,.sr 1000000 Bz 0 l.length),(1,.p T3 (0:Int)),(2,.p T3 (l.length:Int)),(3,.p T3 lim),(4,.fn 43),(10,.p .bool true),(11,.p .bool true)],[(1000000,.arr 30 Bz l)]⟩) (fun x=>0) () (AC [(1000000,.nm 1000000)] rfl rfl ?_ ?_) (fun x=>?_)
 ·first|exact eN|refine eM ?_
 ·first|exact eN|refine eM ?_
 ·repeat'(first|exact trivial|refine eS rfl ?_|refine AB ?_|refine rX [0,1,2,3,4,10,11,12,13,14,15,16,17,18,19,20,25,32,39,56,75,80,97,125] hc ?_ ?_)
  ·omega
  ·refine rC (fun AA=>?_) (fun AA=>?_)
   ·repeat'(first|exact trivial|refine eS rfl ?_|refine AB ?_|refine rX [0,1,2,3,4,10,11,12,13,14,15,16,17,18,19,20,25,32,39,56,75,80,97,125] hc ?_ ?_)
    refine cP 4 hc ?_ ?_
    ·trivial
    ·refine rM hc (x7 l (by omega)) [(1000000,.nm 1000000)] [] ?_ ?_ ?_
     ·first|exact eN|refine eM ?_
     ·first|exact eN|refine eM ?_
     ·rintro _ _ ⟨rfl,r,rfl,hp,hs⟩
      have hrl:=hp.length_eq
      refine⟨[(1000000,.nm 1000000)],.raw (.tuple #[]),[(1000000,.arr 30 Bz r)],rfl,rfl,?_,?_,rfl,rfl,CU ?_⟩
      ·first|exact eN|refine eM ?_
      ·first|exact eN|refine eM ?_
      ·repeat'(first|exact trivial|refine eS rfl ?_|refine AB ?_|refine rX [0,1,2,3,4,10,11,12,13,14,15,16,17,18,19,20,25,32,39,56,75,80,97,125] hc ?_ ?_)
       exact Am hc [] rfl (.inl rfl) (.raw (.tuple #[])) rfl ⟨rfl,r,rfl,hp,hs⟩
   ·exfalso
    have h:=Int.not_le.2 AA
    omega
theorem rT (l:List (List Int)) (hl:l.length≤12):B9 Tryz.prog 42 [.sr 1000000 Bz 0 l.length,.fn 43] [(1000000,.arr 30 Bz l)] [1000000] (fun res objs'=>res=.raw (.tuple #[])∧∃r,objs'=[(1000000,.arr 30 Bz r)]∧List.Perm r l∧aI r l.length):=by
 refine Bw Tryz.func42 (by kernel_rfl) rfl Tryz.ntmps42 (by simp only[List.length_cons,List.length_nil];omega) (by kernel_rfl) rfl rfl (AF []) AH ?_
 intro w0 K O0 ρ0 hc hok1 hok2
 simp only[A1]
 repeat'(first|exact trivial|refine eS rfl ?_|refine AB ?_|refine rX [0,1,4] hc ?_ ?_|refine rC ?_ ?_<;>intro AA<;>try(cases AA;done))
 refine cP 4 hc ?_ ?_
 ·exact eV
 ·refine rM hc (A03 (l.length:Int) (by omega) (by omega)) [] [] ?_ ?_ ?_
  ·first|exact eN|refine eM ?_
  ·first|exact eN|refine eM ?_
  ·rintro _ _ ⟨⟨n,rfl,hnz⟩,rfl⟩
   refine⟨[],.p T3 n,[],rfl,rfl,?_,?_,rfl,rfl,?_⟩
   ·first|exact eN|refine eM ?_
   ·first|exact eN|refine eM ?_
   ·refine VU hc 1 (by simp only[go_sem,Nat.reduceEqDiff,reduceCtorEq,Nat.reduceAdd,Nat.reduceSub,Nat.reduceMul,Nat.reduceLeDiff,Nat.reduceLT,Int.reduceLE,Int.reduceToNat,Int.reduceNeg,↓reduceIte];rfl) ?_ ?_
    ·trivial
    ·refine rM hc (x8 l n hl) [(1000000,.nm 1000000)] [] ?_ ?_ ?_
     ·first|exact eN|refine eM ?_
     ·first|exact eN|refine eM ?_
     ·rintro _ _ ⟨rfl,r,rfl,hp,hs⟩
      refine⟨[(1000000,.nm 1000000)],.raw (.tuple #[]),[(1000000,.arr 30 Bz r)],rfl,rfl,?_,?_,rfl,rfl,CU ?_⟩
      ·first|exact eN|refine eM ?_
      ·first|exact eN|refine eM ?_
      ·repeat'(first|exact trivial|refine eS rfl ?_|refine AB ?_|refine rX [0,1,4] hc ?_ ?_|refine rC ?_ ?_<;>intro AA<;>try(cases AA;done))
       exact Am hc [] rfl (.inr rfl) (.raw (.tuple #[])) rfl ⟨rfl,r,rfl,hp,hs⟩
def Yd (p:List Int):List (List Int)→List (List Int)
 | []=>[p]
 | q :: l=>if Ba p q≤0 then p :: q :: l else q :: Yd p l
def Uo (l:List (List Int)):List (List Int):=l.foldr Yd []
theorem IW (p:List Int):∀l:List (List Int),(Yd p l).Perm (p :: l)
 | []=>List.Perm.refl _
 | q :: l=>by
  unfold Yd
  split
  ·exact List.Perm.refl _
  ·exact((IW p l).cons q).trans (List.Perm.swap p q l)
theorem Nh (p:List Int):∀ {l:List (List Int)},l.Pairwise (fun a b=>Ba a b≤0)→(Yd p l).Pairwise (fun a b=>Ba a b≤0)
 | [],_=>List.pairwise_singleton _ _
 | q :: l,h=>by
  unfold Yd
  rw[List.pairwise_cons]at h
  split
  ·rename_i hpq
   rw[List.pairwise_cons]
   refine⟨fun x hx=>?_,List.pairwise_cons.2 h⟩
   rcases List.mem_cons.1 hx with rfl|hx
   ·exact hpq
   ·exact Lj hpq (h.1 x hx)
  ·rename_i hpq
   rw[List.pairwise_cons]
   refine⟨fun x hx=>?_,Nh p h.2⟩
   rcases List.mem_cons.1 ((IW p l).mem_iff.1 hx) with rfl|hx
   ·have:=FZ x q
    omega
   ·exact h.1 x hx
theorem Fa:∀l:List (List Int),(Uo l).Perm l
 | []=>List.Perm.refl _
 | p :: l=>(IW p (Uo l)).trans ((Fa l).cons p)
theorem O2:∀l:List (List Int),(Uo l).Pairwise (fun a b=>Ba a b≤0)
 | []=>List.Pairwise.nil
 | p :: l=>Nh p (O2 l)
theorem rU {l r:List (List Int)} (hp:r.Perm l) (hs:aI r l.length):r=Uo l:=by
 refine List.Perm.eq_of_pairwise (le:=fun a b=>Ba a b≤0) (fun a b _ _ h1 h2=>?_) ?_ (O2 l) (hp.trans (Fa l).symm)
 ·have:=FZ a b
  exact EE.1 (by omega)
 ·rw[List.pairwise_iff_getElem]
  intro i j hi hj hij
  have:=hs i j hij (by rw[←hp.length_eq];exact hj)
  rwa [List.getD_eq_getElem?_getD,List.getElem?_eq_getElem hi,List.getD_eq_getElem?_getD,List.getElem?_eq_getElem hj]at this
end
/- quick.Clashes. -/
section
attribute [local go_sem] Li SI
def mR (h:AP) (a b:List AL) (n:Nat):Bool:=(JB b ((A2 a).getD n [])).2&&!(DX h (a.getD n (0,[])).1 (JB b ((A2 a).getD n [])).1).2
def D8 (h:AP) (a b:List AL) (k:Nat):List (List Int):=((List.range k).filter (mR h a b)).map fun n=>(A2 a).getD n []
def CR (h:AP) (a b:List AL):List (List Int):=Uo (D8 h a b a.length)
theorem Ye {h:AP} {a b:List AL} {k:Nat} (hk:mR h a b k=true):D8 h a b (k+1)=D8 h a b k++[(A2 a).getD k []]:=by
 unfold D8
 rw[List.range_succ,List.filter_append,List.map_append]
 simp[hk]
theorem Yf {h:AP} {a b:List AL} {k:Nat} (hk:mR h a b k=false):D8 h a b (k+1)=D8 h a b k:=by
 unfold D8
 rw[List.range_succ,List.filter_append,List.map_append]
 simp[hk]
theorem So (h:AP) (a b:List AL) (k:Nat):(D8 h a b k).length≤k:=by
 unfold D8
 rw[List.length_map]
 exact Nat.le_trans (List.length_filter_le _ _) (by simp)
theorem Sp {h:AP} {f:List AL} (hf:BA f) (h0:0<f.length) (ht:QJ h f) {p:List Int} (hp:(JB f p).2=true):0≤(JB f p).1∧(JB f p).1<(h.1.length:Int):=by
 unfold JB at hp ⊢
 split
 ·rename_i hs
  have:=Nf hf p 0 (Int.le_refl 0) (by omega) hs
  exact ht (f.getD (Gz f 0 p).1.toNat (0,[])) (AE f (0,[]) (by omega))
 ·rename_i hs
  rw[if_neg hs]at hp
  cases hp
def KX:Ae:={ ins:=[TH,HS,HS],pre:=fun(h,a,b,_)=>rK h∧(BA a∧0<List.length a∧QJ h a∧List.length a≤12)∧BA b∧0<List.length b∧QJ h b,out:=fun(h,a,b,_)=>[.p IJ (CR h a b)] }
attribute [local go_sem] KX
theorem Yg:Ag Tryz.prog 22 KX:=by
 refine AR Tryz.func22 (by kernel_rfl) rfl Tryz.ntmps22 (by decide) (by kernel_rfl) (AF [(33,Li),(37,SI)]) (AD iR (AD gY AH)) ?_
 rintro w0 O0 ⟨⟨ht,hf⟩,a,b,u⟩ hc-⟨hw,⟨ga,pa,ta,la⟩,gb,pb,tb⟩
 simp only[KX,AN]
 have hfl:(A2 a).length=List.length a:=JA ga pa
 repeat'(first|exact trivial|refine eS rfl ?_|refine AB ?_|refine rX [0,1,2,3,4,5,6,7,8,9,10,11,13,15,16,17,18,29,43] hc ?_ ?_|refine rC ?_ ?_<;>intro AA<;>try(cases AA;done))
 refine cP 1 hc ?_ ?_
 ·trivial
 ·refine rM hc (lM a ga pa) [] [] ?_ ?_ ?_
  ·first|exact eN|refine eM ?_
  ·first|exact eN|refine eM ?_
  ·rintro _ _ ⟨rfl,rfl⟩
   refine⟨[(201,.nm 9)],.sr 201 Bz 0 (List.length a),[(201,.arr 30 Bz (A2 a))],rfl,rfl,?_,?_,rfl,rfl,?_⟩
   ·first|exact eN|refine eM ?_
   ·first|exact eN|refine eM ?_
   ·refine M8 [0,1,2,3,4,5,6,7,8,9,10,11,13,15,16,17,18,29,43] hc (by simp only[go_sem,Nat.reduceEqDiff,reduceCtorEq,Nat.reduceAdd,Nat.reduceSub,Nat.reduceMul,Nat.reduceLeDiff,Nat.reduceLT,Int.reduceLE,Int.reduceToNat,Int.reduceNeg,↓reduceIte];rfl) ?_ ?_
    ·trivial
    ·repeat'(first|exact trivial|refine eS rfl ?_|refine AB ?_|refine rX [0,1,2,3,4,5,6,7,8,9,10,11,13,15,16,17,18,29,43] hc ?_ ?_|refine rC ?_ ?_<;>intro AA<;>try(cases AA;done))
     refine GD [201] ?_
     rw[show (A2 a).take (List.length a)=A2 a from List.take_of_length_le (by omega)]
     refine AK (ι:={k:Nat//k≤List.length a}) (fun k=>⟨[(3,.bp 3 [] 0),(4,.bp 4 [] 0),(5,.bp 5 [] 0),(7,.sr 47 Bz 0 (D8 (ht,hf) a b k.1).length),(15,.p IJ (A2 a)),(16,.p (.int .i64) (List.length a:Int)),(17,.p (.int .i64) (k.1:Int))],[(5,.box 24 true [.p MZ b]),(4,.box 24 true [.p MZ a]),(3,.box 37 true [.p WZ ht,.p Xa hf]),(47,.arr 30 Bz (D8 (ht,hf) a b k.1))]⟩) (fun k=>List.length a-k.1) ⟨0,Nat.zero_le _⟩ (AC [(5,.nm 5),(4,.nm 4),(3,.nm 3),(47,.nil)] rfl rfl ?_ ?_) (fun k=>?_)
     ·first|exact eN|refine eM ?_
      rfl
     ·first|exact eN|refine eM ?_
      rfl
     ·obtain⟨k,hk⟩:=k
      have hcl:=So (ht,hf) a b k
      have hct:=Ye (h:=(ht,hf)) (a:=a) (b:=b) (k:=k)
      have hcf:=Yf (h:=(ht,hf)) (a:=a) (b:=b) (k:=k)
      have hcb:mR (ht,hf) a b k=_:=rfl
      have htr:=fun p=>Sp (p:=p) gb pb tb
      simp only
      generalize hcc:D8 (ht,hf) a b k=cl at *
      have htk:cl.take cl.length=cl:=List.take_length
      repeat'(first|exact trivial|refine eS rfl ?_|refine AB ?_|refine rX [0,1,2,3,4,5,6,7,8,9,10,11,13,15,16,17,18,29,43] hc ?_ ?_|refine rC ?_ ?_<;>intro AA<;>try(cases AA;done))
      ·rw[hfl];exact AA
      ·exact⟨gb,pb⟩
      ·exact eV
      ·have hkl:k<List.length a:=by exact eV
       have hcf:=hcf (by unfold mR;rw[AA];rfl)
       refine⟨⟨k+1,hkl⟩,by simp only;omega,AC [(5,.nm 5),(4,.nm 4),(3,.nm 3),(47,.nm 47)] rfl rfl ?_ ?_⟩
       ·simp only
        rw[hcf]
        first|exact eN|refine eM ?_
       ·simp only
        rw[hcf]
        first|exact eN|refine eM ?_
      ·have hkl:k<List.length a:=by exact eV
       exact⟨by assumption,ta _ (AE (a:List AL) (0,[]) hkl),htr _ AA,hw⟩
      ·simp only[AO]
       omega
      ·exact eV
      ·have hkl:k<List.length a:=by exact eV
       rename_i hty
       have hct:=hct (by unfold mR;rw[hty,AA];rfl)
       refine⟨⟨k+1,hkl⟩,by simp only;omega,AC [(5,.nm 5),(4,.nm 4),(3,.nm 3),(47,.nm 47)] rfl rfl ?_ ?_⟩
       ·simp only
        rw[hct]
        first|exact eN|refine eM ?_
       ·simp only
        rw[hct]
        first|exact eN|refine eM ?_
      ·exact eV
      ·have hkl:k<List.length a:=by exact eV
       rename_i hty
       have hcf:=hcf (by unfold mR;rw[hty,AA];rfl)
       refine⟨⟨k+1,hkl⟩,by simp only;omega,AC [(5,.nm 5),(4,.nm 4),(3,.nm 3),(47,.nm 47)] rfl rfl ?_ ?_⟩
       ·simp only
        rw[hcf]
        first|exact eN|refine eM ?_
       ·simp only
        rw[hcf]
        first|exact eN|refine eM ?_
      ·have hka:k=List.length a:=by exact eV
       subst hka
       have hce:CR (ht,hf) a b=Uo cl:=by unfold CR;rw[hcc]
       refine cP 1 hc ?_ ?_
       ·trivial
       ·refine rM hc (rT cl (by omega)) [(1000000,.nm 47)] [] ?_ ?_ ?_
        ·first|exact eN|refine eM ?_
        ·first|exact eN|refine eM ?_
        ·rintro _ _ ⟨rfl,r,rfl,hp,hs⟩
         have hrl:=hp.length_eq
         have hr:=rU hp hs
         refine⟨[(47,.nm 1000000)],.raw (.tuple #[]),[(47,.arr 30 Bz r)],rfl,rfl,?_,?_,rfl,rfl,CU ?_⟩
         ·first|exact eN|refine eM ?_
         ·first|exact eN|refine eM ?_
         ·repeat'(first|exact trivial|refine eS rfl ?_|refine AB ?_|refine rX [0,1,2,3,4,5,6,7,8,9,10,11,13,15,16,17,18,29,43] hc ?_ ?_|refine rC ?_ ?_<;>intro AA<;>try(cases AA;done))
          exact AG hc [.tmp 6] rfl (.inl rfl) (by simp) (by rw[hce,←hr];first|exact eR|refine Al ?_;exact List.take_of_length_le (by omega))
end
/- grammarlabref16.with. -/
section
attribute [local go_sem] Un KW
def Dl (p:List Int):Bool→List (List Int)→List (List Int)
 | done,[]=>if done=true then [] else [p]
 | done,q :: l=>(if done=false∧¬Ba q p<0 then [p] else [])++((if q=p then [] else [q])++Dl p (done||!decide (Ba q p<0)) l)
theorem D9 (p q:List Int) (d:Bool) (l:List (List Int)):Dl p d (q :: l)=(if d=false∧¬Ba q p<0 then [p] else [])++((if q=p then [] else [q])++Dl p (d||!decide (Ba q p<0)) l):=rfl
theorem aL {l:List (List Int)} {k:Nat} (h:k<l.length):l.drop k=l.getD k [] :: l.drop (k+1):=by
 rw[List.drop_eq_getElem_cons h]
 simp[List.getD_eq_getElem?_getD,h]
def Sq:Ae:={ ins:=[IJ,Bz],pre:=fun(l,_,_)=>List.length l≤1000,out:=fun(l,p,_)=>[.p IJ (Dl p false l)] }
attribute [local go_sem] Sq
theorem iU:Ag Tryz.prog 44 Sq:=by
 refine AR Tryz.func44 (by kernel_rfl) rfl Tryz.ntmps44 (by decide) (by kernel_rfl) (AF [(68,Un),(40,KW)]) (AD iT (AD Sn AH)) ?_
 rintro w0 O0 ⟨l,p,u⟩ hc-hl
 have hl:List.length l≤1000:=hl
 simp only[Sq,AN]
 repeat'(first|exact trivial|refine eS rfl ?_|refine AB ?_|refine rX [0,1,4,5,6,7,11,24,35,44] hc ?_ ?_|refine rC ?_ ?_<;>intro AA<;>try(cases AA;done))
 refine AK (ι:={s:Nat×Bool×List (List Int)//s.1≤List.length l∧s.2.2.length≤2*s.1∧s.2.2++Dl p s.2.1 ((l:List (List Int)).drop s.1)=Dl p false l}) (fun s=>⟨[(0,.p IJ l),(1,.p Bz p),(5,.sr 28 Bz 0 s.1.2.2.length),(6,.p .bool s.1.2.1),(7,.p (.int .i64) (s.1.1:Int))],[(28,.arr 30 Bz s.1.2.2)]⟩) (fun s=>List.length l-s.1.1) ⟨(0,false,[]),Nat.zero_le _,Nat.le_refl 0,rfl⟩ (AC [(28,.nil)] rfl rfl ?_ ?_) (fun s=>?_)
 ·first|exact eN|refine eM ?_
 ·first|exact eN|refine eM ?_
 ·obtain⟨⟨k,d,o⟩,hk,ho,he⟩:=s
  simp only at hk ho he ⊢
  have hst:=fun(h:k<List.length l)=>aL h
  have hto:o.take o.length=o:=List.take_length
  repeat'(first|exact trivial|refine eS rfl ?_|refine AB ?_|refine rX [0,1,4,5,6,7,11,24,35,44] hc ?_ ?_|refine rC ?_ ?_<;>intro AA<;>try(cases AA;done))
  ·exact fun _=>AA
  ·simp only[AO]
   dsimp only[Ty.den]at *
   omega
  ·assumption
  ·refine⟨by assumption,?_⟩
   simp only[AO]
   dsimp only[Ty.den]at *
   omega
  ·exact eV
  ·have hkl:k<List.length l:=by exact eV
   rename_i hA
   have he2:=he
   rw[hst hkl,D9,if_pos (⟨hA.1,Int.not_lt.2 hA.2⟩:d=false∧¬Ba (List.getD l k []) p<0),if_neg AA,show (d||!decide (Ba (List.getD l k []) p<0))=true by (have hT:=hA.2;rw[decide_eq_false (Int.not_lt.2 hT)];simp)]at he2
   refine⟨⟨(k+1,true,o++[p]++[List.getD l k []]),hkl,by simp;omega,by rw[←he2];simp⟩,by simp only;omega,AC [(28,.nm 28)] rfl rfl ?_ ?_⟩
   ·simp only
    first|exact eN|refine eM ?_
    all_goals simp
   ·simp only
    first|exact eN|refine eM ?_
    all_goals simp
  ·exact eV
  ·have hkl:k<List.length l:=by exact eV
   rename_i hA
   have he2:=he
   rw[hst hkl,D9,if_pos (⟨hA.1,Int.not_lt.2 hA.2⟩:d=false∧¬Ba (List.getD l k []) p<0),if_pos AA,show (d||!decide (Ba (List.getD l k []) p<0))=true by (have hT:=hA.2;rw[decide_eq_false (Int.not_lt.2 hT)];simp)]at he2
   refine⟨⟨(k+1,true,o++[p]),hkl,by simp;omega,by rw[←he2];simp⟩,by simp only;omega,AC [(28,.nm 28)] rfl rfl ?_ ?_⟩
   ·simp only
    first|exact eN|refine eM ?_
    all_goals simp
   ·simp only
    first|exact eN|refine eM ?_
    all_goals simp
  ·assumption
  ·refine⟨by assumption,?_⟩
   simp only[AO]
   dsimp only[Ty.den]at *
   omega
  ·exact eV
  ·have hkl:k<List.length l:=by exact eV
   rename_i hA
   have he2:=he
   rw[hst hkl,D9,if_neg (fun h:d=false∧¬Ba (List.getD l k []) p<0=>h.2 (hA h.1)),if_neg AA,show (d||!decide (Ba (List.getD l k []) p<0))=d by (cases hd:d with|true=>rfl|false=>rw[decide_eq_true (hA hd)];rfl)]at he2
   refine⟨⟨(k+1,d,o++[List.getD l k []]),hkl,by simp;omega,by rw[←he2];simp⟩,by simp only;omega,AC [(28,.nm 28)] rfl rfl ?_ ?_⟩
   ·simp only
    first|exact eN|refine eM ?_
    all_goals simp
   ·simp only
    first|exact eN|refine eM ?_
    all_goals simp
  ·exact eV
  ·have hkl:k<List.length l:=by exact eV
   rename_i hA
   have he2:=he
   rw[hst hkl,D9,if_neg (fun h:d=false∧¬Ba (List.getD l k []) p<0=>h.2 (hA h.1)),if_pos AA,show (d||!decide (Ba (List.getD l k []) p<0))=d by (cases hd:d with|true=>rfl|false=>rw[decide_eq_true (hA hd)];rfl)]at he2
   refine⟨⟨(k+1,d,o),hkl,by simp;omega,by rw[←he2];simp⟩,by simp only;omega,AC [(28,.nm 28)] rfl rfl ?_ ?_⟩
   ·simp only
    first|exact eN|refine eM ?_
    all_goals simp
   ·simp only
    first|exact eN|refine eM ?_
    all_goals simp
  ·simp only[AO]
   dsimp only[Ty.den]at *
   omega
  ·have hkl:(l:List (List Int)).drop k=[]:=List.drop_eq_nil_of_le (by exact eV)
   rw[hkl,AA]at he
   have he:o++[p]=Dl p false l:=he
   exact AG hc [.tmp 4] rfl (.inl rfl) (by simp) (by rw[←he];first|exact eR|refine Al ?_;exact List.take_of_length_le (by simp))
  ·have hkl:(l:List (List Int)).drop k=[]:=List.drop_eq_nil_of_le (by exact eV)
   rw[hkl,AA]at he
   have he:o++[]=Dl p false l:=he
   rw[List.append_nil]at he
   exact AG hc [.tmp 4] rfl (.inl rfl) (by simp) (by rw[←he];first|exact eR|refine Al ?_;exact hto)
end
/- Functions of grammarlabref08: First. -/
section
def WP:Ae:={ ins:=[HS],pre:=fun(f,_)=>BA f∧0<f.length,out:=fun(f,_)=>[.p IJ (A2 f)] }
theorem rV:Ag Tryz.prog 27 WP:=by
 refine AR Tryz.func27 (by kernel_rfl) rfl Tryz.ntmps27 (by decide) (by kernel_rfl) (AF []) AH ?_
 rintro w0 O0 ⟨f,u⟩ hc-⟨hs,h0⟩
 simp only[WP,AN]
 have hfl:f.length≤100000:=hs.1
 have hb0:=iG h0
 repeat'(first|exact trivial|refine eS rfl ?_|refine AB ?_|refine rX [0,1,2,3,4,5,6,7,8,23,38,49] hc ?_ ?_|refine rC ?_ ?_<;>intro AA<;>try(cases AA;done))
 ·simp only[AO];omega
 ·simp only[AO];omega
 ·exact eV
 ·refine AK (ι:={x:Nat×Pq//y7 f x.2∧x.1≤x.2.2.2.length∧lK f (f.length-x.1) x.1 x.2=lK f f.length 0 (Fu f.length)}) (fun x=>⟨[(1,.bp 1 [] 0),(3,.sr 12 Bz 0 x.1.2.1.length),(4,.sr 16 T4 0 x.1.2.2.1.length),(5,.sr 19 T3 0 x.1.2.2.2.length),(6,.p (.int .i64) (x.1.1:Int))],[(1,.box 24 true [.p MZ f]),(12,.arr 30 Bz x.1.2.1),(16,.arr 4 T4 x.1.2.2.1),(19,.arr 3 T3 x.1.2.2.2)]⟩) (fun x=>f.length-x.1.1) ⟨(0,Fu f.length),hb0,by simp[Fu],rfl⟩ (AC [(1,.nm 1),(12,.nm 12),(16,.nm 16),(19,.nm 19)] rfl rfl ?_ ?_) (fun x=>?_)
  ·simp only[Fu]
   first|exact eN|refine eM ?_
  ·simp only[Fu,List.length_replicate,List.length_set]
   first|exact eN|refine eM ?_
  ·obtain⟨⟨i,s⟩,hb,hi,hbfs⟩:=x
   simp only at hb hi hbfs
   obtain⟨out,seen,todo⟩:=s
   have hb1:=hb.l1
   have hb2:=hb.l2
   simp only at hb1 hb2 hi
   show Ev _ _ _ _ ⟨[(1,.bp 1 [] 0),(3,.sr 12 Bz 0 out.length),(4,.sr 16 T4 0 seen.length),(5,.sr 19 T3 0 todo.length),(6,.p (.int .i64) (i:Int))],[(1,.box 24 true [.p MZ f]),(12,.arr 30 Bz out),(16,.arr 4 T4 seen),(19,.arr 3 T3 todo)]⟩
   repeat'(first|exact trivial|refine eS rfl ?_|refine AB ?_|refine rX [0,1,2,3,4,5,6,7,8,23,38,49] hc ?_ ?_|refine rC ?_ ?_<;>intro AA<;>try(cases AA;done))
   ·exact⟨AA,hb.rng _ (AE todo 0 (by exact eV))⟩
   ·have hit:i<todo.length:=by exact eV
    have hn:=hb.rng _ (AE todo 0 hit)
    have hLlen:=Gr hs (todo.getD i 0)
    have hLin:=fun a (ha:a∈(f.getD (todo.getD i 0).toNat (0,[])).2)=>I9 hs ha
    have hbN:lK f (f.length-(i+1)) (i+1) (qP f (out,seen,todo) (todo.getD i 0))=lK f f.length 0 (Fu f.length):=by
     rw[←hbfs]
     refine(YQ (s:=(out,seen,todo)) hit ?_).symm
     have:=hb.cnt
     simp only at this ⊢
     omega
    have hNN:qP f (out,seen,todo) (todo.getD i 0)=(f.getD (todo.getD i 0).toNat (0,[])).2.foldl (CE (todo.getD i 0)) (out,seen,todo):=rfl
    rw[hNN]at hbN
    obtain⟨s0,hs0⟩:∃s0:Pq,s0=(out,seen,todo):=⟨_,rfl⟩
    have hb':y7 f s0:=by rw[hs0];exact hb
    have hpre:=fun l=>Se (n:=todo.getD i 0) (i:=i) (l:=l) (s:=s0) (by rw[hs0];exact hit)
    have ht0:s0.2.2.getD i 0=todo.getD i 0:=by rw[hs0]
    rw[ht0]at hpre
    rw[←hs0]at hbN
    clear hNN
    generalize hnd:todo.getD i 0=n at *
    generalize (f.getD n.toNat (0,[])).2=L at *
    have hfold:=fun k=>iE (n:=n) (l:=L.take k) (fun a ha=>hLin a (List.mem_of_mem_take ha)) hb'
    refine AK (ι:={k:Nat//k≤L.length}) (fun k=>⟨[(1,.bp 1 [] 0),(3,.sr 12 Bz 0 ((L.take k.1).foldl (CE n) s0).1.length),(4,.sr 16 T4 0 ((L.take k.1).foldl (CE n) s0).2.1.length),(5,.sr 19 T3 0 ((L.take k.1).foldl (CE n) s0).2.2.length),(6,.p (.int .i64) (i:Int)),(7,.p Vg L),(8,.p (.int .i64) (k.1:Int))],[(1,.box 24 true [.p MZ f]),(12,.arr 30 Bz ((L.take k.1).foldl (CE n) s0).1),(16,.arr 4 T4 ((L.take k.1).foldl (CE n) s0).2.1),(19,.arr 3 T3 ((L.take k.1).foldl (CE n) s0).2.2)]⟩) (fun k=>L.length-k.1) ⟨0,by omega⟩ (AC [(1,.nm 1),(12,.nm 12),(16,.nm 16),(19,.nm 19)] rfl rfl ?_ ?_) (fun k=>?_)
    ·first|exact eN|refine eM ?_
     simp only[List.foldl_nil]
     rw[hs0]
     exact⟨rfl,rfl,rfl⟩
    ·first|exact eN|refine eM ?_
     simp only[List.foldl_nil]
     rw[hs0]
     exact⟨rfl,rfl,rfl⟩
    ·obtain⟨k,hk⟩:=k
     have hbk:=hfold k
     have hpk:=hpre (L.take k)
     have hnext:=fun(h:k<L.length)=>Ol (CE n) L (0,0) s0 h
     simp only
     generalize hsk:(L.take k).foldl (CE n) s0=sk at hbk hpk hnext ⊢
     obtain⟨out1,seen1,todo1⟩:=sk
     simp only at hpk ⊢
     have hl1:=hbk.l1
     have hl2:=hbk.l2
     have hl3:=hbk.cnt
     simp only at hl1 hl2 hl3
     have hto:∀(h:k<L.length),0≤(L.getD k (0,0)).2∧(L.getD k (0,0)).2<(seen1.length:Int):=fun h=>by
      have:=hLin _ (AE L (0,0) h)
      dsimp only[Ty.den]at *
      omega
     have hpl:=Sd hbk.pl n.toNat
     simp only at hpl
     repeat'(first|exact trivial|refine eS rfl ?_|refine AB ?_|refine rX [0,1,2,3,4,5,6,7,8,23,38,49] hc ?_ ?_|refine rC ?_ ?_<;>intro AA<;>try(cases AA;done))
     ·exact⟨AA,hto (by exact eV)⟩
     ·refine⟨?_,hto ?_⟩<;>exact eV
     ·rename_i hkL _
      have hkL:k<L.length:=by dsimp only[Ty.den]at *;omega
      have hst:(L.take (k+1)).foldl (CE n) s0=(out1.set (L.getD k (0,0)).2.toNat (out1.getD n.toNat []++[(L.getD k (0,0)).1]),seen1.set (L.getD k (0,0)).2.toNat true,todo1++[(L.getD k (0,0)).2]):=by
       rw[hnext hkL]
       unfold CE
       rw[if_neg (by simp only;rw[AA];simp)]
      have htk:=hto hkL
      refine Df drawsAny hc 22 [([6,7,8,9,10,11,12,13],14),([15,16,17,18,19,20],21)] [0,1,2,3,4,5] (by kernel_rfl) (TF ?_ ?_)
      ·rw[hpk.2]
       dsimp only[Ty.den]at *
       refine⟨by omega,⟨by omega,by omega⟩,by omega⟩
      ·refine TG hc [63] ?_ ?_
       ·rw[hpk.2]
        simp only[AO]
        dsimp only[Ty.den]at *
        omega
       ·refine TF ?_ ?_
        ·exact eV
        ·refine TG hc [63] ?_ ?_
         ·rw[hpk.2]
          simp only[AO]
          dsimp only[Ty.den]at *
          omega
         ·refine WY [0,1,2,3,4,5,6,7,8,23,38,49] hc ?_ ?_ ?_
          ·exact eV
          ·dsimp only[Ty.den]at *
           exact⟨by omega,by omega⟩
          ·repeat'(first|exact trivial|refine eS rfl ?_|refine AB ?_|refine rX [0,1,2,3,4,5,6,7,8,23,38,49] hc ?_ ?_|refine rC ?_ ?_<;>intro AA<;>try(cases AA;done))
           ·simp only[AO]
            dsimp only[Ty.den]at *
            exact⟨by omega,by omega⟩
           ·exact eV
           ·refine⟨⟨k+1,by omega⟩,by simp only;omega,AC [(1,.nm 1),(12,.nm 12),(16,.nm 16),(19,.nm 19)] rfl rfl ?_ ?_⟩
            ·simp only
             rw[hst]
             first|exact eN|refine eM ?_
             rw[hpk.2]
            ·simp only
             rw[hst]
             first|exact eN|refine eM ?_
             simp
     ·exact eV
     ·rename_i hkL _
      have hkL:k<L.length:=by dsimp only[Ty.den]at *;omega
      have hst:(L.take (k+1)).foldl (CE n) s0=(out1,seen1,todo1):=by
       rw[hnext hkL]
       unfold CE
       rw[if_pos (by simp only;rw[AA])]
      refine⟨⟨k+1,by omega⟩,by simp only;omega,AC [(1,.nm 1),(12,.nm 12),(16,.nm 16),(19,.nm 19)] rfl rfl ?_ ?_⟩
      ·simp only
       rw[hst]
       first|exact eN|refine eM ?_
      ·simp only
       rw[hst]
       first|exact eN|refine eM ?_
     ·exact eV
     ·have hkL:L.take k=L:=List.take_of_length_le (by exact eV)
      rw[hkL]at hsk
      rw[hsk]at hbN
      have htl:todo1.length≤f.length:=by omega
      refine⟨⟨(i+1,(out1,seen1,todo1)),hbk,by simp only;omega,hbN⟩,by simp only;dsimp only[Ty.den]at *;omega,AC [(1,.nm 1),(12,.nm 12),(16,.nm 16),(19,.nm 19)] rfl rfl ?_ ?_⟩
      ·first|exact eN|refine eM ?_
      ·first|exact eN|refine eM ?_
   ·have h1:A2 f=out:=by
     unfold A2
     rw[←hbfs,WF (by exact eV)]
    exact AG hc [.tmp 2] rfl (.inl rfl) (by simp) (by rw[h1];first|exact eR|refine Al ?_)
end
/- grammarlabref16.Clashes. -/
section
attribute [local go_sem] WP rH Li Ng Sq
theorem O3 (p:List Int):∀(d:Bool) (l:List (List Int)),(Dl p d l).length≤l.length+(if d=true then 0 else 1)
 | d,[]=>by
  unfold Dl
  split<;>simp
 | d,q :: l=>by
  rw[D9,List.length_append,List.length_append]
  have ih:=O3 p (d||!decide (Ba q p<0)) l
  have h2:(if q=p then ([]:List (List Int)) else [q]).length≤1:=by split<;>simp
  simp only[List.length_cons]
  cases d with
  | true =>
   rw[if_neg (by simp)]
   simp only[Bool.true_or,if_true]at ih
   simp only[List.length_nil,if_true]
   simp only[Bool.true_or]
   omega
  | false =>
   by_cases hq:Ba q p<0
   ·rw[if_neg (fun h=>h.2 hq)]
    rw[decide_eq_true hq]at ih ⊢
    simp at ih ⊢
    omega
   ·rw[if_pos ⟨rfl,hq⟩]
    rw[decide_eq_false hq]at ih ⊢
    simp at ih ⊢
    omega
def Yh (h:AP) (a b:List AL) (n:Nat):Bool:=(JB b ((A2 a).getD n [])).2&&!(Pt h (a.getD n (0,[])).1 (JB b ((A2 a).getD n [])).1)
def CV (h:AP) (a b:List AL):Nat→List (List Int)
 | 0=>[]
 | k+1=>if Yh h a b k=true then Dl ((A2 a).getD k []) false (CV h a b k) else CV h a b k
theorem KY (h:AP) (a b:List AL):∀k,(CV h a b k).length≤k
 | 0=>Nat.le_refl 0
 | k+1=>by
  have ih:=KY h a b k
  unfold CV
  split
  ·have:=O3 ((A2 a).getD k []) false (CV h a b k)
   rw[if_neg (show ¬false=true by decide)]at this
   omega
  ·omega
def IX:Ae:={ ins:=[TH,HS,HS],pre:=fun(h,a,b,_)=>rK h∧(BA a∧0<List.length a∧QJ h a∧List.length a≤12)∧BA b∧0<List.length b∧QJ h b,out:=fun(h,a,b,_)=>[.p IJ (CV h a b (List.length a))] }
attribute [local go_sem] IX
theorem aM:Ag Tryz.prog 23 IX:=by
 refine AR Tryz.func23 (by kernel_rfl) rfl Tryz.ntmps23 (by decide) (by kernel_rfl) (AF [(27,WP),(34,rH),(38,Ng),(44,Sq)]) (AD rV (AD x6 (AD lV (AD iU AH)))) ?_
 rintro w0 O0 ⟨⟨ht,hf⟩,a,b,u⟩ hc-⟨hw,⟨ga,pa,ta,la⟩,gb,pb,tb⟩
 simp only[IX,AN]
 have hfl:(A2 a).length=List.length a:=JA ga pa
 repeat'(first|exact trivial|refine eS rfl ?_|refine AB ?_|refine rX [0,1,2,3,4,5,6,7,8,9,10,11,17,41] hc ?_ ?_|refine rC ?_ ?_<;>intro AA<;>try(cases AA;done))
 ·exact⟨ga,pa⟩
 ·refine AK (ι:={k:Nat//k≤List.length a}) (fun k=>⟨[(3,.bp 3 [] 0),(4,.bp 4 [] 0),(5,.bp 5 [] 0),(7,.p IJ (CV (ht,hf) a b k.1)),(8,.p IJ (A2 a)),(9,.p (.int .i64) (k.1:Int))],[(5,.box 24 true [.p MZ b]),(4,.box 24 true [.p MZ a]),(3,.box 37 true [.p WZ ht,.p Xa hf])]⟩) (fun k=>List.length a-k.1) ⟨0,Nat.zero_le _⟩ (AC [(5,.nm 5),(4,.nm 4),(3,.nm 3)] rfl rfl ?_ ?_) (fun k=>?_)
  ·first|exact eN|refine eM ?_
  ·first|exact eN|refine eM ?_
   rfl
  ·obtain⟨k,hk⟩:=k
   have hcl:=KY (ht,hf) a b k
   have hs1:CV (ht,hf) a b (k+1)=if Yh (ht,hf) a b k=true then Dl ((A2 a).getD k []) false (CV (ht,hf) a b k) else CV (ht,hf) a b k:=rfl
   have htr:=fun p=>Sp (p:=p) gb pb tb
   simp only
   generalize hcc:CV (ht,hf) a b k=cl at *
   repeat'(first|exact trivial|refine eS rfl ?_|refine AB ?_|refine rX [0,1,2,3,4,5,6,7,8,9,10,11,17,41] hc ?_ ?_|refine rC ?_ ?_<;>intro AA<;>try(cases AA;done))
   ·exact⟨AA,gb,pb⟩
   ·have hkl:k<List.length a:=by omega
    exact⟨fun _=>Int.ofNat_lt.2 hkl,fun h=>⟨hw,(ta _ (AE (a:List AL) (0,[]) hkl)).2,(htr _ h).2⟩⟩
   ·exact⟨by assumption,by omega⟩
   ·omega
   ·have hkl:k<List.length a:=by omega
    have hb:Yh (ht,hf) a b k=true:=by unfold Yh;rw[AA.1,AA.2];rfl
    refine⟨⟨k+1,hkl⟩,by simp only;omega,AC [(5,.nm 5),(4,.nm 4),(3,.nm 3)] rfl rfl ?_ ?_⟩
    ·first|exact eN|refine eM ?_
    ·simp only
     rw[hs1,if_pos hb]
     first|exact eN|refine eM ?_
   ·omega
   ·have hkl:k<List.length a:=by omega
    have hb:¬Yh (ht,hf) a b k=true:=by
     unfold Yh
     intro h
     rw[Bool.and_eq_true]at h
     rw[AA h.1]at h
     cases h.2
    refine⟨⟨k+1,hkl⟩,by simp only;omega,AC [(5,.nm 5),(4,.nm 4),(3,.nm 3)] rfl rfl ?_ ?_⟩
    ·first|exact eN|refine eM ?_
    ·simp only
     rw[hs1,if_neg hb]
     first|exact eN|refine eM ?_
   ·have hka:k=List.length a:=by omega
    subst hka
    exact AG hc [.tmp 6] rfl (.inl rfl) (by simp) (by first|exact eR|refine Al ?_;exact hcc.symm)
end
/- Plain: both ways find the same clashes. -/
section
theorem lZ {h:AP} (hk:lE h) (hn:WN h) {a b:Int} (a0:0≤a) (a1:a<(h.1.length:Int)) (b0:0≤b) (b1:b<(h.1.length:Int)):(CQ h a b).2=(DX h a b).2:=by
 obtain⟨p1,p2⟩:=lU hk hn a0 a1 b0 b1
 obtain⟨q1,q2⟩:=qB hk a0 a1 b0 b1
 cases h6:(CQ h a b).2 with
 | true =>
  obtain⟨x0,x1,x2,x3⟩:=p1 h6
  exact(q2 _ x0 x1 x2 x3).1.symm
 | false =>
  cases hm:(DX h a b).2 with
  | false=>rfl
  | true =>
   obtain⟨x0,x1,x2,x3⟩:=q1 hm
   have:=(p2 _ x0 x1 x2 x3).1
   rw[h6]at this
   cases this
theorem l0 {h:AP} (hk:lE h) (hn:WN h) {a b:Int} (a1:a<(h.1.length:Int)) (b1:b<(h.1.length:Int)):Pt h a b=Fx h a b:=by
 unfold Pt Fx
 by_cases a0:a<0
 ·rw[decide_eq_true a0];rfl
 ·by_cases b0:b<0
  ·rw[decide_eq_true b0];simp
  ·rw[lZ hk hn (by omega) a1 (by omega) b1]
theorem MV {p:List Int}:∀ {l:List (List Int)},p∉l→Dl p true l=l
 | [],_=>rfl
 | q :: l,h=>by
  rw[D9,if_neg (by simp),if_neg (fun e=>h (by simp[e])),Bool.true_or,MV (fun hm=>h (by simp[hm]))]
  rfl
theorem O4 {p:List Int}:∀ {l:List (List Int)},p∉l→Dl p false l=Yd p l
 | [],_=>rfl
 | q :: l,h=>by
  have ha:=FZ q p
  unfold Yd
  rw[D9,if_neg (fun e:q=p=>h (by simp[e]))]
  by_cases hq:Ba q p<0
  ·rw[if_neg (fun e=>e.2 hq),if_neg (by omega),decide_eq_true hq]
   show []++([q]++Dl p false l)=_
   rw[O4 (fun hm=>h (by simp[hm]))]
   rfl
  ·rw[if_pos ⟨rfl,hq⟩,if_pos (by omega),decide_eq_false hq]
   show [p]++([q]++Dl p true l)=_
   rw[MV (fun hm=>h (by simp[hm]))]
   rfl
theorem MW {h:AP} (h64:h.2.length≤64) {f:List AL} (vf:VF h f) (hs:FY f):∀(k:Nat) (i:Int),i.toNat≤k→0≤i→i<(f.length:Int)→FJ f 0 ((A2 f).getD i.toNat [])=some i:=by
 obtain⟨C,c0,c1,c2,-⟩:=Ug vf.good hs vf.pos
 have key:∀(k:Nat) (i:Int),i.toNat≤k→0≤i→i<(f.length:Int)→i∈C:=by
  intro k
  induction k with
  | zero =>
   intro i hk i0 i1
   rw[show i=0 by omega]
   exact c0
  | succ k ih =>
   intro i hk i0 i1
   by_cases hi:i=0
   ·rw[hi];exact c0
   ·obtain⟨j,j0,j1,a,ha,e⟩:=vf.ro i (by omega) i1
    rw[←e]
    exact c1 j (ih j (by omega) j0 (by omega)) a ha
 exact fun k i hk i0 i1=>c2 i (key k i hk i0 i1)
theorem Up {h:AP} (h64:h.2.length≤64) {f:List AL} (vf:VF h f) (hs:FY f) {i j:Nat} (hi:i<f.length) (hj:j<f.length) (e:(A2 f).getD i []=(A2 f).getD j []):i=j:=by
 have h1:=MW h64 vf hs i (i:Int) (by omega) (by omega) (by omega)
 have h2:=MW h64 vf hs j (j:Int) (by omega) (by omega) (by omega)
 rw[Int.toNat_natCast]at h1 h2
 rw[e,h2]at h1
 have:=Option.some.inj h1
 omega
theorem aN {h:AP} (hk:lE h) (hn:WN h) (h64:h.2.length≤64) {a b:List AL} (va:VF h a) (hs:FY a) (vb:VF h b):CV h a b a.length=CR h a b:=by
 have hB:∀k,k<a.length→Yh h a b k=mR h a b k:=fun k hkl=>by
  unfold Yh mR
  cases ht:(JB b ((A2 a).getD k [])).2 with
  | false=>rfl
  | true =>
   have hr:=Sp vb.good vb.pos vb.ty ht
   have h1:=va.ty _ (AE a (0,[]) hkl)
   rw[l0 hk hn h1.2 hr.2]
   unfold Fx
   rw[decide_eq_false (Int.not_lt.2 h1.1),decide_eq_false (Int.not_lt.2 hr.1)]
   rfl
 have key:∀k,k≤a.length→(CV h a b k).Perm (D8 h a b k)∧(CV h a b k).Pairwise (fun x y=>Ba x y≤0):=by
  intro k
  induction k with
  | zero=>exact fun _=>⟨List.Perm.refl _,List.Pairwise.nil⟩
  | succ k ih =>
   intro hkl
   obtain⟨i1,i2⟩:=ih (by omega)
   unfold CV
   rw[hB k hkl]
   cases hb:mR h a b k with
   | false =>
    rw[if_neg (by simp),Yf hb]
    exact⟨i1,i2⟩
   | true =>
    have hno:(A2 a).getD k []∉CV h a b k:=fun hm=>by
     have hm:=i1.mem_iff.1 hm
     unfold D8 at hm
     obtain⟨j,hj,e⟩:=List.mem_map.1 hm
     have hjk:=List.mem_range.1 (List.mem_filter.1 hj).1
     have:=Up h64 va hs (by omega) hkl e
     omega
    rw[if_pos rfl,Ye hb,O4 hno]
    refine⟨?_,Nh _ i2⟩
    exact((IW _ _).trans (i1.cons _)).trans (List.perm_append_singleton _ _).symm
 obtain⟨k1,k2⟩:=key a.length (Nat.le_refl _)
 unfold CR
 refine List.Perm.eq_of_pairwise (le:=fun a b=>Ba a b≤0) (fun x y _ _ h1 h2=>?_) k2 (O2 _) (k1.trans (Fa _).symm)
 have:=FZ x y
 exact EE.1 (by omega)
end
/- Functions of grammarlabref07: Check. -/
section
attribute [local go_sem] ST Oh
def zA (h:AP) (a:Int×Int):Bool:=decide (a.1<(h.2.length:Int))
def l3 (h:AP) (x:AL):Bool:=decide (x.1<(h.1.length:Int))&&x.2.all (zA h)
def JD (h:AP) (f:List AL):Int:=if (CJ f).2≠0 then (CJ f).2 else if f.all (l3 h)=false then 2 else if (Cf f (CJ f).1==0)=false then 3 else 0
def Qh:Ae:={ ins:=[TH,HS],pre:=fun(_,f,_)=>Gq f,out:=fun(h,f,_)=>[.p XZ (JD h f)] }
theorem l4:Ag Tryz.prog 39 Qh:=by
 refine AR Tryz.func39 (by kernel_rfl) rfl Tryz.ntmps39 (by decide) (by kernel_rfl) (AF [(31,ST),(32,Oh)]) (AD qK (AD qG AH)) ?_
 rintro w0 O0 ⟨⟨ht,hf⟩,f,u⟩ hc-hs
 have hs:Gq f:=hs
 simp only[Qh,AN]
 repeat'(first|exact trivial|refine eS rfl ?_|refine AB ?_|refine rX [0,1,2,3,4,5,6,7,8,9,16,22,35,40,52,56] hc ?_ ?_|refine rC ?_ ?_<;>intro AA<;>try(cases AA;done))
 ·exact hs.2
 ·have h1:JD (ht,hf) f=(CJ f).2:=by unfold JD;rw[if_pos AA]
  exact AG hc [.tmp 4] rfl (.inl rfl) (by simp) (by rw[h1];first|exact eR|refine Al ?_)
 ·have hz:(CJ f).2=0:=by simpa using AA
  have hsc:=YN hs.2
  have hfl:=hs.1
  have hr:JD (ht,hf) f=if f.all (l3 (ht,hf))=false then 2 else if (Cf f (CJ f).1==0)=false then 3 else 0:=by unfold JD;rw[if_neg (by rw[hz];simp)]
  refine AK (ι:={i:Nat//i≤f.length∧(f.take i).all (l3 (ht,hf))=true}) (fun i=>⟨[(2,.bp 2 [] 0),(3,.bp 3 [] 0),(5,.bp 5 [] 0),(7,.p (.int .i64) (i.1:Int))],[(2,.box 37 true [.p WZ ht,.p Xa hf]),(3,.box 24 true [.p MZ f]),(5,.box 24 true [.p MZ (CJ f).1])]⟩) (fun i=>f.length-i.1) ⟨0,by simp⟩ (AC [(2,.nm 2),(3,.nm 3),(5,.nm 5)] rfl rfl ?_ ?_) (fun i=>?_)
  ·first|exact eN|refine eM ?_
  ·first|exact eN|refine eM ?_
  ·obtain⟨i,hi,hall⟩:=i
   have hsn:=fun h:i<f.length=>IL f (0,[]) (l3 (ht,hf)) h
   simp only
   repeat'(first|exact trivial|refine eS rfl ?_|refine AB ?_|refine rX [0,1,2,3,4,5,6,7,8,9,16,22,35,40,52,56] hc ?_ ?_|refine rC ?_ ?_<;>intro AA<;>try(cases AA;done))
   ·exact AA
   ·have hif:i<f.length:=Int.ofNat_lt.1 (by assumption)
    have e:f.all (l3 (ht,hf))=false:=by
     rw[List.all_eq_false]
     refine⟨_,AE f (0,[]) hif,?_⟩
     unfold l3
     rw[decide_eq_false (Int.not_lt.2 AA)]
     simp
    rw[if_pos e]at hr
    exact AG hc [.tmp 4] rfl (.inl rfl) (by simp) (by rw[hr];first|exact eR|refine Al ?_)
   ·have hif:i<f.length:=Int.ofNat_lt.1 (by assumption)
    have hm:=AE f (0,[]) hif
    have hnd:l3 (ht,hf) (f.getD i (0,[]))=(f.getD i (0,[])).2.all (zA (ht,hf)):=by
     unfold l3
     rw[decide_eq_true (show (f.getD i (0,[])).1<(ht.length:Int) from AA)]
     rfl
    have hal:(f.getD i (0,[])).2.length≤100000:=hs.2 _ hm
    refine AK (ι:={k:Nat//k≤(f.getD i (0,[])).2.length∧((f.getD i (0,[])).2.take k).all (zA (ht,hf))=true}) (fun k=>⟨[(2,.bp 2 [] 0),(3,.bp 3 [] 0),(5,.bp 5 [] 0),(7,.p (.int .i64) (i:Int)),(8,.bp 8 [] 0),(9,.p (.int .i64) (k.1:Int))],[(2,.box 37 true [.p WZ ht,.p Xa hf]),(3,.box 24 true [.p MZ f]),(5,.box 24 true [.p MZ (CJ f).1]),(8,.box 61 true [.p T3 (f.getD i (0,[])).1,.p Vg (f.getD i (0,[])).2])]⟩) (fun k=>(f.getD i (0,[])).2.length-k.1) ⟨0,by simp⟩ (AC [(2,.nm 2),(3,.nm 3),(5,.nm 5),(8,.nm 8)] rfl rfl ?_ ?_) (fun k=>?_)
    ·first|exact eN|refine eM ?_
    ·first|exact eN|refine eM ?_
    ·obtain⟨k,hk,hall2⟩:=k
     have hsn2:=fun h:k<(f.getD i (0,[])).2.length=>IL (f.getD i (0,[])).2 (0,0) (zA (ht,hf)) h
     simp only
     repeat'(first|exact trivial|refine eS rfl ?_|refine AB ?_|refine rX [0,1,2,3,4,5,6,7,8,9,16,22,35,40,52,56] hc ?_ ?_|refine rC ?_ ?_<;>intro AA<;>try(cases AA;done))
     ·exact AA
     ·have hkL:k<(f.getD i (0,[])).2.length:=Int.ofNat_lt.1 (by assumption)
      have e:f.all (l3 (ht,hf))=false:=by
       rw[List.all_eq_false]
       refine⟨_,hm,?_⟩
       rw[hnd,List.all_eq_false.2 ⟨_,AE (f.getD i (0,[])).2 (0,0) hkL,by unfold zA;rw[decide_eq_false (Int.not_lt.2 AA)];simp⟩]
       simp
      rw[if_pos e]at hr
      exact AG hc [.tmp 4] rfl (.inl rfl) (by simp) (by rw[hr];first|exact eR|refine Al ?_)
     ·exact eV
     ·have hkL:k<(f.getD i (0,[])).2.length:=Int.ofNat_lt.1 (by assumption)
      refine⟨⟨k+1,hkL,?_⟩,by simp only;omega,AC [(2,.nm 2),(3,.nm 3),(5,.nm 5),(8,.nm 8)] rfl rfl ?_ ?_⟩
      ·rw[hsn2 hkL,hall2]
       unfold zA
       exact decide_eq_true AA
      ·first|exact eN|refine eM ?_
      ·first|exact eN|refine eM ?_
     ·exact eV
     ·have hkL:(f.getD i (0,[])).2.take k=(f.getD i (0,[])).2:=List.take_of_length_le (Int.ofNat_le.1 AA)
      rw[hkL]at hall2
      refine⟨⟨i+1,hif,?_⟩,by simp only;omega,AC [(2,.nm 2),(3,.nm 3),(5,.nm 5)] rfl rfl ?_ ?_⟩
      ·rw[hsn hif,hall,hnd,hall2]
       rfl
      ·first|exact eN|refine eM ?_
      ·first|exact eN|refine eM ?_
   ·exact⟨hs,hsc⟩
   ·have hif:f.take i=f:=List.take_of_length_le (Int.ofNat_le.1 (by assumption))
    rw[hif]at hall
    rw[if_neg (by rw[hall];simp),if_pos (by simpa using AA)]at hr
    exact AG hc [.tmp 4] rfl (.inl rfl) (by simp) (by rw[hr];first|exact eR|refine Al ?_)
   ·have hif:f.take i=f:=List.take_of_length_le (Int.ofNat_le.1 (by assumption))
    rw[hif]at hall
    rw[if_neg (by rw[hall];simp),if_neg (by rw[AA];simp)]at hr
    exact AG hc [.tmp 4] rfl (.inl rfl) (by simp) (by rw[hr];first|exact eR|refine Al ?_)
def Hw (h:AP) (f:List AL):Bool:=F5 f&&JD h f==0
end
/- Plain: what is valid for a hierarchy is canonical. -/
section
theorem KZ (d:List AJ):(A9 d).1.1.length≤256∧(A9 d).1.2.length≤64:=by
 unfold A9
 split
 ·exact⟨by simp,by simp⟩
 ·rename_i hv
  have hv:(BJ d).2=0:=Classical.byContradiction hv
  have h5:BH d=0:=by
   unfold BJ at hv
   split at hv
   ·rename_i h;exact absurd hv h
   ·rename_i h;exact Classical.byContradiction h
  obtain⟨hz,hf64,-⟩:=CK h5
  obtain⟨-,hlen,-⟩:=Bc hz
  refine⟨?_,?_⟩
  ·show (EX _ _ _).length≤256
   rw[LE,Gn]
   exact hlen
  ·show (ED d).1.length≤64
   unfold ED
   rw[if_neg (by rw[h5];simp)]
   show ((DN d).map (SG d)).length≤64
   rw[List.length_map]
   exact hf64
theorem Yi {H:AP} (hb1:H.1.length≤256) (hb2:H.2.length≤64) {f:List AL} (h:Hw H f=true):BA f∧FY f∧0<f.length∧QJ H f∧DR f=true∧f.length≤12∧∀x∈f,∀a∈x.2,0≤a.1∧a.1<(H.2.length:Int):=by
 unfold Hw at h
 rw[Bool.and_eq_true,beq_iff_eq]at h
 obtain⟨hl,hc⟩:=h
 unfold JD at hc
 split at hc
 ·rename_i h1;exact absurd hc h1
 ·rename_i h1
  split at hc
  ·cases hc
  ·rename_i h2
   split at hc
   ·cases hc
   ·rename_i h3
    have h1:(CJ f).2=0:=Classical.byContradiction h1
    have h2:f.all (l3 H)=true:=by simpa using h2
    have h3:Cf f (CJ f).1=0:=by simpa using h3
    have hcan:DR f=true:=by
     unfold DR
     simp only[Bool.and_eq_true,beq_iff_eq]
     refine⟨⟨hl,?_⟩,h1,?_⟩
     ·rw[List.all_eq_true]at h2 ⊢
      intro x hx
      have:=h2 x hx
      unfold l3 at this
      rw[Bool.and_eq_true,decide_eq_true_eq,List.all_eq_true]at this
      unfold ndB
      rw[Bool.and_eq_true,decide_eq_true_eq,List.all_eq_true]
      refine⟨by omega,fun a ha=>?_⟩
      have:=this.2 a ha
      unfold zA at this
      rw[decide_eq_true_eq]at this
      unfold ftB
      rw[decide_eq_true_eq]
      omega
     ·rw[←KR h3]
      exact TS f
    obtain⟨g1,g2,g3,-⟩:=KS hcan
    have hz:Dz f=0:=by
     unfold CJ at h1
     split at h1
     ·rename_i hh;exact hh
     ·exact h1
    have hzg:JR (f.length:Int) f=0:=by
     unfold Dz at hz
     split at hz
     ·cases hz
     ·split at hz
      ·cases hz
      ·exact hz
    refine⟨g1,g2,g3,fun x hx=>?_,hcan,(KO hl).1,fun x hx a ha=>?_⟩
    ·have h5:=List.all_eq_true.1 h2 x hx
     unfold l3 at h5
     rw[Bool.and_eq_true,decide_eq_true_eq]at h5
     exact⟨(I8 hzg x hx).1,h5.1⟩
    ·have h5:=List.all_eq_true.1 h2 x hx
     unfold l3 at h5
     rw[Bool.and_eq_true,List.all_eq_true]at h5
     have h6:=h5.2 a ha
     unfold zA at h6
     rw[decide_eq_true_eq]at h6
     exact⟨((I8 hzg x hx).2 a ha).1,h6⟩
end
/- Plain: what is valid for a hierarchy, and the laws of unification. -/
section
theorem A0e {f:List AL} (hf:BA f) (hs:FY f) (h0:0<f.length) (hc:DR f=true):RO f:=by
 have h1:=xS hf hs h0 (fun _ _=>true)
 rwa [aF hc fun _ _ _ _=>rfl]at h1
theorem rW {h:AP} (hb1:h.1.length≤256) (hb2:h.2.length≤64) {f:List AL} (hv:Hw h f=true):VF h f∧f.length≤12:=by
 obtain⟨g1,g2,g3,g4,g5,g6,g7⟩:=Yi hb1 hb2 hv
 exact⟨⟨g1,g3,g4,fun x hx=>(KQ _).1 (g2 x hx).1,g7,Lh g5,A0e g1 g2 g3 g5⟩,g6⟩
theorem VF.srt {h:AP} (hu:HU h) {f:List AL} (hv:VF h f):FY f:=fun x hx=>by
 have:=A07 (hv.str x hx) (hv.ft64 hu x hx)
 exact⟨(KQ _).2 (hv.str x hx),by omega⟩
end
/- Plain: there is a unification if there is a structure that both subsume. -/
section
/-! What the statements ask -/
structure H11 (h:AP):Prop where
 hu:HU h
 top:A2l h
 b1:h.1.length≤256
theorem Pu (d:List AJ):H11 (A9 d).1:=⟨⟨KM d,YW d,(KZ d).2⟩,Yb d,(KZ d).1⟩
end
/- Plain: vectors, clashes and unification. -/
section
theorem l5 {h:AP} {a b:List AL} {p:List Int} (hp:p∈CR h a b):∃i,i<a.length∧mR h a b i=true∧p=(A2 a).getD i []:=by
 have:=(Fa (D8 h a b a.length)).mem_iff.1 hp
 unfold D8 at this
 obtain⟨i,hi,rfl⟩:=List.mem_map.1 this
 rw[List.mem_filter,List.mem_range]at hi
 exact⟨i,hi.1,hi.2,rfl⟩
theorem x9 {h:AP} {f:List AL} (vf:VF h f) {p:List Int} {n:Int} (hw:FJ f 0 p=some n):∀x∈p,0≤x∧x<(h.2.length:Int):=by
 intro x hx
 obtain⟨k,hk,rfl⟩:=List.mem_iff_getElem.1 hx
 obtain⟨m,hm⟩:=rD hw (k+1)
 rw[List.take_add_one,List.getElem?_eq_getElem hk]at hm
 obtain⟨y,_,a,ha,e,_⟩:=lQ hm
 unfold Bk at ha
 by_cases hy:y.toNat<f.length
 ·rw[←e]
  exact vf.ft _ (AE f (0,[]) hy) a ha
 ·rw[List.getD_eq_getElem?_getD,List.getElem?_eq_none (by omega)]at ha
  cases ha
theorem l6 {h:AP} (h64:h.2.length≤64) {a:List AL} (va:VF h a) (hs:FY a) {p:List Int} (hp:p∈A2 a):p.length<a.length∧∀x∈p,0≤x∧x<64:=by
 obtain⟨C,-,-,-,c3⟩:=Ug va.good hs va.pos
 refine⟨c3 p hp,fun x hx=>?_⟩
 have hfl:(A2 a).length=a.length:=JA va.good va.pos
 obtain⟨i,hi,e⟩:=List.mem_iff_getElem.1 hp
 have h1:=MW h64 va hs i (i:Int) (by omega) (by omega) (by omega)
 rw[Int.toNat_natCast,List.getD_eq_getElem?_getD,List.getElem?_eq_getElem hi,Option.getD_some,e]at h1
 have:=x9 va h1 x hx
 omega
theorem Uq {h:AP} (h64:h.2.length≤64) {a b:List AL} (va:VF h a) (hs:FY a) {p:List Int} (hp:p∈CR h a b):p.length<a.length∧∀x∈p,0≤x∧x<64:=by
 obtain⟨i,hi,_,rfl⟩:=l5 hp
 have hfl:(A2 a).length=a.length:=JA va.good va.pos
 exact l6 h64 va hs (AE (A2 a) [] (by omega))
theorem Ur {h:AP} {a b:List AL}:(CR h a b).length≤a.length:=by
 unfold CR
 rw[(Fa _).length_eq]
 exact So h a b a.length
end
/- quick.key. -/
section
def Ka (p:List Int):List Int:=p.flatMap fun x=>[Lm .i64 x 8,x]
theorem l7 {p:List Int} {k:Nat} (h:k<p.length):Ka (p.take (k+1))=Ka (p.take k)++[Lm .i64 (p.getD k 0) 8,p.getD k 0]:=by
 unfold Ka
 rw[Ab p 0 h,List.flatMap_append]
 rfl
theorem rZ (p:List Int):(Ka p).length=2*p.length:=by
 unfold Ka
 induction p with
 | nil=>rfl
 | cons x p ih=>rw[List.flatMap_cons,List.length_append,ih];simp;omega
theorem A2V {x:Int} (h0:0≤x) (h1:x<64):Lm .i64 x 8=0:=by
 show x.fdiv 256=0
 rw[Int.fdiv_eq_ediv_of_nonneg _ (by decide)]
 omega
def Yj:Ae:={ ins:=[Bz],pre:=fun(p,_)=>List.length p≤1000∧∀x∈(p:List Int),0≤x∧x<64,out:=fun(p,_)=>[.p .str (JI (Ka p))] }
attribute [local go_sem] Yj
theorem yA:Ag Tryz.prog 45 Yj:=by
 refine AR Tryz.func45 (by kernel_rfl) rfl Tryz.ntmps45 (by decide) (by kernel_rfl) (AF []) AH ?_
 rintro w0 O0 ⟨p,u⟩ hc-⟨hl,hx⟩
 have hl:List.length p≤1000:=hl
 simp only[Yj,AN]
 repeat'(first|exact trivial|refine eS rfl ?_|refine AB ?_|refine rX [0,2,3,5,6,7,8,9] hc ?_ ?_|refine rC ?_ ?_<;>intro AA<;>try(cases AA;done))
 refine AK (ι:={k:Nat//k≤List.length p}) (fun k=>⟨[(3,.sr 19 (.int .u8) 0 (2*k.1)),(6,.p Bz p),(7,.p (.int .i64) (List.length p:Int)),(8,.p (.int .i64) (k.1:Int))],[(19,.arr 5 (.int .u8) (Ka ((p:List Int).take k.1)))]⟩) (fun k=>List.length p-k.1) ⟨0,Nat.zero_le _⟩ (AC [(19,.nil)] rfl rfl ?_ ?_) (fun k=>?_)
 ·first|exact eN|refine eM ?_
  rfl
 ·first|exact eN|refine eM ?_
 ·obtain⟨k,hk⟩:=k
  have hkl:=rZ ((p:List Int).take k)
  rw[List.length_take,Nat.min_eq_left hk]at hkl
  have hks:=fun(h:k<List.length p)=>l7 h
  have htk:(Ka ((p:List Int).take k)).take (2*k)=Ka ((p:List Int).take k):=List.take_of_length_le (by omega)
  repeat'(first|exact trivial|refine eS rfl ?_|refine AB ?_|refine rX [0,2,3,5,6,7,8,9] hc ?_ ?_|refine rC ?_ ?_<;>intro AA<;>try(cases AA;done))
  ·exact AA
  ·have hkp:k<List.length p:=by exact eV
   have hg:=hx (List.getD p k 0) (AE (p:List Int) 0 hkp)
   rw[A2V hg.1 hg.2]
   simp only[AO]
   refine⟨⟨by decide,by decide⟩,⟨by decide,by decide⟩,⟨hg.1,Int.le_trans (Int.le_of_lt hg.2) (by decide)⟩,by omega⟩
  ·exact eV
  ·have hkp:k<List.length p:=by exact eV
   refine⟨⟨k+1,hkp⟩,by simp only;omega,AC [(19,.nm 19)] rfl rfl ?_ ?_⟩
   ·simp only
    rw[hks hkp]
    first|exact eN|refine eM ?_
    all_goals rw[htk]
   ·simp only
    rw[show 2*(k+1)=2*k+2 by omega]
    first|exact eN|refine eM ?_
  ·have hkp:(p:List Int).take k=p:=List.take_of_length_le (by exact eV)
   rw[hkp]at htk ⊢
   refine GD [19] ?_
   rw[htk]
   repeat'(first|exact trivial|refine eS rfl ?_|refine AB ?_|refine rX [0,2,3,5,6,7,8,9] hc ?_ ?_|refine rC ?_ ?_<;>intro AA<;>try(cases AA;done))
   exact AG hc [.tmp 2] rfl (.inl rfl) (by simp) (by first|exact eR|refine Al ?_)
end
/- Plain: sorting by exchanges. -/
section
section
variable {α:Type}
structure SO (o:α→α→Int):Prop where
 anti:∀a b,o b a=- o a b
 trans:∀ {a b c},o a b<0→o b c<0→o a c<0
variable {o:α→α→Int} {d:α}
def B4 (d:α) (l:List α) (i j:Nat):List α:=(l.set i (l.getD j d)).set j (l.getD i d)
theorem Gu {l:List α} {i j:Nat} (hi:i<l.length) (hj:j<l.length) (k:Nat):(B4 d l i j).getD k d=if k=j then l.getD i d else if k=i then l.getD j d else l.getD k d:=by
 unfold B4
 simp only[List.getD_eq_getElem?_getD,List.getElem?_set,List.length_set]
 by_cases e1:j=k
 ·rw[if_pos e1,if_pos (by omega),if_pos e1.symm];rfl
 ·rw[if_neg e1,if_neg (show ¬k=j by omega)]
  by_cases e2:i=k
  ·rw[if_pos e2,if_pos (by omega),if_pos e2.symm];rfl
  ·rw[if_neg e2,if_neg (show ¬k=i by omega)]
theorem l8 {l:List α} {i j:Nat} (hi:i<l.length) (hj:j<l.length):(B4 d l i j).Perm l:=by
 have e1:l.getD i d=l[i]:=by rw[List.getD_eq_getElem?_getD,List.getElem?_eq_getElem hi];rfl
 have e2:l.getD j d=l[j]:=by rw[List.getD_eq_getElem?_getD,List.getElem?_eq_getElem hj];rfl
 unfold B4
 rw[e1,e2]
 exact List.set_set_perm hi hj
structure DT (d:α) (a b:Nat) (l r:List α):Prop where
 perm:r.Perm l
 out:∀k,k<a∨b≤k→r.getD k d=l.getD k d
 inn:∀i,a≤i→i<b→∃j,a≤j∧j<b∧r.getD i d=l.getD j d
theorem DT.len {a b:Nat} {l r:List α} (h:DT d a b l r):r.length=l.length:=h.perm.length_eq
theorem DT.refl (a b:Nat) (l:List α):DT d a b l l:=⟨List.Perm.refl _,fun _ _=>rfl,fun i h1 h2=>⟨i,h1,h2,rfl⟩⟩
theorem DT.trans {a b:Nat} {l r s:List α} (h:DT d a b l r) (h2:DT d a b r s):DT d a b l s:=⟨h2.perm.trans h.perm,fun k hk=>(h2.out k hk).trans (h.out k hk),fun i h1 h3=>by
 obtain⟨j,j1,j2,e⟩:=h2.inn i h1 h3
 obtain⟨k,k1,k2,e2⟩:=h.inn j j1 j2
 exact⟨k,k1,k2,e.trans e2⟩⟩
theorem DT.mono {a b a' b':Nat} {l r:List α} (h:DT d a b l r) (ha:a'≤a) (hb:b≤b'):DT d a' b' l r:=⟨h.perm,fun k hk=>h.out k (by omega),fun i h1 h2=>by
 by_cases hi:a≤i∧i<b
 ·obtain⟨j,j1,j2,e⟩:=h.inn i hi.1 hi.2
  exact⟨j,by omega,by omega,e⟩
 ·exact⟨i,h1,h2,h.out i (by omega)⟩⟩
theorem DT.swap {a b:Nat} (l:List α) {i j:Nat} (i1:a≤i) (i2:i<b) (j1:a≤j) (j2:j<b) (hb:b≤l.length):DT d a b l (B4 d l i j):=by
 have hg:=Gu (d:=d) (l:=l) (i:=i) (j:=j) (by omega) (by omega)
 refine⟨l8 (by omega) (by omega),fun k hk=>?_,fun k k1 k2=>?_⟩
 ·rw[hg k,if_neg (by omega),if_neg (by omega)]
 ·rw[hg k]
  by_cases e1:k=j
  ·rw[if_pos e1];exact⟨i,i1,i2,rfl⟩
  ·rw[if_neg e1]
   by_cases e2:k=i
   ·rw[if_pos e2];exact⟨j,j1,j2,rfl⟩
   ·rw[if_neg e2];exact⟨k,k1,k2,rfl⟩
def Y0 (o:α→α→Int) (d:α) (l:List α):Prop:=∀i j,i<l.length→j<l.length→i≠j→o (l.getD i d) (l.getD j d)≠0
theorem iV (so:SO o) (l:List α):Y0 o d l↔l.Pairwise fun a b=>o a b≠0:=by
 have hg:∀i (h:i<l.length),l.getD i d=l[i]:=fun i h=>by rw[List.getD_eq_getElem?_getD,List.getElem?_eq_getElem h];rfl
 rw[List.pairwise_iff_getElem]
 constructor
 ·intro h i j hi hj hij
  have:=h i j hi hj (by omega)
  rwa [hg i hi,hg j hj]at this
 ·intro h i j hi hj hij
  rw[hg i hi,hg j hj]
  rcases Nat.lt_or_gt_of_ne hij with h1|h1
  ·exact h i j hi hj h1
  ·have h2:=h j i hj hi h1
   rw[so.anti]
   omega
theorem Y0.perm (so:SO o) {l r:List α} (h:Y0 o d l) (hp:r.Perm l):Y0 o d r:=by
 rw[iV so]at h ⊢
 refine(hp.symm.pairwise_iff ?_).1 h
 intro a b hab
 rw[so.anti]
 omega
theorem Y0.lt (so:SO o) {l:List α} (h:Y0 o d l) {i j:Nat} (hi:i<l.length) (hj:j<l.length) (hij:i≠j) (hn:¬o (l.getD i d) (l.getD j d)<0):o (l.getD j d) (l.getD i d)<0:=by
 have h1:=h i j hi hj hij
 rw[so.anti]
 omega
def Pv (o:α→α→Int) (d:α) (a b:Nat) (l:List α):Prop:=∀i j,a≤i→i<j→j<b→o (l.getD i d) (l.getD j d)<0
theorem WQ (a:Nat) (l:List α):Pv o d a (a+1) l:=fun i j h1 h2 h3=>by omega
theorem r7 (so:SO o) {a b:Nat} {l:List α} (h:Pv o d a b l) (hab:a<b) (hl:o (l.getD (b-1) d) (l.getD b d)<0):Pv o d a (b+1) l:=by
 intro i j h1 h2 h3
 by_cases hj:j=b
 ·subst hj
  by_cases hi:i=j-1
  ·rw[hi];exact hl
  ·exact so.trans (h i (j-1) h1 (by omega) (by omega)) hl
 ·exact h i j h1 h2 (by omega)
theorem LI {a b:Nat} {l r:List α} (h:Pv o d a b l) (e:∀k,a≤k→k<b→r.getD k d=l.getD k d):Pv o d a b r:=fun i j h1 h2 h3=>by
 rw[e i h1 (by omega),e j (by omega) h3]
 exact h i j h1 h2 h3
/-! Insertion -/
def aO (o:α→α→Int) (d:α) (a i j:Nat) (m:List α):Prop:=(∀x y,a≤x→x<y→y≤i→x≠j→y≠j→o (m.getD x d) (m.getD y d)<0)∧∀y,j<y→y≤i→o (m.getD j d) (m.getD y d)<0
theorem aP {a i:Nat} {m:List α} (h:Pv o d a i m):aO o d a i i m:=⟨fun x y h0 h1 h2 h3 h4=>h x y h0 h1 (by omega),fun y h1 h2=>by omega⟩
theorem Sr (so:SO o) {a i j:Nat} {m:List α} (h:aO o d a i j m) (haj:a≤j) (hj:j≤i) (he:j=a∨o (m.getD (j-1) d) (m.getD j d)<0):Pv o d a (i+1) m:=by
 intro x y h0 h1 h2
 by_cases e1:x=j
 ·subst e1;exact h.2 y h1 (by omega)
 ·by_cases e2:y=j
  ·subst e2
   rcases he with he|he
   ·omega
   ·by_cases e3:x=y-1
    ·subst e3;exact he
    ·exact so.trans (h.1 x (y-1) h0 (by omega) (by omega) e1 (by omega)) he
  ·exact h.1 x y h0 h1 (by omega) e1 e2
theorem Us {a i j:Nat} {m:List α} (h:aO o d a i j m) (h0:a<j) (hj:j≤i) (hi:i<m.length) (hlt:o (m.getD j d) (m.getD (j-1) d)<0):aO o d a i (j-1) (B4 d m j (j-1)):=by
 have hg:=Gu (d:=d) (l:=m) (i:=j) (j:=j-1) (by omega) (by omega)
 refine⟨fun x y hx h1 h2 h3 h4=>?_,fun y h1 h2=>?_⟩
 ·rw[hg x,hg y,if_neg h3,if_neg h4]
  by_cases e1:x=j
  ·subst e1
   rw[if_pos rfl,if_neg (by omega)]
   exact h.1 (x-1) y (by omega) (by omega) h2 (by omega) (by omega)
  ·rw[if_neg e1]
   by_cases e2:y=j
   ·rw[if_pos e2]
    exact h.1 x (j-1) hx (by omega) (by omega) e1 (by omega)
   ·rw[if_neg e2]
    exact h.1 x y hx h1 h2 e1 e2
 ·rw[hg (j-1),hg y,if_pos rfl,if_neg (by omega)]
  by_cases e2:y=j
  ·rw[if_pos e2];exact hlt
  ·rw[if_neg e2]
   exact h.2 y (by omega) h2
/-! Heaps -/
def Hp (o:α→α→Int) (d:α) (f hi lo:Nat) (m:List α):Prop:=∀k c,lo≤k→(c=2*k+1∨c=2*k+2)→c<hi→o (m.getD (f+c) d) (m.getD (f+k) d)<0
structure zB (o:α→α→Int) (d:α) (f hi lo root:Nat) (m:List α):Prop where
 le:lo≤root
 hp:∀k c,lo≤k→k≠root→(c=2*k+1∨c=2*k+2)→c<hi→o (m.getD (f+c) d) (m.getD (f+k) d)<0
 up:∀p c,lo≤p→(root=2*p+1∨root=2*p+2)→(c=2*root+1∨c=2*root+2)→c<hi→o (m.getD (f+c) d) (m.getD (f+p) d)<0
theorem l9 {f hi lo:Nat} {m:List α} (h:Hp o d f hi (lo+1) m):zB o d f hi lo lo m:=⟨Nat.le_refl _,fun k c h1 h2 h3 h4=>h k c (by omega) h3 h4,fun p c h1 h2=>by omega⟩
theorem r8 {f hi lo root:Nat} {m:List α} (h:zB o d f hi lo root m) (hl:hi≤2*root+1):Hp o d f hi lo m:=fun k c h1 h2 h3=>h.hp k c h1 (by omega) h2 h3
theorem Yk (so:SO o) {f hi lo root ch:Nat} {m:List α} (h:zB o d f hi lo root m) (hc:ch=2*root+1∨ch=2*root+2) (hlt:o (m.getD (f+ch) d) (m.getD (f+root) d)<0)
  (hs:∀c,(c=2*root+1∨c=2*root+2)→c<hi→c≠ch→o (m.getD (f+c) d) (m.getD (f+ch) d)<0):Hp o d f hi lo m:=fun k c h1 h2 h3=>by
 by_cases hk:k=root
 ·subst hk
  by_cases hcc:c=ch
  ·rw[hcc];exact hlt
  ·exact so.trans (hs c h2 h3 hcc) hlt
 ·exact h.hp k c h1 hk h2 h3
theorem Yl {f hi lo root ch:Nat} {m:List α} (h:zB o d f hi lo root m) (hch:ch<hi) (hf:f+hi≤m.length) (hc:ch=2*root+1∨ch=2*root+2) (hlt:o (m.getD (f+root) d) (m.getD (f+ch) d)<0)
  (hs:∀c,(c=2*root+1∨c=2*root+2)→c<hi→c≠ch→o (m.getD (f+c) d) (m.getD (f+ch) d)<0):zB o d f hi lo ch (B4 d m (f+root) (f+ch)):=by
 have hg:=Gu (d:=d) (l:=m) (i:=f+root) (j:=f+ch) (by omega) (by omega)
 have hle:=h.le
 refine⟨by omega,fun k c h1 h2 h3 h4=>?_,fun p c h1 h2 h3 h4=>?_⟩
 ·rw[hg,hg]
  by_cases hk:k=root
  ·subst hk
   rw[if_neg (show ¬f+k=f+ch by omega),if_pos rfl]
   by_cases hcc:c=ch
   ·rw[if_pos (by omega)];exact hlt
   ·rw[if_neg (by omega),if_neg (by omega)]
    exact hs c h3 h4 hcc
  ·rw[if_neg (show ¬f+k=f+ch by omega),if_neg (show ¬f+k=f+root by omega)]
   by_cases hcr:c=root
   ·subst hcr
    rw[if_neg (by omega),if_pos rfl]
    exact h.up k ch h1 h3 hc hch
   ·rw[if_neg (by omega),if_neg (by omega)]
    exact h.hp k c h1 hk h3 h4
 ·have hp:p=root:=by omega
  subst hp
  rw[hg,hg,if_neg (by omega),if_neg (by omega),if_neg (by omega),if_pos rfl]
  exact h.hp ch c (by omega) (by omega) h3 h4
theorem Ym (so:SO o) {f hi:Nat} {m:List α} (h:Hp o d f hi 0 m):∀(n k:Nat),k≤n→0<k→k<hi→o (m.getD (f+k) d) (m.getD f d)<0
 | 0,k,h1,h2,_=>by omega
 | n+1,k,h1,h2,h3=>by
  have hpar:=h ((k-1) / 2) k (by omega) (by omega) h3
  by_cases hz:(k-1) / 2=0
  ·rw[hz]at hpar;exact hpar
  ·exact so.trans hpar (Ym so h n ((k-1) / 2) (by omega) (by omega) (by omega))
structure mA (o:α→α→Int) (d:α) (f n i:Nat) (m:List α):Prop where
 heap:Hp o d f i 0 m
 srt:Pv o d (f+i) (f+n) m
 big:∀x y,x<i→i≤y→y<n→o (m.getD (f+x) d) (m.getD (f+y) d)<0
theorem aQ {f n:Nat} {m:List α} (h:Hp o d f n 0 m):mA o d f n n m:=⟨h,fun i j h1 h2 h3=>by omega,fun x y h1 h2 h3=>by omega⟩
theorem mB (so:SO o) {f n i:Nat} {m:List α} (h:mA o d f n (i+1) m) (hi:i<n) (hl:f+n≤m.length) :
  zB o d f i 0 0 (B4 d m f (f+i))∧Pv o d (f+i) (f+n) (B4 d m f (f+i))∧∀x y,x<i→i≤y→y<n→o ((B4 d m f (f+i)).getD (f+x) d) ((B4 d m f (f+i)).getD (f+y) d)<0:=by
 have hg:=Gu (d:=d) (l:=m) (i:=f) (j:=f+i) (by omega) (by omega)
 have hmax:=Ym so h.heap i
 refine⟨⟨Nat.le_refl _,fun k c h1 h2 h3 h4=>?_,fun p c h1 h2=>by omega⟩,fun x y h1 h2 h3=>?_,fun x y h1 h2 h3=>?_⟩
 ·rw[hg,hg,if_neg (by omega),if_neg (by omega),if_neg (by omega),if_neg (by omega)]
  exact h.heap k c h1 h3 (by omega)
 ·rw[hg,hg,if_neg (show ¬y=f+i by omega),if_neg (show ¬y=f by omega)]
  by_cases hx:x=f+i
  ·rw[if_pos hx]
   have:=h.big 0 (y-f) (by omega) (by omega) (by omega)
   rwa [show f+0=f by omega,show f+(y-f)=y by omega]at this
  ·rw[if_neg hx,if_neg (by omega)]
   exact h.srt x y (by omega) h2 h3
 ·have key:∀z,z<i+1→i+1≤y→o (m.getD (f+z) d) (m.getD (f+y) d)<0:=fun z hz hy=>h.big z y hz hy h3
  rw[hg,hg,if_neg (show ¬f+x=f+i by omega)]
  by_cases hy:y=i
  ·rw[if_pos (show f+y=f+i by omega)]
   by_cases hx:x=0
   ·rw[if_pos (show f+x=f by omega)]
    exact hmax i (by omega) (by omega) (by omega)
   ·rw[if_neg (show ¬f+x=f by omega)]
    exact hmax x (by omega) (by omega) (by omega)
  ·rw[if_neg (show ¬f+y=f+i by omega),if_neg (show ¬f+y=f by omega)]
   by_cases hx:x=0
   ·rw[if_pos (show f+x=f by omega)]
    exact key i (by omega) (by omega)
   ·rw[if_neg (show ¬f+x=f by omega)]
    exact key x (by omega) (by omega)
theorem mC {f n i:Nat} {m r:List α} (hp:DT d f (f+i) m r) (hh:Hp o d f i 0 r) (hs:Pv o d (f+i) (f+n) m) (hb:∀x y,x<i→i≤y→y<n→o (m.getD (f+x) d) (m.getD (f+y) d)<0):mA o d f n i r :=
 ⟨hh,LI hs fun k h1 h2=>hp.out k (by omega),fun x y h1 h2 h3=>by
  rw[hp.out (f+y) (by omega)]
  obtain⟨j,j1,j2,e⟩:=hp.inn (f+x) (by omega) (by omega)
  rw[e]
  have:=hb (j-f) y (by omega) h2 h3
  rwa [show f+(j-f)=j by omega]at this⟩
theorem r9 {f n:Nat} {m:List α} (h:mA o d f n 0 m):Pv o d f (f+n) m:=h.srt
/-! Parts -/
structure zC (o:α→α→Int) (d:α) (a b i j:Nat) (m:List α):Prop where
 lo:∀x,a<x→x<i→o (m.getD x d) (m.getD a d)<0
 hi:∀x,j<x→x<b→o (m.getD a d) (m.getD x d)<0
theorem Yn {a b i j:Nat} {m:List α} (h:zC o d a b i j m) (hai:a<i) (hij:i<j) (hj:j<b) (hb:b≤m.length) (h1:o (m.getD a d) (m.getD i d)<0) (h2:o (m.getD j d) (m.getD a d)<0):zC o d a b (i+1) (j-1) (B4 d m i j):=by
 have hg:=Gu (d:=d) (l:=m) (i:=i) (j:=j) (by omega) (by omega)
 refine⟨fun x x1 x2=>?_,fun x x1 x2=>?_⟩
 ·rw[hg x,hg a,if_neg (show ¬x=j by omega),if_neg (show ¬a=j by omega),if_neg (show ¬a=i by omega)]
  by_cases e:x=i
  ·rw[if_pos e];exact h2
  ·rw[if_neg e];exact h.lo x x1 (by omega)
 ·rw[hg x,hg a,if_neg (show ¬a=j by omega),if_neg (show ¬a=i by omega)]
  by_cases e:x=j
  ·rw[if_pos e];exact h1
  ·rw[if_neg e,if_neg (by omega)]
   exact h.hi x (by omega) x2
structure mS (o:α→α→Int) (d:α) (a b p:Nat) (m:List α):Prop where
 l:a≤p
 r:p<b
 lo:∀x,a≤x→x<p→o (m.getD x d) (m.getD p d)<0
 hi:∀x,p<x→x<b→o (m.getD p d) (m.getD x d)<0
theorem iW {a b j:Nat} {m:List α} (h:zC o d a b (j+1) j m) (haj:a≤j) (hj:j<b) (hb:b≤m.length):mS o d a b j (B4 d m j a):=by
 have hg:=Gu (d:=d) (l:=m) (i:=j) (j:=a) (by omega) (by omega)
 refine⟨haj,hj,fun x x1 x2=>?_,fun x x1 x2=>?_⟩
 ·rw[hg x,hg j,if_neg (show ¬j=a by omega),if_pos rfl]
  by_cases e:x=a
  ·rw[if_pos e];exact h.lo j (by omega) (by omega)
  ·rw[if_neg e,if_neg (by omega)]
   exact h.lo x (by omega) (by omega)
 ·rw[hg x,hg j,if_neg (show ¬x=a by omega),if_neg (show ¬x=j by omega)]
  by_cases e:j=a
  ·rw[if_pos e];rw[e];exact h.hi x (by omega) x2
  ·rw[if_neg e,if_pos rfl];exact h.hi x (by omega) x2
/-! The whole -/
structure mD (o:α→α→Int) (d:α) (a0 b0 a b:Nat) (m:List α):Prop where
 s1:Pv o d a0 a m
 s2:Pv o d b b0 m
 c1:∀x y,a0≤x→x<a→a≤y→y<b0→o (m.getD x d) (m.getD y d)<0
 c2:∀x y,a0≤x→x<b→b≤y→y<b0→o (m.getD x d) (m.getD y d)<0
 ab:a0≤a∧a≤b∧b≤b0
theorem mE {a b:Nat} (hab:a≤b) (m:List α):mD o d a b a b m:=⟨fun i j h1 h2 h3=>by omega,fun i j h1 h2 h3=>by omega,fun x y h1 h2=>by omega,fun x y h1 h2 h3 h4=>by omega,by omega⟩
theorem mD.pin {a0 b0 a b:Nat} {m r:List α} (h:mD o d a0 b0 a b m) (hp:DT d a b m r):mD o d a0 b0 a b r:=by
 obtain⟨q1,q2,q3⟩:=h.ab
 have key:∀(P:α→Prop) (lo hi:Nat),lo≤a→b≤hi→(∀y,lo≤y→y<hi→P (m.getD y d))→∀y,lo≤y→y<hi→P (r.getD y d):=fun P lo hi h1 h2 hm y y1 y2=>by
  obtain⟨j,j1,j2,e⟩:=(hp.mono h1 h2).inn y y1 y2
  rw[e];exact hm j j1 j2
 refine⟨LI h.s1 fun k k1 k2=>hp.out k (by omega),LI h.s2 fun k k1 k2=>hp.out k (by omega),fun x y x1 x2 y1 y2=>?_,fun x y x1 x2 y1 y2=>?_,h.ab⟩
 ·rw[hp.out x (by omega)]
  exact key (fun z=>o (m.getD x d) z<0) a b0 (Nat.le_refl _) q3 (fun y y1 y2=>h.c1 x y x1 x2 y1 y2) y y1 y2
 ·rw[hp.out y (by omega)]
  exact key (fun z=>o z (m.getD y d)<0) a0 b q1 (Nat.le_refl _) (fun x x1 x2=>h.c2 x y x1 x2 y1 y2) x x1 x2
theorem mD.done {a0 b0 a b:Nat} {m:List α} (h:mD o d a0 b0 a b m) (hs:Pv o d a b m):Pv o d a0 b0 m:=by
 obtain⟨q1,q2,q3⟩:=h.ab
 intro i j h1 h2 h3
 by_cases hi:i<a
 ·by_cases hj:j<a
  ·exact h.s1 i j h1 h2 hj
  ·exact h.c1 i j h1 hi (by omega) h3
 ·by_cases hj:j<b
  ·exact hs i j (by omega) h2 hj
  ·by_cases hib:i<b
   ·exact h.c2 i j h1 hib (by omega) h3
   ·exact h.s2 i j (by omega) h2 h3
theorem mD.left (so:SO o) {a0 b0 a b p:Nat} {m:List α} (h:mD o d a0 b0 a b m) (hp:mS o d a b p m) (hs:Pv o d a p m):mD o d a0 b0 (p+1) b m:=by
 obtain⟨q1,q2,q3⟩:=h.ab
 have hl:=hp.l
 have hr:=hp.r
 refine⟨fun i j h1 h2 h3=>?_,h.s2,fun x y x1 x2 y1 y2=>?_,h.c2,by omega⟩
 ·by_cases hi:i<a
  ·by_cases hj:j<a
   ·exact h.s1 i j h1 h2 hj
   ·exact h.c1 i j h1 hi (by omega) (by omega)
  ·by_cases hj:j=p
   ·rw[hj];exact hp.lo i (by omega) (by omega)
   ·exact hs i j (by omega) h2 (by omega)
 ·by_cases hx:x<a
  ·exact h.c1 x y x1 hx (by omega) y2
  ·by_cases hy:y<b
   ·by_cases hxp:x=p
    ·rw[hxp];exact hp.hi y (by omega) hy
    ·exact so.trans (hp.lo x (by omega) (by omega)) (hp.hi y (by omega) hy)
   ·exact h.c2 x y x1 (by omega) (by omega) y2
theorem mD.right (so:SO o) {a0 b0 a b p:Nat} {m:List α} (h:mD o d a0 b0 a b m) (hp:mS o d a b p m) (hs:Pv o d (p+1) b m):mD o d a0 b0 a p m:=by
 obtain⟨q1,q2,q3⟩:=h.ab
 have hl:=hp.l
 have hr:=hp.r
 refine⟨h.s1,fun i j h1 h2 h3=>?_,fun x y x1 x2 y1 y2=>h.c1 x y x1 x2 y1 y2,fun x y x1 x2 y1 y2=>?_,by omega⟩
 ·by_cases hj:j<b
  ·by_cases hi:i=p
   ·rw[hi];exact hp.hi j (by omega) hj
   ·exact hs i j (by omega) h2 hj
  ·by_cases hib:i<b
   ·exact h.c2 i j (by omega) hib (by omega) h3
   ·exact h.s2 i j (by omega) h2 h3
 ·by_cases hy:y<b
  ·by_cases hx:x<a
   ·exact h.c1 x y x1 hx (by omega) y2
   ·by_cases hyp:y=p
    ·rw[hyp];exact hp.lo x (by omega) x2
    ·exact so.trans (hp.lo x (by omega) x2) (hp.hi y (by omega) hy)
  ·exact h.c2 x y x1 (by omega) (by omega) y2
theorem mS.pinL {a b p:Nat} {m r:List α} (h:mS o d a b p m) (hp:DT d a p m r):mS o d a b p r:=by
 have hl:=h.l
 have hr:=h.r
 refine⟨hl,hr,fun x x1 x2=>?_,fun x x1 x2=>?_⟩
 ·rw[hp.out p (by omega)]
  obtain⟨j,j1,j2,e⟩:=hp.inn x x1 x2
  rw[e];exact h.lo j j1 j2
 ·rw[hp.out p (by omega),hp.out x (by omega)]
  exact h.hi x x1 x2
theorem mS.pinR {a b p:Nat} {m r:List α} (h:mS o d a b p m) (hp:DT d (p+1) b m r):mS o d a b p r:=by
 have hl:=h.l
 have hr:=h.r
 refine⟨hl,hr,fun x x1 x2=>?_,fun x x1 x2=>?_⟩
 ·rw[hp.out p (by omega),hp.out x (by omega)]
  exact h.lo x x1 x2
 ·rw[hp.out p (by omega)]
  obtain⟨j,j1,j2,e⟩:=hp.inn x (by omega) x2
  rw[e];exact h.hi j (by omega) j2
def Bf (o:α→α→Int) (d:α) (a b:Nat) (m:List α):Prop:=a=0∨∀y,a≤y→y<b→o (m.getD (a-1) d) (m.getD y d)<0
theorem Bf.pin {a b:Nat} {m r:List α} (h:Bf o d a b m) (hp:DT d a b m r):Bf o d a b r:=by
 rcases h with h|h
 ·exact .inl h
 ·by_cases h0:a=0
  ·exact .inl h0
  ·right
   intro y y1 y2
   rw[hp.out (a-1) (by omega)]
   obtain⟨j,j1,j2,e⟩:=hp.inn y y1 y2
   rw[e];exact h j j1 j2
theorem Bf.sub {a b b':Nat} {m:List α} (h:Bf o d a b m) (hb:b'≤b):Bf o d a b' m:=h.imp id fun h y y1 y2=>h y y1 (by omega)
theorem mS.bf {a b p:Nat} {m:List α} (h:mS o d a b p m):Bf o d (p+1) b m:=.inr fun y y1 y2=>by
 rw[show p+1-1=p by omega]
 exact h.hi y (by omega) y2
end
end
/- The order of counted paths: quick.Train$1. -/
section
attribute [local go_sem] DB JC
def A5 (a b:List Int×Int):Int:=if a.2=b.2 then Ba a.1 b.1 else Ej b.2 a.2
def IY:Ae:={ ins:=[Bi,Bi],pre:=fun _=>True,out:=fun(a,b,_)=>[.p T3 (A5 a b)],lend:=true }
attribute [local go_sem] IY
theorem LJ:Ag Tryz.prog 47 IY:=by
 refine AR Tryz.func47 (by kernel_rfl) rfl Tryz.ntmps47 (by decide) (by kernel_rfl) (AF [(48,DB),(43,JC)]) (AD Ht (AD Um AH)) ?_
 rintro w0 O0 ⟨⟨ap,an⟩,⟨bp,bn⟩,u⟩ hc - -
 simp only[IY,AN]
 repeat'(first|exact trivial|refine eS rfl ?_|refine AB ?_|refine rX [0,1,2,3,4,9] hc ?_ ?_|refine rC ?_ ?_<;>intro AA<;>try(cases AA;done))
 ·have h1:A5 (ap,an) (bp,bn)=Ej bn an:=if_neg AA
  exact AG hc [.tmp 4] rfl (.inl rfl) (by simp) (by rw[h1];first|exact eR|refine Al ?_)
 ·have h1:A5 (ap,an) (bp,bn)=Ba ap bp:=if_pos (by simpa using AA)
  exact AG hc [.tmp 4] rfl (.inl rfl) (by simp) (by rw[h1];first|exact eR|refine Al ?_)
theorem IZ {a b:List Int×Int}:A5 a b=0↔a=b:=by
 unfold A5
 split
 ·rename_i h
  rw[EE]
  exact⟨fun e=>Prod.ext e h,fun e=>by rw[e]⟩
 ·rename_i h
  rw[CA]
  exact⟨fun e=>absurd e.symm h,fun e=>absurd (by rw[e]) h⟩
theorem LK (a b:List Int×Int):A5 b a=- A5 a b:=by
 unfold A5
 by_cases h:a.2=b.2
 ·rw[if_pos h,if_pos h.symm,FZ]
 ·rw[if_neg h,if_neg (fun e=>h e.symm),Oy]
theorem Ss {a b c:List Int×Int} (h1:A5 a b<0) (h2:A5 b c<0):A5 a c<0:=by
 unfold A5 at h1 h2 ⊢
 by_cases e1:a.2=b.2
 ·rw[if_pos e1]at h1
  by_cases e2:b.2=c.2
  ·rw[if_pos e2]at h2
   rw[if_pos (e1.trans e2)]
   exact Sm h1 h2
  ·rw[if_neg e2]at h2
   rw[if_neg (fun e=>e2 (e1.symm.trans e)),e1]
   exact h2
 ·rw[if_neg e1]at h1
  have h1:=Cg.1 h1
  by_cases e2:b.2=c.2
  ·rw[if_neg (fun e=>e1 (e.trans e2.symm)),←e2]
   exact Cg.2 h1
  ·rw[if_neg e2]at h2
   have h2:=Cg.1 h2
   rw[if_neg (by omega)]
   exact Cg.2 (by omega)
end
/- The sort of counted paths: insertion, reversal, heaps. -/
section
theorem BD:SO A5:=⟨LK,Ss⟩
attribute [local go_sem] IY
theorem yB (l:List (List Int×Int)) (hl:l.length≤100000) (hD:Y0 A5 ([],0) l) (a b:Nat) (ha0:a≤100000) (hb:b≤l.length):B9 Tryz.prog 113 [.sr 1000000 Bi 0 l.length,.p T3 (a:Int),.p T3 (b:Int),.fn 47] [(1000000,.arr 82 Bi l)] [1000000] (fun res objs'=>res=.raw (.tuple #[])∧∃r,objs'=[(1000000,.arr 82 Bi r)]∧DT ([],0) a b l r∧Pv A5 ([],0) a b r):=by
 refine Bw Tryz.func113 (by kernel_rfl) rfl Tryz.ntmps113 (by simp only[List.length_cons,List.length_nil];omega) (by kernel_rfl) rfl rfl (AF [(47,IY)]) (AD LJ AH) ?_
 intro w0 K O0 ρ0 hc hok1 hok2
 simp only[A1]
 repeat'(first|exact trivial|refine eS rfl ?_|refine AB ?_|refine rX [0,1,2,3,8,9,14,34] hc ?_ ?_|refine rC ?_ ?_<;>intro AA<;>try(cases AA;done))
 ·omega
 ·refine AK (ι:={s:Nat×List (List Int×Int)//a+1≤s.1∧(s.1=a+1∨s.1≤b)∧DT ([],0) a b l s.2∧Pv A5 ([],0) a s.1 s.2}) (fun s=>⟨[(0,.sr 1000000 Bi 0 l.length),(1,.p T3 (a:Int)),(2,.p T3 (b:Int)),(3,.fn 47),(8,.p (.int .i64) (s.1.1:Int))],[(1000000,.arr 82 Bi s.1.2)]⟩) (fun s=>b-s.1.1) ⟨(a+1,l),Nat.le_refl _,.inl rfl,DT.refl a b l,WQ a l⟩ (AC [(1000000,.nm 1000000)] rfl rfl ?_ ?_) (fun s=>?_)
  ·first|exact eN|refine eM ?_
  ·first|exact eN|refine eM ?_
  ·obtain⟨⟨i,m⟩,hi1,hi2,hp,hs⟩:=s
   simp only at hi1 hi2 hp hs ⊢
   have hml:=hp.len
   repeat'(first|exact trivial|refine eS rfl ?_|refine AB ?_|refine rX [0,1,2,3,8,9,14,34] hc ?_ ?_|refine rC ?_ ?_<;>intro AA<;>try(cases AA;done))
   ·have hil:i<b:=by exact eV
    refine AK (ι:={t:Nat×List (List Int×Int)//a≤t.1∧t.1≤i∧DT ([],0) a b l t.2∧aO A5 ([],0) a i t.1 t.2}) (fun t=>⟨[(0,.sr 1000000 Bi 0 l.length),(1,.p T3 (a:Int)),(2,.p T3 (b:Int)),(3,.fn 47),(8,.p (.int .i64) (i:Int)),(9,.p (.int .i64) (t.1.1:Int))],[(1000000,.arr 82 Bi t.1.2)]⟩) (fun t=>t.1.1) ⟨(i,m),by omega,Nat.le_refl i,hp,aP hs⟩ (AC [(1000000,.nm 1000000)] rfl rfl ?_ ?_) (fun t=>?_)
    ·first|exact eN|refine eM ?_
    ·first|exact eN|refine eM ?_
    ·obtain⟨⟨j,c⟩,ha,hj,hcp,hcs⟩:=t
     simp only at ha hj hcp hcs ⊢
     have hcl:=hcp.len
     have hcD:=hD.perm BD hcp.perm
     repeat'(first|exact trivial|refine eS rfl ?_|refine AB ?_|refine rX [0,1,2,3,8,9,14,34] hc ?_ ?_)
     ·dsimp only[Ty.den]at *
      exact⟨fun _=>by omega,fun _=>⟨by omega,by omega⟩,fun _=>⟨by omega,by omega⟩⟩
     ·have ej:a<j→((j:Int)-1).toNat=j-1:=fun _=>by omega
      refine Cc (by simp only[go_sem,Nat.reduceEqDiff,reduceCtorEq,Nat.reduceAdd,Nat.reduceSub,Nat.reduceMul,Nat.reduceLeDiff,Nat.reduceLT,Int.reduceLE,Int.reduceToNat,Int.reduceNeg,↓reduceIte];rfl) ?_ ?_
      ·intro hc2
       simp only[Bool.and_eq_true,decide_eq_true_eq]at hc2
       have hj0:a<j:=by omega
       have hlt:A5 (c.getD j ([],0)) (c.getD ((j:Int)-1).toNat ([],0))<0:=hc2.2
       rw[ej hj0]at hlt
       have hsw:B4 ([],0) c j (j-1)=(c.set j (c.getD (j-1) ([],0))).set (j-1) (c.getD j ([],0)):=rfl
       repeat'(first|exact trivial|refine eS rfl ?_|refine AB ?_|refine rP [0,1,2,3,8,9,14,34] hc ?_ ?_|fail)
       (refine Df drawsAny hc 16 [([0,1,5,6,7,8,9,10,11,12,13,14],15)] [2,3,4] (by kernel_rfl) (TF ?_ ?_);(next=>exact B6);refine TG hc [] ?_ ?_;(next=>exact B6);refine WY [0,1,2,3,8,9,14,34] hc ?_ ?_ ?_;(next=>exact B6);(next=>exact B6))
       rw[ej hj0]
       repeat'(first|exact trivial|refine eS rfl ?_|refine AB ?_|refine rX [0,1,2,3,8,9,14,34] hc ?_ ?_|refine rC ?_ ?_<;>intro AA<;>try(cases AA;done))
       ·dsimp only[Ty.den]at *
        omega
       ·refine⟨⟨(j-1,B4 ([],0) c j (j-1)),by simp only;omega,by simp only;omega,hcp.trans (DT.swap c (by omega) (by omega) (by omega) (by omega) (by omega)),Us hcs hj0 hj (by omega) hlt⟩,by simp only;omega,AC [(1000000,.nm 1000000)] rfl rfl ?_ ?_⟩
        ·simp only
         rw[hsw]
         first|exact eN|refine eM ?_
        ·simp only
         rw[show ((j-1:Nat):Int)=(j:Int)-1 by omega]
         first|exact eN|refine eM ?_
      ·intro hc2
       have hd:j=a∨A5 (c.getD (j-1) ([],0)) (c.getD j ([],0))<0:=by
        by_cases hj0:j=a
        ·exact .inl hj0
        ·right
         simp only[Bool.and_eq_false_iff,decide_eq_false_iff_not]at hc2
         rw[ej (by omega)]at hc2
         rcases hc2 with h|h
         ·omega
         ·exact hcD.lt BD (by omega) (by omega) (by omega) h
       repeat'(first|exact trivial|refine eS rfl ?_|refine AB ?_|refine rX [0,1,2,3,8,9,14,34] hc ?_ ?_|refine rC ?_ ?_<;>intro AA<;>try(cases AA;done))
       ·exact eV
       ·refine⟨⟨(i+1,c),by simp only;omega,.inr hil,hcp,Sr BD hcs ha hj hd⟩,by simp only;omega,AC [(1000000,.nm 1000000)] rfl rfl ?_ ?_⟩
        ·first|exact eN|refine eM ?_
        ·first|exact eN|refine eM ?_
   ·have hib:b≤i:=by exact eV
    exact Am hc [] rfl (.inr rfl) (.raw (.tuple #[])) rfl ⟨rfl,m,rfl,hp,fun x y h1 h2 h3=>hs x y h1 h2 (by omega)⟩
theorem yC (l:List (List Int×Int)) (hl:l.length≤100000) (a b:Nat) (hab:a<b) (hb:b≤l.length):B9 Tryz.prog 117 [.sr 1000000 Bi 0 l.length,.p T3 (a:Int),.p T3 (b:Int),.fn 47] [(1000000,.arr 82 Bi l)] [1000000] (fun res objs'=>res=.raw (.tuple #[])∧∃r,objs'=[(1000000,.arr 82 Bi r)]∧DT ([],0) a b l r):=by
 refine Bw Tryz.func117 (by kernel_rfl) rfl Tryz.ntmps117 (by simp only[List.length_cons,List.length_nil];omega) (by kernel_rfl) rfl rfl (AF []) AH ?_
 intro w0 K O0 ρ0 hc hok1 hok2
 simp only[A1]
 repeat'(first|exact trivial|refine eS rfl ?_|refine AB ?_|refine rX [0,1,2,8,9,15] hc ?_ ?_|refine rC ?_ ?_<;>intro AA<;>try(cases AA;done))
 ·omega
 ·rw[show (b:Int)-1=((b-1:Nat):Int) by omega]
  refine AK (ι:={s:Nat×Nat×List (List Int×Int)//a≤s.1∧s.2.1<b∧DT ([],0) a b l s.2.2}) (fun s=>⟨[(0,.sr 1000000 Bi 0 l.length),(8,.p (.int .i64) (s.1.1:Int)),(9,.p (.int .i64) (s.1.2.1:Int))],[(1000000,.arr 82 Bi s.1.2.2)]⟩) (fun s=>s.1.2.1-s.1.1) ⟨(a,b-1,l),Nat.le_refl _,by simp only;omega,DT.refl a b l⟩ (AC [(1000000,.nm 1000000)] rfl rfl ?_ ?_) (fun s=>?_)
  ·first|exact eN|refine eM ?_
  ·first|exact eN|refine eM ?_
  ·obtain⟨⟨i,j,m⟩,hi,hj,hp⟩:=s
   simp only at hi hj hp ⊢
   have hml:=hp.len
   repeat'(first|exact trivial|refine eS rfl ?_|refine AB ?_|refine rX [0,1,2,8,9,15] hc ?_ ?_)
   refine rC (fun AA=>?_) (fun AA=>?_)
   ·repeat'(first|exact trivial|refine eS rfl ?_|refine AB ?_|refine rP [0,1,2,8,9,15] hc ?_ ?_|fail)
    have hij:i<j:=by omega
    have hsw:B4 ([],0) m i j=(m.set i (m.getD j ([],0))).set j (m.getD i ([],0)):=rfl
    (refine Df drawsAny hc 14 [([0,1,4,5,6,7,8,9,10,11,12],13)] [2,3] (by kernel_rfl) (TF ?_ ?_);(next=>exact B6);refine TG hc [] ?_ ?_;(next=>exact B6);refine WY [0,1,2,8,9,15] hc ?_ ?_ ?_;(next=>exact B6);(next=>exact B6))
    repeat'(first|exact trivial|refine eS rfl ?_|refine AB ?_|refine rX [0,1,2,8,9,15] hc ?_ ?_|refine rC ?_ ?_<;>intro AA<;>try(cases AA;done))
    ·omega
    ·omega
    ·refine⟨⟨(i+1,j-1,B4 ([],0) m i j),by simp only;omega,by simp only;omega,hp.trans (DT.swap m (by omega) (by omega) (by omega) (by omega) (by omega))⟩,by simp only;omega,AC [(1000000,.nm 1000000)] rfl rfl ?_ ?_⟩
     ·simp only
      rw[hsw]
      first|exact eN|refine eM ?_
     ·simp only
      rw[show ((j-1:Nat):Int)=(j:Int)-1 by omega]
      first|exact eN|refine eM ?_
   ·repeat'(first|exact trivial|refine eS rfl ?_|refine AB ?_|refine rX [0,1,2,8,9,15] hc ?_ ?_|refine rC ?_ ?_<;>intro AA<;>try(cases AA;done))
    exact Am hc [] rfl (.inr rfl) (.raw (.tuple #[])) rfl ⟨rfl,m,rfl,hp⟩
theorem Yo (l:List (List Int×Int)) (hl:l.length≤100000) (hD:Y0 A5 ([],0) l) (lo hi f:Nat) (hlo:lo≤100000) (hf:f+hi≤l.length) (hX:zB A5 ([],0) f hi lo lo l):B9 Tryz.prog 146 [.sr 1000000 Bi 0 l.length,.p T3 (lo:Int),.p T3 (hi:Int),.p T3 (f:Int),.fn 47] [(1000000,.arr 82 Bi l)] [1000000] (fun res objs'=>res=.raw (.tuple #[])∧∃r,objs'=[(1000000,.arr 82 Bi r)]∧DT ([],0) f (f+hi) l r∧Hp A5 ([],0) f hi lo r):=by
 refine Bw Tryz.func146 (by kernel_rfl) rfl Tryz.ntmps146 (by simp only[List.length_cons,List.length_nil];omega) (by kernel_rfl) rfl rfl (AF [(47,IY)]) (AD LJ AH) ?_
 intro w0 K O0 ρ0 hc hok1 hok2
 simp only[A1]
 repeat'(first|exact trivial|refine eS rfl ?_|refine AB ?_|refine rX [0,1,2,3,4,10,11,18,40,58] hc ?_ ?_|refine rC ?_ ?_<;>intro AA<;>try(cases AA;done))
 refine AK (ι:={s:Nat×List (List Int×Int)//s.1≤lo+hi∧DT ([],0) f (f+hi) l s.2∧zB A5 ([],0) f hi lo s.1 s.2}) (fun s=>⟨[(0,.sr 1000000 Bi 0 l.length),(2,.p T3 (hi:Int)),(3,.p T3 (f:Int)),(4,.fn 47),(10,.p (.int .i64) (s.1.1:Int))],[(1000000,.arr 82 Bi s.1.2)]⟩) (fun s=>lo+hi-s.1.1) ⟨(lo,l),by omega,DT.refl _ _ l,hX⟩ (AC [(1000000,.nm 1000000)] rfl rfl ?_ ?_) (fun s=>?_)
 ·first|exact eN|refine eM ?_
 ·first|exact eN|refine eM ?_
 ·obtain⟨⟨root,m⟩,hr,hp,hx⟩:=s
  simp only at hr hp hx ⊢
  have hml:=hp.len
  have hmD:=hD.perm BD hp.perm
  repeat'(first|exact trivial|refine eS rfl ?_|refine AB ?_|refine rX [0,1,2,3,4,10,11,18,40,58] hc ?_ ?_)
  ·omega
  ·refine rC (fun AA=>?_) (fun AA=>?_)
   ·have hl:hi≤2*root+1:=by omega
    repeat'(first|exact trivial|refine eS rfl ?_|refine AB ?_|refine rX [0,1,2,3,4,10,11,18,40,58] hc ?_ ?_|refine rC ?_ ?_<;>intro AA<;>try(cases AA;done))
    exact Am hc [] rfl (.inr rfl) (.raw (.tuple #[])) rfl ⟨rfl,m,rfl,hp,r8 hx hl⟩
   ·have hl:2*root+1<hi:=by omega
    have e1:((f:Int)+(2*(root:Int)+1)).toNat=f+(2*root+1):=by omega
    have e2:((f:Int)+(2*(root:Int)+1+1)).toNat=f+(2*root+2):=by omega
    have e3:((f:Int)+(2*(root:Int)+1)+1).toNat=f+(2*root+2):=by omega
    have e4:((f:Int)+(root:Int)).toNat=f+root:=by omega
    repeat'(first|exact trivial|refine eS rfl ?_|refine AB ?_|refine rX [0,1,2,3,4,10,11,18,40,58] hc ?_ ?_)
    ·dsimp only[Ty.den]
     exact⟨by omega,fun _=>by omega,fun _=>by omega,fun _=>by omega,fun _=>by omega,fun _=>by omega⟩
    ·refine Cc (by simp only[go_sem,Nat.reduceEqDiff,reduceCtorEq,Nat.reduceAdd,Nat.reduceSub,Nat.reduceMul,Nat.reduceLeDiff,Nat.reduceLT,Int.reduceLE,Int.reduceToNat,Int.reduceNeg,↓reduceIte];rfl) ?_ ?_
     ·intro hc2
      simp only[Bool.and_eq_true,decide_eq_true_eq]at hc2
      obtain⟨hh,hc2⟩:=hc2
      have hlt:A5 (m.getD (f+(2*root+1)) ([],0)) (m.getD (f+(2*root+2)) ([],0))<0:=by rw[←e1,←e3];exact hc2
      have hch:2*root+2<hi:=by omega
      have hs:∀c,(c=2*root+1∨c=2*root+2)→c<hi→c≠2*root+2→A5 (m.getD (f+c) ([],0)) (m.getD (f+(2*root+2)) ([],0))<0:=fun c h1 h2 h3=>by
       rw[show c=2*root+1 by omega];exact hlt
      repeat'(first|exact trivial|refine eS rfl ?_|refine AB ?_|refine rX [0,1,2,3,4,10,11,18,40,58] hc ?_ ?_)
      ·omega
      ·exact B6
      ·refine Cc (by simp only[go_sem,Nat.reduceEqDiff,reduceCtorEq,Nat.reduceAdd,Nat.reduceSub,Nat.reduceMul,Nat.reduceLeDiff,Nat.reduceLT,Int.reduceLE,Int.reduceToNat,Int.reduceNeg,↓reduceIte];rfl) ?_ ?_
       ·intro hc3
        simp only[Bool.not_eq_true',decide_eq_false_iff_not]at hc3
        rw[e4,e2]at hc3
        have hst:=hmD.lt BD (i:=f+root) (j:=f+(2*root+2)) (by omega) (by omega) (by omega) hc3
        repeat'(first|exact trivial|refine eS rfl ?_|refine AB ?_|refine rX [0,1,2,3,4,10,11,18,40,58] hc ?_ ?_|refine rC ?_ ?_<;>intro AA<;>try(cases AA;done))
        exact Am hc [] rfl (.inl rfl) (.raw (.tuple #[])) rfl ⟨rfl,m,rfl,hp,Yk BD hx (.inr rfl) hst hs⟩
       ·intro hc3
        simp only[Bool.not_eq_false',decide_eq_true_eq]at hc3
        rw[e4,e2]at hc3
        have hsw:B4 ([],0) m (f+root) (f+(2*root+2))=(m.set (f+root) (m.getD (f+(2*root+2)) ([],0))).set (f+(2*root+2)) (m.getD (f+root) ([],0)):=rfl
        repeat'(first|exact trivial|refine eS rfl ?_|refine AB ?_|refine rP [0,1,2,3,4,10,11,18,40,58] hc ?_ ?_|fail)
        (refine Df drawsAny hc 22 [([0,1,2,3,8,9,10,11,12,13,14,15,16,17,18,19,20],21)] [4,5,6,7] (by kernel_rfl) (TF ?_ ?_);(next=>exact B6);refine TG hc [] ?_ ?_;(next=>exact B6);refine WY [0,1,2,3,4,10,11,18,40,58] hc ?_ ?_ ?_;(next=>exact B6);(next=>exact B6))
        rw[e4,e2]
        repeat'(first|exact trivial|refine eS rfl ?_|refine AB ?_|refine rX [0,1,2,3,4,10,11,18,40,58] hc ?_ ?_|refine rC ?_ ?_<;>intro AA<;>try(cases AA;done))
        refine⟨⟨(2*root+2,B4 ([],0) m (f+root) (f+(2*root+2))),by simp only;omega,hp.trans (DT.swap m (by omega) (by omega) (by omega) (by omega) (by omega)),Yl hx hch (by omega) (.inr rfl) hc3 hs⟩,by simp only;omega,AC [(1000000,.nm 1000000)] rfl rfl ?_ ?_⟩
        ·simp only
         rw[hsw]
         first|exact eN|refine eM ?_
        ·simp only
         rw[show ((2*root+2:Nat):Int)=2*(root:Int)+1+1 by omega]
         first|exact eN|refine eM ?_
     ·intro hc2
      have hs:∀c,(c=2*root+1∨c=2*root+2)→c<hi→c≠2*root+1→A5 (m.getD (f+c) ([],0)) (m.getD (f+(2*root+1)) ([],0))<0:=fun c h1 h2 h3=>by
       simp only[Bool.and_eq_false_iff,decide_eq_false_iff_not]at hc2
       have hc:c=2*root+2:=by omega
       subst hc
       rcases hc2 with h|h
       ·omega
       ·rw[e1,e3]at h
        exact hmD.lt BD (by omega) (by omega) (by omega) h
      repeat'(first|exact trivial|refine eS rfl ?_|refine AB ?_|refine rX [0,1,2,3,4,10,11,18,40,58] hc ?_ ?_)
      ·exact B6
      ·refine Cc (by simp only[go_sem,Nat.reduceEqDiff,reduceCtorEq,Nat.reduceAdd,Nat.reduceSub,Nat.reduceMul,Nat.reduceLeDiff,Nat.reduceLT,Int.reduceLE,Int.reduceToNat,Int.reduceNeg,↓reduceIte];rfl) ?_ ?_
       ·intro hc3
        simp only[Bool.not_eq_true',decide_eq_false_iff_not]at hc3
        rw[e4,e1]at hc3
        have hst:=hmD.lt BD (i:=f+root) (j:=f+(2*root+1)) (by omega) (by omega) (by omega) hc3
        repeat'(first|exact trivial|refine eS rfl ?_|refine AB ?_|refine rX [0,1,2,3,4,10,11,18,40,58] hc ?_ ?_|refine rC ?_ ?_<;>intro AA<;>try(cases AA;done))
        exact Am hc [] rfl (.inl rfl) (.raw (.tuple #[])) rfl ⟨rfl,m,rfl,hp,Yk BD hx (.inl rfl) hst hs⟩
       ·intro hc3
        simp only[Bool.not_eq_false',decide_eq_true_eq]at hc3
        rw[e4,e1]at hc3
        have hsw:B4 ([],0) m (f+root) (f+(2*root+1))=(m.set (f+root) (m.getD (f+(2*root+1)) ([],0))).set (f+(2*root+1)) (m.getD (f+root) ([],0)):=rfl
        repeat'(first|exact trivial|refine eS rfl ?_|refine AB ?_|refine rP [0,1,2,3,4,10,11,18,40,58] hc ?_ ?_|fail)
        (refine Df drawsAny hc 22 [([0,1,2,3,8,9,10,11,12,13,14,15,16,17,18,19,20],21)] [4,5,6,7] (by kernel_rfl) (TF ?_ ?_);(next=>exact B6);refine TG hc [] ?_ ?_;(next=>exact B6);refine WY [0,1,2,3,4,10,11,18,40,58] hc ?_ ?_ ?_;(next=>exact B6);(next=>exact B6))
        rw[e4,e1]
        repeat'(first|exact trivial|refine eS rfl ?_|refine AB ?_|refine rX [0,1,2,3,4,10,11,18,40,58] hc ?_ ?_|refine rC ?_ ?_<;>intro AA<;>try(cases AA;done))
        refine⟨⟨(2*root+1,B4 ([],0) m (f+root) (f+(2*root+1))),by simp only;omega,hp.trans (DT.swap m (by omega) (by omega) (by omega) (by omega) (by omega)),Yl hx hl (by omega) (.inl rfl) hc3 hs⟩,by simp only;omega,AC [(1000000,.nm 1000000)] rfl rfl ?_ ?_⟩
        ·simp only
         rw[hsw]
         first|exact eN|refine eM ?_
        ·simp only
         rw[show ((2*root+1:Nat):Int)=2*(root:Int)+1 by omega]
         first|exact eN|refine eM ?_
theorem sA (l:List (List Int×Int)) (hl:l.length≤100000) (hD:Y0 A5 ([],0) l) (a b:Nat) (hab:a≤b) (hb:b≤l.length):B9 Tryz.prog 114 [.sr 1000000 Bi 0 l.length,.p T3 (a:Int),.p T3 (b:Int),.fn 47] [(1000000,.arr 82 Bi l)] [1000000] (fun res objs'=>res=.raw (.tuple #[])∧∃r,objs'=[(1000000,.arr 82 Bi r)]∧DT ([],0) a b l r∧Pv A5 ([],0) a b r):=by
 refine Bw Tryz.func114 (by kernel_rfl) rfl Tryz.ntmps114 (by simp only[List.length_cons,List.length_nil];omega) (by kernel_rfl) rfl rfl (AF []) AH ?_
 intro w0 K O0 ρ0 hc hok1 hok2
 simp only[A1]
 obtain⟨n,hn⟩:∃n,b=a+n:=⟨b-a,by omega⟩
 subst hn
 have ek:(((a+n:Nat):Int)-(a:Int)-1).tdiv 2=(((n-1) / 2+1:Nat):Int)-1:=by
  by_cases h0:n=0
  ·subst h0
   rw[show ((a+0:Nat):Int)-(a:Int)-1=-1 by omega]
   decide
  ·rw[Int.tdiv_eq_ediv_of_nonneg (by omega)]
   omega
 have en:((a+n:Nat):Int)-(a:Int)=(n:Int):=by omega
 repeat'(first|exact trivial|refine eS rfl ?_|refine AB ?_|refine rX [0,1,2,3,8,9,10,11,12,21,33] hc ?_ ?_|refine rC ?_ ?_<;>intro AA<;>try(cases AA;done))
 ·omega
 ·rw[ek]
  exact⟨by omega,by decide,by omega⟩
 ·rw[ek,en]
  refine AK (ι:={s:Nat×List (List Int×Int)//s.1≤n+1∧DT ([],0) a (a+n) l s.2∧Hp A5 ([],0) a n s.1 s.2}) (fun s=>⟨[(0,.sr 1000000 Bi 0 l.length),(3,.fn 47),(8,.p T3 (a:Int)),(9,.p (.int .i64) (0:Int)),(10,.p (.int .i64) (n:Int)),(11,.p (.int .i64) ((s.1.1:Int)-1))],[(1000000,.arr 82 Bi s.1.2)]⟩) (fun s=>s.1.1) ⟨((n-1) / 2+1,l),by simp only;omega,DT.refl _ _ l,fun k c h1 h2 h3=>by simp only at h1;omega⟩ (AC [(1000000,.nm 1000000)] rfl rfl ?_ ?_) (fun s=>?_)
  ·first|exact eN|refine eM ?_
  ·first|exact eN|refine eM ?_
  ·obtain⟨⟨k,m⟩,hk,hp,hx⟩:=s
   simp only at hk hp hx ⊢
   have hml:=hp.len
   have hmD:=hD.perm BD hp.perm
   repeat'(first|exact trivial|refine eS rfl ?_|refine AB ?_|refine rX [0,1,2,3,8,9,10,11,12,21,33] hc ?_ ?_)
   refine rC (fun AA=>?_) (fun AA=>?_)
   ·have hk0:0<k:=by omega
    have key:=Yo m (by omega) hmD (k-1) n a (by omega) (by omega) (l9 (by rw[show k-1+1=k by omega];exact hx))
    rw[hml,show ((k-1:Nat):Int)=(k:Int)-1 by omega]at key
    repeat'(first|exact trivial|refine eS rfl ?_|refine AB ?_|refine rX [0,1,2,3,8,9,10,11,12,21,33] hc ?_ ?_)
    refine cP 5 hc ?_ ?_
    ·trivial
    ·refine rM hc (key) [(1000000,.nm 1000000)] [] ?_ ?_ ?_
     ·first|exact eN|refine eM ?_
     ·first|exact eN|refine eM ?_
     ·rintro _ _ ⟨rfl,r,rfl,hpr,hhr⟩
      refine⟨[(1000000,.nm 1000000)],.raw (.tuple #[]),[(1000000,.arr 82 Bi r)],rfl,rfl,?_,?_,rfl,rfl,CU ?_⟩
      ·first|exact eN|refine eM ?_
      ·first|exact eN|refine eM ?_
      ·repeat'(first|exact trivial|refine eS rfl ?_|refine AB ?_|refine rX [0,1,2,3,8,9,10,11,12,21,33] hc ?_ ?_|refine rC ?_ ?_<;>intro AA<;>try(cases AA;done))
       ·omega
       ·refine⟨⟨(k-1,r),by simp only;omega,hp.trans hpr,hhr⟩,by simp only;omega,AC [(1000000,.nm 1000000)] rfl rfl ?_ ?_⟩
        ·simp only
         first|exact eN|refine eM ?_
        ·simp only
         rw[show ((k-1:Nat):Int)=(k:Int)-1 by omega]
         first|exact eN|refine eM ?_
   ·have hk0:k=0:=by omega
    subst hk0
    repeat'(first|exact trivial|refine eS rfl ?_|refine AB ?_|refine rX [0,1,2,3,8,9,10,11,12,21,33] hc ?_ ?_)
    ·omega
    ·refine AK (ι:={s:Nat×List (List Int×Int)//s.1≤n∧DT ([],0) a (a+n) l s.2∧mA A5 ([],0) a n s.1 s.2}) (fun s=>⟨[(0,.sr 1000000 Bi 0 l.length),(3,.fn 47),(8,.p T3 (a:Int)),(9,.p (.int .i64) (0:Int)),(12,.p (.int .i64) ((s.1.1:Int)-1))],[(1000000,.arr 82 Bi s.1.2)]⟩) (fun s=>s.1.1) ⟨(n,m),Nat.le_refl _,hp,aQ hx⟩ (AC [(1000000,.nm 1000000)] rfl rfl ?_ ?_) (fun s=>?_)
     ·first|exact eN|refine eM ?_
     ·first|exact eN|refine eM ?_
     ·obtain⟨⟨k,c⟩,hk,hpc,hpi⟩:=s
      simp only at hk hpc hpi ⊢
      have hcl:=hpc.len
      repeat'(first|exact trivial|refine eS rfl ?_|refine AB ?_|refine rX [0,1,2,3,8,9,10,11,12,21,33] hc ?_ ?_)
      refine rC (fun AA=>?_) (fun AA=>?_)
      ·have hk0:0<k:=by omega
       have hpi:mA A5 ([],0) a n (k-1+1) c:=by rw[show k-1+1=k by omega];exact hpi
       obtain⟨q1,q2,q3⟩:=mB BD hpi (by omega) (by omega)
       have hps:DT ([],0) a (a+n) c (B4 ([],0) c a (a+(k-1))):=DT.swap c (by omega) (by omega) (by omega) (by omega) (by omega)
       have hsl:=hps.len
       have hsD:=hD.perm BD (hpc.trans hps).perm
       have e1:((a:Int)+((k:Int)-1)).toNat=a+(k-1):=by omega
       have hsw:B4 ([],0) c a (a+(k-1))=(c.set a (c.getD (a+(k-1)) ([],0))).set (a+(k-1)) (c.getD a ([],0)):=rfl
       have key:=Yo (B4 ([],0) c a (a+(k-1))) (by omega) hsD 0 (k-1) a (by omega) (by omega) q1
       rw[hsl,hcl,show ((k-1:Nat):Int)=(k:Int)-1 by omega]at key
       repeat'(first|exact trivial|refine eS rfl ?_|refine AB ?_|refine rP [0,1,2,3,8,9,10,11,12,21,33] hc ?_ ?_|fail)
       (refine Df drawsAny hc 18 [([0,1,6,7,8,9,10,11,12,13,14,15,16],17)] [2,3,4,5] (by kernel_rfl) (TF ?_ ?_);(next=>exact B6);refine TG hc [] ?_ ?_;(next=>exact B6);refine WY [0,1,2,3,8,9,10,11,12,21,33] hc ?_ ?_ ?_;(next=>exact B6);(next=>exact B6))
       rw[e1,←hsw]
       repeat'(first|exact trivial|refine eS rfl ?_|refine AB ?_|refine rP [0,1,2,3,8,9,10,11,12,21,33] hc ?_ ?_|fail)
       refine cP 5 hc ?_ ?_
       ·trivial
       ·refine rM hc (key) [(1000000,.nm 1000000)] [] ?_ ?_ ?_
        ·first|exact eN|refine eM ?_
        ·first|exact eN|refine eM ?_
        ·rintro _ _ ⟨rfl,r,rfl,hpr,hhr⟩
         refine⟨[(1000000,.nm 1000000)],.raw (.tuple #[]),[(1000000,.arr 82 Bi r)],rfl,rfl,?_,?_,rfl,rfl,CU ?_⟩
         ·first|exact eN|refine eM ?_
         ·first|exact eN|refine eM ?_
         ·repeat'(first|exact trivial|refine eS rfl ?_|refine AB ?_|refine rX [0,1,2,3,8,9,10,11,12,21,33] hc ?_ ?_|refine rC ?_ ?_<;>intro AA<;>try(cases AA;done))
          ·omega
          ·refine⟨⟨(k-1,r),by simp only;omega,(hpc.trans hps).trans (hpr.mono (Nat.le_refl _) (by omega)),mC hpr hhr q2 q3⟩,by simp only;omega,AC [(1000000,.nm 1000000)] rfl rfl ?_ ?_⟩
           ·simp only
            first|exact eN|refine eM ?_
           ·simp only
            rw[show ((k-1:Nat):Int)=(k:Int)-1 by omega]
            first|exact eN|refine eM ?_
      ·have hk0:k=0:=by omega
       subst hk0
       repeat'(first|exact trivial|refine eS rfl ?_|refine AB ?_|refine rX [0,1,2,3,8,9,10,11,12,21,33] hc ?_ ?_|refine rC ?_ ?_<;>intro AA<;>try(cases AA;done))
       exact Am hc [] rfl (.inr rfl) (.raw (.tuple #[])) rfl ⟨rfl,c,rfl,hpc,r9 hpi⟩
end
/- The sort of counted paths: partition, a few insertions. -/
section
attribute [local go_sem] IY
theorem yD (l:List (List Int×Int)) (hl:l.length≤100000) (hD:Y0 A5 ([],0) l) (a b p:Nat) (hap:a≤p) (hpb:p<b) (hb:b≤l.length):B9 Tryz.prog 120 [.sr 1000000 Bi 0 l.length,.p T3 (a:Int),.p T3 (b:Int),.p T3 (p:Int),.fn 47] [(1000000,.arr 82 Bi l)] [1000000] (fun res objs'=>∃(q:Nat) (w:Bool) (r:List (List Int×Int)),res=.tup [.p T3 (q:Int),.p .bool w]∧objs'=[(1000000,.arr 82 Bi r)]∧DT ([],0) a b l r∧mS A5 ([],0) a b q r):=by
 refine Bw Tryz.func120 (by kernel_rfl) rfl Tryz.ntmps120 (by simp only[List.length_cons,List.length_nil];omega) (by kernel_rfl) rfl rfl (AF [(47,IY)]) (AD LJ AH) ?_
 intro w0 K O0 ρ0 hc hok1 hok2
 simp only[A1]
 have hp0:DT ([],0) a b l (B4 ([],0) l a p):=DT.swap l (Nat.le_refl _) (by omega) hap hpb hb
 have hsw:B4 ([],0) l a p=(l.set a (l.getD p ([],0))).set p (l.getD a ([],0)):=rfl
 repeat'(first|exact trivial|refine eS rfl ?_|refine AB ?_|refine rP [0,1,2,3,4,10,11,12,13,47,66,71,120,139,144] hc ?_ ?_|fail)
 (refine Df drawsAny hc 14 [([0,1,4,5,6,7,8,9,10,11,12],13)] [2,3] (by kernel_rfl) (TF ?_ ?_);(next=>exact B6);refine TG hc [] ?_ ?_;(next=>exact B6);refine WY [0,1,2,3,4,10,11,12,13,47,66,71,120,139,144] hc ?_ ?_ ?_;(next=>exact B6);(next=>exact B6))
 rw[←hsw]
 have hmD:=hD.perm BD hp0.perm
 have hml:=hp0.len
 clear hsw
 generalize B4 ([],0) l a p=m at *
 repeat'(first|exact trivial|refine eS rfl ?_|refine AB ?_|refine rP [0,1,2,3,4,10,11,12,13,47,66,71,120,139,144] hc ?_ ?_|fail)
 ·exact B6
 ·rw[show (a:Int)+1=((a+1:Nat):Int) by omega,show (b:Int)-1=((b-1:Nat):Int) by omega]
  refine AK (ι:={i:Nat//a<i∧i≤b∧zC A5 ([],0) a b i (b-1) m}) (fun s=>⟨[(0,.sr 1000000 Bi 0 l.length),(1,.p T3 (a:Int)),(4,.fn 47),(12,.p (.int .i64) (s.1:Int)),(13,.p (.int .i64) ((b-1:Nat):Int))],[(1000000,.arr 82 Bi m)]⟩) (fun s=>b-s.1) ⟨a+1,by omega,by omega,⟨fun x h1 h2=>by omega,fun x h1 h2=>by omega⟩⟩ (AC [(1000000,.nm 1000000)] rfl rfl ?_ ?_) (fun s=>?_)
  ·first|exact eN|refine eM ?_
  ·first|exact eN|refine eM ?_
  ·obtain⟨i,hi1,hi2,hpt⟩:=s
   simp only at hi1 hi2 hpt ⊢
   repeat'(first|exact trivial|refine eS rfl ?_|refine AB ?_|refine rX [0,1,2,3,4,10,11,12,13,47,66,71,120,139,144] hc ?_ ?_)
   ·dsimp only[Ty.den]
    exact⟨fun _=>by omega,fun _=>by omega⟩
   ·refine Cc (by simp only[go_sem,Nat.reduceEqDiff,reduceCtorEq,Nat.reduceAdd,Nat.reduceSub,Nat.reduceMul,Nat.reduceLeDiff,Nat.reduceLT,Int.reduceLE,Int.reduceToNat,Int.reduceNeg,↓reduceIte];rfl) ?_ ?_
    ·intro hc2
     simp only[Bool.and_eq_true,decide_eq_true_eq]at hc2
     obtain⟨h1,h2⟩:=hc2
     repeat'(first|exact trivial|refine eS rfl ?_|refine AB ?_|refine rX [0,1,2,3,4,10,11,12,13,47,66,71,120,139,144] hc ?_ ?_)
     ·exact B6
     ·refine⟨⟨i+1,by omega,by omega,⟨fun x x1 x2=>?_,hpt.hi⟩⟩,by simp only;omega,AC [(1000000,.nm 1000000)] rfl rfl ?_ ?_⟩
      ·by_cases e:x=i
       ·rw[e];exact h2
       ·exact hpt.lo x x1 (by omega)
      ·first|exact eN|refine eM ?_
      ·first|exact eN|refine eM ?_
    ·intro hc2
     have hci:i≤b-1→A5 (m.getD a ([],0)) (m.getD i ([],0))<0:=fun h1=>hmD.lt BD (by omega) (by omega) (by omega) fun h2=>by
      simp only[Bool.and_eq_false_iff,decide_eq_false_iff_not]at hc2
      rcases hc2 with h|h
      ·omega
      ·exact h h2
     have hi3:i≤b-1+1:=by omega
     repeat'(first|exact trivial|refine eS rfl ?_|refine AB ?_|refine rX [0,1,2,3,4,10,11,12,13,47,66,71,120,139,144] hc ?_ ?_)
     refine AK (ι:={j:Nat//a≤j∧j<b∧i≤j+1∧zC A5 ([],0) a b i j m}) (fun s=>⟨[(0,.sr 1000000 Bi 0 l.length),(1,.p T3 (a:Int)),(4,.fn 47),(12,.p (.int .i64) (i:Int)),(13,.p (.int .i64) (s.1:Int))],[(1000000,.arr 82 Bi m)]⟩) (fun s=>s.1) ⟨b-1,by omega,by omega,by omega,hpt⟩ (AC [(1000000,.nm 1000000)] rfl rfl ?_ ?_) (fun s=>?_)
     ·first|exact eN|refine eM ?_
     ·first|exact eN|refine eM ?_
     ·obtain⟨j,hj1,hj2,hij,hpj⟩:=s
      simp only at hj1 hj2 hij hpj ⊢
      clear hc2
      repeat'(first|exact trivial|refine eS rfl ?_|refine AB ?_|refine rX [0,1,2,3,4,10,11,12,13,47,66,71,120,139,144] hc ?_ ?_)
      ·dsimp only[Ty.den]
       exact⟨fun _=>by omega,fun _=>by omega⟩
      ·refine Cc (by simp only[go_sem,Nat.reduceEqDiff,reduceCtorEq,Nat.reduceAdd,Nat.reduceSub,Nat.reduceMul,Nat.reduceLeDiff,Nat.reduceLT,Int.reduceLE,Int.reduceToNat,Int.reduceNeg,↓reduceIte];rfl) ?_ ?_
       ·intro hc2
        simp only[Bool.and_eq_true,decide_eq_true_eq,Bool.not_eq_true',decide_eq_false_iff_not]at hc2
        obtain⟨h1,h2⟩:=hc2
        have h2:=hmD.lt BD (i:=j) (j:=a) (by omega) (by omega) (by omega) h2
        repeat'(first|exact trivial|refine eS rfl ?_|refine AB ?_|refine rX [0,1,2,3,4,10,11,12,13,47,66,71,120,139,144] hc ?_ ?_)
        ·exact B6
        ·refine⟨⟨j-1,by omega,by omega,by omega,⟨hpj.lo,fun x x1 x2=>?_⟩⟩,by simp only;omega,AC [(1000000,.nm 1000000)] rfl rfl ?_ ?_⟩
         ·by_cases e:x=j
          ·rw[e];exact h2
          ·exact hpj.hi x (by omega) x2
         ·first|exact eN|refine eM ?_
         ·simp only
          rw[show ((j-1:Nat):Int)=(j:Int)-1 by omega]
          first|exact eN|refine eM ?_
       ·intro hc2
        have hcj:i≤j→A5 (m.getD j ([],0)) (m.getD a ([],0))<0:=fun h1=>by
         simp only[Bool.and_eq_false_iff,decide_eq_false_iff_not,Bool.not_eq_false',decide_eq_true_eq]at hc2
         rcases hc2 with h|h
         ·omega
         ·exact h
        repeat'(first|exact trivial|refine eS rfl ?_|refine AB ?_|refine rX [0,1,2,3,4,10,11,12,13,47,66,71,120,139,144] hc ?_ ?_)
        refine rC (fun AA=>?_) (fun AA=>?_)
        ·have hji:i=j+1:=by omega
         subst hji
         have hps:DT ([],0) a b m (B4 ([],0) m j a):=DT.swap m hj1 hj2 (Nat.le_refl _) (by omega) (by omega)
         have hsw:B4 ([],0) m j a=(m.set j (m.getD a ([],0))).set a (m.getD j ([],0)):=rfl
         repeat'(first|exact trivial|refine eS rfl ?_|refine AB ?_|refine rP [0,1,2,3,4,10,11,12,13,47,66,71,120,139,144] hc ?_ ?_|fail)
         (refine Df drawsAny hc 14 [([0,1,4,5,6,7,8,9,10,11,12],13)] [2,3] (by kernel_rfl) (TF ?_ ?_);(next=>exact B6);refine TG hc [] ?_ ?_;(next=>exact B6);refine WY [0,1,2,3,4,10,11,12,13,47,66,71,120,139,144] hc ?_ ?_ ?_;(next=>exact B6);(next=>exact B6))
         rw[←hsw]
         repeat'(first|exact trivial|refine eS rfl ?_|refine AB ?_|refine rX [0,1,2,3,4,10,11,12,13,47,66,71,120,139,144] hc ?_ ?_|refine rC ?_ ?_<;>intro AA<;>try(cases AA;done))
         exact Am hc [.tmp 10,.tmp 11] rfl (.inl rfl) (.tup [.p T3 (j:Int),.p .bool true]) eT ⟨j,true,_,rfl,rfl,hp0.trans hps,iW hpj hj1 hj2 (by omega)⟩
        ·have hne:i≠j:=fun e=>by
          have q1:=hci (by omega)
          have q2:=hcj (by omega)
          rw[e,BD.anti]at q1
          omega
         have hij2:i<j:=by omega
         have hps:DT ([],0) a b m (B4 ([],0) m i j):=DT.swap m (by omega) (by omega) hj1 hj2 (by omega)
         have hsw:B4 ([],0) m i j=(m.set i (m.getD j ([],0))).set j (m.getD i ([],0)):=rfl
         have hpn:=Yn hpj hi1 hij2 hj2 (by omega) (hci (by omega)) (hcj (by omega))
         repeat'(first|exact trivial|refine eS rfl ?_|refine AB ?_|refine rP [0,1,2,3,4,10,11,12,13,47,66,71,120,139,144] hc ?_ ?_|fail)
         (refine Df drawsAny hc 14 [([0,1,4,5,6,7,8,9,10,11,12],13)] [2,3] (by kernel_rfl) (TF ?_ ?_);(next=>exact B6);refine TG hc [] ?_ ?_;(next=>exact B6);refine WY [0,1,2,3,4,10,11,12,13,47,66,71,120,139,144] hc ?_ ?_ ?_;(next=>exact B6);(next=>exact B6))
         rw[←hsw]
         have hp1:=hp0.trans hps
         have hmD:=hD.perm BD hp1.perm
         have hml:=hp1.len
         clear hsw hps hpj hpt hci hcj hc2 hp0
         generalize B4 ([],0) m i j=m2 at *
         repeat'(first|exact trivial|refine eS rfl ?_|refine AB ?_|refine rX [0,1,2,3,4,10,11,12,13,47,66,71,120,139,144] hc ?_ ?_)
         ·exact B6
         ·exact B6
         ·rw[show (i:Int)+1=((i+1:Nat):Int) by omega,show (j:Int)-1=((j-1:Nat):Int) by omega]
          refine AK (ι:={s:Nat×Nat×List (List Int×Int)//(a<s.1∧s.1≤s.2.1+1)∧(a≤s.2.1∧s.2.1<b)∧DT ([],0) a b l s.2.2∧zC A5 ([],0) a b s.1 s.2.1 s.2.2}) (fun s=>⟨[(0,.sr 1000000 Bi 0 l.length),(1,.p T3 (a:Int)),(4,.fn 47),(12,.p (.int .i64) (s.1.1:Int)),(13,.p (.int .i64) (s.1.2.1:Int))],[(1000000,.arr 82 Bi s.1.2.2)]⟩) (fun s=>s.1.2.1+1-s.1.1) ⟨(i+1,j-1,m2),by simp only;omega,by simp only;omega,hp1,hpn⟩ (AC [(1000000,.nm 1000000)] rfl rfl ?_ ?_) (fun s=>?_)
          ·first|exact eN|refine eM ?_
          ·first|exact eN|refine eM ?_
          ·clear hpn hmD hml hp1
           obtain⟨⟨i,j,m⟩,⟨hi1,hi2⟩,⟨hj1,hj2⟩,hp0,hpt⟩:=s
           simp only at hi1 hi2 hj1 hj2 hp0 hpt ⊢
           have hmD:=hD.perm BD hp0.perm
           have hml:=hp0.len
           repeat'(first|exact trivial|refine eS rfl ?_|refine AB ?_|refine rX [0,1,2,3,4,10,11,12,13,47,66,71,120,139,144] hc ?_ ?_)
           refine AK (ι:={k:Nat//a<k∧i≤k∧k≤j+1∧zC A5 ([],0) a b k j m}) (fun s=>⟨[(0,.sr 1000000 Bi 0 l.length),(1,.p T3 (a:Int)),(4,.fn 47),(12,.p (.int .i64) (s.1:Int)),(13,.p (.int .i64) (j:Int))],[(1000000,.arr 82 Bi m)]⟩) (fun s=>j+1-s.1) ⟨i,hi1,Nat.le_refl _,hi2,hpt⟩ (AC [(1000000,.nm 1000000)] rfl rfl ?_ ?_) (fun s=>?_)
           ·first|exact eN|refine eM ?_
           ·first|exact eN|refine eM ?_
           ·obtain⟨k,hk1,hik,hk2,hpk⟩:=s
            simp only at hk1 hk2 hik hpk ⊢
            repeat'(first|exact trivial|refine eS rfl ?_|refine AB ?_|refine rX [0,1,2,3,4,10,11,12,13,47,66,71,120,139,144] hc ?_ ?_)
            ·dsimp only[Ty.den]
             exact⟨fun _=>by omega,fun _=>by omega⟩
            ·refine Cc (by simp only[go_sem,Nat.reduceEqDiff,reduceCtorEq,Nat.reduceAdd,Nat.reduceSub,Nat.reduceMul,Nat.reduceLeDiff,Nat.reduceLT,Int.reduceLE,Int.reduceToNat,Int.reduceNeg,↓reduceIte];rfl) ?_ ?_
             ·intro hc2
              simp only[Bool.and_eq_true,decide_eq_true_eq]at hc2
              obtain⟨h1,h2⟩:=hc2
              repeat'(first|exact trivial|refine eS rfl ?_|refine AB ?_|refine rX [0,1,2,3,4,10,11,12,13,47,66,71,120,139,144] hc ?_ ?_)
              ·exact B6
              ·refine⟨⟨k+1,by omega,by omega,by omega,⟨fun x x1 x2=>?_,hpk.hi⟩⟩,by simp only;omega,AC [(1000000,.nm 1000000)] rfl rfl ?_ ?_⟩
               ·by_cases e:x=k
                ·rw[e];exact h2
                ·exact hpk.lo x x1 (by omega)
               ·first|exact eN|refine eM ?_
               ·first|exact eN|refine eM ?_
             ·intro hc2
              have hci:k≤j→A5 (m.getD a ([],0)) (m.getD k ([],0))<0:=fun h1=>hmD.lt BD (by omega) (by omega) (by omega) fun h2=>by
               simp only[Bool.and_eq_false_iff,decide_eq_false_iff_not]at hc2
               rcases hc2 with h|h
               ·omega
               ·exact h h2
              repeat'(first|exact trivial|refine eS rfl ?_|refine AB ?_|refine rX [0,1,2,3,4,10,11,12,13,47,66,71,120,139,144] hc ?_ ?_)
              refine AK (ι:={z:Nat//a≤z∧z≤j∧k≤z+1∧zC A5 ([],0) a b k z m}) (fun s=>⟨[(0,.sr 1000000 Bi 0 l.length),(1,.p T3 (a:Int)),(4,.fn 47),(12,.p (.int .i64) (k:Int)),(13,.p (.int .i64) (s.1:Int))],[(1000000,.arr 82 Bi m)]⟩) (fun s=>s.1) ⟨j,hj1,Nat.le_refl _,hk2,hpk⟩ (AC [(1000000,.nm 1000000)] rfl rfl ?_ ?_) (fun s=>?_)
              ·first|exact eN|refine eM ?_
              ·first|exact eN|refine eM ?_
              ·obtain⟨z,hz1,hz2,hkz,hpz⟩:=s
               simp only at hz1 hz2 hkz hpz ⊢
               clear hc2
               repeat'(first|exact trivial|refine eS rfl ?_|refine AB ?_|refine rX [0,1,2,3,4,10,11,12,13,47,66,71,120,139,144] hc ?_ ?_)
               ·dsimp only[Ty.den]
                exact⟨fun _=>by omega,fun _=>by omega⟩
               ·refine Cc (by simp only[go_sem,Nat.reduceEqDiff,reduceCtorEq,Nat.reduceAdd,Nat.reduceSub,Nat.reduceMul,Nat.reduceLeDiff,Nat.reduceLT,Int.reduceLE,Int.reduceToNat,Int.reduceNeg,↓reduceIte];rfl) ?_ ?_
                ·intro hc2
                 simp only[Bool.and_eq_true,decide_eq_true_eq,Bool.not_eq_true',decide_eq_false_iff_not]at hc2
                 obtain⟨h1,h2⟩:=hc2
                 have h2:=hmD.lt BD (i:=z) (j:=a) (by omega) (by omega) (by omega) h2
                 repeat'(first|exact trivial|refine eS rfl ?_|refine AB ?_|refine rX [0,1,2,3,4,10,11,12,13,47,66,71,120,139,144] hc ?_ ?_)
                 ·exact B6
                 ·refine⟨⟨z-1,by omega,by omega,by omega,⟨hpz.lo,fun x x1 x2=>?_⟩⟩,by simp only;omega,AC [(1000000,.nm 1000000)] rfl rfl ?_ ?_⟩
                  ·by_cases e:x=z
                   ·rw[e];exact h2
                   ·exact hpz.hi x (by omega) x2
                  ·first|exact eN|refine eM ?_
                  ·simp only
                   rw[show ((z-1:Nat):Int)=(z:Int)-1 by omega]
                   first|exact eN|refine eM ?_
                ·intro hc2
                 have hcj:k≤z→A5 (m.getD z ([],0)) (m.getD a ([],0))<0:=fun h1=>by
                  simp only[Bool.and_eq_false_iff,decide_eq_false_iff_not,Bool.not_eq_false',decide_eq_true_eq]at hc2
                  rcases hc2 with h|h
                  ·omega
                  ·exact h
                 repeat'(first|exact trivial|refine eS rfl ?_|refine AB ?_|refine rX [0,1,2,3,4,10,11,12,13,47,66,71,120,139,144] hc ?_ ?_)
                 refine rC (fun AA=>?_) (fun AA=>?_)
                 ·have hji:k=z+1:=by omega
                  subst hji
                  have hps:DT ([],0) a b m (B4 ([],0) m z a):=DT.swap m hz1 (by omega) (Nat.le_refl _) (by omega) (by omega)
                  have hsw:B4 ([],0) m z a=(m.set z (m.getD a ([],0))).set a (m.getD z ([],0)):=rfl
                  repeat'(first|exact trivial|refine eS rfl ?_|refine AB ?_|refine rP [0,1,2,3,4,10,11,12,13,47,66,71,120,139,144] hc ?_ ?_|fail)
                  (refine Df drawsAny hc 14 [([0,1,4,5,6,7,8,9,10,11,12],13)] [2,3] (by kernel_rfl) (TF ?_ ?_);(next=>exact B6);refine TG hc [] ?_ ?_;(next=>exact B6);refine WY [0,1,2,3,4,10,11,12,13,47,66,71,120,139,144] hc ?_ ?_ ?_;(next=>exact B6);(next=>exact B6))
                  rw[←hsw]
                  repeat'(first|exact trivial|refine eS rfl ?_|refine AB ?_|refine rX [0,1,2,3,4,10,11,12,13,47,66,71,120,139,144] hc ?_ ?_|refine rC ?_ ?_<;>intro AA<;>try(cases AA;done))
                  exact Am hc [.tmp 10,.tmp 11] rfl (.inl rfl) (.tup [.p T3 (z:Int),.p .bool false]) eT ⟨z,false,_,rfl,rfl,hp0.trans hps,iW hpz hz1 (by omega) (by omega)⟩
                 ·have hne:k≠z:=fun e=>by
                   have q1:=hci (by omega)
                   have q2:=hcj (by omega)
                   rw[e,BD.anti]at q1
                   omega
                  have hij2:k<z:=by omega
                  have hps:DT ([],0) a b m (B4 ([],0) m k z):=DT.swap m (by omega) (by omega) hz1 (by omega) (by omega)
                  have hsw:B4 ([],0) m k z=(m.set k (m.getD z ([],0))).set z (m.getD k ([],0)):=rfl
                  have hpn:=Yn hpz hk1 hij2 (by omega) (by omega) (hci (by omega)) (hcj (by omega))
                  repeat'(first|exact trivial|refine eS rfl ?_|refine AB ?_|refine rP [0,1,2,3,4,10,11,12,13,47,66,71,120,139,144] hc ?_ ?_|fail)
                  (refine Df drawsAny hc 14 [([0,1,4,5,6,7,8,9,10,11,12],13)] [2,3] (by kernel_rfl) (TF ?_ ?_);(next=>exact B6);refine TG hc [] ?_ ?_;(next=>exact B6);refine WY [0,1,2,3,4,10,11,12,13,47,66,71,120,139,144] hc ?_ ?_ ?_;(next=>exact B6);(next=>exact B6))
                  rw[←hsw]
                  repeat'(first|exact trivial|refine eS rfl ?_|refine AB ?_|refine rX [0,1,2,3,4,10,11,12,13,47,66,71,120,139,144] hc ?_ ?_)
                  ·exact B6
                  ·exact B6
                  ·refine⟨⟨(k+1,z-1,B4 ([],0) m k z),by simp only;omega,by simp only;omega,hp0.trans hps,hpn⟩,by simp only;omega,AC [(1000000,.nm 1000000)] rfl rfl ?_ ?_⟩
                   ·first|exact eN|refine eM ?_
                   ·simp only
                    rw[show ((z-1:Nat):Int)=(z:Int)-1 by omega]
                    first|exact eN|refine eM ?_
theorem yE (l:List (List Int×Int)) (hl:l.length≤100000) (hD:Y0 A5 ([],0) l) (a b:Nat) (hab:a<b) (hb:b≤l.length) (hB:Bf A5 ([],0) a b l):B9 Tryz.prog 118 [.sr 1000000 Bi 0 l.length,.p T3 (a:Int),.p T3 (b:Int),.fn 47] [(1000000,.arr 82 Bi l)] [1000000] (fun res objs'=>∃(w:Bool) (r:List (List Int×Int)),res=.p .bool w∧objs'=[(1000000,.arr 82 Bi r)]∧DT ([],0) a b l r∧(w=true→Pv A5 ([],0) a b r)):=by
 refine Bw Tryz.func118 (by kernel_rfl) rfl Tryz.ntmps118 (by simp only[List.length_cons,List.length_nil];omega) (by kernel_rfl) rfl rfl (AF [(47,IY)]) (AD LJ AH) ?_
 intro w0 K O0 ρ0 hc hok1 hok2
 simp only[A1]
 repeat'(first|exact trivial|refine eS rfl ?_|refine AB ?_|refine rX [0,1,2,3,8,9,10,11,12,16,36,41,45,65,69,84,104,109,124] hc ?_ ?_|refine rC ?_ ?_<;>intro AA<;>try(cases AA;done))
 ·exact B6
 ·refine AK (ι:={s:Nat×Nat×List (List Int×Int)//(a+1≤s.1∧s.1≤b)∧s.2.1≤5∧DT ([],0) a b l s.2.2∧Pv A5 ([],0) a s.1 s.2.2}) (fun s=>⟨[(0,.sr 1000000 Bi 0 l.length),(1,.p T3 (a:Int)),(2,.p T3 (b:Int)),(3,.fn 47),(9,.p (.int .i64) (s.1.1:Int)),(10,.p (.int .i64) (s.1.2.1:Int))],[(1000000,.arr 82 Bi s.1.2.2)]⟩) (fun s=>5-s.1.2.1) ⟨(a+1,0,l),by simp only;omega,Nat.zero_le _,DT.refl a b l,WQ a l⟩ (AC [(1000000,.nm 1000000)] rfl rfl ?_ ?_) (fun s=>?_)
  ·first|exact eN|refine eM ?_
  ·first|exact eN|refine eM ?_
  ·obtain⟨⟨i,t,m⟩,⟨hi1,hi2⟩,ht,hp0,hs0⟩:=s
   simp only at hi1 hi2 ht hp0 hs0 ⊢
   have hmD:=hD.perm BD hp0.perm
   have hml:=hp0.len
   repeat'(first|exact trivial|refine eS rfl ?_|refine AB ?_|refine rX [0,1,2,3,8,9,10,11,12,16,36,41,45,65,69,84,104,109,124] hc ?_ ?_)
   refine rC (fun AA=>?_) (fun AA=>?_)
   ·repeat'(first|exact trivial|refine eS rfl ?_|refine AB ?_|refine rX [0,1,2,3,8,9,10,11,12,16,36,41,45,65,69,84,104,109,124] hc ?_ ?_)
    refine AK (ι:={k:Nat//i≤k∧k≤b∧Pv A5 ([],0) a k m}) (fun s=>⟨[(0,.sr 1000000 Bi 0 l.length),(1,.p T3 (a:Int)),(2,.p T3 (b:Int)),(3,.fn 47),(9,.p (.int .i64) (s.1:Int)),(10,.p (.int .i64) (t:Int))],[(1000000,.arr 82 Bi m)]⟩) (fun s=>b-s.1) ⟨i,Nat.le_refl _,hi2,hs0⟩ (AC [(1000000,.nm 1000000)] rfl rfl ?_ ?_) (fun s=>?_)
    ·first|exact eN|refine eM ?_
    ·first|exact eN|refine eM ?_
    ·obtain⟨k,hk1,hk2,hsk⟩:=s
     simp only at hk1 hk2 hsk ⊢
     have ek:((k:Int)-1).toNat=k-1:=by omega
     repeat'(first|exact trivial|refine eS rfl ?_|refine AB ?_|refine rX [0,1,2,3,8,9,10,11,12,16,36,41,45,65,69,84,104,109,124] hc ?_ ?_)
     ·dsimp only[Ty.den]
      exact⟨fun _=>by omega,fun _=>by omega,fun _=>by omega⟩
     ·refine Cc (by simp only[go_sem,Nat.reduceEqDiff,reduceCtorEq,Nat.reduceAdd,Nat.reduceSub,Nat.reduceMul,Nat.reduceLeDiff,Nat.reduceLT,Int.reduceLE,Int.reduceToNat,Int.reduceNeg,↓reduceIte];rfl) ?_ ?_
      ·intro hc2
       simp only[Bool.and_eq_true,decide_eq_true_eq,Bool.not_eq_true',decide_eq_false_iff_not]at hc2
       obtain⟨h1,h2⟩:=hc2
       rw[ek]at h2
       have h2:=hmD.lt BD (i:=k) (j:=k-1) (by omega) (by omega) (by omega) h2
       repeat'(first|exact trivial|refine eS rfl ?_|refine AB ?_|refine rX [0,1,2,3,8,9,10,11,12,16,36,41,45,65,69,84,104,109,124] hc ?_ ?_)
       ·exact B6
       ·refine⟨⟨k+1,by omega,by omega,r7 BD hsk (by omega) h2⟩,by simp only;omega,AC [(1000000,.nm 1000000)] rfl rfl ?_ ?_⟩
        ·first|exact eN|refine eM ?_
        ·first|exact eN|refine eM ?_
      ·intro hc2
       clear hc2
       repeat'(first|exact trivial|refine eS rfl ?_|refine AB ?_|refine rX [0,1,2,3,8,9,10,11,12,16,36,41,45,65,69,84,104,109,124] hc ?_ ?_)
       refine rC (fun hcond2=>?_) (fun hcond2=>?_)
       ·have hkb:k=b:=by omega
        subst hkb
        repeat'(first|exact trivial|refine eS rfl ?_|refine AB ?_|refine rX [0,1,2,3,8,9,10,11,12,16,36,41,45,65,69,84,104,109,124] hc ?_ ?_|refine rC ?_ ?_<;>intro AA<;>try(cases AA;done))
        exact Am hc [.tmp 8] rfl (.inl rfl) (.p .bool true) eT ⟨true,m,rfl,rfl,hp0,fun _=>hsk⟩
       ·have hkb:k<b:=by omega
        repeat'(first|exact trivial|refine eS rfl ?_|refine AB ?_|refine rX [0,1,2,3,8,9,10,11,12,16,36,41,45,65,69,84,104,109,124] hc ?_ ?_)
        ·exact B6
        ·refine rC (fun hcond3=>?_) (fun hcond3=>?_)
         ·repeat'(first|exact trivial|refine eS rfl ?_|refine AB ?_|refine rX [0,1,2,3,8,9,10,11,12,16,36,41,45,65,69,84,104,109,124] hc ?_ ?_|refine rC ?_ ?_<;>intro AA<;>try(cases AA;done))
          exact Am hc [.tmp 8] rfl (.inl rfl) (.p .bool false) eT ⟨false,m,rfl,rfl,hp0,fun h=>by cases h⟩
         ·have hps:DT ([],0) a b m (B4 ([],0) m k (k-1)):=DT.swap m (by omega) (by omega) (by omega) (by omega) (by omega)
          have hsw:B4 ([],0) m k (k-1)=(m.set k (m.getD (k-1) ([],0))).set (k-1) (m.getD k ([],0)):=rfl
          have hsy:aO A5 ([],0) a (k-1) (k-1) (B4 ([],0) m k (k-1)):=⟨fun x y h0 h1 h2 h3 h4=>by
           have hg:=Gu (d:=([],0)) (l:=m) (i:=k) (j:=k-1) (by omega) (by omega)
           rw[hg x,hg y,if_neg h3,if_neg (show ¬x=k by omega),if_neg h4,if_neg (show ¬y=k by omega)]
           exact hsk x y h0 h1 (by omega),fun y h1 h2=>by omega⟩
          repeat'(first|exact trivial|refine eS rfl ?_|refine AB ?_|refine rP [0,1,2,3,8,9,10,11,12,16,36,41,45,65,69,84,104,109,124] hc ?_ ?_|fail)
          (refine Df drawsAny hc 16 [([0,1,5,6,7,8,9,10,11,12,13,14],15)] [2,3,4] (by kernel_rfl) (TF ?_ ?_);(next=>exact B6);refine TG hc [] ?_ ?_;(next=>exact B6);refine WY [0,1,2,3,8,9,10,11,12,16,36,41,45,65,69,84,104,109,124] hc ?_ ?_ ?_;(next=>exact B6);(next=>exact B6))
          rw[ek,←hsw]
          have hp1:=hp0.trans hps
          clear hsw hps hmD hml
          generalize B4 ([],0) m k (k-1)=c0 at *
          refine GR ?_
          refine Mw (ι:={c:List (List Int×Int)//DT ([],0) a b l c∧Pv A5 ([],0) a k c}) (fun s=>⟨[(0,.sr 1000000 Bi 0 l.length),(1,.p T3 (a:Int)),(2,.p T3 (b:Int)),(3,.fn 47),(9,.p (.int .i64) (k:Int)),(10,.p (.int .i64) (t:Int))],[(1000000,.arr 82 Bi s.1)]⟩) ?_ (fun s=>?_)
          ·repeat'(first|exact trivial|refine eS rfl ?_|refine AB ?_|refine rX [0,1,2,3,8,9,10,11,12,16,36,41,45,65,69,84,104,109,124] hc ?_ ?_)
           ·exact B6
           ·refine rC (fun hcond4=>?_) (fun hcond4=>?_)
            ·repeat'(first|exact trivial|refine eS rfl ?_|refine AB ?_|refine rX [0,1,2,3,8,9,10,11,12,16,36,41,45,65,69,84,104,109,124] hc ?_ ?_)
             ·exact B6
             ·rw[show (k:Int)-1=((k-1:Nat):Int) by omega]
              refine AK (ι:={s:Nat×List (List Int×Int)//(a≤s.1∧s.1≤k-1)∧DT ([],0) a b l s.2∧aO A5 ([],0) a (k-1) s.1 s.2}) (fun s=>⟨[(0,.sr 1000000 Bi 0 l.length),(1,.p T3 (a:Int)),(2,.p T3 (b:Int)),(3,.fn 47),(9,.p (.int .i64) (k:Int)),(10,.p (.int .i64) (t:Int)),(11,.p (.int .i64) (s.1.1:Int))],[(1000000,.arr 82 Bi s.1.2)]⟩) (fun s=>s.1.1) ⟨(k-1,c0),by simp only;omega,hp1,hsy⟩ (AC [(1000000,.nm 1000000)] rfl rfl ?_ ?_) (fun s=>?_)
              ·first|exact eN|refine eM ?_
              ·first|exact eN|refine eM ?_
              ·obtain⟨⟨j,c⟩,⟨hj1,hj2⟩,hpc,hsc⟩:=s
               simp only at hj1 hj2 hpc hsc ⊢
               have hcD:=hD.perm BD hpc.perm
               have hcl:=hpc.len
               have ej:((j:Int)-1).toNat=j-1:=by omega
               have hBc:=hB.pin hpc
               repeat'(first|exact trivial|refine eS rfl ?_|refine AB ?_|refine rX [0,1,2,3,8,9,10,11,12,16,36,41,45,65,69,84,104,109,124] hc ?_ ?_)
               refine rC (fun hcond5=>?_) (fun hcond5=>?_)
               ·repeat'(first|exact trivial|refine eS rfl ?_|refine AB ?_|refine rX [0,1,2,3,8,9,10,11,12,16,36,41,45,65,69,84,104,109,124] hc ?_ ?_)
                ·exact B6
                ·refine Cc (by simp only[go_sem,Nat.reduceEqDiff,reduceCtorEq,Nat.reduceAdd,Nat.reduceSub,Nat.reduceMul,Nat.reduceLeDiff,Nat.reduceLT,Int.reduceLE,Int.reduceToNat,Int.reduceNeg,↓reduceIte];rfl) ?_ ?_
                 ·intro hc2
                  simp only[Bool.not_eq_true',decide_eq_false_iff_not]at hc2
                  rw[ej]at hc2
                  have hc2:=hcD.lt BD (i:=j) (j:=j-1) (by omega) (by omega) (by omega) hc2
                  have hse:=Sr BD hsc hj1 hj2 (.inr hc2)
                  rw[show k-1+1=k by omega]at hse
                  repeat'(first|exact trivial|refine eS rfl ?_|refine AB ?_|refine rX [0,1,2,3,8,9,10,11,12,16,36,41,45,65,69,84,104,109,124] hc ?_ ?_)
                  refine⟨⟨c,hpc,hse⟩,AC [(1000000,.nm 1000000)] rfl rfl ?_ ?_⟩
                  ·first|exact eN|refine eM ?_
                  ·first|exact eN|refine eM ?_
                 ·intro hc2
                  simp only[Bool.not_eq_false',decide_eq_true_eq]at hc2
                  rw[ej]at hc2
                  have hc2:A5 (c.getD j ([],0)) (c.getD (j-1) ([],0))<0:=hc2
                  have haj:a<j:=by
                   refine Classical.byContradiction fun hn=>?_
                   have e:j=a:=by omega
                   subst e
                   rcases hBc with h|h
                   ·omega
                   ·have:=h j (Nat.le_refl _) (by omega)
                    rw[BD.anti]at this
                    omega
                  have hps:DT ([],0) a b c (B4 ([],0) c j (j-1)):=DT.swap c (by omega) (by omega) (by omega) (by omega) (by omega)
                  have hsw:B4 ([],0) c j (j-1)=(c.set j (c.getD (j-1) ([],0))).set (j-1) (c.getD j ([],0)):=rfl
                  repeat'(first|exact trivial|refine eS rfl ?_|refine AB ?_|refine rP [0,1,2,3,8,9,10,11,12,16,36,41,45,65,69,84,104,109,124] hc ?_ ?_|fail)
                  (refine Df drawsAny hc 16 [([0,1,5,6,7,8,9,10,11,12,13,14],15)] [2,3,4] (by kernel_rfl) (TF ?_ ?_);(next=>exact B6);refine TG hc [] ?_ ?_;(next=>exact B6);refine WY [0,1,2,3,8,9,10,11,12,16,36,41,45,65,69,84,104,109,124] hc ?_ ?_ ?_;(next=>exact B6);(next=>exact B6))
                  rw[ej,←hsw]
                  repeat'(first|exact trivial|refine eS rfl ?_|refine AB ?_|refine rX [0,1,2,3,8,9,10,11,12,16,36,41,45,65,69,84,104,109,124] hc ?_ ?_)
                  ·exact B6
                  ·refine⟨⟨(j-1,B4 ([],0) c j (j-1)),by simp only;omega,hpc.trans hps,Us hsc haj hj2 (by omega) hc2⟩,by simp only;omega,AC [(1000000,.nm 1000000)] rfl rfl ?_ ?_⟩
                   ·first|exact eN|refine eM ?_
                   ·simp only
                    rw[show ((j-1:Nat):Int)=(j:Int)-1 by omega]
                    first|exact eN|refine eM ?_
               ·have hja:j=a:=by omega
                have hse:=Sr BD hsc hj1 hj2 (.inl hja)
                rw[show k-1+1=k by omega]at hse
                repeat'(first|exact trivial|refine eS rfl ?_|refine AB ?_|refine rX [0,1,2,3,8,9,10,11,12,16,36,41,45,65,69,84,104,109,124] hc ?_ ?_)
                refine⟨⟨c,hpc,hse⟩,AC [(1000000,.nm 1000000)] rfl rfl ?_ ?_⟩
                ·first|exact eN|refine eM ?_
                ·first|exact eN|refine eM ?_
            ·have hka:k=a+1:=by omega
             repeat'(first|exact trivial|refine eS rfl ?_|refine AB ?_|refine rX [0,1,2,3,8,9,10,11,12,16,36,41,45,65,69,84,104,109,124] hc ?_ ?_)
             refine⟨⟨c0,hp1,by rw[hka];exact WQ a c0⟩,AC [(1000000,.nm 1000000)] rfl rfl ?_ ?_⟩
             ·first|exact eN|refine eM ?_
             ·first|exact eN|refine eM ?_
          ·obtain⟨c,hpc,hsc⟩:=s
           simp only
           clear hp1 hsy
           repeat'(first|exact trivial|refine eS rfl ?_|refine AB ?_|refine rX [0,1,2,3,8,9,10,11,12,16,36,41,45,65,69,84,104,109,124] hc ?_ ?_)
           ·exact B6
           ·refine rC (fun hcond4=>?_) (fun hcond4=>?_)
            ·repeat'(first|exact trivial|refine eS rfl ?_|refine AB ?_|refine rX [0,1,2,3,8,9,10,11,12,16,36,41,45,65,69,84,104,109,124] hc ?_ ?_)
             ·exact B6
             ·rw[show (k:Int)+1=((k+1:Nat):Int) by omega]
              refine AK (ι:={s:Nat×List (List Int×Int)//(k+1≤s.1∧s.1≤b)∧DT ([],0) a b l s.2∧Pv A5 ([],0) a k s.2}) (fun s=>⟨[(0,.sr 1000000 Bi 0 l.length),(1,.p T3 (a:Int)),(2,.p T3 (b:Int)),(3,.fn 47),(9,.p (.int .i64) (k:Int)),(10,.p (.int .i64) (t:Int)),(12,.p (.int .i64) (s.1.1:Int))],[(1000000,.arr 82 Bi s.1.2)]⟩) (fun s=>b-s.1.1) ⟨(k+1,c),by simp only;omega,hpc,hsc⟩ (AC [(1000000,.nm 1000000)] rfl rfl ?_ ?_) (fun s=>?_)
              ·first|exact eN|refine eM ?_
              ·first|exact eN|refine eM ?_
              ·clear hpc hsc
               obtain⟨⟨j,c⟩,⟨hj1,hj2⟩,hpc,hsc⟩:=s
               simp only at hj1 hj2 hpc hsc ⊢
               have hcl:=hpc.len
               have ej:((j:Int)-1).toNat=j-1:=by omega
               repeat'(first|exact trivial|refine eS rfl ?_|refine AB ?_|refine rX [0,1,2,3,8,9,10,11,12,16,36,41,45,65,69,84,104,109,124] hc ?_ ?_)
               refine rC (fun hcond5=>?_) (fun hcond5=>?_)
               ·repeat'(first|exact trivial|refine eS rfl ?_|refine AB ?_|refine rX [0,1,2,3,8,9,10,11,12,16,36,41,45,65,69,84,104,109,124] hc ?_ ?_)
                ·exact B6
                ·refine Cc (by simp only[go_sem,Nat.reduceEqDiff,reduceCtorEq,Nat.reduceAdd,Nat.reduceSub,Nat.reduceMul,Nat.reduceLeDiff,Nat.reduceLT,Int.reduceLE,Int.reduceToNat,Int.reduceNeg,↓reduceIte];rfl) ?_ ?_
                 ·intro hc2
                  clear hc2
                  repeat'(first|exact trivial|refine eS rfl ?_|refine AB ?_|refine rX [0,1,2,3,8,9,10,11,12,16,36,41,45,65,69,84,104,109,124] hc ?_ ?_)
                  ·exact B6
                  ·refine⟨⟨(k,t+1,c),by simp only;omega,by simp only;omega,hpc,hsc⟩,by simp only;omega,AC [(1000000,.nm 1000000)] rfl rfl ?_ ?_⟩
                   ·first|exact eN|refine eM ?_
                   ·first|exact eN|refine eM ?_
                 ·intro hc2
                  clear hc2
                  have hps:DT ([],0) k b c (B4 ([],0) c j (j-1)):=DT.swap c (by omega) (by omega) (by omega) (by omega) (by omega)
                  have hsw:B4 ([],0) c j (j-1)=(c.set j (c.getD (j-1) ([],0))).set (j-1) (c.getD j ([],0)):=rfl
                  repeat'(first|exact trivial|refine eS rfl ?_|refine AB ?_|refine rP [0,1,2,3,8,9,10,11,12,16,36,41,45,65,69,84,104,109,124] hc ?_ ?_|fail)
                  (refine Df drawsAny hc 16 [([0,1,5,6,7,8,9,10,11,12,13,14],15)] [2,3,4] (by kernel_rfl) (TF ?_ ?_);(next=>exact B6);refine TG hc [] ?_ ?_;(next=>exact B6);refine WY [0,1,2,3,8,9,10,11,12,16,36,41,45,65,69,84,104,109,124] hc ?_ ?_ ?_;(next=>exact B6);(next=>exact B6))
                  rw[ej,←hsw]
                  repeat'(first|exact trivial|refine eS rfl ?_|refine AB ?_|refine rX [0,1,2,3,8,9,10,11,12,16,36,41,45,65,69,84,104,109,124] hc ?_ ?_)
                  ·exact B6
                  ·refine⟨⟨(j+1,B4 ([],0) c j (j-1)),by simp only;omega,hpc.trans (hps.mono (by omega) (Nat.le_refl _)),LI hsc fun x x1 x2=>hps.out x (by omega)⟩,by simp only;omega,AC [(1000000,.nm 1000000)] rfl rfl ?_ ?_⟩
                   ·first|exact eN|refine eM ?_
                   ·first|exact eN|refine eM ?_
               ·repeat'(first|exact trivial|refine eS rfl ?_|refine AB ?_|refine rX [0,1,2,3,8,9,10,11,12,16,36,41,45,65,69,84,104,109,124] hc ?_ ?_)
                ·exact B6
                ·refine⟨⟨(k,t+1,c),by simp only;omega,by simp only;omega,hpc,hsc⟩,by simp only;omega,AC [(1000000,.nm 1000000)] rfl rfl ?_ ?_⟩
                 ·first|exact eN|refine eM ?_
                 ·first|exact eN|refine eM ?_
            ·repeat'(first|exact trivial|refine eS rfl ?_|refine AB ?_|refine rX [0,1,2,3,8,9,10,11,12,16,36,41,45,65,69,84,104,109,124] hc ?_ ?_)
             ·exact B6
             ·refine⟨⟨(k,t+1,c),by simp only;omega,by simp only;omega,hpc,hsc⟩,by simp only;omega,AC [(1000000,.nm 1000000)] rfl rfl ?_ ?_⟩
              ·first|exact eN|refine eM ?_
              ·first|exact eN|refine eM ?_
   ·repeat'(first|exact trivial|refine eS rfl ?_|refine AB ?_|refine rX [0,1,2,3,8,9,10,11,12,16,36,41,45,65,69,84,104,109,124] hc ?_ ?_|refine rC ?_ ?_<;>intro AA<;>try(cases AA;done))
    exact Am hc [.tmp 8] rfl (.inl rfl) (.p .bool false) eT ⟨false,m,rfl,rfl,hp0,fun h=>by cases h⟩
end
/- Functions of Go's library under sorting: the length of a number, a power of two, random numbers. -/
section
theorem yF (x y:Int) (h0:0≤y) (h1:y<4611686018427387904):0≤Bm .and .u64 x y∧Bm .and .u64 x y≤y:=by
 have hb:(IntKind.u64).bits=64:=rfl
 have e2:(BitVec.ofInt 64 y).toNat=y.toNat:=by
  rw[BitVec.toNat_ofInt]
  omega
 have h2:(BitVec.ofInt 64 x &&& BitVec.ofInt 64 y).toNat≤y.toNat:=by
  rw[BitVec.toNat_and,e2]
  exact Nat.and_le_right
 have e3:Bm .and .u64 x y=IntKind.u64.wrap (((BitVec.ofInt 64 x &&& BitVec.ofInt 64 y).toNat:Nat):Int):=rfl
 rw[e3]
 generalize (BitVec.ofInt 64 x &&& BitVec.ofInt 64 y).toNat=z at *
 have hw:IntKind.u64.wrap (z:Int)=(z:Int):=by
  have hm:(z:Int)<18446744073709551616:=by omega
  have:IntKind.u64.wrap (z:Int)=(z:Int) % 18446744073709551616:=by
   first|rfl|(simp[IntKind.wrap];done)
  rw[this]
  omega
 rw[hw]
 omega
theorem A2p (z:Int):0≤IntKind.u64.wrap z∧IntKind.u64.wrap z≤18446744073709551615:=by
 have:IntKind.u64.wrap z=z % 18446744073709551616:=by
  first|rfl|(simp[IntKind.wrap];done)
 omega
theorem Yp (x y:Int):0≤Bm .xor .u64 x y∧Bm .xor .u64 x y≤18446744073709551615:=A2p _
theorem sB {x:Int} (h0:0≤x) (h1:x≤18446744073709551615):0≤Lm .u64 x 7∧Lm .u64 x 7≤18446744073709551615:=by
 show 0≤x.fdiv 128∧x.fdiv 128≤18446744073709551615
 rw[Int.fdiv_eq_ediv_of_nonneg _ (by decide)]
 omega
theorem mF (x:Int) (h0:0≤x) (h1:x<256):B9 Tryz.prog 112 [.p (.int .u64) x] [] [] (fun res objs'=>(∃n:Nat,res=.p T3 (n:Int)∧n≤8∧(1≤x.toNat→x.toNat<2 ^ n∧2 ^ n≤2*x.toNat))∧objs'=[]):=by
 refine Bw Tryz.func112 (by kernel_rfl) rfl Tryz.ntmps112 (by simp only[List.length_cons,List.length_nil];omega) (by kernel_rfl) rfl rfl (AF []) AH ?_
 intro w0 K O0 ρ0 hc hok1 hok2
 simp only[A1]
 repeat'(first|exact trivial|refine eS rfl ?_|refine AB ?_|refine rX [0,2,4,8,14] hc ?_ ?_|refine rC ?_ ?_<;>intro AA<;>try(cases AA;done))
 all_goals first|(exfalso;omega)|skip
 refine HP [0,2] hc rfl (by simp only[go_sem,Nat.reduceEqDiff,reduceCtorEq,Nat.reduceAdd,Nat.reduceSub,Nat.reduceMul,Nat.reduceLeDiff,Nat.reduceLT,Int.reduceLE,Int.reduceToNat,Int.reduceNeg,↓reduceIte,ByteArray.size,List.size_toArray,AO];rfl) ?_ ?_
 ·have hu:∀u:UInt8,((u.toNat:Nat):Int)≤255:=fun u=>by have:=u.toNat_lt;omega
  have h00:0≤x:=by omega
  refine⟨⟨h00,by omega⟩,⟨h00,?_⟩,⟨?_,?_⟩,?_,?_⟩
  ·have h2:x<((256:Nat):Int):=h1
   exact h2
  ·exact Int.le_trans (by decide) (Int.natCast_nonneg _)
  ·exact Int.le_trans (hu _) (by decide)
  ·rw[Int.zero_add];exact Int.le_trans (by decide) (Int.natCast_nonneg _)
  ·rw[Int.zero_add];exact Int.le_trans (hu _) (by decide)
 ·repeat'(first|exact trivial|refine eS rfl ?_|refine AB ?_|refine rX [0,2,4,8,14] hc ?_ ?_|refine rC ?_ ?_<;>intro AA<;>try(cases AA;done))
  refine Am hc [.tmp 2] rfl (.inl rfl) (.p T3 _) (by simp only[RL,ZU,L0,RK,Gy,HI,GS,go_sem,Nat.reduceEqDiff,reduceCtorEq,Nat.reduceAdd,Nat.reduceSub,Nat.reduceMul,Nat.reduceLeDiff,Nat.reduceLT,Int.reduceLE,Int.reduceToNat,Int.reduceNeg,↓reduceIte];rfl) ⟨⟨_,by rw[Int.zero_add],?_⟩,rfl⟩
  have hk2:x.toNat<256:=by omega
  generalize x.toNat=k at *
  clear AA
  revert hk2
  revert k
  decide
theorem iX (x:Int) (h0:0≤x) (h1:x<256):B9 Tryz.prog 71 [.p (.int .u64) x] [] [] (fun res objs'=>(∃n:Nat,res=.p T3 (n:Int)∧n≤8∧(1≤x.toNat→x.toNat<2 ^ n∧2 ^ n≤2*x.toNat))∧objs'=[]):=by
 refine Bw Tryz.func71 (by kernel_rfl) rfl Tryz.ntmps71 (by simp only[List.length_cons,List.length_nil];omega) (by kernel_rfl) rfl rfl (AF []) AH ?_
 intro w0 K O0 ρ0 hc hok1 hok2
 simp only[A1]
 repeat'(first|exact trivial|refine eS rfl ?_|refine AB ?_|refine rX [0,2] hc ?_ ?_|refine rC ?_ ?_<;>intro AA<;>try(cases AA;done))
 refine cP 1 hc ?_ ?_
 ·trivial
 ·refine rM hc (mF x h0 h1) [] [] ?_ ?_ ?_
  ·first|exact eN|refine eM ?_
  ·first|exact eN|refine eM ?_
  ·rintro _ _ ⟨⟨n,rfl,hnz⟩,rfl⟩
   refine⟨[],.p T3 (n:Int),[],rfl,rfl,?_,?_,rfl,rfl,?_⟩
   ·first|exact eN|refine eM ?_
   ·first|exact eN|refine eM ?_
   ·refine rL [0,2] hc ?_ ?_
    ·trivial
    ·repeat'(first|exact trivial|refine eS rfl ?_|refine AB ?_|refine rX [0,2] hc ?_ ?_|refine rC ?_ ?_<;>intro AA<;>try(cases AA;done))
     exact Am hc [.tmp 2] rfl (.inl rfl) (.p T3 (n:Int)) eT ⟨⟨n,rfl,hnz⟩,rfl⟩
theorem yG (x:Int) (h0:1≤x) (h1:x<256):B9 Tryz.prog 142 [.p T3 x] [] [] (fun res objs'=>(∃m:Nat,res=.p (.int .u64) (m:Int)∧x.toNat<m∧m≤2*x.toNat)∧objs'=[]):=by
 refine Bw Tryz.func142 (by kernel_rfl) rfl Tryz.ntmps142 (by simp only[List.length_cons,List.length_nil];omega) (by kernel_rfl) rfl rfl (AF []) AH ?_
 intro w0 K O0 ρ0 hc hok1 hok2
 simp only[A1]
 repeat'(first|exact trivial|refine eS rfl ?_|refine AB ?_|refine rX [0,2] hc ?_ ?_|refine rC ?_ ?_<;>intro AA<;>try(cases AA;done))
 refine cP 2 hc ?_ ?_
 ·exact B6
 ·refine rM hc (iX x (by omega) h1) [] [] ?_ ?_ ?_
  ·first|exact eN|refine eM ?_
  ·first|exact eN|refine eM ?_
  ·rintro _ _ ⟨⟨n,rfl,h8,hn12⟩,rfl⟩
   obtain⟨hn1,hn2⟩:=hn12 (by omega)
   refine⟨[],.p T3 (n:Int),[],rfl,rfl,?_,?_,rfl,rfl,?_⟩
   ·first|exact eN|refine eM ?_
   ·first|exact eN|refine eM ?_
   ·refine rL [0,2] hc ?_ ?_
    ·trivial
    ·have e:P0 .u64 1 (n:Int)=((2 ^ n:Nat):Int):=by
      clear hn1 hn2
      have:∀n:Fin 9,P0 .u64 1 ((n.val:Nat):Int)=((2 ^ n.val:Nat):Int):=by decide
      exact this ⟨n,by omega⟩
     rw[e]
     repeat'(first|exact trivial|refine eS rfl ?_|refine AB ?_|refine rX [0,2] hc ?_ ?_|refine rC ?_ ?_<;>intro AA<;>try(cases AA;done))
     exact Am hc [.tmp 2] rfl (.inl rfl) (.p (.int .u64) ((2 ^ n:Nat):Int)) eT ⟨⟨_,rfl,hn1,hn2⟩,rfl⟩
theorem yH (s:Int) (hs:0≤s∧s≤18446744073709551615):B9 Tryz.prog 143 [.bp 70 [] 0] [(70,.box 196 false [.p (.int .u64) s])] [70] (fun res objs'=>∃v:Int,(0≤v∧v≤18446744073709551615)∧res=.p (.int .u64) v∧objs'=[(70,.box 196 false [.p (.int .u64) v])]):=by
 refine Bw Tryz.func143 (by kernel_rfl) rfl Tryz.ntmps143 (by simp only[List.length_cons,List.length_nil];omega) (by kernel_rfl) rfl rfl (AF []) AH ?_
 intro w0 K O0 ρ0 hc hok1 hok2
 simp only[A1]
 repeat'(first|exact trivial|refine eS rfl ?_|refine AB ?_|refine rX [0,2] hc ?_ ?_|refine rC ?_ ?_<;>intro AA<;>try(cases AA;done))
 ·have:=Yp s (P0 .u64 s 13)
  exact sB this.1 this.2
 ·exact Am hc [.tmp 2] rfl (.inl rfl) (.p (.int .u64) _) eT ⟨_,Yp _ _,rfl,rfl⟩
end
end Go.Proofs.YtmejfnhmgbhkmabGreat.Fw
