/- Contracts of the program's and the reference's functions, and the plain laws of what they compute: U8 U9 U10 U11 U12 N8 N9 V1 V2 V4 V5 V6 V9 V10 T19 T20 T22 T24 W6 T26 U14 W7 T27 T21 T23 T25 U13 V3 SN V11 V7 V8 T28 U17 H4 V14 T17 T18 L21 T30 W10 J1 I1 H2 H3 J2 V15 V16 J3 I2. -/
import Derived.Test.YtapkhdkbkodbjaaGreatHYC
import Derived.Test.YtapkhdkbkodbjaaGreatHYB
import Derived.Test.YtapkhdkbkodbjaaGreatHYA
import Derived.Test.YtapkhdkbkodbjaaGreatHZI
import Derived.Laws.Strings
set_option linter.unusedVariables false
set_option linter.unusedSimpArgs false
namespace Go.Proofs.YtapkhdkbkodbjaaGreat.Fw
open Go
attribute [local irreducible] Ev
attribute [local go_sem] YY AM List.toList_toArray Bq evG evK VA Ef Jj Fs E7 II Pi L2 DA Cp Kj B3 Cq frz d7 GV DE A6 Fa Bd AV.frz AV.frzs AV.drp AV.drps AV.names AV.namess aq GW J4 Ja RP H7 BX Be Iz EZ Hf Ea Hh Hg Hi Tr Np GX I0 Fc Dx Ts Pd qUn I8 IA Kd FJ Df IB Jc EE RQ DJ EF Eq Pe IC Lz FP Ly Nq Pf LS ID Jd EH Dg Gt Di HN DK Er DL EI Y1 B3 Cg PX Pa Lx F6 H9 H8 Jb Nt Pg L1 Ki Kg Jg Ph Kh Jh X6 Nv Nu AV.trn AV.trns Eo C0 Obj.trn JJ bF Dh EK Dy EJ CU Es Ao lk Gn GP HK bin d6 Uz d9 Pc uN uP pfs AV.cells CD Ix OQ Jf Ns CT Lv Ty.cell1 He Ep De F5 Kb E5 J0 LR PZ Em Gr Lu RN Tp Ln Jz X3 aC Pb Lw Co Iy RV.flat Ty.flat Ty.size St.add upd del Bj Value.oneCell' KZ Ty.dflt Hd NE Gx NK List.take_succ_cons List.take_zero List.length_cons Yf Yg NJ IQ KD Gb Hz yF E8 Kr Ks Kt Ku Od Oe Kv Hn Rc Option.map_some Option.map_none Option.bind_some Option.getD_some Option.getD_none Option.isNone_none Option.isNone_some Bool.and_true Bool.true_and Bool.and_false Bool.false_and Bool.not_true Bool.not_false if_true if_false List.length_cons List.length_nil and_true true_and and_self List.all_cons List.all_nil List.append_nil List.nil_append List.cons_append List.getElem?_cons_zero List.getElem?_cons_succ List.getElem?_nil List.map_cons List.map_nil List.set_cons_zero List.set_cons_succ List.isEmpty_nil List.isEmpty_cons decide_true decide_false beq_self_eq_true bne_self_eq_false Nat.zero_add Nat.add_zero Nat.sub_zero Int.toNat_natCast Int.toNat_zero Int.toNat_one List.take_length List.length_append List.length_singleton true_or or_true or_self false_or or_false Ty.agg.injEq Ty.slice.injEq Ty.prod.injEq Ty.int.injEq Option.some.injEq beq_iff_eq La evMG evMQ opM HR LZ B2 JD Gy Nz JC HQ Ho JE KB MD MF ME Rd KA NG NH Hy Aa Aj Op.operands Call.operands List.filterMap_cons List.filterMap_nil List.append_eq Bool.cond_false_right Bool.cond_true_left cond_true cond_false implies_true decide_eq_true_eq beq_true beq_false Bool.or_true Bool.or_false Bool.true_or Bool.false_or Option.isSome_some Array.empty_append List.append_toArray Fb Kk Et HZ X5 Nr FQ Fl Fk IE HL Je Ke U0 d8 Hv inB Ji FY F7 IG Am Yh List.drop_zero DU Ha YA CL Jr CJ AV.fgt AV.fgts Obj.fgt Av Ah Aa Cs IR BK GB List.any_cons List.any_nil pX bB YB bC Lo QC qs List.flatMap_cons List.flatMap_nil List.cons_append tn YC JK List.take_succ_cons List.drop_succ_cons YD Gd BT fV KF B4 CM Ae Ey Jp Bk Ex Dj HO Hm GA HP
attribute [local go_sem] ty1 ty2 ty3 ty4 ty5 ty9 A22 A23 A24 A25 A26 A27 A28 A29 A2a A2b A2c A2d A2e A2f A2g A2h A2i A2j A2k A2l A2m A2n A2o A2p A2q A2r A2s A2t A2u A2v A2w A2x A2y A2z A2A A2B A2C A2D A2E A2F A2G A2H A2I A2J A2K A2L A2M A2N A2O A2P A2Q A2R A2S A2T A2U A2V A2W A2X A2Y A2Z A30 A31 A32 A33 A34 A35 A36 A37 A38 A39 A3a f5 f6 f7 f8 f9 gB gC gD gE gF gG gH gI gJ gK gL gM gN gP gQ gR gS gT gU gV gW gX gY gZ g9 hC hH hZ iA iB iC iD iE iG iH iI iJ iK iL iM iO iP iQ iR iT iU iV iW iX iY iZ i3 i4 i5 i6 i7 i8 i9 jA jB jC jD jE jF jG jH jI jJ jK jL jM jN jO jP jQ jR jS jT jU jV jW jX jY jZ j5 j6 j7 j8 j9 kA kB kC kD kE kF kG kH kI kJ kK kL kM kN kO kP kQ kR kS kT kU kV kW kX kY kZ k5 k6 k7 k8 k9 lA lB lC lD lE lF lG lH lI lJ lK lL lM lN lO lQ lS lU lV lW lX lY lZ l3 l4 l7 l8 l9 mA mB mC mD mE mF mG mH mI mJ mK mL mM
set_option maxRecDepth 100000
set_option maxHeartbeats 4000000
def uO (h:AH) (p ty:List Int) (ar:List (List (Int×Int))) (M:List Int) (out:List AD):List (Nat×Obj):=[(101,.box 111 true [.p Eg h,.sr 102 T3 0 p.length,.sr 103 T3 0 ty.length,.sr 104 DN 0 ar.length]),(102,.arr 3 T3 p),(103,.arr 3 T3 ty),(104,.arr 91 DN ar),(105,.box 108 false [.bp 101 [] 0]),(106,.box 61 false [.sr 107 T3 0 M.length]),(107,.arr 3 T3 M),(108,.box 25 true [.sr 109 NN 0 out.length]),(109,.arr 93 NN out),(110,.box 174 false [.clo 137 [105,106,108,110]])]
def A8W (h:AH) (p0 ty:List Int) (ar:List (List (Int×Int))) (k:Nat):Prop:=∀(p o:List Int) (out:List AD) (n:Int),(∃b,Fo p b)->E3 p0 p->KY (quo p0 ty ar) o->out.length=o.length->0<=n->n<(p0.length:Int)->p0.length-o.length<=k ->
 BI Tryz.prog 137 [.p T3 n,.bp 105 [] 0,.bp 106 [] 0,.bp 108 [] 0,.bp 110 [] 0] (uO h p ty ar (LO p0.length o) out) [101,105,106,108,110]
  (λres c=>∃a,(∃b,Fo a b)/\E3 p0 a/\res=.p T3 (B8 (Ab (quo p0 ty ar) k o (0,El p0 n)) (El p0 n))/\c=uO h a ty ar (LO p0.length (Ab (quo p0 ty ar) k o (0,El p0 n))) (out++HV (quo p0 ty ar) o (Ab (quo p0 ty ar) k o (0,El p0 n))))
theorem o4 (h:AH) {p0 ty:List Int} {ar:List (List (Int×Int))} (ai:∃m,Fo p0 m) (v:AX (quo p0 ty ar)) (aw:ty.length=p0.length) (ae:ar.length=p0.length) (ag:∀k,∀a∈ar.getD k [],0<=a.2/\a.2<(p0.length:Int)) (k:Nat) (ay:∀j,k=j+1->A8W h p0 ty ar j):A8W h p0 ty ar k:=by
 intro p o out n aj F O y n0 n1 hk;obtain⟨m,fo⟩:=aj;obtain⟨bj,L⟩:=ai;have U:=PN L n0 n1;have d:=GJ L n0 n1 U;have hp:=v.1;rw[FF]at hp;have C:=XB p0.length o;generalize bd:El p0 n=b at *;refine K0 [0,1,2,3,4,6,7,8,10,18,49,50,51,52] [] [] Tryz.func137 Tryz.ntmps137 AG ?_;intro w0 K O0 ρ0 f be bf;simp only[uO,Am];repeat'(first|exact trivial|refine eS rfl ?_|refine rX f ?_ ?_)
 refine cP 2 f ?_ ?_
 ·trivial
 ·refine rM f (cU h ty ar m fo n0 (by rw[<-F.1];exact n1)) [(1,.nm 101),(2,.nm 102),(3,.nm 103),(4,.nm 104)] [102,103,104] ?_ ?_ ?_
  ·exact eN
  ·simp only[Zg];exact eN
  ·rintro _ _ ⟨u,bi,rfl,rfl,M,bc,ba⟩;have aa:=F.trans bc;have e:=((F.2 n b n0 n1).1 U).det ba;subst e;refine⟨[(101,.nm 1),(102,.nm 2),(103,.nm 3),(104,.nm 4)],.p T3 b,[(101,.box 111 true [.p Eg h,.sr 102 T3 0 u.length,.sr 103 T3 0 ty.length,.sr 104 DN 0 ar.length]),(102,.arr 3 T3 u),(103,.arr 3 T3 ty),(104,.arr 91 DN ar)],rfl,rfl,?_,?_,rfl,rfl,?_⟩
   ·simp only[Zg];exact eN
   ·exact eN
   ·refine rL f ?_ ?_
    ·trivial
    ·repeat'(first|exact trivial|refine eS rfl ?_|refine rX f ?_ ?_|refine rC ?_ ?_<;>intro l<;>try(cases l;done))
     ·exact⟨d.1,by rw[C];exact d.2⟩
     ·exact⟨d.1,by rw[C];exact d.2⟩
     ·rw[XC d.1 d.2]at l;have B:b∈o:=DO λe=>by rw[An e]at l;omega
      have W:Ab (quo p0 ty ar) k o (0,b)=o:=BY B;have A:B8 o b=(LO p0.length o).getD b.toNat 0:=by
       rw[XC d.1 d.2,BY B];unfold B8;rw[BY B]
      refine Ev.ent (σ':=⟨[(6,.p T3 (B8 o b))],uO h u ty ar (LO p0.length o) out⟩) ?_ (AC [(101,.nm 101),(102,.nm 102),(103,.nm 103),(104,.nm 104),(105,.nm 105),(106,.nm 106),(107,.nm 107),(108,.nm 108),(109,.nm 109),(110,.nm 110)] rfl rfl ?_ ?_)
      ·refine fM f [.tmp 6] (.p T3 (B8 o b)) eT ⟨u,⟨m,M⟩,aa,by rw[W],?_⟩;rw[W,Zj,Sq];rfl
      ·unfold uO;exact eN
      ·refine eM ?_;exact A.symm
     ·exact⟨d.1,by rw[C];exact d.2⟩
     ·refine⟨⟨d.1,by rw[aw];exact d.2⟩,?_⟩;have:=O.len;rw[FF]at this;simp only[AP];omega
     ·exact⟨d.1,by rw[ae];exact d.2⟩
     ·rw[XC d.1 d.2]at l;have w:b∉o:=λe=>by rw[BY e]at l;omega
      have N:=O.snoc d.1 (by rw[FF];exact d.2) w;have an:=N.len;rw[FF,GO,SY]at an;obtain⟨j,rfl⟩:∃j,k=j+1:=⟨k-1,by omega⟩;have am:=ay j rfl;have x:=Na (p:=p0) (ty:=ty) (ar:=ar) d.1 d.2;have ax:=λa (ha:a∈ar.getD b.toNat [])=>ag b.toNat a ha;have bg:(ar.getD b.toNat []).length<=100000:=by
       have:=(v.2 _ (AE (quo p0 ty ar) (0,[]) (k:=b.toNat) (by rw[FF];omega))).1;rw[x,SX]at this;exact this
      have ad:∀a∈((ar.getD b.toNat []).map λa=>(a.1,El p0 a.2)),0<=a.2/\a.2<((quo p0 ty ar).length:Int):=λa ha=>by
       refine BD v (n:=b) ?_;rw[x];exact ha
      obtain⟨c,g⟩:∃c,ACx (quo p0 ty ar) (o++[b]) ((ar.getD b.toNat []).map λa=>(a.1,El p0 a.2)) j c:=⟨_,A75 v (j:=j) ad N (by rw[FF,GO,SY];omega)⟩;have G:Ab (quo p0 ty ar) (j+1) o (0,b)=((ar.getD b.toNat []).map λa=>(a.1,El p0 a.2)).foldl (Ab (quo p0 ty ar) j) (o++[b]):=by
       unfold Ab;rw[An w];show DZ (quo p0 ty ar) (j+1) o b=_;rw[CH,x];rfl
      rw[<-g.last,SX]at G;have ap:=λ(i:Nat) (hi:i<(ar.getD b.toNat []).length)=>show (((ar.getD b.toNat []).map λa=>(a.1,El p0 a.2)).getD i (0,0))=(((ar.getD b.toNat []).getD i (0,0)).1,El p0 ((ar.getD b.toNat []).getD i (0,0)).2) by
       exact SG (λa:Int×Int=>(a.1,El p0 a.2)) (0,0) (0,0) hi
      rw[y,A4B d.1 d.2 w];generalize bh:ar.getD b.toNat []=xs at *;refine AK (ι:={s:Nat×List Int//s.1<=xs.length/\(∃m,Fo s.2 m)/\E3 p0 s.2}) (λs=>⟨[(0,.p T3 b),(1,.bp 105 [] 0),(2,.bp 106 [] 0),(3,.bp 108 [] 0),(4,.bp 110 [] 0),(7,.p (.int .i64) (o.length:Int)),(8,.sr 64 AU 0 ((xs.take s.1.1).map λa=>(a.1,B8 (c s.1.1) (El p0 a.2))).length),(49,.p DN xs),(50,.p (.int .i64) (xs.length:Int)),(51,.p (.int .i64) (s.1.1:Int))],uO h s.1.2 ty ar (LO p0.length (c s.1.1)) (out++[(ty.getD b.toNat 0,[])]++HV (quo p0 ty ar) (o++[b]) (c s.1.1))++[(64,.arr 106 AU ((xs.take s.1.1).map λa=>(a.1,B8 (c s.1.1) (El p0 a.2))))]⟩) (λs=>xs.length-s.1.1) ⟨(0,u),IN _,⟨m,M⟩,aa⟩ (AC [(101,.nm 101),(102,.nm 102),(103,.nm 103),(104,.nm 104),(105,.nm 105),(106,.nm 106),(107,.nm 107),(108,.nm 108),(109,.nm 109),(110,.nm 110),(64,.nil)] rfl rfl ?_ ?_) (λs=>?_)
      ·unfold uO;simp only[g.zero,Zj,Sq];refine eM ?_;exact⟨by rw[XB,XB],y.symm⟩
      ·exact eN
      ·obtain⟨⟨i,q⟩,hi,⟨Z,P⟩,V⟩:=s;have E:=g.pre i;have z:=g.dok i;have au:=E.length_le;have ah:=z.len;rw[GO,SY]at au;rw[FF]at ah;have R:(out++[(ty.getD b.toNat 0,[])]++HV (quo p0 ty ar) (o++[b]) (c i)).length=(c i).length:=by
        unfold HV;simp only[GO,SY,SX,UI];omega
       have S:out.length+1+(HV (quo p0 ty ar) (o++[b]) (c i)).length=(c i).length:=by
        rw[<-R,GO,GO,SY]
       simp only[uO];repeat'(first|exact trivial|refine eS rfl ?_|refine rX f ?_ ?_|refine rC ?_ ?_<;>intro l<;>try(cases l;done))
       ·exact l
       ·have r:i<xs.length:=If.1 l;have Y:=ax _ (AE xs (0,0) r);have X:=g.succ i (by rw[SX];exact r);rw[ap i r]at X;have af:=A4C E (g.nxt i) (g.cls i) z.nd;have av:=g.pre (i+1);have T:out.length+1+(HV (quo p0 ty ar) (o++[b]) (c (i+1))).length=(c (i+1)).length:=by
         have h1:=av.length_le;rw[GO,SY]at h1;unfold HV;simp only[GO,SY,SX,UI];omega
        have J:((xs.take i).map λa=>(a.1,B8 (c i) (El p0 a.2)))++[((xs.getD i (0,0)).1,B8 (c (i+1)) (El p0 (xs.getD i (0,0)).2))]=(xs.take (i+1)).map λa=>(a.1,B8 (c (i+1)) (El p0 a.2)):=by
         rw[EW _ xs (0,0) r]
         congr 1
         refine Sg λa ha=>?_;obtain⟨t,H⟩:=g.nxt i;rw[<-H,XE (g.tgt i (a.1,El p0 a.2) (by rw[<-List.map_take];exact IF.2 ⟨a,ha,rfl⟩))]
        rw[S];refine Cc drawsAny f 10 [([3,4,5],6),([1,2],7),([],8),([0],9)] [] (by kernel_rfl) (Nk ?_ ?_)
        ·trivial
        ·refine mxC f (am q (c i) (out++[(ty.getD b.toNat 0,[])]++HV (quo p0 ty ar) (o++[b]) (c i)) (xs.getD i (0,0)).2 ⟨Z,P⟩ V z R Y.1 Y.2 (by omega)) [(101,.nm 101),(102,.nm 102),(103,.nm 103),(104,.nm 104),(105,.nm 105),(106,.nm 106),(107,.nm 107),(108,.nm 108),(109,.nm 109),(110,.nm 110)] [102,103,104,107,109] ?_ ?_ ?_
         ·exact eN
         ·simp only[uO];refine eM ?_;exact S.symm
         ·rintro _ _ ⟨I,⟨az,ab⟩,bb,rfl,rfl⟩;rw[<-X,Sm _ _ (HV _ (c i) _),af];refine⟨[(101,.nm 101),(102,.nm 102),(103,.nm 103),(104,.nm 104),(105,.nm 105),(106,.nm 106),(107,.nm 107),(108,.nm 108),(109,.nm 109),(110,.nm 110)],.p T3 (B8 (c (i+1)) (El p0 (xs.getD i (0,0)).2)),[(101,.box 111 true [.p Eg h,.sr 102 T3 0 I.length,.sr 103 T3 0 ty.length,.sr 104 DN 0 ar.length]),(102,.arr 3 T3 I),(103,.arr 3 T3 ty),(104,.arr 91 DN ar),(105,.box 108 false [.bp 101 [] 0]),(106,.box 61 false [.sr 107 T3 0 (LO p0.length (c (i+1))).length]),(107,.arr 3 T3 (LO p0.length (c (i+1)))),(108,.box 25 true [.sr 109 NN 0 (c (i+1)).length]),(109,.arr 93 NN (out++[(ty.getD b.toNat 0,[])]++HV (quo p0 ty ar) (o++[b]) (c (i+1)))),(110,.box 174 false [.clo 137 [105,106,108,110]])],rfl,rfl,?_,?_,rfl,rfl,rfl,?_⟩
          ·simp only[uO];refine eM ?_;exact T
          ·exact eN
          ·refine Nk ?_ ?_
           ·trivial
           ·refine PY f [] ?_ ?_
            ·trivial
            ·refine Nk ?_ ?_
             ·trivial
             ·refine PY f [] ?_ ?_
              ·trivial
              ·refine Nk ?_ ?_
               ·trivial
               ·refine PY f [64] ?_ ?_
                ·rw[SX,OR];simp only[AP];omega
                ·refine Tw f ?_ ?_ ?_
                 ·trivial
                 ·trivial
                 ·repeat'(first|refine eS rfl ?_|refine AB ?_|refine rX f ?_ ?_)
                  ·exact eV
                  ·refine⟨⟨(i+1,I),r,⟨az,ab⟩,bb⟩,by simp only;omega,AC [(101,.nm 101),(102,.nm 102),(103,.nm 103),(104,.nm 104),(105,.nm 105),(106,.nm 106),(107,.nm 107),(108,.nm 108),(109,.nm 109),(110,.nm 110),(64,.nm 64)] rfl rfl ?_ ?_⟩
                   ·simp only[uO,<-J];refine eM ?_;exact T.symm
                   ·simp only[<-J];exact eN
       ·exact If.2 (by omega)
       ·have al:i=xs.length:=by
         have:=Sb.1 l;omega
        subst al;obtain⟨t,H⟩:=E;have A:B8 (c xs.length) b=(o.length:Int):=by
         rw[<-H,XE (by simp)];unfold B8;rw[BY (by simp),XD w]
        have aq:Dq (quo p0 ty ar) (c xs.length) b=(ty.getD b.toNat 0,xs.map λa=>(a.1,B8 (c xs.length) (El p0 a.2))):=by
         unfold Dq;rw[x];simp only[ACl];rfl
        have ak:(out++[(ty.getD b.toNat 0,([]:List (Int×Int)))]++HV (quo p0 ty ar) (o++[b]) (c xs.length)).getD o.length (0,[])=(ty.getD b.toNat 0,[]):=by
         rw[<-y];simp[AS]
        have D:=A0l (Q:=quo p0 ty ar) (g.pre xs.length);rw[aq]at D;rw[Sf,ak,A76 out _ _ _ y.symm,<-D];have ao:out.length+1+(HV (quo p0 ty ar) (o++[b]) (c xs.length)).length=(out++HV (quo p0 ty ar) o (c xs.length)).length:=by
         rw[D];simp only[GO,OS];omega
        rw[ao];refine Ev.ent (σ':=⟨[(6,.p T3 (B8 (c xs.length) b))],uO h q ty ar (LO p0.length (c xs.length)) (out++HV (quo p0 ty ar) o (c xs.length))⟩) ?_ (AC [(101,.nm 101),(102,.nm 102),(103,.nm 103),(104,.nm 104),(105,.nm 105),(106,.nm 106),(107,.nm 107),(108,.nm 108),(109,.nm 109),(110,.nm 110)] rfl rfl ?_ ?_)
        ·exact fM f [.tmp 6] (.p T3 (B8 (c xs.length) b)) eT ⟨q,⟨Z,P⟩,V,by rw[G],by rw[G];rfl⟩
        ·unfold uO;exact eN
        ·refine eM ?_;exact A.symm
theorem A4D (h:AH) {p0 ty:List Int} {ar:List (List (Int×Int))} (f:∃i,Fo p0 i) (b:AX (quo p0 ty ar)) (g:ty.length=p0.length) (c:ar.length=p0.length) (d:∀k,∀a∈ar.getD k [],0<=a.2/\a.2<(p0.length:Int)):∀k,A8W h p0 ty ar k
 | 0=>o4 h f b g c d 0 (λj e=>by cases e)
 | k+1=>o4 h f b g c d (k+1) (λj e=>by cases e;exact A4D h f b g c d k)
theorem A4E (len:Nat):LO len []=List.replicate len (-1):=by
 unfold LO;apply UK
 ·simp
 ·intro i h1 a;simp
theorem A4F {α:Type} (x y:α) {n i:Nat} (h:i<n):(List.replicate i x++List.replicate (n-i) y).set i x=List.replicate (i+1) x++List.replicate (n-(i+1)) y:=by
 obtain⟨m,a⟩:∃m,n-i=m+1:=⟨n-i-1,by omega⟩;have b:n-(i+1)=m:=by omega
 rw[a,b,ADM _ _ (by simp),AEn,ADr,AEb,AEe,AEv,Sm];rfl
theorem A4G (h:AH) {p ty:List Int} {ar:List (List (Int×Int))} (g:∃y,Fo p y) (f:AX (quo p ty ar)) (t:ty.length=p.length) (m:ar.length=p.length) (n:∀k,∀a∈ar.getD k [],0<=a.2/\a.2<(p.length:Int)) {r:Int} (v:0<=r) (w:r<(p.length:Int)) :
  BI Tryz.prog 87 [.bp 101 [] 0,.p T3 r] (wX h p ty ar) [101]
  (λres _=>res=.p Dw (AO (quo p ty ar) (El p r))):=by
 have d:=A4D h g f t m n p.length p [] [] r g (E3.refl p) ⟨by simp,λx u=>by cases u⟩ rfl v w (by simp);have o:HV (quo p ty ar) [] (Ab (quo p ty ar) p.length [] (0,El p r))=AO (quo p ty ar) (El p r):=by
  have e:Ab (quo p ty ar) p.length [] (0,El p r)=DZ (quo p ty ar) p.length [] (El p r):=An (by simp);rw[e];unfold HV AO;rw[FF];rfl
 rw[ADw,o,A4E]at d;have s:=f.1;rw[FF]at s;generalize AO (quo p ty ar) (El p r)=G at *;generalize B8 _ _=z at d;generalize LO _ _=M at d;refine K0 [0,1,2,4,5,6,7,8,16,17,18] [] [] Tryz.func87 Tryz.ntmps87 AG ?_;intro w0 K O0 ρ0 b B C;simp only[wX,Am];repeat'(first|exact trivial|refine eS rfl ?_|refine rX b ?_ ?_)
 ·simp only[AP];omega
 ·refine AK (ι:={i:Nat//i<=p.length}) (λi=>⟨[(0,.bp 101 [] 0),(1,.p T3 r),(2,.bp 2 [] 0),(4,.bp 4 [] 0),(5,.bp 5 [] 0),(16,.p (.int .i64) (p.length:Int)),(17,.p (.int .i64) (i.1:Int))],[(5,.box 61 false [.sr 14 T3 0 p.length]),(14,.arr 3 T3 (List.replicate i.1 (-1)++List.replicate (p.length-i.1) 0)),(4,.box 25 true [.raw (.slice none 0 0)]),(2,.box 108 false [.bp 101 [] 0]),(101,.box 111 true [.p Eg h,.sr 102 T3 0 p.length,.sr 103 T3 0 ty.length,.sr 104 DN 0 ar.length]),(102,.arr 3 T3 p),(103,.arr 3 T3 ty),(104,.arr 91 DN ar)]⟩) (λi=>p.length-i.1) ⟨0,by omega⟩ (AC [(5,.nm 5),(14,.nm 14),(4,.nm 4),(2,.nm 2),(101,.nm 101),(102,.nm 102),(103,.nm 103),(104,.nm 104)] rfl rfl ?_ ?_) (λi=>?_)
  ·refine eM ?_;rfl
  ·exact eN
  ·obtain⟨i,hi⟩:=i;simp only;repeat'(first|exact trivial|refine eS rfl ?_|refine AB ?_|refine rX b ?_ ?_|refine rC ?_ ?_<;>intro c<;>try(cases c;done))
   ·exact c
   ·exact eV
   ·have j:i<p.length:=If.1 c;refine⟨⟨i+1,j⟩,by simp only;omega,AC [(5,.nm 5),(14,.nm 14),(4,.nm 4),(2,.nm 2),(101,.nm 101),(102,.nm 102),(103,.nm 103),(104,.nm 104)] rfl rfl ?_ ?_⟩
    ·refine eM ?_;exact A4F _ _ j
    ·exact eN
   ·have q:i=p.length:=by
     have:=Sb.1 c;omega
    subst q;rw[ADr,List.replicate_zero,Sq];refine cP 2 b ?_ ?_
    ·trivial
    ·refine rM b (d) [(101,.nm 101),(102,.nm 102),(103,.nm 103),(104,.nm 104),(105,.nm 2),(106,.nm 5),(107,.nm 14),(108,.nm 7),(109,.nil),(110,.nm 8)] [102,103,104,14] ?_ ?_ ?_
     ·exact eN
     ·simp only[uO];refine eM ?_;exact AEn.symm
     ·rintro _ _ ⟨l,A,D,rfl,rfl⟩;refine⟨[(101,.nm 101),(102,.nm 102),(103,.nm 103),(104,.nm 104),(2,.nm 105),(5,.nm 106),(14,.nm 107),(7,.nm 108),(120,.nm 109),(8,.nm 110)],.p T3 z,[(101,.box 111 true [.p Eg h,.sr 102 T3 0 l.length,.sr 103 T3 0 ty.length,.sr 104 DN 0 ar.length]),(102,.arr 3 T3 l),(103,.arr 3 T3 ty),(104,.arr 91 DN ar),(2,.box 108 false [.bp 101 [] 0]),(5,.box 61 false [.sr 14 T3 0 M.length]),(14,.arr 3 T3 M),(7,.box 25 true [.sr 120 NN 0 G.length]),(120,.arr 93 NN G),(8,.box 174 false [.clo 137 [2,5,7,8]])],rfl,rfl,?_,?_,rfl,rfl,CQ ?_⟩
      ·simp only[uO];exact eN
      ·exact eN
      ·refine F1 [120] ?_;repeat'(first|exact trivial|refine eS rfl ?_|refine rX b ?_ ?_)
       exact fM b [.cell 4 25] (.p Dw G) eT rfl
structure ACy (f:List AD) (r:Int) (o:List Int):Prop where
 ok:KY f o
 zero:o.getD 0 0=r/\0<o.length
 cl:∀n∈o,∀a∈AR f n,a.2∈o
theorem cZ {f:List AD} (hf:AX f) {r:Int} (b:0<=r) (c:r<(f.length:Int)):ACy f r (DZ f f.length [] r):=by
 have h1:=EA hf f.length [] r (Gq f) b c (by simp);have d:=Ip hf f.length [] r (Gq f) b c (by simp) (by simp);have e:[r] <+: DZ f f.length [] r:=by
  obtain⟨k,hk⟩:∃k,f.length=k+1:=⟨f.length-1,by omega⟩;rw[hk,CH];exact(E2 (EA hf k) _ _ (λa ha=>BD hf ha) ((Gq f).snoc b c (by simp))).2
 refine⟨h1.1,?_,λn hn a ha=>?_⟩
 ·obtain⟨t,g⟩:=e;rw[<-g];exact⟨rfl,by simp⟩
 ·rcases d.2 n hn with h|h
  ·cases h
  ·exact h a ha
theorem XF {f:List AD} {r:Int} {i:Nat} (hi:i<(DZ f f.length [] r).length):(AO f r).getD i (0,[])=Dq f (DZ f f.length [] r) ((DZ f f.length [] r).getD i 0):=by
 unfold AO;simp[AS,hi]
theorem XG (f:List AD) (r:Int):(AO f r).length=(DZ f f.length [] r).length:=by simp[AO]
def Ca (f g:List AD):List AD:=f++g.map λx=>(x.1,A3 f.length x.2)
theorem FG (f g:List AD):(Ca f g).length=f.length+g.length:=by simp[Ca]
theorem PO {f g:List AD} {x:Int} (a:0<=x) (b:x<(f.length:Int)):(Ca f g).getD x.toNat (0,[])=f.getD x.toNat (0,[]):=by
 unfold Ca;rw[AS,AS,Sp (by omega)]
theorem Ms {f g:List AD} {y:Int} (a:0<=y) (b:y<(g.length:Int)):(Ca f g).getD ((f.length:Int)+y).toNat (0,[])=((g.getD y.toNat (0,[])).1,A3 f.length (g.getD y.toNat (0,[])).2):=by
 unfold Ca;have e:((f.length:Int)+y).toNat=f.length+y.toNat:=by omega
 rw[e,AS,Ss (by omega),AEd];rw[<-AS];exact SG (λx:AD=>(x.1,A3 f.length x.2)) (0,[]) (0,[]) (by omega)
theorem wY {n:Nat} {p:List Int} {x y:Int} (h:EG n p [] x y):El p x=El p y:=by
 induction h with
 | cls _ _ _ _ h g=>rw[cX h,cX g]
 | wt h=>cases h
 | symm _ a=>exact a.symm
 | trans _ _ b c=>exact b.trans c
noncomputable abbrev SH (p ty:List Int) (ar:List (List (Int×Int))):List Int:=DZ (quo p ty ar) (quo p ty ar).length [] (El p 0)
structure A80 (h:AH) (N:List AD) (P:List (Int×Int)) (U:List AD) (v:Int->Int):Prop where
 good:AX U
 pos:0<U.length
 str:∀x∈U,Nn x.2
 feat:∀x∈U,∀a∈x.2,a.1∈Cz N
 ty:EB h U
 ro:RO U
 zero:v 0=0
 proj:dZ h N P U v
 least:∀X w,EB h X->dZ h N P X w->w 0=0->∃m,OL h U X m
 len:U.length<=N.length
section
variable {h:AH} {N:List AD} {P:List (Int×Int)} {p ty:List Int} {ar:List (List (Int×Int))}
theorem SI (a:JI h N P p ty ar []) (b:AX (quo p ty ar)) (c:0<N.length):ACy (quo p ty ar) (El p 0) (SH p ty ar):=by
 obtain⟨d,fo⟩:=a.fo;have lp:=a.lp;have:=GJ fo (x:=0) (by omega) (by omega) (PN fo (by omega) (by omega));exact cZ b this.1 (by rw[FF];exact this.2)
theorem XH (d:JI h N P p ty ar []) (c:AX (quo p ty ar)) (b:0<N.length):El p 0∈SH p ty ar:=by
 have a:=SI d c b;have:=AE (SH p ty ar) 0 a.zero.2;rw[a.zero.1]at this;exact this
theorem A4H (a:JI h N P p ty ar []) {x y:Int} (b:(x,y)∈P) (c:El p x∈SH p ty ar):El p y∈SH p ty ar:=by
 rw[<-wY (a.sp (x,y) b)];exact c
theorem tN (b:JI h N P p ty ar []) (f:AX (quo p ty ar)) (e:0<N.length) {x:Int} (c:0<=x) (k:x<(N.length:Int)) (j:El p x∈SH p ty ar) {a:Int×Int} (ha:a∈AR N x):El p a.2∈SH p ty ar:=by
 obtain⟨l,fo⟩:=b.fo;have lp:=b.lp;obtain⟨t,i,g⟩:=b.sa x _ c k (PN fo c (by omega)) a ha;rw[wY g];have d:=GJ fo c (by omega) (PN fo c (by omega));refine(SI b f e).cl _ j (a.1,El p t) ?_;rw[AR,Na d.1 d.2];exact IF.2 ⟨(a.1,t),i,rfl⟩
def A0m (N:List AD) (k:Nat) (g:List AD):Prop:=∀i:Int,0<=i->i<(g.length:Int)->(k:Int)+i<(N.length:Int)/\N.getD ((k:Int)+i).toNat (0,[])=((g.getD i.toNat (0,[])).1,A3 k (g.getD i.toNat (0,[])).2)
theorem XI (m:JI h N P p ty ar []) (f:AX (quo p ty ar)) (e:0<N.length) {k:Nat} {g:List AD} (l:A0m N k g) (r:RO g) (hk:El p (k:Int)∈SH p ty ar):∀(n:Nat) (i:Int),i.toNat<=n->0<=i->i<(g.length:Int)->El p ((k:Int)+i)∈SH p ty ar:=by
 intro n;induction n with
 | zero =>
  intro i hn o c;have:i=0:=by omega
  subst this;rw[AEq];exact hk
 | succ n q =>
  intro i hn o c;by_cases hi:i=0
  ·subst hi;rw[AEq];exact hk
  ·obtain⟨j,d,s,a,ha,rfl⟩:=r i (by omega) c;have b:=l j d (by omega);have:=tN m f e (x:=(k:Int)+j) (by omega) b.1 (q j (by omega) d (by omega)) (a:=(a.1,a.2+(k:Int))) (by
    rw[AR,b.2];exact IF.2 ⟨a,ha,rfl⟩)
   rw[Int.add_comm];exact this
end
theorem o5 {h:AH} {N:List AD} {P:List (Int×Int)} {f:List AD} {v:Int->Int} (e:dZ h N P f v) {k:Nat} {g:List AD} (d:A0m N k g) (j:v (k:Int)=0):OL h g f λi=>v ((k:Int)+i):=by
 refine⟨by show v ((k:Int)+0)=0;rw[AEq];exact j,λi b c=>?_,λi b c=>?_,λi b c a ha=>?_⟩
 ·exact e.rng _ (by omega) (d i b c).1
 ·have:=e.ty _ (by omega) (d i b c).1;rw[(d i b c).2]at this;exact this
 ·have:=e.arc _ (by omega) (d i b c).1 (a.1,a.2+(k:Int)) (by
   rw[AR,(d i b c).2];exact IF.2 ⟨a,ha,rfl⟩)
  rw[Int.add_comm (k:Int) a.2];exact this
theorem Nb {h:AH} {g X:List AD} {m:Int->Int} (a:OL h g X m):dZ h g [] X m:=⟨a.rng,a.ty,a.arc,λq b=>by cases b⟩
theorem XJ {h:AH} {f g X:List AD} (hf:AX f) (m:AX g) {v w:Int->Int} (h1:dZ h f [] X v) (i:dZ h g [] X w):dZ h (Ca f g) [] X (λx=>if x<(f.length:Int) then v x else w (x-(f.length:Int))):=by
 have j:=FG f g;refine⟨λx d e=>?_,λx d e=>?_,λx d e a ha=>?_,λq n=>by cases n⟩
 ·rw[j]at e;show _/\_;try simp only
  split
  ·exact h1.rng x d (by assumption)
  ·exact i.rng _ (by omega) (by omega)
 ·rw[j]at e;try simp only
  by_cases c:x<(f.length:Int)
  ·rw[BY c,PO d c];exact h1.ty x d c
  ·rw[An c];have:=Ms (f:=f) (g:=g) (y:=x-(f.length:Int)) (by omega) (by omega);rw[show (f.length:Int)+(x-(f.length:Int))=x by omega]at this;rw[this];exact i.ty _ (by omega) (by omega)
 ·rw[j]at e;try simp only
  by_cases c:x<(f.length:Int)
  ·rw[BY c];rw[AR,PO d c]at ha;have l:=BD hf ha;rw[BY l.2];exact h1.arc x d c a ha
  ·rw[An c];have:=Ms (f:=f) (g:=g) (y:=x-(f.length:Int)) (by omega) (by omega);rw[show (f.length:Int)+(x-(f.length:Int))=x by omega]at this;rw[AR,this]at ha;obtain⟨b,k,rfl⟩:=IF.1 ha;have l:=BD m k;rw[An (by simp only;omega)];try simp only
   rw[show b.2+(f.length:Int)-(f.length:Int)=b.2 by omega];exact i.arc _ (by omega) (by omega) b k
theorem tP {h:AH} {N X:List AD} {P:List (Int×Int)} {v:Int->Int} (h1:dZ h N [] X v) (a:∀q∈P,v q.1=v q.2):dZ h N P X v:=⟨h1.rng,h1.ty,h1.arc,a⟩
theorem Zk {N f g:List AD} {k:Nat} (h:A0m f k N):A0m (Ca f g) k N:=by
 intro i a b;have:=h i a b;rw[FG,PO (by omega) this.1];exact⟨by omega,this.2⟩
theorem Zl {f:List AD}:A0m f 0 f:=by
 intro i c b;rw[show ((0:Nat):Int)+i=i by omega];refine⟨b,?_⟩;have:A3 0 (f.getD i.toNat (0,[])).2=(f.getD i.toNat (0,[])).2:=by
  unfold A3;rw[Sg (g:=id) (λa _=>by show (a.1,a.2+((0:Nat):Int))=a;rw[Int.natCast_zero,AEq]),AF1]
 rw[this]
theorem XK {f g:List AD}:A0m (Ca f g) f.length g:=by
 intro i a b;rw[FG,Ms a b];exact⟨by omega,rfl⟩
set_option maxHeartbeats 1000000 in
theorem A8X {h:AH} {N:List AD} {P:List (Int×Int)} {p ty:List Int} {ar:List (List (Int×Int))} (L:JI h N P p ty ar []) (E:AX (quo p ty ar)) (O:0<N.length) (H:∀x,0<=x->x<(N.length:Int)->El p x∈SH p ty ar) :
  A80 h N P (AO (quo p ty ar) (El p 0)) (λx=>B8 (SH p ty ar) (El p x)):=by
 have s:=SI L E O
 have af:=XH L E O
 obtain⟨nty,⟨av,fo⟩,lp,lt,la,wr,tyr,arr,srt,sp,st,sa,co⟩:=L
 have aj:=FF p ty ar
 have w:=λ{x:Int} (C:0<=x) (D:x<(N.length:Int))=>PN fo C (by rw[lp];exact D)
 have J:=λ{x:Int} (C:0<=x) (D:x<(N.length:Int))=>GJ fo C (by rw[lp];exact D) (w C D)
 have K:=XG (quo p ty ar) (El p 0)
 have aa:=λi=>XF (f:=quo p ty ar) (r:=El p 0) (i:=i)
 have M:∀x:Int,0<=x->x<(N.length:Int)->AR (quo p ty ar) x=(ar.getD x.toNat []).map λa=>(a.1,El p a.2):=λx C D=>by
  rw[AR,Na C (by rw[lp];exact D)]
 have u:∀x∈SH p ty ar,(0<=x/\x<(N.length:Int))/\EY p x=x:=by
  have ag:Iso (quo p ty ar) (quo p ty ar) id (λx=>(0<=x/\x<(N.length:Int))/\EY p x=x):=by
   refine⟨λi _=>by simp,λi hi a ha=>?_,λi j _ _ e=>e⟩
   rw[M i hi.1.1 hi.1.2]at ha
   obtain⟨b,m,rfl⟩:=List.mem_map.1 ha
   have c:=(arr _ b m).1
   have:=J c.1 c.2
   rw[lp]at this
   exact⟨this,(w c.1 c.2).root⟩
  have R:=J (x:=0) (by omega) (by omega)
  rw[lp]at R
  exact(Qv ag _ [] _ (λx d=>by cases d) ⟨R,(w (x:=0) (by omega) (by omega)).root⟩).2
 have ah:=λ(q:Nat)=>W8 E (quo p ty ar).length [] (El p 0) (Gq _) (J (x:=0) (by omega) (by omega)).1 (by rw[aj];exact(J (x:=0) (by omega) (by omega)).2) (by simp) q
 unfold SH at s af H u ⊢
 generalize ao:AO (quo p ty ar) (El p 0)=F at *
 generalize aq:DZ (quo p ty ar) (quo p ty ar).length [] (El p 0)=o at *
 have z:∀i:Int,0<=i->i<(o.length:Int)->o.getD i.toNat 0∈o/\B8 o (o.getD i.toNat 0)=i:=λi g l=>by
  refine⟨AE o 0 (by omega),?_⟩
  rw[It s.ok.nd (by omega)]
  omega
 have A:∀x∈o,F.getD (B8 o x).toNat (0,[])=(ty.getD x.toNat 0,(ar.getD x.toNat []).map λa=>(a.1,B8 o (El p a.2))):=λx d=>by
  have am:=GH d
  have c:=(u x d).1
  rw[aa _ (by omega),am.2.2]
  unfold Dq
  rw[Na c.1 (by rw[lp];exact c.2),List.map_map]
  rfl
 have Q:∀x∈o,∀a∈ar.getD x.toNat [],El p a.2∈o:=λx d a ha=>by
  have c:=(u x d).1
  exact s.cl x d (a.1,El p a.2) (by rw[M x c.1 c.2];exact List.mem_map.2 ⟨a,ha,rfl⟩)
 have S:∀k,Nn ((ar.getD k []).map λa=>(a.1,B8 o (El p a.2))):=λk=>by
  unfold Nn
  rw[List.pairwise_map]
  exact srt k
 have G:∀x∈F,∃y∈o,x=(ty.getD y.toNat 0,(ar.getD y.toNat []).map λa=>(a.1,B8 o (El p a.2))):=λx d=>by
  obtain⟨i,hi,rfl⟩:=CV (0,[]) d
  have h1:=z (i:Int) (by omega) (by omega)
  refine⟨_,h1.1,?_⟩
  rw[<-A _ h1.1,h1.2]
  rw[Int.toNat_natCast]
 have ae:B8 o (El p 0)=0:=by
  have:=It s.ok.nd s.zero.2
  rw[s.zero.1]at this
  exact this
 have ap:=s.ok.len
 have an:=E.1
 refine⟨⟨by omega,λx d=>?_⟩,by rw[K];exact s.zero.2,λx d=>?_,λx d a ha=>?_,λx d=>?_,λi g l=>?_,ae,⟨λi g l=>?_,λi g l=>?_,λi g l a ha=>?_,λq ai=>?_⟩,λX v ab T al=>?_,by omega⟩
 ·obtain⟨y,B,rfl⟩:=G x d
  have c:=(u y B).1
  refine⟨?_,λa ha=>?_⟩
  ·have:=(E.2 _ (AE (quo p ty ar) (0,[]) (k:=y.toNat) (by omega))).1
   rw[Na c.1 (by rw[lp];exact c.2),List.length_map]at this
   simp only[List.length_map]
   exact this
  ·obtain⟨b,m,rfl⟩:=List.mem_map.1 ha
   have:=GH (Q y B b m)
   rw[K]
   exact⟨this.1,this.2.1⟩
 ·obtain⟨y,B,rfl⟩:=G x d
  exact S _
 ·obtain⟨y,B,rfl⟩:=G x d
  obtain⟨b,m,rfl⟩:=List.mem_map.1 ha
  exact(arr _ b m).2
 ·obtain⟨y,B,rfl⟩:=G x d
  have c:=(u y B).1
  exact tyr y c.1 c.2
 · -- in order
  obtain⟨j,au,a,ha,e⟩:=ah i.toNat (by simp only[List.length_nil];omega) (by omega)
  have h1:=z (j:Int) (by omega) (by omega)
  have W:=z i (by omega) (by omega)
  rw[Int.toNat_natCast]at h1
  have c:=(u _ h1.1).1
  rw[M _ c.1 c.2]at ha
  obtain⟨b,m,rfl⟩:=List.mem_map.1 ha
  refine⟨(j:Int),by omega,by omega,(b.1,B8 o (El p b.2)),?_,?_⟩
  ·have:=A _ h1.1
   rw[h1.2]at this
   rw[AR,this]
   exact List.mem_map.2 ⟨b,m,rfl⟩
  ·show B8 o (El p b.2)=i
   simp only at e
   rw[e,W.2]
 ·have:=GH (H i g l)
  rw[K]
  exact⟨this.1,this.2.1⟩
 ·show A7 h _ (F.getD (B8 o (El p i)).toNat (0,[])).1=true
  rw[A _ (H i g l)]
  exact st i _ g l (w g l)
 ·obtain⟨t,ak,ad⟩:=sa i _ g l (w g l) a ha
  have e:=wY ad
  show Db (AR F (B8 o (El p i))) a.1=B8 o (El p a.2)
  rw[e,AR,A _ (H i g l)]
  exact Mr (S _) (a:=(a.1,B8 o (El p t))) (List.mem_map.2 ⟨(a.1,t),ak,rfl⟩)
 ·show B8 o (El p q.1)=B8 o (El p q.2)
  rw[wY (sp q ai)]
 ·obtain⟨c1,c2,U,V⟩:=co X v ab T
  refine⟨λi=>v (o.getD i.toNat 0),?_,λi g l=>?_,λi g l=>?_,λi g l a ha=>?_⟩
  ·show v (o.getD 0 0)=0
   rw[s.zero.1,<-c1 0 _ (by omega) (by omega) (w (by omega) (by omega))]
   exact al
  ·have n:=z i g (by omega)
   have c:=(u _ n.1).1
   exact T.rng _ c.1 c.2
  ·have n:=z i g (by omega)
   have c:=u _ n.1
   have hn:=A _ n.1
   rw[n.2]at hn
   rw[hn]
   exact U _ c.1.1 c.1.2 c.2
  ·have n:=z i g (by omega)
   have c:=u _ n.1
   have hn:=A _ n.1
   rw[n.2]at hn
   rw[AR,hn]at ha
   obtain⟨b,m,rfl⟩:=List.mem_map.1 ha
   have Y:=V _ c.1.1 c.1.2 c.2 b m
   have I:=(arr _ b m).1
   have Z:=GH (Q _ n.1 b m)
   simp only
   rw[Z.2.2,<-c1 b.2 _ I.1 I.2 (w I.1 I.2)]
   exact Y
structure VF (h:AH) (f:List AD):Prop where
 good:AX f
 pos:0<f.length
 ty:EB h f
 str:∀x∈f,Nn x.2
 ft:∀x∈f,∀a∈x.2,0<=a.1/\a.1<(h.2.length:Int)
 can:AO f 0=f
 ro:RO f
structure HU (h:AH):Prop where
 ok:GL h
 inj:Lq h
 ft:h.2.length<=64
def o6 (U:List AD):Prop:=(DZ U U.length [] 0).length=U.length/\∀k,(hk:k<(DZ U U.length [] 0).length)->(DZ U U.length [] 0)[k]=(k:Int)
theorem c5 {Q:List AD} (m:AX Q) {r:Int} (L:0<=r) (M:r<(Q.length:Int)):AX (AO Q r)/\o6 (AO Q r):=by
 have d:=cZ m L M;have D:=XG Q r;have C:=λi=>XF (f:=Q) (r:=r) (i:=i);generalize O:AO Q r=c at *;generalize H:DZ Q Q.length [] r=o at *;have R:=d.ok.len;have N:=m.1;have g:∀i:Int,0<=i->i<(o.length:Int)->o.getD i.toNat 0∈o/\B8 o (o.getD i.toNat 0)=i:=λi J K=>by
  refine⟨AE o 0 (by omega),?_⟩;rw[It d.ok.nd (by omega)];omega
 have p:∀i:Int,0<=i->i<(o.length:Int)->AR c i=(AR Q (o.getD i.toNat 0)).map (Mh o):=λi J K=>by
  rw[AR,C i.toNat (by omega)];rfl
 have F:Iso c Q (λi=>o.getD i.toNat 0) (λi=>0<=i/\i<(o.length:Int)):=by
  refine⟨λi hi=>?_,λi hi a ha=>?_,λi j hi B e=>?_⟩
  ·rw[p i hi.1 hi.2,ACl];have:∀a∈AR Q (o.getD i.toNat 0),((λa:Int×Int=>(a.1,o.getD a.2.toNat 0))∘Mh o) a=a:=λa ha=>by
    show (a.1,o.getD (B8 o a.2).toNat 0)=a;rw[(GH (d.cl _ (g i hi.1 hi.2).1 a ha)).2.2]
   rw[Sg this,List.map_id']
  ·rw[p i hi.1 hi.2]at ha;obtain⟨b,q,rfl⟩:=IF.1 ha;have:=GH (d.cl _ (g i hi.1 hi.2).1 b q);exact⟨this.1,this.2.1⟩
  ·have h1:=(g i hi.1 hi.2).2;have h:=(g j B.1 B.2).2;have e:o.getD i.toNat 0=o.getD j.toNat 0:=e;rw[<-h1,<-h,e]
 have h0:(0:Int)<(o.length:Int):=by have:=d.zero.2;omega
 have v:AX c:=by
  refine⟨by omega,λx u=>?_⟩;obtain⟨i,hi,rfl⟩:=CV (0,[]) u;have h1:=p (i:Int) (by omega) (by omega);rw[AR,Se]at h1;rw[h1];have t:=g (i:Int) (by omega) (by omega);rw[Se]at t;have S:=d.ok.rng _ t.1;refine⟨?_,λa ha=>?_⟩
  ·rw[SX];exact(m.2 _ (AE Q (0,[]) (k:=(o.getD i 0).toNat) (by omega))).1
  ·obtain⟨b,q,rfl⟩:=IF.1 ha;have:=GH (d.cl _ t.1 b q);rw[D];exact⟨this.1,this.2.1⟩
 have s:=Qv F Q.length [] 0 (λx u=>by cases u) ⟨by omega,h0⟩;have I:o.getD (0:Int).toNat 0=r:=d.zero.1;rw[AEm,I,H]at s;have A:=Qu v (n:=0) (by omega) (by omega) (Q.length-c.length);rw[show c.length+(Q.length-c.length)=Q.length by omega]at A;rw[A]at s;unfold o6;refine⟨v,?_⟩;generalize DZ c c.length [] 0=l at *;obtain⟨y,E⟩:=s;have P:l.length=o.length:=by
  have:=AD0 List.length y;rw[SX]at this;exact this.symm
 have G:∀k,(hk:k<l.length)->l[k]=(k:Int):=λk hk=>by
  have w:=E l[k] (nO hk);have h1:=(g l[k] w.1 w.2).2;have h:=(g (k:Int) (by omega) (by omega)).2;have e:o.getD k 0=o.getD (l[k]).toNat 0:=by
   exact(AD0 (λz:List Int=>z.getD k 0) y).trans (by simp[AS,hk])
  rw[Se,e]at h;rw[<-h1,h]
 exact⟨by omega,G⟩
theorem XL {b:List AD} (g:AX b) (k:o6 b):AO b 0=b:=by
 unfold AO;obtain⟨q,c⟩:=k;generalize DZ b b.length [] 0=l at *;have o:l.Nodup:=by
  unfold List.Nodup;rw[Si];intro i j hi n p e;rw[c i hi,c j n]at e;omega
 have m:∀x,0<=x->x<(l.length:Int)->B8 l x=x:=λx r s=>by
  have:=It o (i:=x.toNat) (by omega);have e:l.getD x.toNat 0=x:=by
   rw[AS,As (by omega)];show l[x.toNat]=x;rw[c _ (by omega)];omega
  rw[e]at this;rw[this];omega
 apply UK
 ·rw[SX];omega
 ·intro i h1 d;rw[ADJ,c i (by simpa using h1)];have f:b.getD (i:Int).toNat (0,[])=b[i]:=by simp[AS,d]
  unfold Dq;rw[f];have:∀a∈b[i].2,Mh l a=a:=λa ha=>by
   have h:=(g.2 _ (nO d)).2 a ha;unfold Mh;rw[m a.2 h.1 (by omega)]
  rw[Sg this,List.map_id']
theorem A4I {Q:List AD} (a:AX Q) {r:Int} (b:0<=r) (c:r<(Q.length:Int)):AO (AO Q r) 0=AO Q r :=
 XL (c5 a b c).1 (c5 a b c).2
theorem XM {h:AH} {a X:List AD} (g:RO a) {m f:Int->Int} (h1:OL h a X m) (b:OL h a X f):∀(k:Nat) (i:Int),i.toNat<=k->0<=i->i<(a.length:Int)->m i=f i:=by
 intro k;induction k with
 | zero =>
  intro i hk l e;have:i=0:=by omega
  subst this;rw[h1.zero,b.zero]
 | succ k n =>
  intro i hk l e;by_cases hi:i=0
  ·subst hi;rw[h1.zero,b.zero]
  ·obtain⟨j,c,o,x,d,rfl⟩:=g i (by omega) e;rw[<-h1.arc j c (by omega) x d,<-b.arc j c (by omega) x d,n j (by omega) c (by omega)]
theorem Mt {h:AH} (hk:GL h) {a b c:List AD} (w:AX a) (ta:EB h a) (tb:EB h b) (A:EB h c) {m n:Int->Int} (h1:OL h a b m) (j:OL h b c n):OL h a c λi=>n (m i):=by
 refine⟨by show n (m 0)=0;rw[h1.zero,j.zero],λi f g=>?_,λi f g=>?_,λi f g x p=>?_⟩
 ·have:=h1.rng i f g;exact j.rng _ this.1 this.2
 ·have d:=h1.rng i f g;have B:=j.rng _ d.1 d.2;have r:=ta _ (AE a (0,[]) (k:=i.toNat) (by omega));have s:=tb _ (AE b (0,[]) (k:=(m i).toNat) (by omega));have t:=A _ (AE c (0,[]) (k:=(n (m i)).toNat) (by omega));exact PM hk r.1 r.2 s.1 s.2 t.1 t.2 (h1.ty i f g) (j.ty _ d.1 d.2)
 ·have d:=h1.rng i f g;have q:=BD w p;have o:=h1.arc i f g x p;obtain⟨y,z,u,v⟩:=Qw (l:=AR b (m i)) (e:=x.1) (by rw[o];exact(h1.rng _ q.1 q.2).1);have:=j.arc (m i) d.1 d.2 y z;rw[u,v,o]at this;exact this
theorem Mu {a:List AD} (hs:∀x∈a,Nn x.2) (n:Int):Nn (AR a n):=by
 unfold AR;by_cases h:n.toNat<a.length
 ·exact hs _ (AE a (0,[]) h)
 ·rw[AS,Sj (by omega)];exact .nil
theorem c6 {h:AH} {a:List AD} (hs:∀x∈a,Nn x.2):OL h a a id :=
 ⟨rfl,λi c d=>⟨c,d⟩,λi _ _=>SC h _,λi _ _ x b=>Mr (Mu hs i) b⟩
theorem wZ:∀ {l m:List (Int×Int)},Nn l->Nn m->(∀x,x∈l↔x∈m)->l=m
 | [],[],_,_,_=>rfl
 | [],b :: m,_,_,h=>by have:=(h b).2 (by simp);cases this
 | a :: l,[],_,_,h=>by have:=(h a).1 (by simp);cases this
 | a :: l,b :: m,h1,i,h=>by
  obtain⟨f,g⟩:=To.1 h1;obtain⟨b1,b2⟩:=To.1 i;have e:a=b:=by
   rcases Do.1 ((h a).1 (by simp)) with e|e
   ·exact e
   ·rcases Do.1 ((h b).2 (by simp)) with d|d
    ·exact d.symm
    ·have:=f b d;have:=b1 a e;omega
  subst e;refine AD0 _ (wZ g b2 λx=>⟨λc=>?_,λc=>?_⟩)
  ·rcases Do.1 ((h x).1 (by simp[c])) with e|e
   ·subst e;have:=f x c;omega
   ·exact e
  ·rcases Do.1 ((h x).2 (by simp[c])) with e|e
   ·subst e;have:=b1 x c;omega
   ·exact e
theorem ACz {h:AH} (hu:HU h) {c V:List AD} (b:VF h c) (d:VF h V) {m p:Int->Int} (h1:OL h c V m) (n:OL h V c p):c=V:=by
 have key:∀ {c V:List AD},VF h c->VF h V->∀ {m p:Int->Int},OL h c V m->OL h V c p->c.length<=V.length->c=V:=by
  clear b d h1 n;intro c V b d m p h1 n L;have c1:=Mt hu.ok b.good b.ty d.ty b.ty h1 n;have c2:=Mt hu.ok d.good d.ty b.ty d.ty n h1;have u:∀i,0<=i->i<(c.length:Int)->p (m i)=i:=λi s t=>XM b.ro c1 (c6 b.str) i.toNat i (NO _) s t;have I:∀i,0<=i->i<(V.length:Int)->m (p i)=i:=λi s t=>XM d.ro c2 (c6 d.str) i.toNat i (NO _) s t;have D:∀ {A B:List AD} {f:Int->Int},AX A->OL h A B f->∀i,0<=i->i<(A.length:Int)->∀x∈AR A i,(x.1,f x.2)∈AR B (f i):=λ{A B f} J hf i s t x o=>by
   have r:=BD J o;have F:=hf.arc i s t x o;obtain⟨y,C,w,v⟩:=Qw (l:=AR B (f i)) (e:=x.1) (by rw[F];exact(hf.rng _ r.1 r.2).1);rw[<-w,<-F,<-v];exact C
  have K:Iso c V m (λi=>0<=i/\i<(c.length:Int)):=by
   refine⟨λi hi=>?_,λi hi a ha=>BD b.good ha,λi j hi E e=>?_⟩
   ·have q:=h1.rng i hi.1 hi.2;refine wZ (Mu d.str _) ?_ λx=>⟨λo=>?_,λo=>?_⟩
    ·unfold Nn;rw[ADc];exact Mu b.str i
    ·have g:=D d.good n (m i) q.1 q.2 x o;rw[u i hi.1 hi.2]at g;refine IF.2 ⟨_,g,?_⟩;have r:=BD d.good o;show (x.1,m (p x.2))=x;rw[I x.2 r.1 r.2]
    ·obtain⟨y,C,rfl⟩:=IF.1 o;exact D b.good h1 i hi.1 hi.2 y C
   ·rw[<-u i hi.1 hi.2,<-u j E.1 E.2,e]
  have M:=b.pos;have:=YK K b.good ⟨by omega,by omega⟩ h1.zero b.pos L λi hi=>by
   have q:=h1.rng i hi.1 hi.2;have w:=h1.ty i hi.1 hi.2;have v:=n.ty (m i) q.1 q.2;rw[u i hi.1 hi.2]at v;have G:=b.ty _ (AE c (0,[]) (k:=i.toNat) (by omega));have H:=d.ty _ (AE V (0,[]) (k:=(m i).toNat) (by omega));exact hu.inj _ _ H.1 H.2 G.1 G.2 v w
  rw[d.can,b.can]at this;exact this.symm
 rcases Nat.le_total c.length V.length with z|z
 ·exact key b d h1 n z
 ·exact(key d b n h1 z).symm
structure XN (h:AH) (a b U:List AD):Prop where
 vf:VF h U
 left:∃m,OL h a U m
 right:∃m,OL h b U m
 least:∀X,EB h X->∀m1,OL h a X m1->∀m2,OL h b X m2->∃m,OL h U X m
 len:U.length<=a.length+b.length
theorem A77 {h:AH} (hu:HU h) {a b d V:List AD} (h1:XN h a b d) (c:XN h a b V):d=V:=by
 obtain⟨l,e⟩:=c.left;obtain⟨n,f⟩:=c.right;obtain⟨o,g⟩:=h1.left;obtain⟨p,i⟩:=h1.right;obtain⟨m,j⟩:=h1.least V c.vf.ty l e n f;obtain⟨q,k⟩:=c.least d h1.vf.ty o g p i;exact ACz hu h1.vf c.vf j k
open Classical in
noncomputable def Ee (h:AH) (a b:List AD):List AD×Bool:=if H:∃U,XN h a b U then (H.choose,true) else ([],false)
theorem Tc {h:AH} (hu:HU h) {a b U:List AD} (h1:XN h a b U):Ee h a b=(U,true):=by
 unfold Ee;have H:∃U,XN h a b U:=⟨U,h1⟩;rw[dif_pos H,A77 hu H.choose_spec h1]
theorem o7 {h:AH} {a b:List AD} (h1:∀X,EB h X->∀d,OL h a X d->∀e,¬OL h b X e):Ee h a b=([],false):=by
 unfold Ee;rw[dif_neg];rintro⟨f,c⟩;obtain⟨d,g⟩:=c.left;obtain⟨e,i⟩:=c.right;exact h1 f c.vf.ty d g e i
theorem Td {h:AH} {a b:List AD} (h1:(Ee h a b).2=true):XN h a b (Ee h a b).1:=by
 unfold Ee at h1 ⊢;split at h1
 ·rename_i H;rw[dif_pos H];exact H.choose_spec
 ·cases h1
theorem XO {f:List AD} {e:Int} (h:e∈Cz f):∃x∈f,∃a∈x.2,a.1=e:=by
 unfold Cz at h;obtain⟨x,c,b⟩:=List.mem_flatMap.1 h;obtain⟨a,ha,e⟩:=IF.1 b;exact⟨x,c,a,ha,e⟩
theorem A8Y {h:AH} {N:List AD} {P:List (Int×Int)} {p ty:List Int} {ar:List (List (Int×Int))} (d:JI h N P p ty ar []) (g:AX (quo p ty ar)) (m:0<N.length) (j:∀x∈N,∀a∈x.2,0<=a.1/\a.1<(h.2.length:Int)) {v:Int->Int} (c:A80 h N P (AO (quo p ty ar) (El p 0)) v):VF h (AO (quo p ty ar) (El p 0)):=by
 have f:0<=El p 0/\El p 0<((quo p ty ar).length:Int):=by
  obtain⟨n,fo⟩:=d.fo;have:=d.lp;have:=GJ fo (x:=0) (by omega) (by omega) (PN fo (by omega) (by omega));rw[FF];exact this
 refine⟨c.good,c.pos,c.ty,c.str,λx k a ha=>?_,A4I g f.1 f.2,c.ro⟩;obtain⟨y,l,b,i,e⟩:=XO (c.feat x k a ha);rw[<-e];exact j y l b i
theorem A0n {h:AH} {f g:List AD} (hf:VF h f) (e:VF h g):∀x∈Ca f g,∀a∈x.2,0<=a.1/\a.1<(h.2.length:Int):=by
 intro x c;unfold Ca at c;rcases No.1 c with c|c
 ·exact hf.ft x c
 ·obtain⟨y,i,rfl⟩:=IF.1 c;intro a ha;obtain⟨b,d,rfl⟩:=IF.1 ha;exact e.ft y i b d
theorem c7 {h:AH} {f g:List AD} (hf:VF h f) (i:VF h g) {p ty:List Int} {ar:List (List (Int×Int))} (b:JI h (Ca f g) [(0,(f.length:Int))] p ty ar []) (d:AX (quo p ty ar)):XN h f g (AO (quo p ty ar) (El p 0)):=by
 have v:=hf.pos;have u:=FG f g;have c:0<(Ca f g).length:=by omega
 have h0:=XH b d c;have l:=XI b d c (Zk (g:=g) Zl) hf.ro h0;have n:=XI b d c (XK (f:=f)) i.ro (A4H b (by simp) h0);have a:=A8X b d c λx t w=>by
  by_cases o:x<(f.length:Int)
  ·have:=l x.toNat x (NO _) t o
   rwa [show ((0:Nat):Int)+x=x by omega]at this
  ·have:=n _ (x-(f.length:Int)) (NO _) (by omega) (by omega)
   rwa [show (f.length:Int)+(x-(f.length:Int))=x by omega]at this
 refine⟨A8Y b d c (A0n hf i) a,⟨_,o5 a.proj (Zk (g:=g) Zl) a.zero⟩,⟨_,o5 a.proj (XK (f:=f)) (by rw[<-a.proj.eq (0,(f.length:Int)) (by simp)];exact a.zero)⟩,λX k r h1 s j=>?_,by have:=a.len;omega⟩;refine a.least X _ k (tP (XJ hf.good i.good (Nb h1) (Nb j)) λq m=>?_) ?_
 ·have e:q=(0,(f.length:Int)):=by simpa using m
  subst e;try simp only
  rw[BY (by omega),An (by omega),Int.sub_self,h1.zero,j.zero]
 ·show (if (0:Int)<(f.length:Int) then r 0 else s (0-(f.length:Int)))=0;rw[BY (by omega)];exact h1.zero
theorem Zm {h:AH} {f g:List AD} (hf:VF h f) (c:VF h g) (d:∀X v,EB h X->¬dZ h (Ca f g) [(0,(f.length:Int))] X v):Ee h f g=([],false):=by
 have j:=hf.pos;refine o7 λX b k h1 l a=>d X _ b (tP (XJ hf.good c.good (Nb h1) (Nb a)) λq i=>?_);have e:q=(0,(f.length:Int)):=by simpa using i
 subst e;try simp only
 rw[BY (by omega),An (by omega),Int.sub_self,h1.zero,a.zero]
theorem o8 (l:List (Int×Int)):A3 0 l=l:=by
 unfold A3;rw[Sg (g:=id) (λa _=>by show (a.1,a.2+((0:Nat):Int))=a;rw[Int.natCast_zero,AEq]),AF1]
theorem A0o (a b:Nat):Cm 0 a++Cm a b=Cm 0 (a+b):=by
 unfold Cm;rw[List.range_add,gO,ACl]
 congr 1
 ·refine Sg λi _=>?_;show ((a+i:Nat):Int)=((0+(a+i):Nat):Int);rw[ADj]
theorem A0p {n k:Nat} (h:k<n):(Cm 0 n).getD k 0=(k:Int):=by
 unfold Cm;rw[AS,iS,ADt h];show ((0+k:Nat):Int)=k;rw[ADj]
theorem Mv {n:Nat} {x:Int} (a:0<=x) (b:x<(n:Int)):EY (Cm 0 n) x=x:=by
 unfold EY;rw[A0p (by omega)];omega
def Mw (N:List AD):List Int:=N.map (·.1)
def Te (N:List AD):List (List (Int×Int)):=N.map (·.2)
theorem PP (N:List AD) (k:Nat):(Mw N).getD k 0=(N.getD k (0,[])).1:=by
 unfold Mw;rw[AS,iS,AS];cases N[k]?<;>rfl
theorem Nc (N:List AD) (k:Nat):(Te N).getD k []=(N.getD k (0,[])).2:=by
 unfold Te;rw[AS,iS,AS];cases N[k]?<;>rfl
theorem tQ (f g:List AD):DI f f.length++DI g g.length=Mw (Ca f g):=by
 unfold DI Mw Ca;rw[Sf,Sf,gO,ACl];rfl
theorem A0q (f g:List AD):F0 0 f f.length++F0 f.length g g.length=Te (Ca f g):=by
 unfold F0 Te Ca;rw[Sf,Sf,gO,ACl]
 congr 1
 exact Sg λx _=>o8 x.2
theorem c8 {n:Nat} {x r:Int} (a:0<=x) (b:x<(n:Int)) (h:Rt (Cm 0 n) x r):r=x:=h.det (.base (Mv a b))
theorem c9 {h:AH} {N:List AD} (l:AX N) (m:EB h N) (hs:∀x∈N,Nn x.2):JI h N [] (Cm 0 N.length) (Mw N) (Te N) []:=by
 have f:(Cm 0 N.length).length=N.length:=KT 0 N.length;refine⟨m,⟨λ_=>0,λn n0 n1=>?_,λn n0 n1 hn=>?_⟩,f,by simp[Mw],by simp[Te],λw g=>(by cases g),λx c d=>?_,λk a ha=>?_,λk=>?_,λq p=>(by cases p),λx r c d e=>?_,λx r c d e a ha=>?_,λX v s o=>?_⟩
 ·rw[f]at n1 ⊢;rw[Mv n0 n1];exact⟨n0,n1⟩
 ·rw[f]at n1;exact absurd (Mv n0 n1) hn
 ·rw[PP];exact m _ (AE N (0,[]) (by omega))
 ·rw[Nc]at ha;refine⟨Wz l k a ha,?_⟩;by_cases hk:k<N.length
  ·exact List.mem_flatMap.2 ⟨_,AE N (0,[]) hk,IF.2 ⟨a,ha,rfl⟩⟩
  ·rw[AS,Sj (by omega)]at ha;cases ha
 ·rw[Nc];have:=Mu hs (k:Int)
  rwa [AR,Se]at this
 ·rw[c8 c d e,PP];exact SC h _
 ·rw[c8 c d e,Nc];have b:=BD l ha;exact⟨a.2,ha,.cls b.1 b.2 b.1 b.2 (.base (Mv b.1 b.2)) (.base (Mv b.1 b.2))⟩
 ·refine⟨λx r c d e=>by rw[c8 c d e],λw g=>(by cases g),λr i j _=>?_,λr i j _ a ha=>?_⟩
  ·rw[PP];exact o.ty r i j
  ·rw[Nc]at ha;exact o.arc r i j a ha
theorem PQ {f g:List AD} (hf:AX f) (d:AX g) (j:f.length+g.length<=100000):AX (Ca f g):=by
 have i:=FG f g;refine⟨by omega,λx c=>?_⟩;unfold Ca at c;rcases No.1 c with c|c
 ·refine⟨(hf.2 x c).1,λa ha=>?_⟩;have:=(hf.2 x c).2 a ha;omega
 ·obtain⟨y,e,rfl⟩:=IF.1 c;refine⟨by simp only[A3,SX];exact(d.2 y e).1,λa ha=>?_⟩;obtain⟨b,h,rfl⟩:=IF.1 ha;have:=(d.2 y e).2 b h;simp only;omega
theorem Nf {f g:List AD} (hf:∀x∈f,Nn x.2) (b:∀x∈g,Nn x.2):∀x∈Ca f g,Nn x.2:=by
 intro x a;unfold Ca at a;rcases No.1 a with a|a
 ·exact hf x a
 ·obtain⟨y,c,rfl⟩:=IF.1 a;unfold Nn A3;rw[ADc];exact b y c
theorem XP {h:AH} {f g:List AD} (hf:EB h f) (b:EB h g):EB h (Ca f g):=by
 intro x a;unfold Ca at a;rcases No.1 a with a|a
 ·exact hf x a
 ·obtain⟨y,c,rfl⟩:=IF.1 a;exact b y c
def A0r (N:List AD):Prop:=∀x∈N,∀a∈x.2,0<=a.1/\a.1<64
theorem XQ {f g:List AD} (hf:A0r f) (e:A0r g):A0r (Ca f g):=by
 intro x c;unfold Ca at c;rcases No.1 c with c|c
 ·exact hf x c
 ·obtain⟨y,h,rfl⟩:=IF.1 c;intro a ha;obtain⟨b,d,rfl⟩:=IF.1 ha;exact e y h b d
theorem dA {l:List (Int×Int)} (h:Nn l) (hf:∀a∈l,0<=a.1/\a.1<64):l.length<=64:=by
 have:=cW h (S:=(List.range 64).map λ(i:Nat)=>(i:Int)) (λa ha=>IF.2 ⟨a.1.toNat,Sl.2 (by have:=hf a ha;omega),by have:=hf a ha;omega⟩)
 rwa [SX,AE5]at this
theorem tR {N:List AD} (h:∀x∈N,x.2.length<=64):(Cz N).length<=64*N.length:=by
 induction N with
 | nil=>simp[Cz]
 | cons x N b =>
  have h1:=h x (by simp);have c:=b λy a=>h y (by simp[a]);have e:Cz (x :: N)=x.2.map (·.1)++Cz N:=rfl;rw[e,GO,SX,OS];omega
theorem A0s {N:List AD} (h:A0r N) {e:Int} (b:e∈Cz N):0<=e/\e<64:=by
 obtain⟨x,c,a,ha,rfl⟩:=XO b;exact h x c a ha
theorem XR {h:AH} {N:List AD} {P:List (Int×Int)} {p ty:List Int} {ar:List (List (Int×Int))} (c:JI h N P p ty ar []) (k:N.length<=100000) (hf:A0r N):AX (quo p ty ar):=by
 have g:=FF p ty ar;obtain⟨l,fo⟩:=c.fo;have lp:=c.lp;refine⟨by omega,λx j=>?_⟩;obtain⟨i,hi,rfl⟩:=CV (0,[]) j;have e:=Na (p:=p) (ty:=ty) (ar:=ar) (n:=(i:Int)) (by omega) (by omega);rw[Se]at e;rw[e];refine⟨?_,λa ha=>?_⟩
 ·simp only[SX];have:=dA (c.srt i) (λa ha=>A0s hf (c.arr i a ha).2);omega
 ·obtain⟨b,f,rfl⟩:=IF.1 ha;have d:=(c.arr i b f).1;have:=GJ fo (x:=b.2) d.1 (by omega) (PN fo d.1 (by omega));rw[g];exact this
theorem VF.ft64 {h:AH} {f:List AD} (b:VF h f) (hu:HU h):A0r f:=λx c a ha=>by
 have h1:=b.ft x c a ha;have d:=hu.ft;omega
def ACA (d:List AI) (o:List ByteArray) (i:Nat):Prop:=∀j,j<i->∀x∈d,AZ x.2.1 (o.getD j ByteArray.empty)=true->AZ o x.1=true
theorem A4J {c:ByteArray} {o:List ByteArray} {x:AI} (h:AZ x.2.1 c=true):AZ (FW c o x) x.1=true:=by grind [FW,Ov,Cu]
theorem Zn {c:ByteArray} {x:AI} (h:AZ x.2.1 c=true):∀ {l:List AI} {o:List ByteArray},x∈l->AZ (l.foldl (FW c) o) x.1=true
 | [],_,a=>by cases a
 | y :: l,o,a=>by
  rw[ON];rcases Do.1 a with rfl|a
  ·grind [KJ,NS,A4J]
  ·exact Zn h a
theorem XS {d:List AI}:∀ {n i:Nat} {o:List ByteArray},bS d o->d.length<=n+i->ACA d o i->i<=o.length->∃m,ACA d (Cj d n i o) m/\(Cj d n i o).length<=m
 | 0,i,o,ha,f,a,hi=>⟨i,a,by
  have:=ha.len;show o.length<=i;omega⟩
 | n+1,i,o,ha,f,a,hi=>by
  unfold Cj;split
  ·rename_i q;obtain⟨c,k⟩:=Vz (o.getD i ByteArray.empty) (l:=d) (o:=o) (λ_ h=>h) ha;refine XS c (by omega) (λj p x b hs=>?_) (by omega);rw[Rs _ (by omega)]at hs;by_cases e:j=i
   ·subst e;exact Zn hs b
   ·exact KJ (λz g=>NS g) (a j (by omega) x b hs)
  ·exact⟨i,a,by omega⟩
theorem SJ {α:Type} {p:α->Bool}:∀ {l:List α},l.countP p=1->∀x∈l,p x=true->∀y∈l,p y=true->x=y
 | [],h,x,a,_,_,_,_=>by cases a
 | z :: l,h,x,a,d,y,b,e=>by
  rw[ADK]at h;by_cases c:p z=true
  ·rw[BY c]at h;grind
  ·rw[An c]at h;have a:x∈l:=by grind
   have b:y∈l:=by grind
   exact SJ (by omega) x a d y b e
theorem XT (s:ByteArray):∀(l:List AI) (k:Nat),0<=Ct s k l->∃x∈l,AY x.1 s=true
 | [],k,h=>by
  simp only[Ct]at h;omega
 | y :: l,k,h=>by
  simp only[Ct]at h;split at h
  ·rename_i e;exact⟨y,by simp,e⟩
  ·obtain⟨x,a,e⟩:=XT s l (k+1) h;exact⟨x,by simp[a],e⟩
theorem tS {d:List AI} (t:A5 d=0):∃r∈d,∀x∈d,AZ (Ck d r.1) x.1=true:=by
 obtain⟨hs,I,h1,hn,l⟩:=Ay t;have C:0<d.countP λx=>x.2.1.length==0:=by grind [IZ]
 obtain⟨r,c,q⟩:=List.countP_pos_iff.1 C;refine⟨r,c,?_⟩;have D:=DV c;have u:bS d [r.1]:=⟨λs hs=>by
  have:s=r.1:=by simpa using hs
  rw[this];exact D,by simp⟩
 obtain⟨m,B,J⟩:=XS (d:=d) (n:=d.length) (i:=0) u (by omega) (λj A=>by omega) (by omega);have p:r.1∈Cj d d.length 0 [r.1]:=LG (by simp);have v:Ck d r.1=KI (Cj d d.length 0 [r.1]):=by unfold Ck;rw[An (by omega)]
 rw[v];generalize Cj d d.length 0 [r.1]=o at *;have key:∀(k:Nat) (x:AI),x∈d->GR d x.1<=k->AZ o x.1=true:=by
  intro k;induction k with
  | zero =>
   intro x a hk;by_cases g:x.2.1.length=0
   ·have e:=SJ h1 x a (by simpa using g) r c q;rw[e];exact Fx p
   ·obtain⟨s,b⟩:∃s,s∈x.2.1:=AEt (by omega);have:=LF hn l a (Fx b);omega
  | succ k H =>
   intro x a hk;by_cases g:x.2.1.length=0
   ·have e:=SJ h1 x a (by simpa using g) r c q;rw[e];exact Fx p
   ·obtain⟨s,b⟩:∃s,s∈x.2.1:=AEt (by omega);have E:=LF hn l a (Fx b);obtain⟨y,G,e⟩:=XT s d 0 (hs x a s b);rw[<-Ie d e]at E;obtain⟨z,h,f⟩:=Sc.1 (H y G (by omega));obtain⟨j,A,rfl⟩:=CV ByteArray.empty h;refine B j (by omega) x a ?_;exact Sc.2 ⟨s,b,D5 (BZ f e)⟩
 intro x a;obtain⟨z,h,e⟩:=Sc.1 (key _ x a (NO _));obtain⟨w,F,f⟩:=Sc.1 (QY (o:=[]) h);exact Sc.2 ⟨w,F,BZ f e⟩
abbrev cnt (c:List Int):Nat:=(IW c).length
theorem A4K {w:Int} (a:U64 w) {r:Nat} (d:r<64):A3m w (r:Int)=w.toNat.testBit r:=by
 have h0:=a.1;have h1:=a.2;have b:w.toNat / 2 ^ r<=w.toNat:=Nat.div_le_self _ _;have e:X4 .u64 w (r:Int)=((w.toNat / 2 ^ r:Nat):Int):=by
  unfold X4;have c:min ((r:Int)).toNat IntKind.u64.bits=r:=by
   show min ((r:Int)).toNat 64=r;omega
  grind
 unfold A3m;rw[Nat.testBit_eq_decide_div_mod_eq,e];generalize w.toNat / 2 ^ r=z at *;rw[Ic ⟨by omega,by omega⟩ ⟨by decide,by decide⟩,Se,show (1:Int).toNat=1 from rfl,Nat.and_one_is_mod,ADz,UH,Fj];omega
theorem Uq {b:List Int} (d:Id b) (i:Nat):Tz b (i:Int)=BE b i:=by
 have a:Int.tdiv (i:Int) 64=((i / 64:Nat):Int):=by rw[oR (by omega)];omega
 have c:Int.tmod (i:Int) 64=((i % 64:Nat):Int):=by rw[ADI (by omega)];omega
 unfold Tz BE;rw[a,c,Se];by_cases hk:i / 64<b.length
 ·rw[An (by rw[Su,Fj,Fj];omega),A4K (BJ d _) (by omega)]
 ·rw[BY (by rw[Su,Fj,Fj];omega),HF hk];simp
theorem o9 (c:List Int):(IW c).Nodup:=by
 unfold IW OC List.Nodup;rw[ADc];refine List.Pairwise.imp (λh e=>h ?_) (List.Pairwise.filter _ List.nodup_range);exact AEP e
theorem Zo {c:List Int} (b:Id c) {x:Int}:x∈IW c↔∃i:Nat,x=(i:Int)/\BE c i=true:=by
 unfold IW OC;rw[IF];constructor
 ·grind [Uq]
 ·rintro⟨i,rfl,a⟩;refine⟨i,ACV.2 ⟨Sl.2 ?_,by rw[Uq b];exact a⟩,rfl⟩;refine DO λd=>?_;unfold BE at a;rw[HF (by omega)]at a;simp at a
theorem A8Z {a b:List Int} (ha:Id a) (d:Id b) (h:∀i,BE a i=true->BE b i=true) (e:cnt b<=cnt a) (i:Nat) (hi:BE b i=true):BE a i=true:=by
 refine DO λhn=>?_;have c:(i:Int)∉IW a:=λf=>by grind [Zo]
 have:=SF (l:=(i:Int) :: IW a) (l':=IW b) (UN.2 ⟨c,o9 a⟩) λx c=>by grind [Zo]
 grind
theorem XU (x:AQ) (out:List AQ):∀n,(Fy x out n=0->n=0\/GC x (out.getD 0 c0)=true)/\∀k,Fy x out n=k+1->GC x (out.getD k c0)=false
 | 0=>⟨λ_=>.inl rfl,λk h=>by simp[Fy]at h⟩
 | n+1=>by
  obtain⟨h1,a⟩:=XU x out n;grind [Fy]
theorem pA {a b:AQ} (h:GC a b=true):cnt b.2<=cnt a.2:=by
 unfold GC at h;grind
theorem dB {a b:AQ} (h:GC a b=false):cnt a.2<=cnt b.2:=by
 unfold GC at h;grind
def HM (out:List AQ):Prop:=∀y∈out,cnt y.2<=cnt (out.getD 0 c0).2
theorem A78 {out:List AQ} (h:HM out) (x:AQ):HM (b5 out x):=by
 obtain⟨s1,s2⟩:=XU x out out.length;have c:=nD x out out.length;intro y a;rw[nH]at a;unfold b5;cases hk:Fy x out out.length with
 | zero =>
  rw[ACX,UL,ADw];have e:([x]++out).getD 0 c0=x:=rfl;rw[e];rcases a with rfl|a
  ·exact NO _
  ·have h1:=h y a;rcases s1 hk with e|e
   ·grind
   ·exact Sd h1 (pA e)
 | succ k =>
  have b:=dB (s2 k hk);rw[hk]at c;have e:(out.take (k+1)++[x]++out.drop (k+1)).getD 0 c0=out.getD 0 c0:=by grind
  rw[e];rcases a with rfl|a
  ·exact Sd b (h _ (BC (by omega)))
  ·exact h y a
theorem pB {d:List AI}:∀ {l:List (List Int)} {o:List AQ},HM o->HM (l.foldl (Ry d) o)
 | [],_,h=>h
 | b :: l,o,h=>by
  rw[ON];exact pB (A78 h _)
def In (n:Nat) (c:List Int):Prop:=Id c/\∀i,BE c i=true->i<n
theorem A90 (n:Nat):In n []:=⟨λx a=>(by cases a),λi hi=>by unfold BE at hi;simp at hi⟩
theorem A91 {n:Nat} {a b:List Int} (ha:In n a) (c:In n b):In n (Ek a b) :=
 ⟨Ql ha.1 c.1,λi hi=>by
  rw[Qk ha.1 c.1,AT]at hi;exact ha.2 i hi.1⟩
theorem A79 {n:Nat} {l:List (List Int)} (h:∀c∈l,In n c) (k:Nat):In n (l.getD k []):=by grind [BC,R5,A90]
theorem A7a {n:Nat} {l:List (List Int)} (h:∀c∈l,In n c) (i k:Nat):∀c∈Gg l i k,In n c:=by grind [Gg,Ek,A91,A79]
theorem w3 {q i:Nat}:∀ {n k:Nat} {l:List (List Int)},(∀c∈l,In q c)->∀c∈Gh i n k l,In q c
 | 0,_,_,h=>h
 | n+1,k,l,h=>by
  unfold Gh;split
  ·exact w3 (A7a h i k)
  ·exact h
theorem dC {q:Nat}:∀ {n i:Nat} {l:List (List Int)},(∀c∈l,In q c)->∀c∈Ib n i l,In q c
 | 0,_,_,h=>h
 | n+1,i,l,h=>by
  unfold Ib;split
  ·exact dC (w3 h)
  ·exact h
def A0t (h:AH):Prop:=∀t,0<=t->t<(h.1.length:Int)->A7 h 0 t=true
theorem Mx (d:List AI):A0t (Ar d).1:=by
 have hk:=JT d;unfold Ar at hk ⊢;split
 ·intro t h0 h1;simp at h1;omega
 ·rename_i g;rw[An g]at hk;have g:(BA d).2=0:=DO g;have A:Ax d=0:=by grind [BA]
  obtain⟨L,-,-⟩:=CC A;obtain⟨j,P,-⟩:=Ba L;obtain⟨-,z,-,hn,O⟩:=Ay j;have G:=D0 d d.length;rw[Sf]at G;have k:(AN d).length<=4096:=by omega
  obtain⟨r,H,N⟩:=tS j;have a:∀c∈Au (AW d),In (AN d).length c:=dC λc f=>by
   obtain⟨s,hs,rfl⟩:=IF.1 f;exact⟨(B5 (d:=d) k s 0).2.1,λi hi=>((B5 (d:=d) k s i).1.1 hi).1⟩
  obtain⟨s,hs,M⟩:=Sc.1 (O3 H);have I:s=r.1:=by grind [DW,QW]
  subst I;have n:E1 d (AN d) r.1∈Au (AW d):=by
   have hp:AW d <+: Au (AW d):=Qi 257 0 (AW d);exact hp.subset (IF.2 ⟨_,hs,rfl⟩)
  have l:∀i,i<(AN d).length->BE (E1 d (AN d) r.1) i=true:=λi hi=>by grind [B5,DW,BC]
  have B:HM (AL d):=pB λy K=>by cases K
  have q:=DX.2 ⟨_,n,rfl⟩;have u:0<(AL d).length:=AEf q;have p:=B _ q;obtain⟨b,m,h⟩:=DX.1 (BC (d:=c0) u);rw[h]at p;have E:=A8Z (a b m).1 (a _ n).1 (λi hi=>l i ((a b m).2 i hi)) p;have D:Bc (Br d) 0=b:=by
   show ((Eh (AL d) _ _).getD 0 TT).2.1=b;have:(Eh (AL d) (BA d).1 (AL d).length).getD 0 TT=(((AL d).getD 0 c0).1,((AL d).getD 0 c0).2,ZC (AL d) ((0:Nat):Int),(BA d).1.getD 0 []):=by
    unfold Eh;rw[AS,iS,ADt u];rfl
   rw[this,h]
  have Q:(Br d).1.length=(AL d).length:=KN _ _ _;intro t v w;refine(Bx hk (by omega) (by show (0:Int)<((Br d).1.length:Int);omega) v w).2 λi hi=>?_;show BE (Bc (Br d) 0) i=true;rw[D];refine E i (l i ?_);have C:=CW v w;have F:Bc (Br d) t∈Au (AW d):=by
   have e:((Br d).1.map λt=>t.2.1)=(AL d).map λx=>x.2:=by
    show ((Eh _ _ _).map λt=>t.2.1)=_;unfold Eh;rw[ACl];apply UK
    ·simp
    ·intro i h1 z;simp[AS,show i<(AL d).length by simpa using h1]
   have o:Bc (Br d) t∈(Br d).1.map λt=>t.2.1:=C;rw[e]at o;obtain⟨x,J,ex⟩:=IF.1 o;obtain⟨c,f,rfl⟩:=DX.1 J;rw[<-ex];exact f
  exact(a _ F).2 i hi
theorem XV (d:List AI):Nd ((Ar d).1.1.map λt=>t.2.1):=by
 unfold Ar;split
 ·exact⟨.nil,λc h=>(by cases h)⟩
 ·rename_i a;have a:(BA d).2=0:=DO a;have g:Ax d=0:=by
   unfold BA at a;split at a
   ·rename_i h;exact absurd a h
   ·rename_i h;exact DO h
  obtain⟨m,-,-⟩:=CC g;obtain⟨f,o,-⟩:=Ba m;have hf:Nd (Au (AW d)):=Uj (R6 f);have e:((Br d).1.map λt=>t.2.1)=(AL d).map λx=>x.2:=by
   show ((Eh _ _ _).map λt=>t.2.1)=_;unfold Eh;rw[ACl];apply UK
   ·simp
   ·intro i h1 n;simp[AS,show i<(AL d).length by simpa using h1]
  show Nd ((Br d).1.map λt=>t.2.1);rw[e];refine⟨Mg (by simpa using hf.nd),λc k=>?_⟩;obtain⟨x,l,rfl⟩:=IF.1 k;obtain⟨b,j,rfl⟩:=DX.1 l;exact hf.nrm b j
def YL (l:List (Int×Int)) (e:Int):Int×Bool:=match l with
 | []=>(0,false)
 | a :: r=>if a.1=e then (a.2,true) else YL r e
structure CI (n:Nat) (o:List Int) (ar:List (List (Int×Int))) (W:List (Int×Int)):Prop where
 lo:o.length=n
 la:ar.length=n
 rep:∀k:Nat,k<n->0<=o.getD k 0/\o.getD k 0<=(k:Int)/\o.getD (o.getD k 0).toNat 0=o.getD k 0
 wr:∀w∈W,(0<=w.1/\w.1<(n:Int))/\(0<=w.2/\w.2<(n:Int))
 ta:∀k,∀a∈ar.getD k [],0<=a.2/\a.2<(n:Int)
theorem CI.rng {n:Nat} {o:List Int} {ar:List (List (Int×Int))} {W:List (Int×Int)} (h:CI n o ar W) {x:Int} (c:0<=x) (d:x<(n:Int)):0<=o.getD x.toNat 0/\o.getD x.toNat 0<(n:Int)/\o.getD (o.getD x.toNat 0).toNat 0=o.getD x.toNat 0:=by
 obtain⟨h1,b,a⟩:=h.rep x.toNat (by omega);exact⟨h1,by omega,a⟩
section
variable {n:Nat} {o:List Int} {ar:List (List (Int×Int))} {W:List (Int×Int)} {x y:Int}
end
section
attribute [local go_sem] Vx A3p
def XW:Ac:={ ins:=[Dw,T3,T3],pre:=λ(f,n,_,_)=>(0:Int)<=n/\n<(List.length f:Int),out:=λ(f,n,e,_)=>[.p T3 (YL (List.getD (f:List AD) (Int.toNat n) (0,[])).2 e).1,.p .bool (YL (List.getD (f:List AD) (Int.toNat n) (0,[])).2 e).2],lend:=true }
attribute [local go_sem] XW
theorem A4L:Ad Tryz.prog 125 XW:=by
 refine fK [0,1,2,3,6,7,8,9,19,28] Tryz.func125 Tryz.ntmps125 AG ?_;rintro w0 O0 ⟨f,n,e,u⟩ b ⟨⟨m,hf⟩,-⟩ hn;simp only[XW,AM];repeat'(first|exact trivial|refine eS rfl ?_|refine rX b ?_ ?_)
 ·exact hn
 ·have i:List.length (List.getD (f:List AD) (Int.toNat n) (0,[])).2<=AP:=by
   have h1:Int.toNat n<List.length f:=(AEp hn.1).2 hn.2;have:=hf _ (AE (f:List AD) (0,[]) h1);exact this.2.1
  simp only[AP]at i;generalize (List.getD (f:List AD) (Int.toNat n) (0,[])).2=l at *;refine AK (ι:={k:Nat//k<=l.length/\YL (l.drop k) e=YL l e}) (λk=>⟨[(2,.p T3 e),(8,.p DN l),(9,.p (.int .i64) (k.1:Int))],[]⟩) (λk=>l.length-k.1) ⟨0,by simp⟩ (eW []) (λk=>?_)
  ·obtain⟨k,hk,a⟩:=k;have j:k<l.length->l.drop k=l.getD k (0,0) :: l.drop (k+1):=λh=>by
    rw[On h,AS,As h];rfl
   have g:k<l.length->(if (l.getD k (0,0)).1=e then ((l.getD k (0,0)).2,true) else YL (l.drop (k+1)) e)=YL l e:=λh=>by
    rw[j h]at a;exact a
   repeat'(first|exact trivial|refine eS rfl ?_|refine AB ?_|refine rX b ?_ ?_|refine rC ?_ ?_<;>intro c<;>try(cases c;done))
   ·exact eV
   ·exact eV
   ·have d:k<l.length:=by exact eV
    have a:=g d;rw[BY c]at a;exact fI b [.tmp 6,.tmp 7] (by rw[<-a];exact eR)
   ·exact eV
   ·have d:k<l.length:=by exact eV
    have a:=g d;rw[An c]at a;exact⟨⟨k+1,by omega,a⟩,by simp only;omega,eW []⟩
   ·have hk:l.drop k=[]:=By (by exact eV);rw[hk]at a;have a:(0,false)=YL l e:=a;exact fI b [.tmp 6,.tmp 7] (by rw[<-a];exact eR)
def A82 (b:List Int):List HA->Nat->Int×Bool
 | [],_=>(0,false)
 | t :: r,k=>if t.2.1=b then ((k:Int),true) else A82 b r (k+1)
def A4M (h:AH) (a b:Int):Int×Bool:=A82 (Ek (Bc h a) (Bc h b)) h.1 0
end
section
def ACB (h:AH) (l:List AD) (c:List Int):Nat->Option (List Int)
 | 0=>some (List.replicate l.length 0)
 | i+1=>match ACB h l c i with
  | none=>none
  | some o=>if (A4M h (o.getD (c.getD i 0).toNat 0) (l.getD i (0,[])).1).2=true then some (o.set (c.getD i 0).toNat (A4M h (o.getD (c.getD i 0).toNat 0) (l.getD i (0,[])).1).1) else none
def A4N (h:AH) (l:List AD) (c:List Int):List Int×Bool:=match ACB h l c l.length with
 | none=>([],false)
 | some o=>((List.range l.length).map λ(k:Nat)=>o.getD (c.getD k 0).toNat 0,true)
def ADd (n:Nat) (c:List Int):Prop:=c.length=n/\∀k:Nat,k<n->0<=c.getD k 0/\c.getD k 0<=(k:Int)/\c.getD (c.getD k 0).toNat 0=c.getD k 0
def A4O:Ac:={ ins:=[Eg,Fe,F3],pre:=λ(h,l,c,_)=>ADd (List.length l) c/\EB h l/\0<List.length (h:AH).1/\List.length l<=100000/\(∀x∈(h:AH).1,x.2.1.length<=100000),out:=λ(h,l,c,_)=>[.p F3 (A4N h l c).1,.p .bool (A4N h l c).2] }
attribute [local go_sem] A4O
end
section
attribute [local go_sem] XW ZM
attribute [local go_sem] vN A8E ne_eq not_false_eq_true
end
inductive EQ (n:Nat) (o:List Int) (W:List (Int×Int)):Int->Int->Prop
 | cls {x y:Int} (x0:0<=x) (x1:x<(n:Int)) (y0:0<=y) (y1:y<(n:Int)) (h:o.getD x.toNat 0=o.getD y.toNat 0):EQ n o W x y
 | wt {x y:Int} (h:(x,y)∈W):EQ n o W x y
 | symm {x y:Int} (h:EQ n o W x y):EQ n o W y x
 | trans {x y z:Int} (h:EQ n o W x y) (g:EQ n o W y z):EQ n o W x z
theorem EQ.mono {n:Nat} {o b:List Int} {W a:List (Int×Int)} (h1:∀x y,0<=x->x<(n:Int)->0<=y->y<(n:Int)->o.getD x.toNat 0=o.getD y.toNat 0->EQ n b a x y) (c:∀x y,(x,y)∈W->EQ n b a x y) {x y:Int} (h:EQ n o W x y):EQ n b a x y:=by
 induction h with
 | cls g i j k h=>exact h1 _ _ g i j k h
 | wt h=>exact c _ _ h
 | symm _ d=>exact .symm d
 | trans _ _ e f=>exact .trans e f
theorem EQ.nil {n:Nat} {o:List Int} {x y:Int} (h:EQ n o [] x y):o.getD x.toNat 0=o.getD y.toNat 0:=by
 induction h with
 | cls _ _ _ _ h=>exact h
 | wt h=>cases h
 | symm _ a=>exact a.symm
 | trans _ _ b c=>exact b.trans c
section
variable {h:AH} {N:List AD} {P:List (Int×Int)} {o:List Int} {ar:List (List (Int×Int))} {W:List (Int×Int)} {w:Int×Int}
end
def A92 (h:AH):Prop:=∀t∈h.1,Nrm t.2.1
section
variable {h:AH} {N:List AD} {c:List Int}
end
section
variable {d:List AI}
theorem KU (d:List AI):((Br d).1.map λt=>t.2.1)=(AL d).map λx=>x.2:=by
 show ((Eh _ _ _).map λt=>t.2.1)=_;unfold Eh;rw[ACl];apply UK
 ·simp
 ·intro i h1 a;simp[AS,show i<(AL d).length by simpa using h1]
theorem dE (d:List AI):(Br d).1.length=(AL d).length:=KN _ _ _
theorem A4P (d:List AI) {k:Nat} (hk:k<(AL d).length):(Br d).1.getD k TT=(((AL d).getD k c0).1,((AL d).getD k c0).2,ZC (AL d) (k:Int),(BA d).1.getD k []):=by
 unfold Br Eh;simp[AS,hk]
theorem Ng (d:List AI) {t:Int} (a:0<=t) (b:t<((AL d).length:Int)):Bc (Br d) t=((AL d).getD t.toNat c0).2:=by
 unfold Bc;rw[A4P d (by omega)]
theorem pC (a:Ax d=0):(BA d).2=0/\(BA d).1=KL d (AL d) (BO d) (AL d).length:=by
 unfold BA;rw[An (by rw[a];simp)];exact⟨rfl,rfl⟩
theorem Ur (a:Ax d=0):(Ar d).1=Br d:=by
 unfold Ar;rw[An (by rw[(pC a).1];simp)]
theorem A83 (b:Ax d=0):GL (Br d)/\Nd ((Br d).1.map λt=>t.2.1):=by
 have h1:=JT d;have a:=XV d;rw[Ur b]at h1 a;exact⟨h1,a⟩
theorem XX (a:Ax d=0):(Br d).2=(BO d).map (Qd d):=by
 unfold Br EV;rw[An (by rw[a];simp)]
theorem A4Q (a:Ax d=0) {t:Int} (b:0<=t) (c:t<((AL d).length:Int)):cJ (Br d) t=UB d (AL d) (BO d) t.toNat (BO d).length:=by
 unfold cJ;rw[A4P d (by omega)];show (BA d).1.getD t.toNat []=_;rw[(pC a).2];unfold KL;simp[AS,show t.toNat<(AL d).length by omega]
theorem tT (a:Ax d=0):A5 d=0/\(B6 d).1=AL d/\LI d=0/\(∀s∈BO d,(DY d s).2=true)/\Ii d (AL d) (BO d) (AL d).length=false:=by
 obtain⟨b,-,f⟩:=CC a;obtain⟨e,-,c⟩:=Ba b;refine⟨e,c,f,?_,?_⟩
 ·unfold Ax at a;split at a
  ·rename_i h;exact absurd b h
  ·split at a
   ·cases a
   ·split at a
    ·rename_i h;exact absurd a h
    ·split at a
     ·cases a
     ·rename_i h;exact IS.1 (by simpa using h)
 ·unfold Ax at a;split at a
  ·rename_i h;exact absurd b h
  ·split at a
   ·cases a
   ·split at a
    ·rename_i h;exact absurd a h
    ·split at a
     ·cases a
     ·split at a
      ·cases a
      ·rename_i h;rw[c]at h;simpa using h
def Cd (l:List (List Int)) (c:List Int):Prop:=c=[]\/c∈l
theorem A4R {l:List (List Int)} (hk:JS l) {c:List Int} (h:Cd l c):Id c:=by
 rcases h with rfl|h
 ·exact λx a=>by cases a
 ·exact hk.wds c h
theorem A93 {l:List (List Int)} (hk:JS l) (hn:Nd l) {a b:List Int} (ha:Cd l a) (j:b∈l):Cd l (Ek a b):=by
 have f:=A4R hk ha;have g:=hk.wds b j;have m:Nrm (Ek a b):=by unfold Ek;exact PI _
 have k:=λi=>Qk f g i;by_cases hi:∃i,BE a i=true/\BE b i=true
 ·rcases ha with rfl|ha
  ·obtain⟨i,h1,-⟩:=hi;unfold BE at h1;simp at h1
  ·obtain⟨t,d,e⟩:=hk.meet a ha b j hi;right;rw[sU (Ql f g) (hk.wds t d) m (hn.nrm t d) λi=>by rw[k,e]];exact d
 ·left;refine DO λn=>?_;unfold Ek at n;have o:Id (Ek a b):=Ql f g;have:∃i,BE (Ek a b) i=true:=by
   have c:=m;rcases c with c|c
   ·exact absurd (Sk c) n
   ·exact nY o c
  obtain⟨i,h⟩:=this;rw[k,AT]at h;exact hi ⟨i,h⟩
def UsD (d:List AI) (t:Int) (s:ByteArray) (x:AI):Prop:=(DG x s).2=true/\A7 (Br d) (BN (AL d) x.1) t=true
def vcD (d:List AI) (s:ByteArray) (x:AI):List Int:=((AL d).getD (BN (AL d) (DG x s).1).toNat c0).2
theorem Us (hn:sE d (AL d)) {x:AI} (a:x∈d):0<=BN (AL d) x.1/\BN (AL d) x.1<((AL d).length:Int):=⟨hn.1 x a,Ih _ _⟩
theorem A4S (hn:sE d (AL d)) {x:AI} (b:x∈d) {s:ByteArray} (a:(DG x s).2=true):0<=BN (AL d) (DG x s).1/\BN (AL d) (DG x s).1<((AL d).length:Int):=⟨hn.value b a,Ih _ _⟩
theorem w4 (d:List AI) {k:Int} (a:0<=k) (b:k<((AL d).length:Int)):((AL d).getD k.toNat c0).2∈(AL d).map λx=>x.2:=IF.2 ⟨_,BC (by omega),rfl⟩
theorem A0u (hk:GL (Br d)) {a t:Int} (b:0<=a) (g:a<((AL d).length:Int)) (c:0<=t) (h:t<((AL d).length:Int)):Lb (AL d) a t=A7 (Br d) a t:=by
 have j:=dE d;have e:a<((Br d).1.length:Int):=by omega
 have f:t<((Br d).1.length:Int):=by omega
 have i:=hk.1.wds _ (CW b e);have wt:=hk.1.wds _ (CW c f);rw[ADz];unfold Lb;rw[<-Ng d b g,<-Ng d c h,Fh wt i];exact(Bx hk b e c f).symm
theorem dF (hk:GL (Br d)) (h:Nd ((Br d).1.map λt=>t.2.1)) (hn:sE d (AL d)) {t:Int} (p:0<=t) (q:t<((AL d).length:Int)) (s:ByteArray):∀(r:List AI) (o:List Int×Bool),(∀x∈r,x∈d)->Cd ((AL d).map λx=>x.2) o.1 ->
  Cd ((AL d).map λx=>x.2) (r.foldl (KK (AL d) t s) o).1/\((r.foldl (KK (AL d) t s) o).2=true↔o.2=true\/∃x∈r,UsD d t s x)/\∀i,BE (r.foldl (KK (AL d) t s) o).1 i=true↔BE o.1 i=true/\∀x∈r,UsD d t s x->BE (vcD d s x) i=true
 | [],o,_,g=>⟨g,by simp,λi=>by simp⟩
 | x :: r,o,n,g=>by
  rw[KU]at h;have m:JS ((AL d).map λx=>x.2):=by have:=hk.1;rwa [KU]at this
  have w:=n x (by simp);obtain⟨n0,n1⟩:=Us hn w;have u:=A0u hk n0 n1 p q;rw[ON];by_cases hu:UsD d t s x
  ·obtain⟨v0,v1⟩:=A4S hn w hu.1;have e:KK (AL d) t s o x=(Ek o.1 (vcD d s x),true):=by
    unfold KK;rw[An]
    ·rfl
    ·rw[hu.1,u,hu.2];simp
   have v:vcD d s x∈(AL d).map λx=>x.2:=w4 d v0 v1;obtain⟨h1,k,l⟩:=dF hk (by rw[KU];exact h) hn p q s r (KK (AL d) t s o x) (λy f=>n y (by simp[f])) (by rw[e];exact A93 m h g v);refine⟨h1,?_,λi=>?_⟩
   ·rw[k,e];exact⟨λ_=>.inr ⟨x,by simp,hu⟩,λ_=>.inl rfl⟩
   ·rw[l,e];simp only;rw[Qk (A4R m g) (m.wds _ v),AT];constructor
    ·rintro⟨⟨a,b⟩,c⟩;refine⟨a,λy f j=>?_⟩;rcases Do.1 f with rfl|f
     ·exact b
     ·exact c y f j
    ·rintro⟨a,b⟩;exact⟨⟨a,b x (by simp) hu⟩,λy f=>b y (by simp[f])⟩
  ·have e:KK (AL d) t s o x=o:=by
    unfold KK;rw[BY];rw[u];unfold UsD at hu;cases h1:(DG x s).2 with
    | false=>simp
    | true =>
     rw[h1]at hu;have:A7 (Br d) (BN (AL d) x.1) t=false:=by simpa using hu
     rw[this];simp
   obtain⟨h1,k,l⟩:=dF hk (by rw[KU];exact h) hn p q s r (KK (AL d) t s o x) (λy f=>n y (by simp[f])) (by rw[e];exact g);refine⟨h1,?_,λi=>?_⟩
   ·rw[k,e];constructor
    ·rintro (a|⟨y,f,a⟩)
     ·exact .inl a
     ·exact .inr ⟨y,by simp[f],a⟩
    ·rintro (a|⟨y,f,a⟩)
     ·exact .inl a
     ·rcases Do.1 f with rfl|f
      ·exact absurd a hu
      ·exact .inr ⟨y,f,a⟩
   ·rw[l,e];constructor
    ·rintro⟨a,b⟩;refine⟨a,λy f j=>?_⟩;rcases Do.1 f with rfl|f
     ·exact absurd j hu
     ·exact b y f j
    ·rintro⟨a,b⟩;exact⟨a,λy f=>b y (by simp[f])⟩
theorem XY {b:List Int}:∀ {l:List AQ} {k:Nat},(∃x∈l,x.2=b)->∃j:Nat,j<l.length/\QP b k l=((k+j:Nat):Int)/\(l.getD j c0).2=b
 | [],k,⟨x,a,_⟩=>by cases a
 | y :: l,k,⟨x,a,e⟩=>by
  unfold QP;by_cases h:Hb y.2 b=true
  ·rw[BY h];exact⟨0,by simp,rfl,by simpa[Hb] using h⟩
  ·rw[An h];rcases Do.1 a with rfl|a
   ·exact absurd (by simpa[Hb] using e) h
   ·obtain⟨j,h1,c,d⟩:=XY (k:=k+1) ⟨x,a,e⟩;exact⟨j+1,by simp only[OS];omega,by rw[c];congr 1;omega,by simpa using d⟩
theorem tU {b:List Int} (h:Nrm b):BM b=b:=by
 unfold BM;have:Cf b b.length=b.length:=by
  rcases h with h|h
  ·rw[h];rfl
  ·cases e:b.length with
   | zero=>rfl
   | succ m =>
    rw[e]at h;show (if b.getD m 0=0 then Cf b m else m+1)=m+1;rw[An (by simpa using h)]
 rw[this,Sf]
theorem Q1 (b:Ax d=0) {t:Int} (z:0<=t) (J:t<((AL d).length:Int)) {s:ByteArray} (hs:s∈BO d) :
  ((Fg d (AL d) t s).2=true↔∃x∈d,UsD d t s x)/\((Fg d (AL d) t s).2=true->(0<=HS (AL d) (Fg d (AL d) t s).1/\HS (AL d) (Fg d (AL d) t s).1<((AL d).length:Int)) /\
   ∀i,BE (Bc (Br d) (HS (AL d) (Fg d (AL d) t s).1)) i=true↔∀x∈d,UsD d t s x->BE (vcD d s x) i=true):=by
 obtain⟨n,-,D,-,u⟩:=tT b;obtain⟨hk,p⟩:=A83 b;have hn:=Qc n D;have L:=v6 n;have r:=Mx d;rw[Ur b]at r;have K:JS ((AL d).map λx=>x.2):=by have:=hk.1;rwa [KU]at this
 have q:=p;rw[KU]at q;have A:=w4 d (ADZ 0) (by omega:(0:Int)<((AL d).length:Int));obtain⟨g,a,m⟩:=dF hk p hn z J s d (((AL d).getD 0 c0).2,false) (λx f=>f) (.inr A);have e:Fg d (AL d) t s=d.foldl (KK (AL d) t s) (((AL d).getD 0 c0).2,false):=rfl;rw[<-e]at g a m;refine⟨by rw[a];simp,λhu=>?_⟩;have E:(Fg d (AL d) t s).1≠[]:=by
  intro G;have h1:LK d (AL d) t.toNat s=true:=by
   unfold LK;rw[AD9 z,hu,G];rfl
  have B:Ii d (AL d) (BO d) (AL d).length=true:=by
   unfold Ii;refine Sc.2 ⟨t.toNat,Sl.2 (by omega),?_⟩;unfold b8;exact Sc.2 ⟨s,hs,h1⟩
  rw[B]at u;cases u
 have o:(Fg d (AL d) t s).1∈(AL d).map λx=>x.2:=g.resolve_left E;obtain⟨x,f,ex⟩:=IF.1 o;obtain⟨j,M,H,I⟩:=XY (l:=AL d) (k:=0) ⟨x,f,ex⟩;have hf:HS (AL d) (Fg d (AL d) t s).1=(j:Int):=by
  unfold HS;rw[tU (q.nrm _ o),H];simp
 rw[hf];refine⟨⟨oF _,by omega⟩,λi=>?_⟩;rw[Ng d (oF _) (by omega),Se,I,m];constructor
 ·exact λh=>h.2
 ·intro h;refine⟨?_,h⟩;obtain⟨y,v,w⟩:=(a.1 hu).resolve_left (by simp);obtain⟨v0,v1⟩:=A4S hn v w.1;have C:=h y v w;have c:=dE d;have F:=r _ v0 (by rw[c];exact v1);have:=(Bx hk (ADZ 0) (by rw[c];omega) v0 (by rw[c];exact v1)).1 F i;unfold Tb2 at this;rw[Ng d (ADZ 0) (by omega),Ng d v0 v1]at this;exact this C
theorem SK {s:ByteArray}:∀ {r:List AI} {o:List ByteArray} {y:ByteArray},y∈r.foldl (Hc s) o->y∈o\/∃x∈r,x.1=y/\(DG x s).2=true
 | [],_,_,h=>.inl h
 | x :: r,o,y,h=>by
  rw[ON]at h;rcases SK h with h|⟨z,b,h⟩
  ·unfold Hc at h;split at h
   ·rename_i a;rcases G7 h with h|h
    ·exact .inl h
    ·exact .inr ⟨x,by simp,h.symm,a⟩
   ·exact .inl h
  ·exact .inr ⟨z,by simp[b],h⟩
theorem XZ {s:ByteArray} (h:(DY d s).2=true):∃x∈d,x.1=(DY d s).1/\(DG x s).2=true:=by
 unfold DY at h ⊢;split
 ·rename_i h1;have a:(A2 d (Ff d s)).getD 0 ByteArray.empty∈A2 d (Ff d s):=BC (by omega);exact(SK (Hq a)).resolve_left (by simp)
 ·rename_i h1;rw[An h1]at h;cases h
theorem tV (d:List AI):dY (Ar d).1:=by
 by_cases a:Ax d=0
 ·rw[Ur a];obtain⟨j,-,l,m,-⟩:=tT a;have hn:=Qc j l;have g:=dE d;refine⟨λx b=>?_,λt f p hp=>?_⟩
  ·rw[XX a]at b;obtain⟨s,hs,rfl⟩:=IF.1 b;obtain⟨y,n,e,-⟩:=XZ (m s hs);rw[g];show 0<=BN (AL d) (DY d s).1/\BN (AL d) (DY d s).1<((AL d).length:Int);rw[<-e];exact Us hn n
  ·obtain⟨k,hk,e⟩:=CV TT f;rw[g]at hk ⊢;have c:=A4Q a (t:=(k:Int)) (oF _) (by omega);unfold cJ at c;rw[Se,e]at c;rw[c]at hp;unfold UB at hp;obtain⟨i,hi,rfl⟩:=IF.1 hp;obtain⟨h1,h⟩:=ACV.1 hi;have h1:=Sl.1 h1;exact((Q1 a (t:=(k:Int)) (oF _) (by omega) (BC h1)).2 h).1
 ·have:(Ar d).1=([],[]):=by
   unfold Ar BA;rw[BY a,BY a]
  rw[this];exact⟨λx b=>(by cases b),λt f=>(by cases f)⟩
end
structure HAp (h:AH):Prop where
 iff:∀t f,0<=t->t<(h.1.length:Int)->0<=f->f<(h.2.length:Int)->((B7 h t f).2=true↔A7 h (Li h f) t=true)
 mono:∀t t' f,0<=t->t<(h.1.length:Int)->0<=t'->t'<(h.1.length:Int)->0<=f->f<(h.2.length:Int)->A7 h t t'=true->(B7 h t f).2=true->A7 h (B7 h t f).1 (B7 h t' f).1=true
def Ut (h:AH) (m:Nat) (u:List Int):Prop:=u.length=m/\∀t∈u,0<=t/\t<(h.1.length:Int)
theorem Ut.get {h:AH} {m:Nat} {u:List Int} (hu:Ut h m u) {n:Nat} (n1:n<m):0<=u.getD n 0/\u.getD n 0<(h.1.length:Int):=by
 have a:n<u.length:=by rw[hu.1];exact n1
 rw[AS,As a];exact hu.2 _ (nO a)
theorem Nm.tyl {h:AH} {m:Nat} {s:Ed} (hs:Nm h m s):Ut h m s.1:=⟨hs.len,hs.ty⟩
def RM (h:AH) (m:Nat) (u v:List Int):Prop:=∀i,i<m->A7 h (u.getD i 0) (v.getD i 0)=true
def tW (h:AH) (u:List Int) (n:Int) (l:List (Int×Int)):Prop:=∀a∈l,(B7 h (u.getD n.toNat 0) a.1).2=true/\A7 h (B7 h (u.getD n.toNat 0) a.1).1 (u.getD a.2.toNat 0)=true
def WTy (h:AH) (f:List AD) (u:List Int):Prop:=∀i,i<f.length->tW h u (i:Int) (f.getD i (0,[])).2
theorem RM.refl {h:AH} (hk:GL h) {m:Nat} {u:List Int} (hu:Ut h m u):RM h m u u:=λi hi=>Ul hk (hu.get hi).1 (hu.get hi).2
theorem RM.trans {h:AH} (hk:GL h) {m:Nat} {u v w:List Int} (hu:Ut h m u) (a:Ut h m v) (b:Ut h m w) (h1:RM h m u v) (c:RM h m v w):RM h m u w:=λi hi =>
 Hs hk (hu.get hi).1 (hu.get hi).2 (a.get hi).1 (a.get hi).2 (b.get hi).1 (b.get hi).2 (h1 i hi) (c i hi)
theorem RM.anti {h:AH} (hi:Lq h) {m:Nat} {u v:List Int} (hu:Ut h m u) (b:Ut h m v) (h1:RM h m u v) (d:RM h m v u):u=v:=by
 refine UK (by rw[hu.1,b.1]) λi c e=>?_;have a:i<m:=by rw[<-hu.1];exact c
 have:=hi _ _ (hu.get a).1 (hu.get a).2 (b.get a).1 (b.get a).2 (h1 i a) (d i a)
 rwa [AS,As c,AS,As e]at this
structure w5 (h:AH) (m:Nat) (s s':Ed):Prop where
 up:RM h m s.1 s'.1
 pre:s.2 <+: s'.2
 ch:∀k:Nat,k<m->s'.1.getD k 0=s.1.getD k 0\/(k:Int)∈s'.2.drop s.2.length
theorem w5.refl {h:AH} (hk:GL h) {m:Nat} {s:Ed} (hs:Nm h m s):w5 h m s s:=⟨RM.refl hk hs.tyl,ACo _,λ_ _=>.inl rfl⟩
theorem SL {l l':List Int} (hp:l <+: l') {n:Nat} {x:Int} (h:x∈l.drop n):x∈l'.drop n:=by
 obtain⟨r,rfl⟩:=hp;rw[AEW];exact UG _ h
theorem Q2 {l:List Int} {a b:Nat} (c:a<=b) {x:Int} (h:x∈l.drop b):x∈l.drop a:=by
 have:l.drop b=(l.drop a).drop (b-a):=by rw[AE8];congr 1;omega
 rw[this]at h;exact ADB h
theorem w5.trans {h:AH} (hk:GL h) {m:Nat} {a b c:Ed} (ha:Nm h m a) (i:Nm h m b) (j:Nm h m c) (h1:w5 h m a b) (d:w5 h m b c):w5 h m a c:=by
 refine⟨h1.up.trans hk ha.tyl i.tyl j.tyl d.up,h1.pre.trans d.pre,λk g=>?_⟩;rcases d.ch k g with f|f
 ·rcases h1.ch k g with e|e
  ·exact .inl (f.trans e)
  ·exact .inr (SL d.pre e)
 ·exact .inr (Q2 h1.pre.length_le f)
theorem SM {h:AH} (hk:GL h) (hi:Lq h) {m:Nat} {s c:Ed} (hs:Nm h m s) {n t:Int} (n0:0<=n) (n1:n<(m:Int)) (f:0<=t) (g:t<(h.1.length:Int)) (e:DH h s n t=some c) :
  w5 h m s c/\A7 h t (c.1.getD n.toNat 0)=true:=by
 have r:=(FE hk hi hs n0 n1 f g e).1;obtain⟨i,j⟩:=hs.get n0 n1;unfold DH at e;split at e
 ·rename_i o;obtain⟨u,w,q,d⟩:=(Me hk i j f g).1 o;generalize (Bo h (s.1.getD n.toNat 0) t).1=v at *;injection e with e
  split at e
  ·rename_i p;subst e;exact⟨w5.refl hk hs,by rw[<-p];exact d⟩
  ·subst e;have l:n.toNat<s.1.length:=by rw[hs.len];omega
   have a:∀k:Nat,(s.1.set n.toNat v).getD k 0=if k=n.toNat then v else s.1.getD k 0:=λk=>NY _ _ _ l k
   refine⟨⟨λk b=>?_,AEF _ _,λk b=>?_⟩,?_⟩
   ·simp only;rw[a];split
    ·rename_i e;rw[e];exact q
    ·exact Ul hk (hs.tyl.get b).1 (hs.tyl.get b).2
   ·simp only;rw[a];split
    ·rename_i e;right;rw[AEW,ADr,UL];exact ADx _ (by simp;omega)
    ·exact .inl rfl
   ·simp only;rw[a,BY rfl];exact d
 ·cases e
theorem Zp {h:AH} (hk:GL h) (hi:Lq h) {m:Nat} {s:Ed} (hs:Nm h m s) {n t:Int} (n0:0<=n) (n1:n<(m:Int)) (p:0<=t) (q:t<(h.1.length:Int)) {u:List Int} (hu:Ut h m u) (a:RM h m s.1 u) (j:A7 h t (u.getD n.toNat 0)=true) :
  ∃c,DH h s n t=some c/\RM h m c.1 u:=by
 obtain⟨d,f⟩:=hs.get n0 n1;have b:n.toNat<m:=by omega
 obtain⟨r,v⟩:=hu.get b;obtain⟨l,o⟩:=(Me hk d f p q).2 _ r v (a _ b) j;unfold DH;rw[BY l];refine⟨_,rfl,?_⟩;split
 ·exact a
 ·intro k g;have i:n.toNat<s.1.length:=by rw[hs.len];omega
  simp only;rw[NY _ _ _ i k];split
  ·rename_i e;rw[e];exact o
  ·exact a k g
section
variable {h:AH} (hk:GL h) (hi:Lq h) (hf:dY h) (hap:HAp h) {m:Nat} {n:Int} (n0:0<=n) (n1:n<(m:Int))
include hk hi hf n0 n1
theorem dG:∀ {l:List (Int×Int)} {s c:Ed},(∀a∈l,Lk h m a)->Nm h m s->Ml h n l s=some c->w5 h m s c/\∀a∈l,A7 h (Li h a.1) (c.1.getD n.toNat 0)=true
 | [],s,c,_,hs,e=>by
  injection e with e
  subst e;exact⟨w5.refl hk hs,λa ha=>by cases ha⟩
 | a :: l,s,c,o,hs,e=>by
  unfold Ml at e;cases g:DH h s n (Li h a.1) with
  | none=>rw[g]at e;cases e
  | some s1 =>
   rw[g]at e;obtain⟨⟨r,t⟩,-⟩:=o a (by simp);obtain⟨j,k⟩:=Mm hf r t;obtain⟨d,-,-⟩:=FE hk hi hs n0 n1 j k g;obtain⟨v,w⟩:=SM hk hi hs n0 n1 j k g;have p:∀b∈l,Lk h m b:=λb f=>o b (OF _ f);have e:Ml h n l s1=some c:=e;obtain⟨q,u⟩:=dG p d e;have i:=(Qr hk hi hf n0 n1 p d e).1;refine⟨v.trans hk hs d i q,λb f=>?_⟩;rcases Do.1 f with rfl|f
   ·exact Hs hk j k (d.get n0 n1).1 (d.get n0 n1).2 (i.get n0 n1).1 (i.get n0 n1).2 w (q.up _ (by omega))
   ·exact u b f
theorem w6:∀ {l:List (Int×Int)} {s c:Ed},(∀a∈l,Lk h m a)->Nm h m s->Nl h n l s=some c->w5 h m s c/\(n∈c.2.drop s.2.length\/(c.1.getD n.toNat 0=s.1.getD n.toNat 0/\∀a∈l,(B7 h (s.1.getD n.toNat 0) a.1).2=true/\A7 h (B7 h (s.1.getD n.toNat 0) a.1).1 (c.1.getD a.2.toNat 0)=true))
 | [],s,c,_,hs,e=>by
  injection e with e
  subst e;exact⟨w5.refl hk hs,.inr ⟨rfl,λa ha=>by cases ha⟩⟩
 | a :: l,s,c,t,hs,e=>by
  unfold Nl at e;split at e
  ·rename_i v;obtain⟨w,x⟩:=hs.get n0 n1;obtain⟨o,p⟩:=HH hf w x v;cases j:DH h s a.2 (B7 h (s.1.getD n.toNat 0) a.1).1 with
   | none=>rw[j]at e;cases e
   | some s1 =>
    rw[j]at e;obtain⟨-,d,b1⟩:=t a (by simp);obtain⟨g,-,-⟩:=FE hk hi hs d b1 o p j;obtain⟨r,A⟩:=SM hk hi hs d b1 o p j;have u:∀b∈l,Lk h m b:=λb f=>t b (OF _ f);have e:Nl h n l s1=some c:=e;obtain⟨q,i⟩:=w6 u g e;have k:=(Um hk hi hf n0 n1 u g e).1;refine⟨r.trans hk hs g k q,?_⟩;have y:((n.toNat:Nat):Int)=n:=AD9 n0;rcases r.ch n.toNat (by omega) with c1|c1
    ·rcases i with i|⟨i,z⟩
     ·exact .inl (Q2 r.pre.length_le i)
     ·refine .inr ⟨i.trans c1,λb f=>?_⟩;rcases Do.1 f with rfl|f
      ·exact⟨v,Hs hk o p (g.get d b1).1 (g.get d b1).2 (k.get d b1).1 (k.get d b1).2 A (q.up _ (by omega))⟩
      ·have:=z b f
       rwa [c1]at this
    ·rw[y]at c1;exact .inl (SL q.pre c1)
  ·cases e
include hap
theorem w7 {u:List Int} (hu:Ut h m u):∀ {l:List (Int×Int)} {s:Ed},(∀a∈l,Lk h m a)->Nm h m s->RM h m s.1 u->(∀a∈l,(B7 h (u.getD n.toNat 0) a.1).2=true)->∃c,Ml h n l s=some c/\RM h m c.1 u
 | [],s,_,_,e,_=>⟨s,rfl,e⟩
 | a :: l,s,j,hs,e,k=>by
  obtain⟨⟨f,g⟩,-⟩:=j a (by simp);obtain⟨o,p⟩:=Mm hf f g;obtain⟨v,w⟩:=hu.get (show n.toNat<m by omega);obtain⟨s1,i,h1⟩:=Zp hk hi hs n0 n1 o p hu e ((hap.iff _ _ v w f g).1 (k a (by simp)));obtain⟨r,-,-⟩:=FE hk hi hs n0 n1 o p i;obtain⟨c,q,t⟩:=w7 hu (λb d=>j b (OF _ d)) r h1 λb d=>k b (OF _ d);exact⟨c,by unfold Ml;rw[i];exact q,t⟩
theorem w8 {u:List Int} (hu:Ut h m u):∀ {l:List (Int×Int)} {s:Ed},(∀a∈l,Lk h m a)->Nm h m s->RM h m s.1 u->(∀a∈l,A7 h (Li h a.1) (s.1.getD n.toNat 0)=true)->tW h u n l->∃j,Nl h n l s=some j/\RM h m j.1 u
 | [],s,_,_,f,_,_=>⟨s,rfl,f⟩
 | a :: l,s,p,hs,f,y,z=>by
  obtain⟨⟨v,w⟩,k,b1⟩:=p a (by simp);obtain⟨d,e⟩:=hs.get n0 n1;have q:n.toNat<m:=by omega
  have x:a.2.toNat<m:=by omega
  obtain⟨A,B⟩:=hu.get q;have r:=(hap.iff _ _ d e v w).2 (y a (by simp));obtain⟨g,i⟩:=HH hf d e r;obtain⟨I,J⟩:=z a (by simp);obtain⟨v0,v1⟩:=HH hf A B I;have E:=hap.mono _ _ a.1 d e A B v w (f _ q) r;obtain⟨s1,o,h1⟩:=Zp hk hi hs k b1 g i hu f (Hs hk g i v0 v1 (hu.get x).1 (hu.get x).2 E J);obtain⟨t,-,-⟩:=FE hk hi hs k b1 g i o;obtain⟨H,-⟩:=SM hk hi hs k b1 g i o;obtain⟨j,C,D⟩:=w8 hu (λb c=>p b (OF _ c)) t h1 (λb c=>by
   obtain⟨⟨c0,c1⟩,-⟩:=p b (OF _ c);obtain⟨F,G⟩:=Mm hf c0 c1;exact Hs hk F G d e (t.get n0 n1).1 (t.get n0 n1).2 (y b (OF _ c)) (H.up _ q)) λb c=>z b (OF _ c)
  exact⟨j,by unfold Nl;rw[BY r,o];exact C,D⟩
end
section
variable {h:AH} (hk:GL h) (hi:Lq h) (hf:dY h) (hap:HAp h) {f:List AD} (ha:PK h f)
include hk hi hf hap ha
theorem A4T {n:Int} (n0:0<=n) (n1:n<(f.length:Int)) {s c:Ed} (hs:Nm h f.length s) (e:Lj h f n s=some c):w5 h f.length s c/\(n∈c.2.drop s.2.length\/tW h c.1 n (f.getD n.toNat (0,[])).2):=by
 have _:=hap;have g:=Mn ha n0 n1;unfold Lj at e;cases d:Ml h n (f.getD n.toNat (0,[])).2 s with
 | none=>rw[d]at e;cases e
 | some s1 =>
  rw[d]at e;have i:=(Qr hk hi hf n0 n1 g hs d).1;obtain⟨j,-⟩:=dG hk hi hf n0 n1 g hs d;have e:Nl h n (f.getD n.toNat (0,[])).2 s1=some c:=e;have k:=(Um hk hi hf n0 n1 g i e).1;obtain⟨l,b⟩:=w6 hk hi hf n0 n1 g i e;refine⟨j.trans hk hs i k l,?_⟩;rcases b with b|⟨b,m⟩
  ·exact .inl (Q2 j.pre.length_le b)
  ·refine .inr λa ha=>?_;rw[b];exact m a ha
theorem A4U {n:Int} (n0:0<=n) (n1:n<(f.length:Int)) {s:Ed} (hs:Nm h f.length s) {u:List Int} (hu:Ut h f.length u) (d:tW h u n (f.getD n.toNat (0,[])).2) (j:RM h f.length s.1 u):∃e,Lj h f n s=some e/\RM h f.length e.1 u:=by
 have b:=Mn ha n0 n1;obtain⟨s1,c,h1⟩:=w7 hk hi hf hap n0 n1 hu b hs j λa ha=>(d a ha).1;have k:=(Qr hk hi hf n0 n1 b hs c).1;obtain⟨-,l⟩:=dG hk hi hf n0 n1 b hs c;obtain⟨s2,g,i⟩:=w8 hk hi hf hap n0 n1 hu b k h1 l d;exact⟨s2,by unfold Lj;rw[c];exact g,i⟩
def ACC (h:AH) (f:List AD) (i:Nat) (s:Ed):Prop:=∀n:Nat,n<f.length->tW h s.1 (n:Int) (f.getD n (0,[])).2\/(n:Int)∈s.2.drop i
theorem A7b {n:Nat} (hn:n<f.length) {s d:Ed} (hs:Nm h f.length s) (i:Nm h f.length d) (j:w5 h f.length s d) (p:tW h s.1 (n:Int) (f.getD n (0,[])).2):tW h d.1 (n:Int) (f.getD n (0,[])).2\/(n:Int)∈d.2.drop s.2.length:=by
 have _:=hap;have _:=hi;have o:∀a∈(f.getD n (0,[])).2,Lk h f.length a:=ha _ (AE f (0,[]) hn);rcases j.ch n hn with c|c
 ·left;intro a g;obtain⟨e,k⟩:=p a g;obtain⟨-,b,b1⟩:=o a g;rw[Se]at e k ⊢;rw[c];obtain⟨l,m⟩:=hs.tyl.get hn;obtain⟨q,r⟩:=HH hf l m e;exact⟨e,Hs hk q r (hs.get b b1).1 (hs.get b b1).2 (i.get b b1).1 (i.get b b1).2 k (j.up _ (by omega))⟩
 ·exact .inr c
theorem w9:∀ {k i:Nat} {s:Ed} {ty:List Int},Nm h f.length s->ACC h f i s->wlF h f k i s=some ty->WTy h f ty/\RM h f.length s.1 ty/\Ut h f.length ty
 | 0,_,_,_,_,_,e=>by cases e
 | k+1,i,s,ty,hs,hp,e=>by
  unfold wlF at e;split at e
  ·rename_i d;have p:=AE s.2 (0:Int) d;obtain⟨n0,n1⟩:=hs.wt _ p;generalize hn:s.2.getD i 0=n at *;cases c:Lj h f n s with
   | none=>rw[c]at e;cases e
   | some s1 =>
    rw[c]at e;have g:=(Wr hk hi hf ha n0 n1 hs c).1;obtain⟨j,b⟩:=A4T hk hi hf hap ha n0 n1 hs c;have r:ACC h f (i+1) s1:=by
     intro m l;rcases hp m l with q|a
     ·rcases A7b hk hi hf hap ha l hs g j q with h1|h1
      ·exact .inl h1
      ·exact .inr (Q2 (by omega) h1)
     ·have t:s.2.drop i=n :: s.2.drop (i+1):=by
       rw[On d,<-hn,AS,As d];rfl
      rw[t]at a;rcases Do.1 a with a|a
      ·rcases b with b|b
       ·exact .inr (by rw[a];exact Q2 (by omega) b)
       ·left;rw[a];have:n.toNat=m:=by omega
        rw[this]at b;exact b
      ·exact .inr (SL j.pre a)
    have e:wlF h f k (i+1) s1=some ty:=e;obtain⟨u,v,o⟩:=w9 g r e;exact⟨u,j.up.trans hk hs.tyl g.tyl o v,o⟩
  ·rename_i d;injection e with e
   subst e;refine⟨λn hn=>?_,RM.refl hk hs.tyl,hs.tyl⟩;rcases hp n hn with h1|h1
   ·exact h1
   ·rw[By (by omega)]at h1;cases h1
theorem A4V {u:List Int} (hu:Ut h f.length u) (d:WTy h f u):∀ {k i:Nat} {s:Ed},Nm h f.length s->i<=s.2.length->ZW h s.1+s.2.length+1<=k+i->RM h f.length s.1 u->∃ty,wlF h f k i s=some ty/\RM h f.length ty u
 | 0,i,s,hs,j,l,b=>by omega
 | k+1,i,s,hs,j,l,b=>by
  unfold wlF;by_cases a:i<s.2.length
  ·rw[BY a];obtain⟨n0,n1⟩:=hs.wt _ (AE s.2 (0:Int) a);have e:=d (s.2.getD i 0).toNat (by omega);rw[AD9 n0]at e;obtain⟨s1,c,h1⟩:=A4U hk hi hf hap ha n0 n1 hs hu e b;obtain⟨g,m,n⟩:=Wr hk hi hf ha n0 n1 hs c;rw[c];exact A4V hu d g (by omega) (by omega) h1
  ·rw[An a];exact⟨s.1,rfl,b⟩
theorem tX (a:∀x∈f,0<=x.1/\x.1<(h.1.length:Int)) {ty:List Int} (e:Ir h f=some ty):WTy h f ty/\RM h f.length (Bh f) ty/\Ut h f.length ty:=by
 have e:wlF h f (OI h f) 0 (Bh f,Ej f)=some ty:=e;refine w9 hk hi hf hap ha (k:=OI h f) (i:=0) (s:=(Bh f,Ej f)) (A4i a) (λn hn=>.inr ?_) e;rw[UL];exact IF.2 ⟨n,Sl.2 hn,rfl⟩
theorem pD (b:∀x∈f,0<=x.1/\x.1<(h.1.length:Int)) {u:List Int} (hu:Ut h f.length u) (c:WTy h f u) (a:RM h f.length (Bh f) u):∃ty,Ir h f=some ty/\RM h f.length ty u :=
 A4V hk hi hf hap ha hu c (k:=OI h f) (i:=0) (s:=(Bh f,Ej f)) (A4i b) (IN _) (A4j h f) a
end
inductive Up (d:List AI) (m:ByteArray):ByteArray->Prop
 | base {x:ByteArray}:AY m x=true->Up d m x
 | step {x s:ByteArray} {y:AI}:y∈d->AY y.1 x=true->AZ y.2.1 s=true->Up d m s->Up d m x
section
variable {d:List AI}
theorem Xa {m x y:ByteArray} (h:Up d m x) (e:AY x y=true):Up d m y:=by
 cases h with
 | base h=>exact .base (BZ h e)
 | step h1 a b c=>exact .step h1 (BZ a e) b c
theorem A95 {c x s:ByteArray} (h:Up d c x) {y:AI} (f:y∈d) (e:AY y.1 c=true) (hs:AZ y.2.1 s=true):Up d s x:=by
 induction h with
 | base h=>exact .step f (BZ e h) hs (.base (Cu s))
 | step h1 a b i g=>exact .step h1 a b g
theorem Q3 {a b c:ByteArray} (h1:Up d a b) (i:Up d b c):Up d a c:=by
 induction i with
 | base h=>exact Xa h1 h
 | step e f g k j=>exact .step e f g j
theorem A7c {m a x:ByteArray} (e:AY a m=true) (h:Up d m x):Up d a x:=Q3 (.base e) h
theorem A7d (hn:Ci d=0) (f:d.length<=(Bl d).length) {m x:ByteArray} (h:Up d m x):AY m x=true\/GR d m<GR d x:=by
 induction h with
 | base h=>exact .inl h
 | step h1 c e g a =>
  right;have b:=LF hn f h1 e;rw[Ie d c]at b;rcases a with a|a
  ·rw[Ie d a];exact b
  ·omega
theorem A4W {o:List ByteArray} {s t:ByteArray} (h:t∈KH o s):t∈o\/t=s:=by
 unfold KH at h;split at h
 ·exact .inl h
 ·rcases No.1 h with h|h
  ·exact .inl h
  ·exact .inr (by simpa using h)
theorem Zq:∀ {l o:List ByteArray} {t:ByteArray},t∈l.foldl KH o->t∈o\/t∈l
 | [],_,_,h=>.inl h
 | s :: l,o,t,h=>by
  rw[ON]at h;rcases Zq h with h|h
  ·rcases A4W h with h|h
   ·exact .inl h
   ·exact .inr (by simp[h])
  ·exact .inr (by simp[h])
theorem A0v {s:ByteArray} (h:0<=Ap d s):d.getD (Ap d s).toNat d0∈d/\AY (d.getD (Ap d s).toNat d0).1 s=true:=by
 rcases DQ d s with g|⟨b,c,a⟩
 ·omega
 ·exact⟨BC (by omega),a⟩
theorem Zr (hs:QK d) {x:ByteArray}:∀ {n i:Nat} {o:List ByteArray},(∀t∈o,0<=Ap d t/\Up d t x)->∀t∈Ia d n i o,0<=Ap d t/\Up d t x
 | 0,_,_,b=>b
 | n+1,i,o,b=>by
  unfold Ia;split
  ·rename_i hi;refine Zr hs λt a=>?_;rcases Zq a with a|a
   ·exact b t a
   ·obtain⟨c1,c2⟩:=b _ (BC (d:=ByteArray.empty) hi);obtain⟨c,e⟩:=A0v c1;exact⟨hs _ c t a,A95 c2 c e (Fx a)⟩
  ·exact b
theorem Zs {l:List ByteArray} {t:ByteArray} (h:t∈KI l):t∈l:=(WF (o:=[]) h).resolve_left (by simp)
theorem A4X (hs:QK d) {x t:ByteArray} (b:0<=Ap d x) (h:AZ (LD d x) t=true):Up d t x:=by
 obtain⟨u,hu,e⟩:=Sc.1 h;unfold LD at hu;rw[An (by omega)]at hu;have:=(Zr hs (x:=x) (n:=d.length) (i:=0) (o:=[x]) (λt a=>by
  have:t=x:=by simpa using a
  subst this;exact⟨b,.base (Cu _)⟩) u (Zs hu)).2
 exact A7c (D5 e) this
theorem Zt {m:ByteArray}:∀ {n i:Nat} {o:List ByteArray},(∀t∈o,Up d m t)->∀t∈Cj d n i o,Up d m t
 | 0,_,_,a=>a
 | n+1,i,o,a=>by
  unfold Cj;split
  ·rename_i hi;have f:=a _ (BC (d:=ByteArray.empty) hi);generalize o.getD i ByteArray.empty=c at *;have key:∀(l:List AI) (o:List ByteArray),(∀y∈l,y∈d)->(∀t∈o,Up d m t)->∀t∈l.foldl (FW c) o,Up d m t:=by
    intro l;induction l with
    | nil=>exact λo _ a=>a
    | cons y l j =>
     intro o e a;rw[ON];refine j _ (λz g=>e z (by simp[g])) λt b=>?_;unfold FW at b;split at b
     ·rename_i h;rw[AT]at h;rcases No.1 b with b|b
      ·exact a t b
      ·have:t=y.1:=by simpa using b
       subst this;exact .step (e y (by simp)) (Cu _) h.1 f
     ·exact a t b
   exact Zt (key d o (λ_ h=>h) a)
  ·exact a
theorem Xb {m x:ByteArray} (h:AZ (Ck d m) x=true):Up d m x:=by
 obtain⟨u,hu,e⟩:=Sc.1 h;unfold Ck at hu;split at hu
 ·cases hu
 ·exact Xa (Zt (m:=m) (n:=d.length) (i:=0) (o:=[m]) (λt a=>by
   have:t=m:=by simpa using a
   subst this;exact .base (Cu _)) u (Zs hu)) e
theorem Xc {m x:ByteArray} (u:0<=Ap d m) (h:Up d m x):AZ (Ck d m) x=true:=by
 have q:bS d [m]:=⟨λs hs=>by
  have:s=m:=by simpa using hs
  rw[this];exact u,by simp⟩
 obtain⟨k,v,D⟩:=XS (d:=d) (n:=d.length) (i:=0) q (by omega) (λj t=>by omega) (by omega);have A:m∈Cj d d.length 0 [m]:=LG (by simp);have r:Ck d m=KI (Cj d d.length 0 [m]):=by unfold Ck;rw[An (by omega)]
 rw[r];generalize Cj d d.length 0 [m]=o at *;have key:AZ o x=true:=by
  induction h with
  | base h=>exact Sc.2 ⟨m,A,h⟩
  | step h1 l p C B =>
   obtain⟨z,c,a⟩:=Sc.1 B;obtain⟨j,t,rfl⟩:=CV ByteArray.empty c;obtain⟨s,y,f⟩:=Sc.1 p;obtain⟨w,b,g⟩:=Sc.1 (v j (by omega) _ h1 (Sc.2 ⟨s,y,BZ f (D5 a)⟩));exact Sc.2 ⟨w,b,BZ g l⟩
 obtain⟨z,c,e⟩:=Sc.1 key;obtain⟨w,b,a⟩:=Sc.1 (QY (o:=[]) c);exact Sc.2 ⟨w,b,BZ a e⟩
theorem Zu:∀ {l o:List ByteArray} {x:ByteArray},AZ o x=true->AZ (l.foldl (FX d) o) x=true
 | [],_,_,h=>h
 | s :: l,o,x,h=>by
  rw[ON];refine Zu ?_;unfold FX;split
  ·exact KJ (λz a=>NT a) h
  ·exact h
theorem Q4:∀ {l o:List ByteArray} {x:ByteArray},x∈l->0<=Ap d x->AZ (l.foldl (FX d) o) x=true
 | s :: l,o,x,h,a=>by
  rw[ON];rcases Do.1 h with rfl|h
  ·refine Zu ?_;unfold FX;rw[BY a];exact QX
  ·exact Q4 h a
theorem OM:∀ {l o:List ByteArray},(∀x∈o,0<=Ap d x)->∀x∈l.foldl (FX d) o,0<=Ap d x
 | [],_,b=>b
 | s :: l,o,b=>by
  rw[ON];refine OM λx a=>?_;unfold FX at a;split at a
  ·rcases G7 a with a|rfl
   ·exact b x a
   ·assumption
  ·exact b x a
theorem A96 {l:List ByteArray} (h:wI l) {i j:Nat} (hi:i<l.length) (a:j<l.length) (d:i≠j):AY (l.getD i ByteArray.empty) (l.getD j ByteArray.empty)=false:=by
 have c:∀k (h:k<l.length),l.getD k ByteArray.empty=l[k]:=λk h=>by rw[AS,As h];rfl
 rw[c i hi,c j a];rcases Nat.lt_or_gt_of_ne d with b|b
 ·exact(Si.1 h) i j hi a b
 ·exact Mf ((Si.1 h) j i a hi b)
theorem Q5:∀ {l o:List ByteArray},wI o->(∀s∈l,∀x∈o,AY x s=false)->wI l->wI (l.foldl (FX d) o)
 | [],_,h,_,_=>h
 | s :: l,o,h,b,f=>by
  rw[ON];have e:=To.1 f;refine Q5 ?_ (λy c x a=>?_) e.2
  ·unfold FX;split
   ·exact Wh h (b s (by simp))
   ·exact h
  ·unfold FX at a;split at a
   ·rcases G7 a with a|rfl
    ·exact b y (by simp[c]) x a
    ·exact e.1 y c
   ·exact b y (by simp[c]) x a
theorem A0w (hn:Ci d=0) (s:ByteArray):wI (Ff d s):=by
 have key:∀(r:List AI) (o:List ByteArray),wI o->(∀y∈r,∀x∈o,AY x y.1=false)->r.Pairwise (λa b=>AY a.1 b.1=false)->wI (r.foldl (Hc s) o):=by
  intro r;induction r with
  | nil=>exact λo h _ _=>h
  | cons y r q =>
   intro o h f hp;rw[ON];have l:=To.1 hp;refine q _ ?_ (λz g x c=>?_) l.2
   ·unfold Hc;split
    ·exact Wh h (f y (by simp))
    ·exact h
   ·unfold Hc at c;split at c
    ·rcases G7 c with c|rfl
     ·exact f z (by simp[g]) x c
     ·exact l.1 z g
    ·exact f z (by simp[g]) x c
 refine key d [] .nil (λy _ x c=>by cases c) (Si.2 λi j hi k t=>?_);cases e:AY d[i].1 d[j].1 with
 | false=>rfl
 | true =>
  have h1:=MX hn hi;have p:=MX hn k;have m:d.getD i d0=d[i]:=by rw[AS,As hi];rfl
  have n:d.getD j d0=d[j]:=by rw[AS,As k];rfl
  rw[m,JO d e]at h1;rw[n]at p;omega
theorem SP (r:A5 d=0) {l:List ByteArray} (t:wI l) {x:ByteArray} (g:x∈l) (w:0<=Ap d x):∃m∈A2 d l,Up d m x:=by
 obtain⟨hs,C,-,hn,A⟩:=Ay r;have z:∀y∈Bg d l,0<=Ap d y:=OM λy c=>by cases c
 obtain⟨q,n,ex⟩:=Sc.1 (Q4 (d:=d) (o:=[]) g w);have n:q∈Bg d l:=n;have v:wI (Bg d l):=Q5 .nil (λs _ x g=>by cases g) t;have u:A2 d l=QN d (Bg d l) (Bg d l).length:=rfl;rw[u];generalize Bg d l=all at *;have key:∀(k:Nat) (y:ByteArray),GR d y<k->y∈all->Up d y x->∃m∈QN d all all.length,Up d m x:=by
  intro k;induction k with
  | zero=>exact λy h=>by omega
  | succ k B =>
   intro y D c hu;obtain⟨i,hi,rfl⟩:=CV ByteArray.empty c;by_cases a:QM d all i all.length=true
   ·exact⟨_,IF.2 ⟨i,ACV.2 ⟨Sl.2 hi,a⟩,rfl⟩,hu⟩
   ·have a:QM d all i all.length=false:=by simpa using a
    unfold QM at a;obtain⟨j,b,hf⟩:=ADl.1 a;have b:=Sl.1 b;unfold vV at hf;simp only[Su,UH,SZ,not_or,Bool.not_eq_false]at hf;obtain⟨f,ha⟩:=hf;have f:j≠i:=λe=>f (by rw[e]);have p:=A4X hs (z _ c) ha;rcases A7d hn A p with e|e
    ·exact absurd e (by rw[A96 v b hi f];simp)
    ·exact B _ (by omega) (BC b) (Q3 p hu)
 exact key _ q (AEs _) n (.base ex)
theorem LP {s:ByteArray} (hs:s∈AN d):0<=Ap d s:=by
 obtain⟨x,a,rfl⟩:=DW hs;exact DV a
theorem Q6 {x:AI} (a:x∈d) (hn:Ci d=0):x.1∈AN d:=by
 obtain⟨s,hs,e⟩:=Sc.1 (O3 a);obtain⟨y,b,rfl⟩:=DW hs;rw[<-QW hn b a e];exact hs
theorem A7e (b:A5 d=0) {m x:ByteArray} (c:0<=Ap d m) (h:Up d m x) {i:Nat} (hi:BE (E1 d (AN d) x) i=true):BE (E1 d (AN d) m) i=true:=by
 obtain⟨-,j,-,hn,k⟩:=Ay b;have e:=D0 d d.length;rw[Sf]at e;have a:(AN d).length<=4096:=by omega
 obtain⟨f,g⟩:=(B5 (d:=d) a x i).1.1 hi;exact(B5 (d:=d) a m i).1.2 ⟨f,Xc c (Q3 h (Xb g))⟩
end
section
variable {d:List AI}
def Dc (d:List AI) (c:List Int):Prop:=Id c/\∀i j,BE c i=true->j<(AN d).length->Up d ((AN d).getD i ByteArray.empty) ((AN d).getD j ByteArray.empty)->BE c j=true
theorem A97:Dc d []:=⟨λx a=>(by cases a),λi j hi=>by unfold BE at hi;simp at hi⟩
theorem A98 {a b:List Int} (ha:Dc d a) (c:Dc d b):Dc d (Ek a b) :=
 ⟨Ql ha.1 c.1,λi j hi e hu=>by
  rw[Qk ha.1 c.1,AT]at hi ⊢;exact⟨ha.2 i j hi.1 e hu,c.2 i j hi.2 e hu⟩⟩
theorem A7f {l:List (List Int)} (h:∀c∈l,Dc d c) (k:Nat):Dc d (l.getD k []):=by grind [BC,R5,A97]
theorem A7g {l:List (List Int)} (h:∀c∈l,Dc d c) (i k:Nat):∀c∈Gg l i k,Dc d c:=by grind [Gg,Ek,A98,A7f]
theorem xA {i:Nat}:∀ {n k:Nat} {l:List (List Int)},(∀c∈l,Dc d c)->∀c∈Gh i n k l,Dc d c
 | 0,_,_,h=>h
 | n+1,k,l,h=>by
  unfold Gh;split
  ·exact xA (A7g h i k)
  ·exact h
theorem xB:∀ {n i:Nat} {l:List (List Int)},(∀c∈l,Dc d c)->∀c∈Ib n i l,Dc d c
 | 0,_,_,h=>h
 | n+1,i,l,h=>by
  unfold Ib;split
  ·exact xB (xA h)
  ·exact h
theorem Tf (a:A5 d=0):(AN d).length<=4096:=by
 obtain⟨-,c,-⟩:=Ay a;have b:=D0 d d.length;rw[Sf]at b;omega
theorem A7h (a:A5 d=0) {s:ByteArray} (hs:0<=Ap d s):Dc d (E1 d (AN d) s):=by
 have b:=Tf a;refine⟨(B5 (d:=d) b s 0).2.1,λi j hi c hu=>?_⟩;grind [B5,Xc,Q3,Xb]
theorem A99 (a:A5 d=0):∀c∈Au (AW d),Dc d c:=xB λc b=>by
 obtain⟨s,hs,rfl⟩:=IF.1 b;exact A7h a (LP hs)
theorem xC {all:List ByteArray} {codes:List (List Int)} {b:List Int} {u:ByteArray}:∀ {m i:Nat} {l:List ByteArray},vY d all codes b m i l=.inl u->∃j,i<=j/\j<i+m/\DP (codes.getD j []) b=true/\u=all.getD j ByteArray.empty
 | 0,_,_,h=>by cases h
 | m+1,i,l,h=>by
  unfold vY at h;split at h
  ·grind
  ·obtain⟨j,e,f,a,c⟩:=xC h;exact⟨j,by omega,by omega,a,c⟩
theorem xD {all:List ByteArray} {codes:List (List Int)} {b:List Int} {r:List ByteArray}:∀ {m i:Nat} {l:List ByteArray},vY d all codes b m i l=.inr r->(∀j,i<=j->j<i+m->DP (codes.getD j []) b=false)/\r=l++((List.range' i m).filter λj:Nat=>Tz b (j:Int)).map λj=>all.getD j ByteArray.empty
 | 0,i,l,h=>by grind [vY]
 | m+1,i,l,h=>by
  unfold vY at h;split at h
  ·cases h
  ·rename_i f;obtain⟨c,a⟩:=xD h;refine⟨λj h1 e=>?_,?_⟩
   ·grind
   ·rw[a,AEU,bY];grind
theorem xE {a b:ByteArray} {x:UInt8}:x∈(a++b).toList↔x∈a.toList\/x∈b.toList:=by
 rw[ByteArray.toList_eq,ByteArray.toList_eq,ByteArray.toList_eq];simp
theorem A0x {l:List ByteArray}:∀ {n:Nat},2<=n->(38:UInt8)∈(QZ l n).toList
 | n+1,hn=>by
  rw[O4];unfold ZA;rw[BY (by omega)];rw[xE,xE]
  simp_all
theorem tY (hn:Ci d=0) {s:ByteArray} (hs:s∈AN d):(38:UInt8)∉s.toList:=by
 obtain⟨x,g,rfl⟩:=DW hs;obtain⟨j,c,e⟩:=CV d0 g;have h1:=(JP (d:=d) (r:=d) (k:=0) hn j c).2;rw[e]at h1;intro a;unfold Ez at h1;rw[AT,IS]at h1;rw[ByteArray.toList_eq]at a;obtain⟨k,hk,h⟩:=ACm.1 a;have f:k<x.1.data.size:=by simpa using hk
 have:=h1.2 k (Sl.2 f);unfold chr at this;have b:x.1.data.getD k 0=38:=by simp_all
 rw[b]at this;revert this;decide
theorem A0y (h:A5 d=0) {y:AQ} (V:y∈AL d) (hf:JS (Au (AW d))) {s:ByteArray} (hs:s∈AN d) (e:AY y.1 s=true):y.2=E1 d (AN d) s:=by
 obtain⟨ah,ab,-,hn,af⟩:=Ay h;have o:=Tf h;have L:Nd (Au (AW d)):=Uj (R6 h);have ae:(AW d).length=(AN d).length:=by simp[AW]
 have M:AW d <+: Au (AW d):=Qi 257 0 (AW d);have U:∀ {t:ByteArray},t∈AN d->AY t s=true->t=s:=λ{t} x e=>by grind [DW,QW]
 have heq:∀j,j<(AN d).length->∀b∈Au (AW d),DP ((AW d).getD j []) b=true->b=E1 d (AN d) ((AN d).getD j ByteArray.empty):=λj R b f p=>by
  have g:(AW d).getD j []∈Au (AW d):=M.subset (BC (by omega));unfold DP at p;rw[AT,Fh (hf.wds _ g) (hf.wds b f),Fh (hf.wds b f) (hf.wds _ g)]at p;rw[<-JQ d R];refine sU (hf.wds b f) (hf.wds _ g) (L.nrm b f) (L.nrm _ g) λi=>?_;rw[ADz];exact⟨p.2 i,p.1 i⟩
 obtain⟨b,f,rfl⟩:=DX.1 V;show b=_;have e:AY (G8 d (AN d) (AW d) b) s=true:=e;unfold G8 at e;cases w:vY d (AN d) (AW d) b (AN d).length 0 [] with
 | inl u =>
  rw[w]at e;obtain⟨j,-,C,X,rfl⟩:=xC w;rw[ADj]at C;rw[<-U (BC C) e];exact heq j C b f X
 | inr l =>
  exfalso;rw[w]at e;have e:AY (nC (A2 d l)) s=true:=e;obtain⟨O,D⟩:=xD w;rw[ADw]at D;have N:=hf.wds b f;have v:∀i,i<(AN d).length->BE b i=true->(AN d).getD i ByteArray.empty∈l:=λi hi ad=>by grind [Uq]
  have K:∀t∈l,∃i,i<(AN d).length/\t=(AN d).getD i ByteArray.empty/\BE b i=true:=λt x=>by grind [Uq]
  have T:(List.range' 0 (AN d).length).map (λj=>(AN d).getD j ByteArray.empty)=AN d:=by
   apply UK
   ·simp
   ·intro i ai W;simp[AS,W]
  have E:wI l:=by
   rw[D];have:=Wi hn;rw[<-T]at this;exact this.sublist (List.filter_sublist.map _)
  obtain⟨z,r⟩:=hf.some b f;have B:∀i,BE b i=true->i<(AN d).length:=by
   have:=dC (q:=(AN d).length) (n:=257) (i:=0) (l:=AW d) (λc Q=>by
    obtain⟨t,x,rfl⟩:=IF.1 Q;exact⟨(B5 (d:=d) o t 0).2.1,λi hi=>((B5 (d:=d) o t i).1.1 hi).1⟩) b f
   exact this.2
  have F:∀t∈l,0<=Ap d t:=λt x=>by
   obtain⟨i,hi,rfl,-⟩:=K t x;exact LP (BC hi)
  obtain⟨m,g,-⟩:=SP h E (v z (B z r) r) (F _ (v z (B z r) r));have ag:0<(A2 d l).length:=AEf g;have S:nC (A2 d l)=QZ (A2 d l) (A2 d l).length:=rfl;rw[S]at e;by_cases h1:(A2 d l).length=1
  ·obtain⟨k,H,rfl,P⟩:=K m (Hq g);have G:DP ((AW d).getD k []) b=true:=by
    have J:(AW d).getD k []∈Au (AW d):=M.subset (BC (by omega));unfold DP;rw[AT,Fh (hf.wds _ J) N,Fh N (hf.wds _ J),JQ d H];refine⟨λi hi=>?_,λi hi=>?_⟩
    ·obtain⟨Z,aa⟩:=(B5 (d:=d) o _ i).1.1 hi;exact(A99 h b f).2 k i P Z (Xb aa)
    ·have A:=B i hi;obtain⟨Y,I,hu⟩:=SP h E (v i A hi) (F _ (v i A hi));have:Y=(AN d).getD k ByteArray.empty:=by
      obtain⟨a,ha⟩:=ADg.1 h1;rw[ha]at g I;rw[UF.1 I,UF.1 g]
     rw[this]at hu;exact(B5 (d:=d) o _ i).1.2 ⟨A,Xc (LP (BC H)) hu⟩
   rw[O k (IN _) (by omega)]at G;cases G
  ·grind [A0x,A2,H0,tY]
theorem Zv (s:ByteArray):∀(l:List AQ) (k:Nat),0<=MU s k l->∃j,j<l.length/\MU s k l=((k+j:Nat):Int)/\AY (l.getD j c0).1 s=true
 | [],k,h=>by simp only[MU]at h;omega
 | x :: l,k,h=>by
  simp only[MU]at h ⊢;split
  ·grind
  ·rename_i e;rw[An e]at h;obtain⟨j,c,a,b⟩:=Zv s l (k+1) h;exact⟨j+1,by simp only[OS];omega,by rw[a];congr 1;omega,by simpa using b⟩
theorem A4Y (a:A5 d=0) (hf:JS (Au (AW d))) {s:ByteArray} (hs:s∈AN d):((AL d).getD (BN (AL d) s).toNat c0).2=E1 d (AN d) s:=by
 have h0:0<=BN (AL d) s:=G9 a (Fx hs);grind [Zv,AL,BN,A0y,BC]
theorem Zw {s:ByteArray} (hn:Ci d=0):∀ {r:List AI} {o:List ByteArray} {x:AI},(∀y∈r,y∈d)->x∈d->((∃z∈o,AY z x.1=true)\/(x∈r/\(DG x s).2=true))->∃z∈r.foldl (Hc s) o,AY z x.1=true
 | [],o,x,_,_,h=>h.resolve_right λg=>by cases g.1
 | y :: r,o,x,f,i,h=>by
  rw[ON];refine Zw hn (λz c=>f z (by simp[c])) i ?_;rcases h with ⟨z,c,e⟩|⟨a,b⟩
  ·grind [Hc,NT]
  ·rcases Do.1 a with rfl|a
   ·left;unfold Hc;rw[BY b];exact Sc.1 (QX (l:=o) (s:=x.1))
   ·exact .inr ⟨a,b⟩
theorem Zx (f:Int):∀(a b:List (Int×Int)),EP f (a++b)=if (EP f a).2=true then EP f a else EP f b
 | [],_=>rfl
 | x :: a,b=>by
  have h1:EP f (x :: a++b)=if x.1=f then (x.2,true) else EP f (a++b):=rfl
  have c:EP f (x :: a)=if x.1=f then (x.2,true) else EP f a:=rfl
  rw[h1,c];split
  ·rfl
  ·exact Zx f a b
theorem xF (l:List AQ) (fs:List ByteArray) (t:Nat) (f:Int):∀n,EP f (UB d l fs t n)=if 0<=f/\f<(n:Int)/\(Fg d l (t:Int) (fs.getD f.toNat ByteArray.empty)).2=true then (HS l (Fg d l (t:Int) (fs.getD f.toNat ByteArray.empty)).1,true) else (0,false)
 | 0=>by
  rw[An (by omega)];rfl
 | n+1=>by
  rw[ZG,Zx,xF l fs t f n];grind [Fg,EP]
theorem Xd (c:Ax d=0) {t f:Int} (e:0<=t) (g:t<((AL d).length:Int)) (a:0<=f) (b:f<((BO d).length:Int)):B7 (Br d) t f=if (Fg d (AL d) t ((BO d).getD f.toNat ByteArray.empty)).2=true then (HS (AL d) (Fg d (AL d) t ((BO d).getD f.toNat ByteArray.empty)).1,true) else (0,false):=by
 unfold B7;grind [A4Q,xF,Fg,AL,BO]
theorem A7i (c:Ax d=0) {f:Int} (a:0<=f) (b:f<((BO d).length:Int)):Li (Br d) f=BN (AL d) (DY d ((BO d).getD f.toNat ByteArray.empty)).1:=by grind [Li,XX,BO,Qd]
theorem ACD (b:Ax d=0):HAp (Br d):=by
 obtain⟨j,-,T,F,-⟩:=tT b;obtain⟨u,-,-⟩:=CC b;obtain⟨-,U,-⟩:=Ba u;have al:=We j U;obtain⟨ao,ak,-,hn,am⟩:=Ay j;obtain⟨hk,an⟩:=A83 b;have I:=Qc j T;have n:=dE d;have hF:(Br d).2.length=(BO d).length:=by rw[XX b,SX]
 have E:∀s∈AN d,Bc (Br d) (BN (AL d) s)=E1 d (AN d) s:=λs hs=>by grind [Ng,G9,Fx,Ih,A4Y]
 refine⟨λt f g l k c=>?_,λt w f g l A ai k c X q=>?_⟩
 ·rw[n]at l;rw[hF]at c;have hs:=BC (d:=ByteArray.empty) (show f.toNat<(BO d).length by omega);rw[Xd b g l k c,A7i b k c];generalize (BO d).getD f.toNat ByteArray.empty=s at *;obtain⟨v,-⟩:=Q1 b g l hs;obtain⟨aj,aa,S,Y⟩:=XZ (F s hs);have hi:(if (Fg d (AL d) t s).2=true then (HS (AL d) (Fg d (AL d) t s).1,true) else ((0:Int),false)).2=true↔(Fg d (AL d) t s).2=true:=by
   split<;>simp[*]
  rw[hi,v];constructor
  ·rintro⟨x,a,Z,W⟩;have hint:=F s hs;unfold DY at hint ⊢;split at hint
   ·rename_i h1;rw[BY h1];obtain⟨ap,V⟩:=ADg.1 h1;obtain⟨z,u,C⟩:=Zw (d:=d) (s:=s) hn (r:=d) (o:=[]) (λy ad=>ad) a (.inr ⟨a,Z⟩);have ae:0<=Ap d z:=by rw[JO d C];exact DV a
    obtain⟨m,p,hu⟩:=SP j (A0w hn s) u ae;have hu:=Xa hu C;have e:(A2 d (Ff d s)).getD 0 ByteArray.empty=m:=by
     rw[V]at p ⊢;rw[UF.1 p];rfl
    rw[show ((A2 d (Ff d s)).getD 0 ByteArray.empty,true).1=m from e];obtain⟨ar,K,B,-⟩:=(SK (Hq p)).resolve_left (by simp);have H:m∈AN d:=by rw[<-B];exact Q6 K hn
    have ab:=Q6 a hn;obtain⟨n0,n1⟩:=Us I a;have L:0<=BN (AL d) m:=G9 j (Fx H);have aq:=Ih (AL d) m;refine Hs hk L (by omega) n0 (by omega) g (by omega) ((Bx hk L (by omega) n0 (by omega)).2 λi hi=>?_) W;unfold Tb2 at hi ⊢;rw[E x.1 ab]at hi;rw[E m H];exact A7e j (by rw[<-B];exact DV K) hu hi
   ·cases hint
  ·intro h;rw[<-S]at h;exact⟨aj,aa,Y,h⟩
 ·have M:t<((AL d).length:Int):=by omega
  have N:w<((AL d).length:Int):=by omega
  rw[hF]at c;have hs:=BC (d:=ByteArray.empty) (show f.toNat<(BO d).length by omega);rw[Xd b g M k c]at q ⊢;rw[Xd b A N k c];generalize (BO d).getD f.toNat ByteArray.empty=s at *;obtain⟨v,af⟩:=Q1 b g M hs;obtain⟨ag,ah⟩:=Q1 b A N hs;have hi:(Fg d (AL d) t s).2=true:=by
   split at q
   ·assumption
   ·cases q
  have J:∀x∈d,UsD d t s x->UsD d w s x:=λx a hu=>by
   obtain⟨n0,n1⟩:=Us I a;exact⟨hu.1,Hs hk n0 (by omega) g l A ai hu.2 X⟩
  have G:(Fg d (AL d) w s).2=true:=by
   obtain⟨x,a,hu⟩:=v.1 hi;exact ag.2 ⟨x,a,J x a hu⟩
  rw[BY hi,BY G];obtain⟨⟨O,P⟩,Q⟩:=af hi;obtain⟨⟨R,b1⟩,b2⟩:=ah G;refine(Bx hk O (by rw[n];exact P) R (by rw[n];exact b1)).2 λi D=>?_;unfold Tb2 at D ⊢;exact(Q i).2 λx a hu=>(b2 i).1 D x a (J x a hu)
theorem tZ (d:List AI):HAp (Ar d).1:=by
 by_cases a:Ax d=0
 ·rw[Ur a];exact ACD a
 ·have:(Ar d).1=([],[]):=by
   unfold Ar BA;rw[BY a,BY a]
  rw[this];exact⟨λt f c b=>by simp at b;omega,λt e f c b=>by simp at b;omega⟩
end
theorem My (d:List AI):(Ar d).1.1.length<=256/\(Ar d).1.2.length<=64:=by
 unfold Ar;split
 ·exact⟨by simp,by simp⟩
 ·rename_i a;have a:(BA d).2=0:=DO a;have b:Ax d=0:=by
   unfold BA at a;split at a
   ·rename_i h;exact absurd a h
   ·rename_i h;exact DO h
  obtain⟨f,c,-⟩:=CC b;obtain⟨-,e,-⟩:=Ba f;refine⟨?_,?_⟩
  ·show (Eh _ _ _).length<=256;rw[KN,Ig];exact e
  ·show (EV d).1.length<=64;unfold EV;rw[An (by rw[b];simp)];show ((BO d).map (Qd d)).length<=64;rw[SX];exact c
theorem pE {H:AH} (q:H.1.length<=256) (r:H.2.length<=64) {f:List AD} (h:cC H f=true):AX f/\Lr f/\0<f.length/\EB H f/\D7 f=true/\f.length<=12/\∀x∈f,∀a∈x.2,0<=a.1/\a.1<(H.2.length:Int):=by
 unfold cC at h;rw[AT,UH]at h;obtain⟨l,c⟩:=h;unfold BP at c;split at c
 ·rename_i h1;exact absurd c h1
 ·rename_i h1;split at c
  ·cases c
  ·rename_i e;split at c
   ·cases c
   ·rename_i i;have h1:(BF f).2=0:=DO h1;have e:f.all (Ui H)=true:=by simpa using e
    have i:Cw f (BF f).1=0:=by simpa using i
    have k:D7 f=true:=by
     unfold D7;simp only[AT,UH];refine⟨⟨l,?_⟩,h1,?_⟩
     ·rw[IS]at e ⊢;intro x d;have:=e x d;unfold Ui at this;rw[AT,Fj,IS]at this;unfold ndB;rw[AT,Fj,IS];refine⟨by omega,λa ha=>?_⟩;have:=this.2 a ha;unfold wA at this;rw[Fj]at this;unfold ftB;rw[Fj];omega
     ·rw[<-JV i];exact Jx f
    obtain⟨n,o,p,-⟩:=Mo k;have g:CG f=0:=by
     unfold BF at h1;split at h1
     ·rename_i hh;exact hh
     ·exact h1
    have m:HD (f.length:Int) f=0:=by
     unfold CG at g;split at g
     ·cases g
     ·split at g
      ·cases g
      ·exact g
    refine⟨n,o,p,λx d=>?_,k,(Mc l).1,λx d a ha=>?_⟩
    ·have b:=IS.1 e x d;unfold Ui at b;rw[AT,Fj]at b;exact⟨(Im m x d).1,b.1⟩
    ·have b:=IS.1 e x d;unfold Ui at b;rw[AT,IS]at b;have j:=b.2 a ha;unfold wA at j;rw[Fj]at j;exact⟨((Im m x d).2 a ha).1,j⟩
structure t8 (h:AH):Prop where
 ok:GL h
 inj:Lq h
 ft:dY h
 nrm:A92 h
 ap:HAp h
 b1:h.1.length<=256
 b2:h.2.length<=64
theorem Q7 (d:List AI):t8 (Ar d).1:=⟨JT d,n4 d,tV d,λt a=>(XV d).nrm _ (IF.2 ⟨t,a,rfl⟩),tZ d,(My d).1,(My d).2⟩
theorem h14 (d:List AI):t8 (wB d):=by
 unfold wB;split
 ·exact Q7 d
 ·exact Q7 Cv
theorem SQ {f:List AD} {ty:List Int} {x:AD} (b:x∈FI f ty):∃i,i<f.length/\x=(ty.getD i 0,(f.getD i (0,[])).2):=by
 obtain⟨i,hi,rfl⟩:=List.getElem_of_mem b;have a:i<f.length:=by rw[Dt]at hi;exact hi
 refine⟨i,a,?_⟩;rw[<-H6 f ty a,AS,As hi];rfl
theorem KV {α:Type} {f:List α} {i:Nat} (h:i<f.length) (d:α):f.getD i d∈f:=by
 rw[AS,As h];exact nO _
def HW (p:List Int) (n:Nat):List AD:=(List.range n).map λ(i:Nat)=>((0:Int),[(p.getD i 0,(i:Int)+1)])
def A4 (p:List Int) (g:List AD):List AD:=HW p p.length++g.map λx=>(x.1,A3 p.length x.2)
theorem pF (p:List Int) (n:Nat):HW p (n+1)=HW p n++[((0:Int),[(p.getD n 0,(n:Int)+1)])]:=by simp[HW,UJ]
theorem Iu (p:List Int) (n:Nat):(HW p n).length=n:=by simp[HW]
def FtP (h:AH) (p:List Int):Prop:=∀e∈p,0<=e/\e<(h.2.length:Int)
theorem A9a {l:List (Int×Int)} (h:Nn l) {e:Int} (c:0<=Db l e):X0 l e=Db l e:=by
 obtain⟨a,ha,b,d⟩:=Qw c;rw[<-b,wT h ha,Mr h ha]
theorem A4Z {f:List AD} (hf:AX f) (h0:0<f.length) (p:List Int):∀n,ER f 0 p=some n->0<=n/\n<(f.length:Int):=by
 induction p using EX with
 | h0 =>
  intro n h;simp only[ER,ACW]at h;omega
 | h1 p e g =>
  intro n h;obtain⟨x,d,a,ha,c,b⟩:=A0j h;rw[<-b];exact BD hf ha
theorem A9b {f:List AD} (hf:AX f) (hs:Lr f) (h0:0<f.length) (a:D7 f=true):RO f:=by
 have h1:=A6Z hf hs h0 (λ_ _=>true)
 rwa [tI a λ_ _ _ _=>rfl]at h1
theorem A50 {h:AH} (j:h.1.length<=256) (k:h.2.length<=64) {f:List AD} (l:cC h f=true):VF h f/\f.length<=12:=by
 obtain⟨a,b,c,e,d,g,i⟩:=pE j k l;exact⟨⟨a,c,e,λx m=>(KR _).1 (b x m).1,i,OK d,A9b a b c d⟩,g⟩
theorem VF.srt {h:AH} (hu:HU h) {f:List AD} (a:VF h f):Lr f:=λx b=>by
 have:=dA (a.str x b) (a.ft64 hu x b);exact⟨(KR _).2 (a.str x b),by omega⟩
theorem dH {h:AH} (a b:List AD):(∃c,XN h a b c/\Ee h a b=(c,true))\/(Ee h a b=([],false)/\∀c,¬XN h a b c):=by
 unfold Ee;by_cases H:∃c,XN h a b c
 ·left;rw[dif_pos H];exact⟨_,H.choose_spec,rfl⟩
 ·right;rw[dif_neg H];exact⟨rfl,λc d=>H ⟨c,d⟩⟩
theorem Iv (f:List AD) (ty:List Int) (n:Nat):((FI f ty).getD n (0,[])).2=(f.getD n (0,[])).2:=by
 by_cases h:n<f.length
 ·rw[H6 f ty h]
 ·rw[AS,Sj (by rw[Dt];omega),AS,Sj (by omega)]
theorem pG {f g:List AD} (h:∀n:Nat,(f.getD n (0,[])).2=(g.getD n (0,[])).2):∀(k:Nat) (o:List Int) (n:Int),DZ f k o n=DZ g k o n
 | 0,_,_=>rfl
 | k+1,o,n=>by
  have e:Ab f k=Ab g k:=by
   funext o a;unfold Ab;rw[pG h k o a.2]
  rw[CH,CH,h,e]
theorem t9 {f:List AD} (hf:AX f) (h0:0<f.length) (a:AO f 0=f):o6 f:=by
 have:=(c5 hf (r:=0) (by omega) (by omega)).2
 rwa [a]at this
theorem A51 {h:AH} {f:List AD} (b:VF h f) {ty:List Int} (k:Ut h f.length ty):VF h (FI f ty):=by
 have c:=Dt f ty;have g:AX (FI f ty):=by
  refine⟨by rw[c];exact b.good.1,λx a=>?_⟩;obtain⟨i,hi,rfl⟩:=SQ a;rw[c];exact b.good.2 (f.getD i (0,[])) (KV hi (0,[]))
 have hp:∀x∈FI f ty,∃y∈f,x.2=y.2:=λx a=>by
  obtain⟨i,hi,rfl⟩:=SQ a;exact⟨_,KV hi (0,[]),rfl⟩
 refine⟨g,by rw[c];exact b.pos,λx a=>?_,λx a=>?_,λx a=>?_,XL g ?_,λi l m=>?_⟩
 ·obtain⟨i,hi,rfl⟩:=SQ a;exact k.get hi
 ·obtain⟨y,d,e⟩:=hp x a;rw[e];exact b.str y d
 ·obtain⟨y,d,e⟩:=hp x a;rw[e];exact b.ft y d
 ·have:=t9 b.good b.pos b.can;unfold o6 at this ⊢;rw[c,pG (Iv f ty)];exact this
 ·obtain⟨j,n,o,x,a,e⟩:=b.ro i l (by rw[<-c];exact m);exact⟨j,n,o,x,by show x∈((FI f ty).getD j.toNat (0,[])).2;rw[Iv];exact a,e⟩
theorem EC (f:List AD) (i:Nat):(Bh f).getD i 0=(f.getD i (0,[])).1:=by
 unfold Bh;rw[AS,iS,AS];cases f[i]?<;>rfl
theorem uA {f:List AD} {ty:List Int} (a:ty.length=f.length):Bh (FI f ty)=ty:=by
 refine UK (by simp[Bh,Dt,a]) λi b c=>?_;have:=EC (FI f ty) i;rw[H6 f ty (by omega)]at this;simpa[AS,b,c] using this
theorem Tg {h:AH} {f:List AD} {t:Int}:∀ {l:List (Int×Int)},FO h f t l=0↔∀a∈l,(B7 h t a.1).2=true/\A7 h (B7 h t a.1).1 (f.getD a.2.toNat (0,[])).1=true
 | []=>⟨λ_ a ha=>(by cases ha),λ_=>rfl⟩
 | a :: l=>by
  unfold FO;rw[List.forall_mem_cons,<-Tg (l:=l)];cases h1:(B7 h t a.1).2
  ·simp
  ·cases b:A7 h (B7 h t a.1).1 (f.getD a.2.toNat (0,[])).1<;>simp
theorem OO {h:AH} {f:List AD}:∀ {l:List AD},Ds h f l=0↔∀x∈l,∀a∈x.2,(B7 h x.1 a.1).2=true/\A7 h (B7 h x.1 a.1).1 (f.getD a.2.toNat (0,[])).1=true
 | []=>⟨λ_ a ha=>(by cases ha),λ_=>rfl⟩
 | x :: l=>by
  unfold Ds;rw[List.forall_mem_cons,<-OO (l:=l),<-Tg];by_cases h1:FO h f x.1 x.2=0
  ·simp[h1]
  ·simp[h1]
theorem A7j {h:AH} {f:List AD}:Ds h f f=0↔WTy h f (Bh f):=by
 rw[OO];constructor
 ·intro h1 i hi a ha;have:=h1 _ (KV hi (0,[])) a ha
  rwa [EC,EC,Se]
 ·intro h1 x b a ha;obtain⟨i,hi,rfl⟩:=CV (0,[]) b;have:=h1 i hi a ha
  rwa [EC,EC,Se]at this
section
variable {h:AH} (hh:t8 h)
include hh
theorem t8.hu:HU h:=⟨hh.ok,hh.inj,hh.b2⟩
omit hh in
theorem dI {f:List AD} (b:VF h f):PK h f:=λx c a ha=>⟨b.ft x c a ha,(b.good.2 x c).2 a ha⟩
theorem pH {f:List AD} (a:VF h f) {ty:List Int} (e:Ir h f=some ty):VF h (FI f ty)/\WTy h f ty/\Ut h f.length ty/\OL h f (FI f ty) id:=by
 obtain⟨h1,g,d⟩:=tX hh.ok hh.inj hh.ft hh.ap (dI a) a.ty e;refine⟨A51 a d,h1,d,rfl,λi b c=>⟨b,by rw[Dt];exact c⟩,λi b c=>?_,λi b c x j=>?_⟩
 ·have:=g i.toNat (by omega);rw[EC]at this;show A7 h _ ((FI f ty).getD i.toNat (0,[])).1=true
  rwa [H6 f ty (by omega)]
 ·show Db ((FI f ty).getD i.toNat (0,[])).2 x.1=x.2;rw[Iv];exact A8S (a.srt hh.hu) j
theorem xG {f g:List AD} (n:VF h f) (p:VF h g) (E:WTy h g (Bh g)) {m:Int->Int} (c:OL h f g m):∃ty,Ir h f=some ty/\OL h (FI f ty) g m:=by
 have H:=p.pos
 let u:List Int:=(List.range f.length).map λi:Nat=>(g.getD (m (i:Int)).toNat (0,[])).1
 have k:∀i:Nat,i<f.length->u.getD i 0=(g.getD (m (i:Int)).toNat (0,[])).1:=λi hi=>by
  simp[u,AS,hi]
 have q:∀i:Nat,i<f.length->(m (i:Int)).toNat<g.length/\0<=m (i:Int):=λi hi=>by
  have:=c.rng (i:Int) (by omega) (by omega);omega
 have D:Ut h f.length u:=⟨by simp[u],λt C=>by
  obtain⟨i,hi,rfl⟩:=IF.1 C;exact p.ty _ (KV (q i (Sl.1 hi)).1 (0,[]))⟩
 have F:WTy h f u:=λi hi a ha=>by
  have z:a∈AR f (i:Int):=by show a∈(f.getD (i:Int).toNat (0,[])).2;rwa [Se]
  have h1:=c.arc (i:Int) (by omega) (by omega) a z;obtain⟨s,G⟩:=(n.good.2 _ (KV hi (0,[]))).2 a ha;have y:=c.rng a.2 s G;obtain⟨b,A,v,w⟩:=Qw (l:=AR g (m (i:Int))) (e:=a.1) (by rw[h1];exact y.1);have o:=E _ (q i hi).1 b (by exact A);rw[EC,EC,v,w,h1,Se]at o;rw[Se,k i hi,k a.2.toNat (by omega),AD9 s];exact o
 obtain⟨ty,e,B⟩:=pD hh.ok hh.inj hh.ft hh.ap (dI n) n.ty D F λi hi=>by
  rw[EC,k i hi];have:=c.ty (i:Int) (by omega) (by omega)
  rwa [Se]at this
 refine⟨ty,e,c.zero,λi j d=>c.rng i j (by rw[Dt]at d;exact d),λi j d=>?_,λi j d x r=>?_⟩
 ·rw[Dt]at d;have:=B i.toNat (by omega);rw[k _ (by omega),AD9 j]at this
  rwa [H6 f ty (by omega)]
 ·rw[Dt]at d;exact c.arc i j d x (by rw[AR,Iv]at r;exact r)
omit hh in
theorem A0z {f:List AD} (e:Ag h f=0):WTy h f (Bh f):=by
 unfold Ag at e
 split at e
 ·exact A7j.1 e
 ·rename_i hn;exact absurd e hn
end
theorem Th {h:AH} {f:List AD} {ty:List Int} (e:Ir h f=some ty):Gk h f=(FI f ty,true):=by unfold Gk;rw[e]
theorem Ti {h:AH} {f:List AD} (e:Ir h f=none):Gk h f=([],false):=by unfold Gk;rw[e]
theorem Ut.set {h:AH} {m:Nat} {u:List Int} (hu:Ut h m u) {t:Int} (b:0<=t) (c:t<(h.1.length:Int)) (i:Nat):Ut h m (u.set i t):=⟨by rw[UM];exact hu.1,λx a=>by
 rcases ADu a with a|rfl
 ·exact hu.2 x a
 ·exact⟨b,c⟩⟩
theorem RM.set {h:AH} (hk:GL h) {m:Nat} {u:List Int} (hu:Ut h m u) {t:Int} {i:Nat} (hi:i<m) (hs:A7 h (u.getD i 0) t=true):RM h m u (u.set i t):=λk a=>by
 rw[NY _ _ _ (by rw[hu.1];exact hi) k];split
 ·rename_i e;rw[e];exact hs
 ·exact Ul hk (hu.get a).1 (hu.get a).2
section
variable {h:AH} (hk:GL h) (hn:A92 h) (hi:Lq h) (hf:dY h) (hap:HAp h) {m:Nat}
include hk hn hi hf hap
end
section
variable {h:AH} (hk:GL h) (hn:A92 h) (hi:Lq h) (hf:dY h) (hap:HAp h) {f:List AD} (ha:PK h f)
include hk hn hi hf hap ha
end
section
attribute [local go_sem] OG
end
section
open Go
end
section
noncomputable def SR:Ac:={ ins:=[Eg,Dw,Dw],pre:=λ(h,a,b,_)=>HU h/\VF h a/\VF h b/\List.length a+List.length b<=10000,out:=λ(h,a,b,_)=>[.p Dw (Ee h a b).1,.p .bool (Ee h a b).2] }
attribute [local go_sem] SR
theorem A52:Ad Tryz.prog 35 SR:=by
 refine fK [0,1,2,3,4,5,6,7,8,25] Tryz.func35 Tryz.ntmps35 AG ?_;rintro w0 O0 ⟨h,a,b,u⟩ c-⟨hu,va,e,G⟩;simp only[SR,AM];repeat'(first|exact trivial|refine eS rfl ?_|refine rX c ?_ ?_)
 refine cP 3 c ?_ ?_
 ·trivial
 ·refine rM c (A4y h [] [] [] a va.good (by simp) rfl rfl) [(1,.nm 11),(2,.nil),(3,.nil),(4,.nil)] [] ?_ ?_ ?_
  ·exact eN
  ·simp only[Zg];exact eN
  ·rintro _ _ ⟨rfl,rfl⟩;refine⟨[(11,.nm 1),(102,.nm 2),(103,.nm 3),(104,.nm 4)],.raw (.tuple #[]),[(11,.box 111 true [.p Eg h,.sr 102 T3 0 (Cm 0 a.length).length,.sr 103 T3 0 (DI a a.length).length,.sr 104 DN 0 (F0 0 a a.length).length]),(102,.arr 3 T3 (Cm 0 a.length)),(103,.arr 3 T3 (DI a a.length)),(104,.arr 91 DN (F0 0 a a.length))],rfl,rfl,?_,?_,rfl,rfl,CQ ?_⟩
   ·simp only[Zg];exact eN
   ·exact eN
   ·have la:(Cm 0 a.length).length=a.length:=KT 0 a.length;have lt:(DI a a.length).length=a.length:=by unfold DI;rw[SX,Sf]
    have J:(F0 0 a a.length).length=a.length:=by unfold F0;rw[SX,Sf]
    repeat' refine eS rfl ?_
    refine cP 3 c ?_ ?_
    ·trivial
    ·refine rM c (A4y h (Cm 0 a.length) (DI a a.length) (F0 0 a a.length) b e.good (by omega) (by omega) (by omega)) [(1,.nm 11),(2,.nm 102),(3,.nm 103),(4,.nm 104)] [102,103,104] ?_ ?_ ?_
     ·exact eN
     ·simp only[Zg];exact eN
     ·rintro _ _ ⟨rfl,rfl⟩;rw[la,A0o,tQ,A0q];rw[show a.length+b.length=(Ca a b).length from (FG a b).symm];have F:=FG a b;have w:=PQ va.good e.good (by omega);have z:=c9 w (XP va.ty e.ty) (Nf va.str e.str);have o:=XQ (va.ft64 hu) (e.ft64 hu);have I:=tR (N:=Ca a b) λx l=>dA (Nf va.str e.str x l) (o x l);have hap:=va.pos;have H:=e.pos;have C:=λp ty ar y j=>c7 va e (p:=p) (ty:=ty) (ar:=ar) y j;have A:=Zm va e;generalize Cm 0 (Ca a b).length=p0 at *;generalize Mw (Ca a b)=s at *;generalize Te (Ca a b)=q at *;refine⟨[(11,.nm 1),(102,.nm 2),(103,.nm 3),(104,.nm 4)],.raw (.tuple #[]),[(11,.box 111 true [.p Eg h,.sr 102 T3 0 p0.length,.sr 103 T3 0 s.length,.sr 104 DN 0 q.length]),(102,.arr 3 T3 p0),(103,.arr 3 T3 s),(104,.arr 91 DN q)],rfl,rfl,?_,?_,rfl,rfl,CQ ?_⟩
      ·simp only[Zg];exact eN
      ·exact eN
      ·repeat' refine eS rfl ?_
       refine cP 4 c ?_ ?_
       ·trivial
       ·refine rM c (A74 h hu.ok z (a:=0) (b:=(a.length:Int)) (by omega) (by omega) (by omega) (by omega)) [(101,.nm 11),(102,.nm 102),(103,.nm 103),(104,.nm 104)] [102,103,104] ?_ ?_ ?_
        ·exact eN
        ·simp only[wX];exact eN
        ·rintro res E (⟨rfl,f,i,g,rfl,d⟩|⟨rfl,⟨f,i,g,rfl⟩,B⟩)
         ·have j:=XR d (by omega) o;have n:=Tc hu (C f i g d j);refine⟨[(11,.nm 101),(102,.nm 102),(103,.nm 103),(104,.nm 104)],.p .bool true,[(11,.box 111 true [.p Eg h,.sr 102 T3 0 f.length,.sr 103 T3 0 i.length,.sr 104 DN 0 g.length]),(102,.arr 3 T3 f),(103,.arr 3 T3 i),(104,.arr 91 DN g)],rfl,rfl,?_,?_,rfl,rfl,?_⟩
          ·simp only[wX];exact eN
          ·exact eN
          ·refine rL c ?_ ?_
           ·trivial
           ·repeat'(first|refine eS rfl ?_|refine rC ?_ ?_<;>intro m<;>try(cases m;done))
            refine cP 1 c ?_ ?_
            ·trivial
            ·refine rM c (A4G h d.fo j (by rw[d.lt,d.lp]) (by rw[d.la,d.lp]) (λk x l=>by rw[d.lp];exact(d.arr k x l).1) (r:=0) (by omega) (by rw[d.lp];omega)) [(101,.nm 11),(102,.nm 102),(103,.nm 103),(104,.nm 104)] [11,102,103,104] ?_ ?_ ?_
             ·exact eN
             ·simp only[wX];exact eN
             ·rintro _ E rfl;refine⟨[],.p Dw (AO (quo f i g) (El f 0)),[],rfl,rfl,?_,?_,rfl,rfl,?_⟩
              ·exact eN
              ·exact eN
              ·refine rL c ?_ ?_
               ·trivial
               ·repeat' refine eS rfl ?_
                exact fI c [.cell 6 25,.tmp 7] (by rw[n];exact eR)
         ·have n:=A (λX v t D=>B X v t D);refine⟨[(11,.nm 101),(102,.nm 102),(103,.nm 103),(104,.nm 104)],.p .bool false,[(11,.box 111 true [.p Eg h,.sr 102 T3 0 f.length,.sr 103 T3 0 i.length,.sr 104 DN 0 g.length]),(102,.arr 3 T3 f),(103,.arr 3 T3 i),(104,.arr 91 DN g)],rfl,rfl,?_,?_,rfl,rfl,?_⟩
          ·simp only[wX];exact eN
          ·exact eN
          ·refine rL c ?_ ?_
           ·trivial
           ·repeat'(first|exact trivial|refine eS rfl ?_|refine rX c ?_ ?_|refine rC ?_ ?_<;>intro m<;>try(cases m;done))
            exact fI c [.cell 6 25,.tmp 7] (by rw[n];exact eR)
end
section
open Go
end
section
open Go
end
section
variable {h:AH} {N:List AD} {P:List (Int×Int)} {c p:List Int} {g:List AD}
end
section
variable {h:AH} {a b:List AD}
end
section
open Go
end
section
attribute [local go_sem] A4O
end
section
attribute [local go_sem] SR SB
theorem A9c {h:AH} (hh:t8 h) {f:List AD} (a:VF h f):A8R h f:=⟨hh.ok,hh.inj,hh.ft,Sd hh.b2 (by decide),a.good,dI a,a.ty⟩
noncomputable def HX (h:AH) (a b:List AD):List AD×Bool:=if (Ee h a b).2=true then Gk h (Ee h a b).1 else ([],false)
end
theorem A53 {h:AH} (hk:GL h) {N:List AD} {P:List (Int×Int)}:∀(k:Nat) (p ty:List Int) (ar:List (List (Int×Int))) (W:List (Int×Int)),JI h N P p ty ar W->nR p*((Cz N).length+1)+W.length<=k ->
  (∃E G o,JI h N P E G o [])\/(∀X v,EB h X->¬dZ h N P X v):=by
 intro k;induction k with
 | zero =>
  intro p ty ar W c g;have:W=[]:=Sk (by omega);subst this;exact .inl ⟨p,ty,ar,c⟩
 | succ k l =>
  intro p ty ar W c g;cases j:W.getLast? with
  | none =>
   have:W=[]:=List.getLast?_eq_none_iff.1 j;subst this;exact .inl ⟨p,ty,ar,c⟩
  | some w =>
   have r:W=W.dropLast++[w]:=by
    obtain⟨K,e⟩:=List.getLast?_eq_some_iff.1 j;rw[e];simp
   obtain⟨s,t⟩:=w;rw[r]at c g;rw[GO,SY]at g;generalize W.dropLast=V at *;obtain⟨⟨m,s1⟩,n,F⟩:=c.wr (s,t) (by simp);simp only at m s1 n F;obtain⟨M,fo⟩:=c.fo;have lp:=c.lp;obtain⟨a,ha,H,I⟩:=fo.root m (by omega);obtain⟨b,d,q,b1⟩:=fo.root n (by omega);by_cases f:a=b
   ·subst f;exact l p ty ar V (cV c ha d) (by omega)
   ·cases i:(Bo h (ty.getD a.toNat 0) (ty.getD b.toNat 0)).2 with
    | false =>
     right;intro X v u C;have:=(Uo hk c ha d u C).2.1;rw[i]at this;cases this
    | true =>
     have z:=W9 hk c ha d f i;refine l _ _ _ _ z ?_;have B:=wW (a:=a) q b1 d.root f;have A:=cW (c.srt a.toNat) (λx D=>(c.arr a.toNat x D).2);have L:=Sd (Qz (x:=ar.getD a.toNat []) (y:=ar.getD b.toNat [])) A;have J:nR p*((Cz N).length+1)=nR (p.set b.toNat a)*((Cz N).length+1)+((Cz N).length+1):=by rw[<-B,AEj,Nat.one_mul]
     rw[GO];omega
theorem Zy {h:AH} (hk:GL h) {N:List AD}:∀(R P:List (Int×Int)) (p ty:List Int) (ar:List (List (Int×Int))),(∀q∈R,(0<=q.1/\q.1<(N.length:Int))/\(0<=q.2/\q.2<(N.length:Int)))->JI h N P p ty ar [] ->
  (∃l r g,JI h N (P++R) l r g [])\/(∀X v,EB h X->¬dZ h N (P++R) X v)
 | [],P,p,ty,ar,f,e=>.inl ⟨p,ty,ar,by rw[Sq];exact e⟩
 | q :: R,P,p,ty,ar,f,e=>by
  obtain⟨a,b⟩:=q;have c:=f (a,b) (by simp);have i:P++(a,b) :: R=P++[(a,b)]++R:=by simp
  rw[i];rcases A53 hk _ _ _ _ _ (XA e c.1 c.2) (NO _) with ⟨m,o,n,h1⟩|k
  ·exact Zy hk R (P++[(a,b)]) m o n (λq c=>f q (by simp[c])) h1
  ·exact .inr λX v j d=>k X v j ⟨d.rng,d.ty,d.arc,λq c=>d.eq q (UG _ c)⟩
theorem A7k {h:AH} (hu:HU h) {a b X:List AD} (va:VF h a) (c:VF h b) (l:a.length+b.length<=100000) (j:EB h X) {n o:Int->Int} (h1:OL h a X n) (f:OL h b X o):∃i,XN h a b i:=by
 have r:=FG a b;have hap:=va.pos;have s:=c.pos;have k:=PQ va.good c.good l;rcases Zy hu.ok (N:=Ca a b) [(0,(a.length:Int))] [] _ _ _ (λq d=>by
  have e:q=(0,(a.length:Int)):=by simpa using d
  subst e;simp only;omega) (c9 k (XP va.ty c.ty) (Nf va.str c.str)) with ⟨p,ty,ar,g⟩|m
 ·exact⟨_,c7 va c g (XR g (by omega) (XQ (va.ft64 hu) (c.ft64 hu)))⟩
 ·exfalso;refine m X _ j (tP (XJ va.good c.good (Nb h1) (Nb f)) λq d=>?_);have e:q=(0,(a.length:Int)):=by simpa using d
  subst e;try simp only
  rw[BY (by omega),An (by omega),Int.sub_self,h1.zero,f.zero]
section
attribute [local go_sem] SR KO cs1 cs3
end
section
attribute [local go_sem] ZN
end
instance baDec:DecidableEq ByteArray:=λa b =>
 if h:a.data.toList=b.data.toList then isTrue (by
  cases a
  cases b
  exact AD0 ByteArray.mk (Array.toList_inj.1 h))
 else isFalse λe=>h (by rw[e])
section
attribute [local go_sem] SB Qt ZN LM
end
section
attribute [local go_sem] LM
end
abbrev Wt (h:AH) (f:List AD):Prop:=VF h f/\WTy h f (Bh f)
def xH (h:AH) (l:List (List AD)) (X:List AD):Prop:=∀x∈l,∃m,OL h x X m
structure TU (h:AH) (l:List (List AD)) (U:List AD):Prop where
 wt:Wt h U
 hom:xH h l U
 least:∀X,Wt h X->xH h l X->∃m,OL h U X m
def Mz (h:AH) (l:List (List AD)) (r:List AD×Bool):Prop:=(r.2=true/\TU h l r.1)\/(r=([],false)/\∀X,Wt h X->¬xH h l X)
theorem Mz.congr {h:AH} {l l':List (List AD)} {r:List AD×Bool} (H:Mz h l r) (d:∀X,Wt h X->(xH h l X↔xH h l' X)):Mz h l' r:=by
 rcases H with ⟨h1,a⟩|⟨h1,a⟩
 ·exact .inl ⟨h1,a.wt,(d _ a.wt).1 a.hom,λX b c=>a.least X b ((d X b).2 c)⟩
 ·exact .inr ⟨h1,λX b c=>a X b ((d X b).2 c)⟩
theorem A54 {h:AH} (hk:GL h) {l:List (List AD)} (c:∀x∈l,VF h x) {a X:List AD} (d:VF h a) (e:VF h X) (f:xH h l a) {m:Int->Int} (g:OL h a X m):xH h l X:=λx b=>by
 obtain⟨k,q⟩:=f x b;exact⟨_,Mt hk (c x b).good (c x b).ty d.ty e.ty q g⟩
theorem Ht {h:AH} {x X:List AD}:xH h [x] X↔∃m,OL h x X m:=by simp[xH]
theorem Xe {h:AH} {x X:List AD} {l:List (List AD)}:xH h (x :: l) X↔(∃m,OL h x X m)/\xH h l X:=by simp[xH]
section
variable {h:AH} (hh:t8 h)
include hh
theorem A9d {f:List AD} (c:VF h f) {ty:List Int} (e:Ir h f=some ty):Wt h (FI f ty):=by
 obtain⟨h1,a,b,-⟩:=pH hh c e;refine⟨h1,?_⟩;rw[uA b.1];intro i hi;rw[Iv];exact a i (by rw[<-Dt f ty];exact hi)
theorem A7l {f:List AD} (c:VF h f):Mz h [f] (Gk h f):=by
 cases e:Ir h f with
 | some ty =>
  rw[Th e];refine .inl ⟨rfl,A9d hh c e,Ht.2 ⟨_,(pH hh c e).2.2.2⟩,λX b d=>?_⟩;obtain⟨m,g⟩:=Ht.1 d;obtain⟨i,a,q⟩:=xG hh c b.1 b.2 g;rw[e]at a;cases a;exact⟨m,q⟩
 | none =>
  rw[Ti e];refine .inr ⟨rfl,λX b d=>?_⟩;obtain⟨m,g⟩:=Ht.1 d;obtain⟨i,a,q⟩:=xG hh c b.1 b.2 g;rw[e]at a;cases a
theorem xI {a b:List AD} (va:VF h a) (k:VF h b) (q:a.length+b.length<=10000):Mz h [a,b] (HX h a b):=by
 unfold HX;rcases dH (h:=h) a b with ⟨l,c,e⟩|⟨e,p⟩
 ·rw[e,BY rfl];refine(A7l hh c.vf).congr λX g=>?_;rw[Ht,Xe,Ht];constructor
  ·rintro⟨m,o⟩;obtain⟨i,d⟩:=c.left;obtain⟨j,f⟩:=c.right;exact⟨⟨_,Mt hh.ok va.good va.ty c.vf.ty g.1.ty d o⟩,_,Mt hh.ok k.good k.ty c.vf.ty g.1.ty f o⟩
  ·rintro⟨⟨i,d⟩,j,f⟩;exact c.least X g.1.ty i d j f
 ·rw[e,An Bool.false_ne_true];refine .inr ⟨rfl,λX g n=>?_⟩;rw[Xe,Ht]at n;obtain⟨⟨i,d⟩,j,f⟩:=n;obtain⟨l,c⟩:=A7k hh.hu va k (by omega) g.1.ty d f;exact p l c
omit hh in
theorem A55 {l l':List (List AD)} (hp:∀x,x∈l↔x∈l') (X:List AD):xH h l X↔xH h l' X:=⟨λa x b=>a x ((hp x).2 b),λa x b=>a x ((hp x).1 b)⟩
omit hh in
theorem Mz.perm {l l':List (List AD)} {r:List AD×Bool} (H:Mz h l r) (hp:∀x,x∈l↔x∈l'):Mz h l' r:=H.congr λX _=>A55 hp X
omit hh in
theorem dJ {a b:List AD}:(HX h a b).1.length<=a.length+b.length:=by
 unfold HX
 split
 ·rename_i e
  have:=(Td e).len
  cases c:Ir h (Ee h a b).1 with
  | none=>rw[Ti c];simp
  | some ty=>rw[Th c,Dt];exact this
 ·simp
omit hh in
theorem Mz.vf {l:List (List AD)} {r:List AD×Bool} (H:Mz h l r) (e:r.2=true):TU h l r.1:=by
 rcases H with ⟨-,b⟩|⟨a,-⟩
 ·exact b
 ·rw[a]at e;cases e
end
theorem Gl (p:List Int) (g:List AD):(A4 p g).length=p.length+g.length:=by simp[A4,HW]
theorem Tj {p:List Int} {g:List AD} {i:Int} (a:0<=i) (b:i<(p.length:Int)):(A4 p g).getD i.toNat (0,[])=(0,[(p.getD i.toNat 0,i+1)]):=by grind [A4,Iu,HW]
theorem Q8 {p:List Int} {g:List AD} {y:Int} (a:0<=y) (b:y<(g.length:Int)):(A4 p g).getD ((p.length:Int)+y).toNat (0,[])=((g.getD y.toNat (0,[])).1,A3 p.length (g.getD y.toNat (0,[])).2):=by
 unfold A4;have e:((p.length:Int)+y).toNat=p.length+y.toNat:=by omega
 rw[e,AS,Ss (by rw[Iu];omega),Iu,AEd];rw[<-AS];exact SG (λx:AD=>(x.1,A3 p.length x.2)) (0,[]) (0,[]) (by omega)
theorem LQ {p:List Int} {g:List AD} {x:AD} (a:x∈A4 p g):(∃i,i<p.length/\x=(0,[(p.getD i 0,(i:Int)+1)]))\/∃y∈g,x=(y.1,A3 p.length y.2):=by
 rcases No.1 a with h|h
 ·obtain⟨i,hi,rfl⟩:=IF.1 h;exact .inl ⟨i,by simpa using hi,rfl⟩
 ·obtain⟨y,b,rfl⟩:=IF.1 h;exact .inr ⟨y,b,rfl⟩
theorem PR {b:Nat} {l:List (Int×Int)} (h:Nn l):Nn (A3 b l):=by
 unfold A3 Nn;rw[ADc];exact h
theorem Tk {p:List Int} {g:List AD} (hp:p.length<=1000) (c:AX g) (j:0<g.length) (k:g.length<=10000):AX (A4 p g):=by
 have d:=Gl p g;refine⟨by omega,λx h=>?_⟩;rcases LQ h with ⟨i,hi,rfl⟩|⟨y,e,rfl⟩
 ·refine⟨by simp,λa ha=>?_⟩;have:a=(p.getD i 0,(i:Int)+1):=by simpa using ha
  subst this;rw[d];simp only;omega
 ·refine⟨by unfold A3;rw[SX];exact(c.2 y e).1,λa ha=>?_⟩;obtain⟨b,f,rfl⟩:=IF.1 ha;have:=(c.2 y e).2 b f;rw[d];simp only;omega
theorem A0A {h:AH} {f:List AD} (vf:VF h f):DZ f f.length [] 0=(List.range f.length).map λ(i:Nat)=>(i:Int):=by
 have q:=vf.pos;have d:=cZ vf.good (r:=0) (by omega) (by omega);have l:=XG f 0;have c:=λi=>XF (f:=f) (r:=0) (i:=i);rw[vf.can]at l;simp only[vf.can]at c;generalize p:DZ f f.length [] 0=o at *;have m:OL h f f (λi=>o.getD i.toNat 0):=by
  refine⟨d.zero.1,λi g j=>d.ok.rng _ (AE o 0 (by omega)),λi g j=>?_,λi g j a ha=>?_⟩
  ·rw[c i.toNat (by omega)];exact SC h _
  ·rw[AR,c i.toNat (by omega)]at ha;obtain⟨b,e,rfl⟩:=IF.1 ha;have k:=d.cl _ (AE o 0 (by omega)) b e;show Db (AR f (o.getD i.toNat 0)) b.1=o.getD (B8 o b.2).toNat 0;rw[(GH k).2.2];exact Mr (Mu vf.str _) e
 have hu:=XM vf.ro m (c6 vf.str);apply UK
 ·rw[SX,AE5];omega
 ·intro i h1 n;rw[ADJ,ADN];have:=hu i (i:Int) (by omega) (by omega) (by omega);simp only[Se,id]at this;rw[<-this,AS,As h1];rfl
theorem A0B {f:List AD} (hf:AX f) (h:DZ f f.length [] 0=(List.range f.length).map λ(i:Nat)=>(i:Int)):AO f 0=f:=by
 unfold AO;generalize q:DZ f f.length [] 0=l at *;have r:l.length=f.length:=by rw[h];simp
 have b:∀k,(hk:k<l.length)->l[k]=(k:Int):=λk hk=>by subst h;simp
 clear h;have o:l.Nodup:=by
  unfold List.Nodup;rw[Si];intro i j hi n p e;rw[b i hi,b j n]at e;omega
 have m:∀x,0<=x->x<(l.length:Int)->B8 l x=x:=λx s t=>by
  have:=It o (i:=x.toNat) (by omega);have e:l.getD x.toNat 0=x:=by
   rw[AS,As (by omega)];show l[x.toNat]=x;rw[b _ (by omega)];omega
  rw[e]at this;rw[this];omega
 apply UK
 ·rw[SX];omega
 ·intro i h1 c;rw[ADJ,b i (by simpa using h1)];have d:f.getD (i:Int).toNat (0,[])=f[i]:=by simp[AS,c]
  unfold Dq;rw[d];have:∀a∈f[i].2,Mh l a=a:=λa ha=>by
   have g:=(hf.2 _ (nO c)).2 a ha;unfold Mh;rw[m a.2 g.1 (by omega)]
  rw[Sg this,List.map_id']
theorem xJ {Q R:List AD} {c:Int->Int} {d:Int->Prop} (h:Iso Q R c d) {pre:List Int} (hp:∀i,d i->c i∉pre):∀(k:Nat) (t:List Int) (i:Int),(∀x∈t,d x)->d i->DZ R k (pre++t.map c) (c i)=pre++(DZ Q k t i).map c/\∀x∈DZ Q k t i,d x
 | 0,t,i,f,hi=>⟨rfl,f⟩
 | k+1,t,i,f,hi=>by
  have key:∀(l:List (Int×Int)) (t:List Int),(∀a∈l,d a.2)->(∀x∈t,d x) ->
    (l.map λa=>(a.1,c a.2)).foldl (Ab R k) (pre++t.map c)=pre++(l.foldl (Ab Q k) t).map c/\∀x∈l.foldl (Ab Q k) t,d x:=by
   intro l;induction l with
   | nil=>intro t _ f;exact⟨rfl,f⟩
   | cons a l q =>
    intro t m f;have ha:=m a (by simp);have hs:Ab R k (pre++t.map c) (a.1,c a.2)=pre++(Ab Q k t a).map c/\∀x∈Ab Q k t a,d x:=by
     unfold Ab;by_cases j:a.2∈t
     ·rw[BY j,BY (No.2 (.inr (IF.2 ⟨_,j,rfl⟩)))];exact⟨rfl,f⟩
     ·have p:¬c a.2∈pre++t.map c:=by
       intro hh;rcases No.1 hh with hh|hh
       ·exact hp _ ha hh
       ·obtain⟨x,g,e⟩:=IF.1 hh;exact j (h.inj x a.2 (f x g) ha e▸g)
      rw[An j];simp only[An p];exact xJ h hp k t a.2 f ha
    rw[So,ON,ON,hs.1];exact q _ (λb o=>m b (by simp[o])) hs.2
  rw[CH,CH];have e:pre++t.map c++[c i]=pre++(t++[i]).map c:=by simp
  have n:(R.getD (c i).toNat (0,[])).2=(AR Q i).map λa=>(a.1,c a.2):=h.arc i hi;rw[n,e];refine key _ _ (h.cl i hi) λx g=>?_;rcases No.1 g with g|g
  ·exact f x g
  ·have:x=i:=by simpa using g
   rw[this];exact hi
abbrev dK (n:Nat):List Int:=(List.range n).map λ(i:Nat)=>(i:Int)
theorem pI {n:Nat} {x:Int} (h:x∈dK n):0<=x/\x<(n:Int):=by grind
theorem A0C (n:Nat):dK (n+1)=dK n++[(n:Int)]:=by unfold dK;rw[UJ,gO];rfl
theorem Xf {p:List Int} {g:List AD}:∀(r j:Nat) (k:Nat),j+r=p.length->DZ (A4 p g) (r+k) (dK j) (j:Int)=DZ (A4 p g) k (dK p.length) (p.length:Int)
 | 0,j,k,h=>by rw[show j=p.length by omega,ADj]
 | r+1,j,k,h=>by
  rw[show r+1+k=(r+k)+1 by omega,CH,Tj (by omega) (by omega),Se];show Ab (A4 p g) (r+k) (dK j++[(j:Int)]) (p.getD j 0,(j:Int)+1)=_;rw[<-A0C];unfold Ab;rw[An (λa=>by have:=pI a;simp only at this;omega)];have e:((j:Int)+1)=((j+1:Nat):Int):=by omega
  simp only[e];exact Xf r (j+1) k (by omega)
theorem A0D {h:AH} {p:List Int} {g:List AD} (b:VF h g) (hp:p.length<=1000) (l:g.length<=10000):AO (A4 p g) 0=A4 p g:=by
 have f:=b.pos;refine A0B (Tk hp b.good f l) ?_;rw[Gl];have d:=Xf (p:=p) (g:=g) p.length 0 g.length (by omega);rw[show dK 0=[] from rfl,show ((0:Nat):Int)=0 from rfl]at d;rw[d];have k:Iso g (A4 p g) (λi=>(p.length:Int)+i) (λi=>0<=i/\i<(g.length:Int)):=by
  refine⟨λi hi=>?_,λi hi a ha=>BD b.good ha,λi j hi o e=>by have e:(p.length:Int)+i=(p.length:Int)+j:=e;omega⟩;rw[AR,Q8 hi.1 hi.2];show A3 p.length (AR g i)=_;unfold A3;refine Sg λa _=>?_;show (a.1,a.2+(p.length:Int))=(a.1,(p.length:Int)+a.2);rw[Int.add_comm]
 have c:=(xJ k (pre:=dK p.length) (λi hi m=>by have:=pI m;omega) g.length [] 0 (λx n=>by cases n) ⟨by omega,by omega⟩).1;rw[AEm,Sq,AEq,A0A b]at c;rw[c];rw[List.range_add,gO,ACl,ACl];refine AD0 _ (Sg λi _=>?_);show (p.length:Int)+(i:Int)=((p.length+i:Nat):Int);omega
theorem Xg {h:AH} (h0:0<h.1.length) {p:List Int} {g:List AD} (d:VF h g) (l:FtP h p) (hp:p.length<=1000) (k:g.length<=10000):VF h (A4 p g):=by
 have n:=d.pos;have q:=Gl p g;refine⟨Tk hp d.good n k,by omega,λx c=>?_,λx c=>?_,λx c a ha=>?_,A0D d hp k,λi r s=>?_⟩
 ·rcases LQ c with ⟨i,hi,rfl⟩|⟨y,f,rfl⟩
  ·exact⟨by simp,by simp only;omega⟩
  ·exact d.ty y f
 ·rcases LQ c with ⟨i,hi,rfl⟩|⟨y,f,rfl⟩
  ·exact List.pairwise_singleton _ _
  ·exact PR (d.str y f)
 ·rcases LQ c with ⟨i,hi,rfl⟩|⟨y,f,rfl⟩
  ·have:a=(p.getD i 0,(i:Int)+1):=by simpa using ha
   rw[this];exact l _ (BC hi)
  ·obtain⟨b,m,rfl⟩:=IF.1 ha;exact d.ft y f b m
 ·by_cases hi:i<=(p.length:Int)
  ·refine⟨i-1,by omega,by omega,(p.getD (i-1).toNat 0,i-1+1),?_,by simp only;omega⟩;rw[AR,Tj (by omega) (by omega)];exact UF.2 rfl
  ·obtain⟨j,o,t,x,c,e⟩:=d.ro (i-p.length) (by omega) (by omega);refine⟨(p.length:Int)+j,by omega,by omega,(x.1,x.2+(p.length:Int)),?_,by simp only;omega⟩;rw[AR,Q8 o (by omega)];exact IF.2 ⟨x,c,rfl⟩
structure PF (h:AH) (S:List AD):Prop where
 good:AX S
 pos:0<S.length
 ty:EB h S
 str:∀x∈S,Nn x.2
 ft:∀x∈S,∀a∈x.2,0<=a.1/\a.1<(h.2.length:Int)
theorem VF.pf {h:AH} {f:List AD} (v:VF h f):PF h f:=⟨v.good,v.pos,v.ty,v.str,v.ft⟩
theorem Xh {Q R:List AD} {b:Int->Int} {c:Int->Prop} (h:Iso Q R b c) (l:AX Q) {r:Int} (k:c r) (s:0<=r) (t:r<(Q.length:Int)) (u:Q.length<=R.length)
  (m:∀i,c i->(R.getD (b i).toNat (0,[])).1=(Q.getD i.toNat (0,[])).1):AO R (b r)=AO Q r:=by
 have f:DZ R R.length [] (b r)=(DZ Q Q.length [] r).map b/\∀x∈DZ Q Q.length [] r,c x:=by
  have h1:=Qv h R.length [] r (λx p=>by cases p) k;have g:=Qu l (n:=r) s t (R.length-Q.length);rw[show Q.length+(R.length-Q.length)=R.length by omega]at g;rw[g]at h1;exact h1
 unfold AO;rw[f.1];generalize DZ Q Q.length [] r=o at *;rw[ACl];refine Sg λi hi=>?_;have d:=f.2 i hi;show Dq R (o.map b) (b i)=Dq Q o i;unfold Dq;have j:(R.getD (b i).toNat (0,[])).2=(AR Q i).map λa=>(a.1,b a.2):=h.arc i d;rw[m i d,j,ACl];refine AD0 _ (Sg λa ha=>?_);show (a.1,B8 (o.map b) (b a.2))=(a.1,B8 o a.2);rw[oX λy q e=>h.inj y a.2 (f.2 y q) (h.cl i d a ha) e]
def Tl (f:List AD) (e:Int):List (Int×Int):=(f.getD 0 (0,[])).2.filter λa=>a.1 != e
def Q9 (f:List AD) (e:Int):List AD:=((f.getD 0 (0,[])).1,A3 1 (Tl f e)) :: f.map λx=>(x.1,A3 1 x.2)
def RB (f:List AD) (e:Int):List AD:=AO (Q9 f e) 0
def M0 (f:List AD) (e:Int):List AD:=f++[((f.getD 0 (0,[])).1,Tl f e)]
theorem Zz (f:List AD) (e:Int):(Q9 f e).length=f.length+1:=by simp[Q9]
theorem A7m {f:List AD} {e i:Int} (c:0<=i) (d:i<(f.length:Int)):(Q9 f e).getD (i+1).toNat (0,[])=((f.getD i.toNat (0,[])).1,A3 1 (f.getD i.toNat (0,[])).2):=by
 have a:(i+1).toNat=i.toNat+1:=by omega
 have b:i.toNat<f.length:=by omega
 rw[a];simp[Q9,AS,b]
theorem Xi {f:List AD} {e:Int} {a:Int×Int} (h:a∈Tl f e):a∈AR f 0:=(ACV.1 h).1
theorem Xj {b:Nat} {l:List (Int×Int)} {a:Int×Int}:a∈A3 b l↔∃x∈l,a=(x.1,x.2+(b:Int)):=by
 unfold A3;rw[IF];exact⟨λ⟨x,h1,c⟩=>⟨x,h1,c.symm⟩,λ⟨x,h1,c⟩=>⟨x,h1,c.symm⟩⟩
theorem pJ {f:List AD} (hs:∀x∈f,Nn x.2) (e:Int):Nn (Tl f e):=(Mu hs 0).filter _
theorem pK {h:AH} {f:List AD} (v:PF h f) (p:f.length<=10000) (e:Int):PF h (Q9 f e):=by
 have hp:=v.pos;have h0:f.getD 0 (0,[])∈f:=AE f (0,[]) hp;have k:∀x∈Q9 f e,x=((f.getD 0 (0,[])).1,A3 1 (Tl f e))\/∃y∈f,x=(y.1,A3 1 y.2):=λx c=>by
  rcases Do.1 c with rfl|c
  ·exact .inl rfl
  ·obtain⟨y,d,rfl⟩:=IF.1 c;exact .inr ⟨y,d,rfl⟩
 have o:=Zz f e;have j:∀x∈Q9 f e,∃y∈f,x.1=y.1/\x.2.length<=y.2.length/\∀a∈x.2,∃b∈y.2,a=(b.1,b.2+1):=λx c=>by
  rcases k x c with rfl|⟨y,d,rfl⟩
  ·refine⟨_,h0,rfl,?_,λa ha=>?_⟩
   ·show (List.map _ _).length<=_;rw[SX];exact aS _ _
   ·obtain⟨b,g,rfl⟩:=Xj.1 ha;exact⟨b,Xi g,rfl⟩
  ·refine⟨y,d,rfl,?_,λa ha=>?_⟩
   ·show (List.map _ _).length<=_;rw[SX];exact NO _
   ·obtain⟨b,g,rfl⟩:=Xj.1 ha;exact⟨b,g,rfl⟩
 refine⟨⟨by omega,λx c=>?_⟩,by omega,λx c=>?_,λx c=>?_,λx c a ha=>?_⟩
 ·obtain⟨y,d,-,n,i⟩:=j x c;have m:=v.good.2 y d;refine⟨by omega,λa ha=>?_⟩;obtain⟨b,g,rfl⟩:=i a ha;have:=m.2 b g;try simp only
  omega
 ·obtain⟨y,d,l,-,-⟩:=j x c;rw[l];exact v.ty y d
 ·rcases k x c with rfl|⟨y,d,rfl⟩
  ·exact PR (pJ v.str e)
  ·exact PR (v.str y d)
 ·obtain⟨y,d,-,-,i⟩:=j x c;obtain⟨b,g,rfl⟩:=i a ha;exact v.ft y d b g
theorem A9e {h:AH} {f:List AD} (v:PF h f) (k:f.length<=10000) (e:Int):AO (M0 f e) (f.length:Int)=RB f e:=by
 have n:=Zz f e;have hp:=v.pos;have g:=λi b c=>A7m (f:=f) (e:=e) (i:=i) b c;have hn:(M0 f e).getD f.length (0,[])=((f.getD 0 (0,[])).1,Tl f e):=by simp[M0,AS]
 have hi:∀i:Int,0<=i->i<(f.length:Int)->(M0 f e).getD i.toNat (0,[])=f.getD i.toNat (0,[]):=λi b c=>by
  have:i.toNat<f.length:=by omega
  simp[M0,AS,Sp this]
 have m:∀l:List (Int×Int),(∀a∈l,0<=a.2)->l=(A3 1 l).map λa=>(a.1,if a.2=0 then (f.length:Int) else a.2-1):=λl h1=>by
  unfold A3;rw[ACl];refine(AF1 l).symm.trans (Sg λa ha=>?_);have:=h1 a ha;show a=(a.1,if a.2+((1:Nat):Int)=0 then _ else a.2+((1:Nat):Int)-1);rw[An (by omega)];exact AF2 rfl (by simp only;omega)
 have o:Iso (Q9 f e) (M0 f e) (λi=>if i=0 then (f.length:Int) else i-1) (λi=>0<=i/\i<(f.length:Int)+1):=by
  refine⟨λi ⟨b,c⟩=>?_,λi ⟨b,c⟩ a ha=>?_,λi j ⟨b,c⟩ ⟨p,q⟩ d=>?_⟩
  ·by_cases h0:i=0
   ·subst h0;simp only[ACF];rw[AR,Se,hn];exact m _ λa ha=>(BD v.good (Xi ha)).1
   ·simp only[An h0];rw[AR,hi _ (by omega) (by omega),AR,show i=(i-1)+1 by omega,g _ (by omega) (by omega),show i-1+1-1=i-1 by omega];exact m _ λa ha=>(BD v.good ha).1
  ·have:=BD (pK v k e).good ha;omega
  ·try simp only at d
   split at d<;>split at d<;>omega
 have:=Xh o (pK v k e).good (r:=0) ⟨by omega,by omega⟩ (by omega) (by omega) (by rw[n];simp[M0]) λi ⟨b,c⟩=>by
  by_cases h0:i=0
  ·subst h0;simp only[ACF];rw[Se,hn];rfl
  ·simp only[An h0];rw[hi _ (by omega) (by omega),show i=(i-1)+1 by omega,g _ (by omega) (by omega),show i-1+1-1=i-1 by omega]
 simp only[ACF]at this;exact this
def xK (s:ByteArray):Nat->List HA->Int
 | _,[]=>-1
 | k,x :: l=>if AY x.1 s=true then (k:Int) else xK s (k+1) l
def Hu (h:AH) (s:ByteArray):Int:=xK s 0 h.1
def ftG (s:ByteArray):Nat->List ZF->Int
 | _,[]=>-1
 | k,x :: l=>if AY x.1 s=true then (k:Int) else ftG s (k+1) l
def X2 (h:AH) (s:ByteArray):Int:=ftG s 0 h.2
theorem xL (s:ByteArray):∀(l:List HA) (k:Nat),xK s k l=-1\/((k:Int)<=xK s k l/\xK s k l<((k+l.length:Nat):Int))
 | [],_=>.inl rfl
 | x :: l,k=>by
  unfold xK;split
  ·exact .inr ⟨ADZ _,by simp only[OS];omega⟩
  ·have:=xL s l (k+1);simp only[OS];omega
theorem xM (s:ByteArray):∀(l:List ZF) (k:Nat),ftG s k l=-1\/((k:Int)<=ftG s k l/\ftG s k l<((k+l.length:Nat):Int))
 | [],_=>.inl rfl
 | x :: l,k=>by
  unfold ftG;split
  ·exact .inr ⟨ADZ _,by simp only[OS];omega⟩
  ·have:=xM s l (k+1);simp only[OS];omega
theorem HI (h:AH) (s:ByteArray):-1<=Hu h s/\Hu h s<(h.1.length:Int):=by
 have:=xL s h.1 0;unfold Hu;omega
theorem dL (h:AH) (s:ByteArray):-1<=X2 h s/\X2 h s<(h.2.length:Int):=by
 have:=xM s h.2 0;unfold X2;omega
structure LW where
 list:Int
 cons:Int
 null:Int
 dlist:Int
 first:Int
 rest:Int
 head:Int
 last:Int
def sb (l:List UInt8):ByteArray:=⟨l.toArray⟩
def BG (h:AH):LW:=⟨Hu h (sb [108,105,115,116]),Hu h (sb [99,111,110,115]),Hu h (sb [110,117,108,108]),Hu h (sb [100,108,105,115,116]),X2 h (sb [70,73,82,83,84]),X2 h (sb [82,69,83,84]),X2 h (sb [76,73,83,84]),X2 h (sb [76,65,83,84])⟩
def PT (h:AH):Bool:=decide (0<=(BG h).list/\0<=(BG h).cons/\0<=(BG h).null/\0<=(BG h).dlist/\0<=(BG h).first/\0<=(BG h).rest/\0<=(BG h).head/\0<=(BG h).last)&&A7 h (BG h).list (BG h).cons&&A7 h (BG h).list (BG h).null
def RC (w:LW) (row:List (Int×Int)):Bool:=decide (Db row w.first<0)&&decide (Db row w.rest<0)
def Tm (w:LW) (row:List (Int×Int)):Bool:=decide (0<=Db row w.first)&&decide (0<=Db row w.rest)
def UE (h:AH) (w:LW) (x:AD):Bool:=A7 h w.null x.1&&RC w x.2
def Lm (h:AH) (w:LW) (x:AD):Bool:=A7 h w.cons x.1&&Tm w x.2
def OP (h:AH) (w:LW) (x:AD):Bool:=A7 h x.1 w.cons&&RC w x.2
def BQ (h:AH) (w:LW) (x:AD):Int:=if UE h w x=true then 1 else if Lm h w x=true then 2 else if OP h w x=true then 3 else 0
def RD (h:AH) (w:LW) (f:List AD):Nat->List Int->List Int->Int->List Int×Bool×Int
 | 0,_,_,_=>([],false,6)
 | k+1,a,out,n=>if n∈a then ([],false,6) else
  if BQ h w (f.getD n.toNat (0,[]))=1 then (out,true,0) else if BQ h w (f.getD n.toNat (0,[]))=3 then (out,false,0) else if BQ h w (f.getD n.toNat (0,[]))=0 then ([],false,13)
  else RD h w f k (a++[n]) (out++[Db (f.getD n.toNat (0,[])).2 w.first]) (Db (f.getD n.toNat (0,[])).2 w.rest)
def Ak (h:AH) (f:List AD) (n:Int):List Int×Bool×Int:=if PT h=true then RD h (BG h) f (f.length+1) [] [] n else ([],false,5)
theorem Z0 {h:AH} {w:LW} {x:AD} (e:BQ h w x=2):0<=Db x.2 w.first/\0<=Db x.2 w.rest:=by
 unfold BQ at e;split at e
 ·cases e
 ·split at e
  ·rename_i a;unfold Lm Tm at a;simp only[AT,Fj]at a;exact a.2
  ·split at e<;>cases e
theorem pL {h:AH} (e:PT h=true):(0<=(BG h).first/\0<=(BG h).rest)/\0<=(BG h).cons/\0<=(BG h).null/\0<=(BG h).list/\0<=(BG h).dlist/\0<=(BG h).head/\0<=(BG h).last:=by
 unfold PT at e;rw[AT,AT,Fj]at e;obtain⟨⟨⟨h1,a,b,c,d,f,g,i⟩,-⟩,-⟩:=e;exact⟨⟨d,f⟩,a,b,h1,c,g,i⟩
def shN (b:Nat) (g:List AD) (i:Nat):List AD:=(g.take i).map λx:AD=>(x.1,A3 b x.2)
theorem A56 (b:Nat) (g:List AD) {i:Nat} (h:i<g.length):shN b g (i+1)=shN b g i++[((g.getD i (0,[])).1,A3 b (g.getD i (0,[])).2)]:=by
 unfold shN;rw[A0 g (0,[]) h,gO];rfl
theorem A7n (b:Nat) (g:List AD):shN b g g.length=g.map λx:AD=>(x.1,A3 b x.2):=by
 unfold shN;rw[Sf]
theorem A7o (b:Nat) (g:List AD) {i:Nat} (h:i<=g.length):(shN b g i).length=i:=by
 unfold shN;rw[SX,OR];omega
def uB:Ac:={ ins:=[F3,Dw],pre:=λ(p,g,_)=>List.length p<=1000/\AX g,out:=λ(p,g,_)=>[.p Dw (A4 p g)] }
theorem A57:Ad Tryz.prog 141 uB:=by
 refine fKP [0,1,3,4,5,6,7,9,10,12,13,14,15,16,33,34,35,36,43,44,45,46] [26] [] Tryz.func141 Tryz.ntmps141 AG ?_;rintro w0 O0 ⟨p,g,u⟩ e-⟨hp,f⟩;have I:=f.1;simp only[uB,AM];repeat'(first|exact trivial|refine eS rfl ?_|refine AB ?_|refine rX e ?_ ?_|refine rC ?_ ?_<;>intro b<;>try(cases b;done))
 refine AK (ι:={k:Nat//k<=p.length}) (λk=>⟨[(0,.p F3 p),(3,.bp 3 [] 0),(4,.bp 4 [] 0),(5,.bp 5 [] 0),(13,.p F3 p),(14,.p (.int .i64) (p.length:Int)),(15,.p (.int .i64) (k.1:Int))],[(3,.box 25 true [.p Fe g]),(4,.box 25 true [.raw (.slice none 0 0)]),(5,.box 25 true [.sr 29 NN 0 (HW p k.1).length]),(29,.arr 93 NN (HW p k.1))]⟩) (λk=>p.length-k.1) ⟨0,IN _⟩ (AC [(3,.nm 3),(4,.nm 4),(5,.nm 5),(29,.nil)] rfl rfl ?_ ?_) (λk=>?_)
 ·first|exact eN|refine eM ?_
  exact⟨rfl,rfl⟩
 ·first|exact eN|refine eM ?_
 ·obtain⟨k,hk⟩:=k;have B:=Iu p k;repeat'(first|exact trivial|refine eS rfl ?_|refine AB ?_|refine rX e ?_ ?_|refine rC ?_ ?_<;>intro b<;>try(cases b;done))
  ·exact b
  ·have n:k<p.length:=If.1 b;refine⟨⟨by omega,by omega⟩,?_⟩;rw[B];simp only[AP];omega
  ·omega
  ·have n:k<p.length:=If.1 b;have hs:=pF p k;refine⟨⟨k+1,n⟩,by simp only;omega,AC [(3,.nm 3),(4,.nm 4),(5,.nm 5),(29,.nm 29)] rfl rfl ?_ ?_⟩
   ·simp only[hs];first|exact eN|refine eM ?_
   ·first|exact eN|refine eM ?_
  ·have D:k=p.length:=by
    have:=Sb.1 b;omega
   subst D;obtain⟨t,m⟩:∃c,HW p p.length=c:=⟨_,rfl⟩;have A:=Iu p p.length;have s:t++g.map (λx:AD=>(x.1,A3 p.length x.2))=A4 p g:=by rw[<-m];rfl
   generalize HW p p.length=ch at *;subst m;refine AK (ι:={i:Nat//i<=g.length}) (λi=>⟨[(0,.p F3 p),(3,.bp 3 [] 0),(4,.bp 4 [] 0),(5,.bp 5 [] 0),(33,.p Fe g),(34,.p (.int .i64) (g.length:Int)),(35,.p (.int .i64) (i.1:Int))],[(3,.box 25 true [.p Fe g]),(4,.box 25 true [.raw (.slice none 0 0)]),(5,.box 25 true [.sr 29 NN 0 (ch++shN p.length g i.1).length]),(29,.arr 93 NN (ch++shN p.length g i.1))]⟩) (λi=>g.length-i.1) ⟨0,IN _⟩ (AC [(3,.nm 3),(4,.nm 4),(5,.nm 5),(29,.nm 29)] rfl rfl ?_ ?_) (λi=>?_)
   ·have v:ch++shN p.length g 0=ch:=by simp[shN]
    simp only[v];first|exact eN|refine eM ?_
   ·first|exact eN|refine eM ?_
   ·obtain⟨i,hi⟩:=i;have E:=A7o p.length g hi;have r:=λh:i<g.length=>A56 p.length g h;simp only;generalize o:shN p.length g i=os at *;repeat'(first|exact trivial|refine eS rfl ?_|refine AB ?_|refine rX e ?_ ?_|refine rC ?_ ?_<;>intro b<;>try(cases b;done))
    ·exact b
    ·have l:i<g.length:=If.1 b;have q:=Wz f i;have G:(g.getD i (0,[])).2.length<=100000:=(f.2 _ (AE g (0,[]) l)).1;generalize L:g.getD i (0,[])=x at *;obtain⟨H,xs⟩:=x;simp only at q G r ⊢;refine AK (ι:={j:Nat//j<=xs.length}) (λj=>⟨[(0,.p F3 p),(3,.bp 3 [] 0),(4,.bp 4 [] 0),(5,.bp 5 [] 0),(10,.bp 10 [] 0),(33,.p Fe g),(34,.p (.int .i64) (g.length:Int)),(35,.p (.int .i64) (i:Int)),(43,.p DN xs),(44,.p (.int .i64) (xs.length:Int)),(45,.p (.int .i64) (j.1:Int))],[(3,.box 25 true [.p Fe g]),(4,.box 25 true [.raw (.slice none 0 0)]),(5,.box 25 true [.sr 29 NN 0 (ch++os).length]),(29,.arr 93 NN (ch++os)),(10,.box 93 true [.p T3 H,.sr 60 AU 0 (A3 p.length (xs.take j.1)).length]),(60,.arr 106 AU (A3 p.length (xs.take j.1)))]⟩) (λj=>xs.length-j.1) ⟨0,IN _⟩ (AC [(3,.nm 3),(4,.nm 4),(5,.nm 5),(29,.nm 29),(10,.nm 10),(60,.nil)] rfl rfl ?_ ?_) (λj=>?_)
     ·first|exact eN|refine eM ?_
      exact⟨rfl,rfl⟩
     ·first|exact eN|refine eM ?_
     ·obtain⟨j,J⟩:=j;have w:(A3 p.length (xs.take j)).length=j:=by unfold A3;rw[SX,OR];omega
      have y:=λh:j<xs.length=>EW (λa:Int×Int=>(a.1,a.2+(p.length:Int))) xs (0,0) h;simp only;repeat'(first|exact trivial|refine eS rfl ?_|refine AB ?_|refine rX e ?_ ?_|refine rC ?_ ?_<;>intro b<;>try(cases b;done))
      ·exact b
      ·have d:j<xs.length:=If.1 b;have K:=q _ (AE xs (0,0) d);refine⟨⟨by omega,by omega⟩,?_⟩;rw[w];simp only[AP];omega
      ·omega
      ·have d:j<xs.length:=If.1 b;have z:A3 p.length (xs.take (j+1))=A3 p.length (xs.take j)++[((xs.getD j (0,0)).1,(xs.getD j (0,0)).2+(p.length:Int))]:=y d;refine⟨⟨j+1,d⟩,by simp only;omega,AC [(3,.nm 3),(4,.nm 4),(5,.nm 5),(29,.nm 29),(10,.nm 10),(60,.nm 60)] rfl rfl ?_ ?_⟩
       ·simp only[z];first|exact eN|refine eM ?_
       ·first|exact eN|refine eM ?_
      ·rw[A,E];simp only[AP];omega
      ·omega
      ·have d:xs.take j=xs:=At (Sb.1 b);have F:=r l;rw[d];refine⟨⟨i+1,l⟩,by simp only;omega,AC [(3,.nm 3),(4,.nm 4),(5,.nm 5),(29,.nm 29)] rfl rfl ?_ ?_⟩
       ·simp only[F,<-Sm];first|exact eN|refine eM ?_
       ·first|exact eN|refine eM ?_
    ·have C:i=g.length:=by
      have:=Sb.1 b;omega
     subst C;rw[A7n]at o;rw[o]at s;exact fI e [.cell 4 25] (by rw[<-s];exact eR)
def E4 (l:List (Int×Int)) (e:Int):Int×Bool:=match l with
 | []=>(0,false)
 | a :: l=>if a.1=e then (a.2,true) else E4 l e
theorem Xk (e:Int) (l:List (Int×Int)) {k:Nat} (h:k<l.length):E4 (l.drop k) e=if (l.getD k (0,0)).1=e then ((l.getD k (0,0)).2,true) else E4 (l.drop (k+1)) e:=by
 rw[On h];have e:l.getD k (0,0)=l[k]:=by simp[AS,h]
 rw[e];rfl
def A58:Ac:={ ins:=[Dw,T3,T3],pre:=λ(f,n,_,_)=>Dp f/\0<=n/\n<(List.length f:Int),out:=λ(f,n,e,_)=>[.p T3 (E4 (List.getD f n.toNat (0,[])).2 e).1,.p .bool (E4 (List.getD f n.toNat (0,[])).2 e).2] }
theorem A7p:Ad Tryz.prog 123 A58:=by
 refine fK [0,1,2,3,6,7,9,15,16,17,18,24] Tryz.func123 Tryz.ntmps123 AG ?_;rintro w0 O0 ⟨f,n,e,u⟩ c-⟨hf,h0,h1⟩;simp only[A58,AM];repeat'(first|exact trivial|refine eS rfl ?_|refine AB ?_|refine rX c ?_ ?_|refine rC ?_ ?_<;>intro a<;>try(cases a;done))
 ·exact⟨h0,h1⟩
 ·generalize g:(f.getD n.toNat (0,[])).2=xs at *;have i:xs.length<=100000:=by
   rw[<-g];have hn:n.toNat<f.length:=by
    have h0:(0:Int)<=n:=h0;have h1:(n:Int)<(List.length f:Int):=h1;exact(AEp h0).2 h1
   exact hf.2 _ (AE f (0,[]) hn)
  refine AK (ι:={k:Nat//k<=xs.length/\E4 xs e=E4 (xs.drop k) e}) (λk=>⟨[(2,.p T3 e),(15,.p DN xs),(16,.p (.int .i64) (xs.length:Int)),(17,.p (.int .i64) (k.1:Int))],[]⟩) (λk=>xs.length-k.1) ⟨0,IN _,rfl⟩ (AC [] rfl rfl ?_ ?_) (λk=>?_)
  ·first|exact eN|refine eM ?_
  ·first|exact eN|refine eM ?_
  ·obtain⟨k,hk,d⟩:=k;repeat'(first|exact trivial|refine eS rfl ?_|refine AB ?_|refine rX c ?_ ?_|refine rC ?_ ?_<;>intro a<;>try(cases a;done))
   ·exact a
   ·have b:k<xs.length:=If.1 (by assumption);have h:=Xk e xs b;rw[BY a]at h;rw[d,h];exact fI c [.tmp 6,.tmp 7]
   ·omega
   ·have b:k<xs.length:=If.1 (by assumption);have h:=Xk e xs b;rw[An a]at h;refine⟨⟨k+1,b,d.trans h⟩,by simp only;omega,AC [] rfl rfl ?_ ?_⟩
    ·first|exact eN|refine eM ?_
    ·first|exact eN|refine eM ?_
   ·have b:xs.drop k=[]:=By (Sb.1 a);rw[b]at d;rw[d];exact fI c [.tmp 6,.tmp 7] (by first|exact eR|refine Xy ?_;exact⟨rfl,rfl⟩)
section
attribute [local go_sem] A58
def Dd (f:List AD):Int->List Int->Int×Bool
 | n,[]=>(n,true)
 | n,e :: p=>if (E4 (AR f n) e).2=true then Dd f (E4 (AR f n) e).1 p else (0,false)
theorem KW {p:List Int} {k:Nat} (h:k<p.length):p.drop k=p.getD k 0 :: p.drop (k+1):=by
 rw[On h];simp[AS,h]
theorem Xl {l:List (Int×Int)} {e:Int} (h:(E4 l e).2=true):∃a∈l,a.1=e/\a.2=(E4 l e).1:=by
 induction l with
 | nil=>simp[E4]at h
 | cons a l g =>
  simp only[E4]at h ⊢;split
  ·rename_i c;exact⟨a,by simp,c,rfl⟩
  ·rename_i c;rw[An c]at h;obtain⟨b,f,h1,d⟩:=g h;exact⟨b,by simp[f],h1,d⟩
theorem A0E {l:List (Int×Int)} (hs:Nn l) (hn:∀a∈l,0<=a.2) (e:Int):E4 l e=if X0 l e<0 then (0,false) else (X0 l e,true):=by
 cases h:(E4 l e).2 with
 | true =>
  obtain⟨a,ha,g,i⟩:=Xl h;have d:=wT hs ha;rw[g]at d;have:=hn a ha;rw[An (by omega),d,i,<-h]
 | false =>
  have c:∀a∈l,a.1≠e:=by
   intro a ha g;clear hs hn;induction l with
   | nil=>cases ha
   | cons b l f =>
    simp only[E4]at h;split at h
    ·cases h
    ·rename_i j;rcases Do.1 ha with rfl|ha
     ·exact j g
     ·exact f h ha
  have d:X0 l e=-1:=by
   unfold X0;clear hs hn h;generalize (-1:Int)=t;induction l with
   | nil=>rfl
   | cons b l f =>
    rw[ON,An (c b (by simp))];exact f (λa ha=>c a (by simp[ha]))
  have h0:(E4 l e).1=0:=by
   clear hs hn d;induction l with
   | nil=>rfl
   | cons b l f =>
    simp only[E4];rw[An (c b (by simp))];refine f ?_ (λa ha=>c a (by simp[ha]));simp only[E4]at h
    rwa [An (c b (by simp))]at h
  rw[d,BY (by decide),<-h0,<-h]
theorem Xm {f:List AD} (hf:AX f) (hs:∀x∈f,Nn x.2):∀(p:List Int) (n:Int),Dd f n p=match ER f n p with|some m=>(m,true)|none=>(0,false)
 | [],n=>rfl
 | e :: p,n=>by
  have h:=A0E (Mu hs n) (λa ha=>(BD hf ha).1) e;simp only[Dd,ER];rw[h];by_cases b:X0 (AR f n) e<0
  ·rw[BY b,BY b];rfl
  ·rw[An b,An b];exact Xm hf hs p _
def atS:Ac:={ ins:=[Dw,F3],pre:=λ(f,_,_)=>AX f/\0<List.length f,out:=λ(f,p,_)=>[.p T3 (Dd f 0 p).1,.p .bool (Dd f 0 p).2] }
attribute [local go_sem] atS
theorem ACG:Ad Tryz.prog 68 atS:=by
 refine fK [0,1,2,4,5,6,8,9,10,11,12,13,14,25] Tryz.func68 Tryz.ntmps68 (AF A7p AG) ?_;rintro w0 O0 ⟨f,p,u⟩ e ⟨-,⟨i,-⟩,-⟩ ⟨hf,h0⟩;simp only[AP]at i;simp only[atS,AM];have j:Dp f:=⟨hf.1,λx l=>(hf.2 x l).1⟩;have h0:0<f.length:=h0;repeat'(first|exact trivial|refine eS rfl ?_|refine AB ?_|refine rX e ?_ ?_|refine rC ?_ ?_<;>intro b<;>try(cases b;done))
 refine AK (ι:={s:Nat×Int//s.1<=p.length/\(0<=s.2/\s.2<(f.length:Int))/\Dd f 0 p=Dd f s.2 (p.drop s.1)}) (λs=>⟨[(2,.bp 2 [] 0),(6,.p T3 s.1.2),(11,.p F3 p),(12,.p (.int .i64) (p.length:Int)),(13,.p (.int .i64) (s.1.1:Int))],[(2,.box 25 true [.p Fe f])]⟩) (λs=>p.length-s.1.1) ⟨(0,0),IN _,⟨ADZ 0,by show (0:Int)<_;omega⟩,rfl⟩ (AC [(2,.nm 2)] rfl rfl ?_ ?_) (λs=>?_)
 ·first|exact eN|refine eM ?_
 ·first|exact eN|refine eM ?_
 ·obtain⟨⟨k,n⟩,hk,hn,d⟩:=s;simp only at hk hn d ⊢;repeat'(first|exact trivial|refine eS rfl ?_|refine AB ?_|refine rX e ?_ ?_|refine rC ?_ ?_<;>intro b<;>try(cases b;done))
  ·exact b
  ·exact⟨j,hn⟩
  ·have c:k<p.length:=If.1 (by assumption);have h1:Dd f 0 p=(0,false):=by
    rw[d,KW c];simp only[Dd];rw[An (by rw[b];simp)]
   exact fI e [.tmp 4,.tmp 5] (by rw[h1];exact eR)
  ·omega
  ·have c:k<p.length:=If.1 (by assumption);have h1:=d;rw[KW c]at h1;simp only[Dd]at h1;rw[BY b]at h1;obtain⟨a,ha,-,h⟩:=Xl b;have g:=BD hf ha;rw[h]at g;refine⟨⟨(k+1,(E4 (f.getD n.toNat (0,[])).2 (p.getD k 0)).1),c,g,h1⟩,by simp only;omega,AC [(2,.nm 2)] rfl rfl ?_ ?_⟩
   ·first|exact eN|refine eM ?_
   ·first|exact eN|refine eM ?_
  ·have c:p.drop k=[]:=By (Sb.1 b);rw[c]at d;exact fI e [.tmp 4,.tmp 5] (by rw[d];first|exact eR|refine Xy ?_;exact⟨rfl,rfl⟩)
end
def BR (h:AH):Int:=X2 h (sb [65,82,71,83])
def Lt (h:AH) (i:Nat):List Int:=BR h :: (List.replicate i (BG h).rest++[(BG h).first])
theorem xN (h:AH) (i:Nat):(Lt h i).length=i+2:=by simp[Lt]
def Iw (pl:Nat->List Int):Nat->List (List AD)->List (List AD)
 | _,[]=>[]
 | i,k :: l=>A4 (pl i) k :: Iw pl (i+1) l
noncomputable def Ce (h:AH) (pl:Nat->List Int):Nat->List AD->List (List AD)->List AD×Bool
 | _,f,[]=>(f,true)
 | i,f,k :: l=>if (HX h f (A4 (pl i) k)).2=true then Ce h pl (i+1) (HX h f (A4 (pl i) k)).1 l else ([],false)
theorem Xn {pl:Nat->List Int} {x:List AD}:∀ {l:List (List AD)} {i:Nat},x∈Iw pl i l->∃j,j<l.length/\x=A4 (pl (i+j)) (l.getD j [])
 | k :: l,i,h=>by
  rcases Do.1 h with rfl|h
  ·exact⟨0,by simp,rfl⟩
  ·obtain⟨j,a,rfl⟩:=Xn h;exact⟨j+1,by simpa using a,by rw[show i+(j+1)=i+1+j by omega];rfl⟩
theorem Xo {h:AH} {pl:Nat->List Int}:∀ {l:List (List AD)} {i:Nat} {f:List AD},(∀x∈Iw pl i l,x.length<=100)->(Ce h pl i f l).1.length<=f.length+100*l.length
 | [],i,f,_=>NO _
 | k :: l,i,f,c=>by
  unfold Ce;split
  ·have h1:=dJ (h:=h) (a:=f) (b:=A4 (pl i) k);have e:=c _ (ADp (a:=A4 (pl i) k) (l:=Iw pl (i+1) l));have g:=Xo (h:=h) (pl:=pl) (l:=l) (i:=i+1) (f:=(HX h f (A4 (pl i) k)).1) λx d=>c x (OF _ d);simp only[OS];omega
  ·simp
section
variable {h:AH} (hh:t8 h)
include hh
theorem Xp {pl:Nat->List Int}:∀(l:List (List AD)) (i:Nat) (f:List AD) (L:List (List AD)),Mz h L (f,true)->(∀x∈L,VF h x)->(∀x∈Iw pl i l,VF h x/\x.length<=100)->f.length+100*l.length<=10000->Mz h (L++Iw pl i l) (Ce h pl i f l)
 | [],i,f,L,H,o,q,r=>by
  show Mz h (L++[]) (f,true);rw[Sq];exact H
 | k :: l,i,f,L,H,o,q,r=>by
  have hu:=q _ (ADp (a:=A4 (pl i) k) (l:=Iw pl (i+1) l));have g:=H.vf rfl;simp only[OS]at r;have v:=dJ (h:=h) (a:=f) (b:=A4 (pl i) k);have hs:Mz h (L++[A4 (pl i) k]) (HX h f (A4 (pl i) k)):=by
   refine(xI hh g.wt.1 hu.1 (by have:=hu.2;show f.length+_<=10000;omega)).congr λX j=>?_;rw[Xe,Ht];constructor
   ·rintro⟨⟨m,d⟩,s⟩ x t;rcases No.1 t with c|c
    ·exact A54 hh.ok o g.wt.1 j.1 g.hom d x c
    ·rw[UF.1 c];exact s
   ·intro n;exact⟨g.least X j λx d=>n x (UG _ d),n _ (ADx _ (UF.2 rfl))⟩
  show Mz h (L++A4 (pl i) k :: Iw pl (i+1) l) (Ce h pl i f (k :: l));unfold Ce;split
  ·rename_i p;have:=Xp l (i+1) (HX h f (A4 (pl i) k)).1 (L++[A4 (pl i) k]) (by rw[<-p];exact hs) (λx d=>by
    rcases No.1 d with c|c
    ·exact o x c
    ·rw[UF.1 c];exact hu.1) (λx d=>q x (OF _ d)) (by omega)
   rwa [Sm,List.singleton_append]at this
  ·rename_i p;refine .inr ⟨rfl,λX j n=>?_⟩;rcases hs with ⟨e,-⟩|⟨-,u⟩
   ·exact p e
   ·refine u X j λx d=>n x ?_;rcases No.1 d with c|c
    ·exact UG _ c
    ·exact ADx _ (by rw[UF.1 c];exact ADp)
omit hh in
theorem A0F {f:List AD} (a:Wt h f):Mz h [f] (f,true):=.inl ⟨rfl,a,Ht.2 ⟨id,c6 a.1.str⟩,λ_ _ b=>Ht.1 b⟩
end
theorem pM {h:AH} {f:List AD} (vf:VF h f) {n e:Int} (h0:0<=Db (AR f n) e) (p:List Int):ER f n (e :: p)=ER f (Db (AR f n) e) p:=by
 show (if X0 (AR f n) e<0 then none else ER f (X0 (AR f n) e) p)=_;rw[A9a (Mu vf.str n) h0,An (by omega)]
theorem Xq {h:AH} {w:LW} {f:List AD} (vf:VF h f):∀(k:Nat) (a out:List Int) (n:Int) (l:List Int) (b:Bool),RD h w f k a out n=(l,b,0)->∃t,l=out++t/\∀i,i<t.length->ER f n (List.replicate i w.rest++[w.first])=some (t.getD i 0)
 | 0,a,out,n,l,b,e=>by
  simp[RD]at e
 | k+1,a,out,n,l,b,e=>by
  unfold RD at e;split at e
  ·simp at e
  ·split at e
   ·have:=AD0 (λx=>x.1) e;exact⟨[],by rw[Sq];exact this.symm,λi hi=>by simp at hi⟩
   ·split at e
    ·have:=AD0 (λx=>x.1) e;exact⟨[],by rw[Sq];exact this.symm,λi hi=>by simp at hi⟩
    ·split at e
     ·simp at e
     ·rename_i h1 d h0;have c:BQ h w (f.getD n.toNat (0,[]))=2:=by
       unfold BQ at h1 d h0 ⊢;grind
      obtain⟨c1,c2⟩:=Z0 c;obtain⟨t,rfl,g⟩:=Xq vf k _ _ _ _ _ e;refine⟨Db (f.getD n.toNat (0,[])).2 w.first :: t,by simp,λi hi=>?_⟩;cases i with
      | zero=>exact pM vf c1 []
      | succ i =>
       rw[AEb,ADh,pM vf c2];exact g i (by simpa using hi)
theorem pN {h:AH} {f:List AD} {n:Int} {l:List Int} {b:Bool} (e:Ak h f n=(l,b,0)):PT h=true:=by
 unfold Ak at e;split at e
 ·assumption
 ·simp at e
theorem uC {h:AH} {f:List AD} (vf:VF h f) {n:Int} {l:List Int} {b:Bool} (a:ER f 0 [BR h]=some n) (e:Ak h f n=(l,b,0)) {i:Nat} (hi:i<l.length):ER f 0 (Lt h i)=some (l.getD i 0):=by
 unfold Ak at e;rw[BY (pN e)]at e;obtain⟨t,rfl,d⟩:=Xq vf _ _ _ _ _ _ e;have h1:=d i hi;have a:(if X0 (AR f 0) (BR h)<0 then none else some (X0 (AR f 0) (BR h)))=some n:=a;split at a
 ·cases a
 ·rename_i c;injection a with a
  show (if X0 (AR f 0) (BR h)<0 then none else ER f (X0 (AR f 0) (BR h)) _)=_;rw[An c,a];exact h1
theorem A59 {h:AH} (e:PT h=true) (ha:0<=BR h) (i:Nat):FtP h (Lt h i):=by
 obtain⟨⟨h1,b⟩,-⟩:=pL e;have c:=dL h (sb [70,73,82,83,84]);have d:=dL h (sb [82,69,83,84]);have f:=dL h (sb [65,82,71,83]);intro x a;rcases Do.1 a with rfl|a
 ·exact⟨ha,f.2⟩
 ·rcases No.1 a with a|a
  ·rw[(List.mem_replicate.1 a).2];exact⟨b,d.2⟩
  ·rw[UF.1 a];exact⟨h1,c.2⟩
def CS (h:AH) (ar:Int) (f:List AD):Int :=
 if ar<1\/2<ar then 2 else if Ag h f≠0 then Ag h f else if BR h<0 then 13 else if (Dd f 0 [BR h]).2=false then 13
 else if (Ak h f (Dd f 0 [BR h]).1).2.2≠0\/(Ak h f (Dd f 0 [BR h]).1).2.1=false\/((Ak h f (Dd f 0 [BR h]).1).1.length:Int)≠ar then 13 else 0
structure uD (h:AH) (ar:Int) (f:List AD):Prop where
 arb:1<=ar/\ar<=2
 chk:Ag h f=0
 args:0<=BR h
 lw:PT h=true
 walk:∀i:Nat,(i:Int)<ar->∃n,ER f 0 (Lt h i)=some n
theorem A7q {h:AH} {ar:Int} {f:List AD} (vf:Ag h f=0->VF h f) (e:CS h ar f=0):uD h ar f:=by
 unfold CS at e;split at e
 ·cases e
 ·rename_i h1;split at e
  ·rename_i a;exact absurd e a
  ·rename_i a;have a:Ag h f=0:=by simpa using a
   have v:=vf a;split at e
   ·cases e
   ·rename_i j;split at e
    ·cases e
    ·rename_i d;split at e
     ·cases e
     ·rename_i b;have hp:=Xm v.good v.str [BR h] 0;cases c:ER f 0 [BR h] with
      | none =>
       rw[c]at hp;rw[hp]at d;exact absurd rfl d
      | some n =>
       rw[c]at hp;have hp:Dd f 0 [BR h]=(n,true):=hp;rw[hp]at b;have b:(Ak h f n).2.2=0/\(Ak h f n).2.1=true/\((Ak h f n).1.length:Int)=ar:=by
        refine⟨?_,?_,?_⟩<;>grind
       have g:Ak h f n=((Ak h f n).1,true,0):=AF2 rfl (AF2 b.2.1 b.1);exact⟨by omega,a,by omega,pN g,λi hi=>⟨_,uC v c g (by omega)⟩⟩
section
open Go
end
section
attribute [local go_sem] uB SR atS Da
theorem VF.h0 {h:AH} {f:List AD} (vf:VF h f):0<h.1.length:=by
 have hp:=vf.pos;have:=vf.ty _ (AE f (0,[]) (k:=0) (by omega));omega
noncomputable def A0G (h:AH) (f:List AD) (p:List Int) (g:List AD):List AD×Bool:=Ee h f (A4 p g)
noncomputable def A9f:Ac:={ ins:=[Eg,Dw,F3,Dw],pre:=λ(h,f,p,g,_)=>HU h/\VF h f/\VF h g/\FtP h p/\List.length p<=20/\List.length f<=60/\List.length g<=20,out:=λ(h,f,p,g,_)=>[.p Dw (A0G h f p g).1,.p .bool (A0G h f p g).2] }
theorem A9g:Ad Tryz.prog 126 A9f:=by
 refine fK [0,1,2,3,4,5,7,8,9] Tryz.func126 Tryz.ntmps126 (AF A57 (AF A52 AG)) ?_;rintro w0 O0 ⟨⟨i,hf⟩,f,p,g,u⟩ a-⟨hu,vf,b,d,lp,lf,j⟩;have e:=Xg vf.h0 b d (by omega) (by omega);have h:=Gl p g;simp only[A9f,AM];repeat'(first|exact trivial|refine eS rfl ?_|refine AB ?_|refine rX a ?_ ?_|refine rC ?_ ?_<;>intro c<;>try(cases c;done))
 ·exact⟨⟨by omega,b.good⟩,hu,vf,e,by omega⟩
 ·exact fI a [.cell 8 25,.tmp 9] (by unfold A0G;exact eR)
end
noncomputable def GK (h:AH) (ar:Int) (f:List AD) (A:List (List AD)):List AD×Bool :=
 if (A.length:Int)≠ar then ([],false) else if (Ce h (Lt h) 0 f A).2=true then (RB (Ce h (Lt h) 0 f A).1 (BR h),true) else ([],false)
structure RA (h:AH) (ar:Int) (f:List AD) (A:List (List AD)):Prop where
 hh:t8 h
 top:A0t h
 vf:VF h f
 lf:f.length<=12
 ok:uD h ar f
 va:∀x∈A,VF h x/\x.length<=12
 la:A.length<=3
theorem RA.wt {h:AH} {ar:Int} {f:List AD} {A:List (List AD)} (r:RA h ar f A):Wt h f:=⟨r.vf,A0z r.ok.chk⟩
theorem RA.un {h:AH} {ar:Int} {f:List AD} {A:List (List AD)} (r:RA h ar f A):∀x∈Iw (Lt h) 0 A,VF h x/\x.length<=100:=λx b=>by
 obtain⟨j,a,rfl⟩:=Xn b;have hp:=xN h (0+j);have hk:=r.va _ (AE A [] a);have c:=r.la;exact⟨Xg r.vf.h0 hk.1 (A59 r.ok.lw r.ok.args _) (by omega) (by omega),by rw[Gl];omega⟩
theorem RA.all {h:AH} {ar:Int} {f:List AD} {A:List (List AD)} (r:RA h ar f A):Mz h (f :: Iw (Lt h) 0 A) (Ce h (Lt h) 0 f A) :=
 Xp r.hh A 0 f [f] (A0F r.wt) (by simp[r.vf]) r.un (by have:=r.lf;have:=r.la;omega)
theorem RA.len {h:AH} {ar:Int} {f:List AD} {A:List (List AD)} (r:RA h ar f A):(Ce h (Lt h) 0 f A).1.length<=312:=by
 have:=Xo (h:=h) (pl:=Lt h) (l:=A) (i:=0) (f:=f) λx a=>(r.un x a).2;have:=r.lf;have:=r.la;omega
theorem RA.res {h:AH} {ar:Int} {f:List AD} {A:List (List AD)} (r:RA h ar f A) (a:(GK h ar f A).2=true):(A.length:Int)=ar/\TU h (f :: Iw (Lt h) 0 A) (Ce h (Lt h) 0 f A).1/\GK h ar f A=(RB (Ce h (Lt h) 0 f A).1 (BR h),true):=by
 unfold GK at a ⊢;by_cases h1:(A.length:Int)≠ar
 ·rw[BY h1]at a;cases a
 ·rw[An h1]at a ⊢;by_cases b:(Ce h (Lt h) 0 f A).2=true
  ·rw[BY b];exact⟨by omega,r.all.vf b,rfl⟩
  ·rw[An b]at a;cases a
section
theorem pO (s:ByteArray) (l:List HA) {k:Nat} (h:k<l.length):xK s k (l.drop k)=if AY (l.getD k TT).1 s=true then (k:Int) else xK s (k+1) (l.drop (k+1)):=by
 rw[On h];have e:l.getD k TT=l[k]:=by simp[AS,h]
 rw[e];rfl
theorem pP (s:ByteArray) (l:List ZF) {k:Nat} (h:k<l.length):ftG s k (l.drop k)=if AY (l.getD k (ByteArray.empty,0)).1 s=true then (k:Int) else ftG s (k+1) (l.drop (k+1)):=by
 rw[On h];have e:l.getD k (ByteArray.empty,0)=l[k]:=by simp[AS,h]
 rw[e];rfl
def Z1:Ac:={ ins:=[Eg,T9],pre:=λ_=>True,out:=λ(h,s,_)=>[.p T3 (Hu h s)],lend:=true }
attribute [local go_sem] Z1
theorem Nh:Ad Tryz.prog 60 Z1:=by
 refine fK [0,1,2,4,5,10,20] Tryz.func60 Tryz.ntmps60 AG ?_;rintro w0 O0 ⟨⟨a,hf⟩,s,u⟩ e ⟨⟨⟨g,-⟩,-⟩,-⟩ -;simp only[AP]at g;simp only[Z1,AM];repeat'(first|exact trivial|refine eS rfl ?_|refine AB ?_|refine rX e ?_ ?_|refine rC ?_ ?_<;>intro b<;>try(cases b;done))
 refine AK (ι:={k:Nat//k<=a.length/\xK s k (a.drop k)=Hu (a,hf) s}) (λk=>⟨[(1,.p T9 s),(2,.bp 2 [] 0),(5,.p (.int .i64) (k.1:Int))],[(2,.box 31 true [.p Xz a,.p Yu hf])]⟩) (λk=>a.length-k.1) ⟨0,IN _,rfl⟩ (eW [(2,.nm 2)]) (λk=>?_)
 ·obtain⟨k,hk,c⟩:=k;have f:=λh:k<a.length=>pO s a h;simp only;repeat'(first|exact trivial|refine eS rfl ?_|refine AB ?_|refine rX e ?_ ?_|refine rC ?_ ?_<;>intro b<;>try(cases b;done))
  ·exact b
  ·have d:k<a.length:=by exact eV
   rw[f d,BY b]at c;exact fI e [.tmp 4] (by rw[<-c];exact eR)
  ·omega
  ·have d:k<a.length:=by exact eV
   rw[f d,An (by rw[b];simp)]at c;exact⟨⟨k+1,by omega,c⟩,by simp only;omega,eW [(2,.nm 2)]⟩
  ·have d:a.drop k=[]:=By (by exact eV);rw[d]at c;exact fI e [.tmp 4] (by rw[<-c];first|exact eR|refine Xy ?_;rfl)
def PU:Ac:={ ins:=[Eg,T9],pre:=λ_=>True,out:=λ(h,s,_)=>[.p T3 (X2 h s)],lend:=true }
attribute [local go_sem] PU
theorem dP:Ad Tryz.prog 70 PU:=by
 refine fK [0,1,2,4,5,10,20] Tryz.func70 Tryz.ntmps70 AG ?_;rintro w0 O0 ⟨⟨f,hf⟩,s,u⟩ d ⟨⟨-,g,-⟩,-⟩ -;simp only[AP]at g;simp only[PU,AM];repeat'(first|exact trivial|refine eS rfl ?_|refine AB ?_|refine rX d ?_ ?_|refine rC ?_ ?_<;>intro a<;>try(cases a;done))
 refine AK (ι:={k:Nat//k<=hf.length/\ftG s k (hf.drop k)=X2 (f,hf) s}) (λk=>⟨[(1,.p T9 s),(2,.bp 2 [] 0),(5,.p (.int .i64) (k.1:Int))],[(2,.box 31 true [.p Xz f,.p Yu hf])]⟩) (λk=>hf.length-k.1) ⟨0,IN _,rfl⟩ (eW [(2,.nm 2)]) (λk=>?_)
 ·obtain⟨k,hk,b⟩:=k;have e:=λh:k<hf.length=>pP s hf h;simp only;repeat'(first|exact trivial|refine eS rfl ?_|refine AB ?_|refine rX d ?_ ?_|refine rC ?_ ?_<;>intro a<;>try(cases a;done))
  ·exact a
  ·have c:k<hf.length:=by exact eV
   rw[e c,BY a]at b;exact fI d [.tmp 4] (by rw[<-b];exact eR)
  ·omega
  ·have c:k<hf.length:=by exact eV
   rw[e c,An (by rw[a];simp)]at b;exact⟨⟨k+1,by omega,b⟩,by simp only;omega,eW [(2,.nm 2)]⟩
  ·have c:hf.drop k=[]:=By (by exact eV);rw[c]at b;exact fI d [.tmp 4] (by rw[<-b];first|exact eR|refine Xy ?_;rfl)
def A5a:Ac:=PU
attribute [local go_sem] A5a
theorem Xr:Ad Tryz.prog 67 PU:=by
 refine fK [0,1,2,4,5,6,8,9,10,11,20] Tryz.func67 Tryz.ntmps67 AG ?_;rintro w0 O0 ⟨⟨g,hf⟩,s,u⟩ b ⟨⟨-,f,-⟩,-⟩ -;simp only[AP]at f;simp only[PU,AM];repeat'(first|exact trivial|refine eS rfl ?_|refine AB ?_|refine rX b ?_ ?_|refine rC ?_ ?_<;>intro a<;>try(cases a;done))
 refine AK (ι:={k:Nat//k<=hf.length/\ftG s k (hf.drop k)=X2 (g,hf) s}) (λk=>⟨[(1,.p T9 s),(8,.p Yu hf),(9,.p (.int .i64) (hf.length:Int)),(10,.p (.int .i64) (k.1:Int))],[]⟩) (λk=>hf.length-k.1) ⟨0,IN _,rfl⟩ (eW []) (λk=>?_)
 ·obtain⟨k,hk,c⟩:=k;have e:=λh:k<hf.length=>pP s hf h;simp only;repeat'(first|exact trivial|refine eS rfl ?_|refine AB ?_|refine rX b ?_ ?_|refine rC ?_ ?_<;>intro a<;>try(cases a;done))
  ·exact a
  ·refine cP 5 b ?_ ?_
   ·trivial
   ·refine ADa (j:=.i64) b (by kernel_rfl) ?_;refine rL b ?_ ?_
    ·trivial
    ·repeat'(first|exact trivial|refine eS rfl ?_|refine AB ?_|refine rX b ?_ ?_|refine rC ?_ ?_<;>intro a<;>try(cases a;done))
     ·have d:k<hf.length:=by exact eV
      rw[e d,BY a]at c;exact fI b [.tmp 4] (by rw[<-c];exact eR)
     ·omega
     ·have d:k<hf.length:=by exact eV
      rw[e d,An (by rw[a];simp)]at c;exact⟨⟨k+1,by omega,c⟩,by simp only;omega,eW []⟩
  ·have d:hf.drop k=[]:=By (by exact eV);rw[d]at c;exact fI b [.tmp 4] (by rw[<-c];first|exact eR|refine Xy ?_;rfl)
theorem A7r (s:ByteArray) (t:HA):BI Tryz.prog 180 [.p rA t,.bp 1 [] 0] [(1,.box 9 false [.p T9 s])] [1] (λres c=>res=.p .bool (AY t.1 s)/\c=[(1,.box 9 false [.p T9 s])]):=by
 refine K0 [0,1,2,3] [] [] Tryz.func180 Tryz.ntmps180 AG ?_;intro w0 K O0 ρ0 a d e;simp only[Am];repeat'(first|exact trivial|refine eS rfl ?_|refine AB ?_|refine rX a ?_ ?_|refine rC ?_ ?_<;>intro b<;>try(cases b;done))
 refine Ev.ent (σ':=⟨[(3,.p .bool (AY t.1 s))],[(1,.box 9 false [.p T9 s])]⟩) ?_ (AC [(1,.nm 1)] rfl rfl ?_ ?_)
 ·exact fM a [.tmp 3] (.p .bool (AY t.1 s)) eT ⟨rfl,rfl⟩
 ·exact eN
 ·exact eN
theorem A0H (l:List HA) (s:ByteArray):BI Tryz.prog 177 [.p Xz l,.clo 180 [1]] [(1,.box 9 false [.p T9 s])] [1] (λres g=>res=.p T3 (xK s 0 l)/\g=[(1,.box 9 false [.p T9 s])]):=by
 refine K0 [0,1,4,5,7,8,9,16] [] [] Tryz.func177 Tryz.ntmps177 AG ?_;intro w0 K O0 ρ0 b e j;have i:l.length<=140737488355328:=e.1.1;simp only[Am];repeat'(first|exact trivial|refine eS rfl ?_|refine AB ?_|refine rX b ?_ ?_|refine rC ?_ ?_<;>intro a<;>try(cases a;done))
 refine AK (ι:={k:Nat//k<=l.length/\xK s k (l.drop k)=xK s 0 l}) (λk=>⟨[(0,.p Xz l),(1,.clo 180 [1]),(7,.p (.int .i64) (l.length:Int)),(8,.p (.int .i64) (k.1:Int))],[(1,.box 9 false [.p T9 s])]⟩) (λk=>l.length-k.1) ⟨0,IN _,rfl⟩ (eW [(1,.nm 1)]) (λk=>?_)
 ·obtain⟨k,hk,hf⟩:=k;have f:=λh:k<l.length=>pO s l h;simp only;repeat'(first|exact trivial|refine eS rfl ?_|refine AB ?_|refine rX b ?_ ?_|refine rC ?_ ?_<;>intro a<;>try(cases a;done))
  ·have c:k<l.length:=If.1 a;have d:=f c;refine cP 5 b ?_ ?_
   ·exact a
   ·refine rM b (A7r s (l.getD k TT)) [(1,.nm 1)] [] ?_ ?_ ?_
    ·exact eN
    ·exact eN
    ·rintro _ _ ⟨rfl,rfl⟩;refine⟨[(1,.nm 1)],.p .bool (AY (l.getD k TT).1 s),[(1,.box 9 false [.p T9 s])],rfl,rfl,?_,?_,rfl,rfl,CQ ?_⟩
     ·exact eN
     ·exact eN
     ·repeat'(first|exact trivial|refine eS rfl ?_|refine AB ?_|refine rX b ?_ ?_|refine rC ?_ ?_<;>intro a<;>try(cases a;done))
      ·rw[BY a,hf]at d;refine Ev.ent (σ':=⟨[(4,.p (.int .i64) (k:Int))],[(1,.box 9 false [.p T9 s])]⟩) ?_ (AC [(1,.nm 1)] rfl rfl ?_ ?_)
       ·exact fM b [.tmp 4] (.p T3 (k:Int)) eT ⟨by rw[d],rfl⟩
       ·exact eN
       ·exact eN
      ·omega
      ·rw[An (by rw[a];simp)]at d;exact⟨⟨k+1,c,d.symm.trans hf⟩,by simp only;omega,eW [(1,.nm 1)]⟩
  ·have c:l.drop k=[]:=By (Sb.1 a);rw[c]at hf;have hf:(-1:Int)=xK s 0 l:=hf;refine Ev.ent (σ':=⟨[(4,.p (.int .i64) (-1))],[(1,.box 9 false [.p T9 s])]⟩) ?_ (AC [(1,.nm 1)] rfl rfl ?_ ?_)
   ·exact fM b [.tmp 4] (.p T3 (-1)) eT ⟨by rw[hf],rfl⟩
   ·exact eN
   ·exact eN
def xO:Ac:={ ins:=[Eg,T9],pre:=λ_=>True,out:=λ(h,s,_)=>[.p T3 (Hu h s)],lend:=true }
attribute [local go_sem] xO
theorem A7s:Ad Tryz.prog 138 xO:=by
 refine fK [0,1,2,3,4] Tryz.func138 Tryz.ntmps138 AG ?_;rintro w0 O0 ⟨⟨c,hf⟩,s,u⟩ a - -;simp only[xO,AM];refine Ev.ent (σ':=⟨[(0,.p Eg (c,hf)),(1,.p T9 s)],[]⟩) ?_ (AC [] rfl rfl ?_ ?_)
 ·repeat'(first|exact trivial|refine eS rfl ?_|refine AB ?_|refine rX a ?_ ?_|refine rC ?_ ?_<;>intro b<;>try(cases b;done))
  refine cP 3 a ?_ ?_
  ·trivial
  ·refine rM a (A0H c s) [(1,.nm 3)] [] ?_ ?_ ?_
   ·exact eN
   ·exact eN
   ·rintro _ _ ⟨rfl,rfl⟩;refine⟨[(3,.nm 1)],.p T3 (xK s 0 c),[(3,.box 9 false [.p T9 s])],rfl,rfl,?_,?_,rfl,rfl,?_⟩
    ·exact eN
    ·exact eN
    ·refine rL a ?_ ?_
     ·trivial
     ·repeat'(first|exact trivial|refine eS rfl ?_|refine AB ?_|refine rX a ?_ ?_|refine rC ?_ ?_<;>intro b<;>try(cases b;done))
      exact fI a [.tmp 4] (by unfold Hu;exact eR)
 ·exact eN
 ·exact eN
theorem M2 (h:AH):Hu h ⟨#[108,105,115,116]⟩=(BG h).list/\Hu h ⟨#[99,111,110,115]⟩=(BG h).cons/\Hu h ⟨#[110,117,108,108]⟩=(BG h).null/\Hu h ⟨#[100,108,105,115,116]⟩=(BG h).dlist/\X2 h ⟨#[70,73,82,83,84]⟩=(BG h).first/\X2 h ⟨#[82,69,83,84]⟩=(BG h).rest/\X2 h ⟨#[76,73,83,84]⟩=(BG h).head/\X2 h ⟨#[76,65,83,84]⟩=(BG h).last:=⟨rfl,rfl,rfl,rfl,rfl,rfl,rfl,rfl⟩
theorem SS (h:AH):((BG h).list<(h.1.length:Int)/\(BG h).cons<(h.1.length:Int)/\(BG h).null<(h.1.length:Int)/\(BG h).dlist<(h.1.length:Int))/\(-1<=(BG h).list/\-1<=(BG h).cons/\-1<=(BG h).null/\-1<=(BG h).dlist) :=
 ⟨⟨(HI h _).2,(HI h _).2,(HI h _).2,(HI h _).2⟩,(HI h _).1,(HI h _).1,(HI h _).1,(HI h _).1⟩
theorem ST {α:Type} {f:List α} {n:Int} (h:0<=n/\n<(f.length:Int)):n.toNat<f.length:=by omega
end
end Go.Proofs.YtapkhdkbkodbjaaGreat.Fw
