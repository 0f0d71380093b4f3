/- Contracts of the program's and the reference's functions, and the plain laws of what they compute: PKC Q13 Q14 Q20 Q16 C36 W8 N9 U16 Q18 Q19 C38 Q15 Q10 U13 L14 Q21 Q22 L17. -/
/- The sort of counted paths: the choice of a pivot, patterns broken, the whole. -/
import Derived.Test.YtmejfnhmgbhkmabGreatIYC
import Derived.Test.YtmejfnhmgbhkmabGreatIYB
import Derived.Test.YtmejfnhmgbhkmabGreatIZI
set_option linter.unusedVariables false
set_option linter.unusedSimpArgs false
namespace Go.Proofs.YtmejfnhmgbhkmabGreat.Fw
open Go
attribute [local irreducible] Ev
attribute [local go_sem] Wz AN List.toList_toArray Br evG evK S8 E2 Il Fk E6 HG PE LR Cb Ck Kk CB CY frz Y3 Ff Cj Aw Ew BM AV.frz AV.frzs AV.drp AV.drps AV.names AV.namess aq Fh JH Ic P6 Hc BN BU H0 Dm G9 Dn HB HA HC Qj Mb F0 Id Ey Di Qk Nr mT H1 HD Jf Ed Dp QA Cm Dq EO Ns HE Nt Jg Hf Ie Dr DD F7 DF GM Cn EP Co Ds E0 CB CM O9 Np Ln Fc He Hd Je Me PC LQ Jk Ji Ii PD Jj Ij VA Mg Mf AV.trn AV.trns EJ Ca Obj.trn II XS DE Du Dj Dt CF ER Aj lk F9 Fg GJ sV Y2 S9 Y5 PB i8 i9 s6 AV.cells Bu Hy Ma Ih Md B7 LO Ty.cell1 G8 EK DC FF Ll Ec Ib Jd Nm Fe FK LM Pz Qi Jb Hb Uz Wc PA LP CX Hz RV.flat Ty.flat Ty.size St.add upd S7 BR Value.oneCell' JW Ty.dflt G7 My GW M6 List.take_succ_cons List.take_zero List.length_cons XH XI M5 IC J0 GI ID nQ E7 Kt Ku Kv Kw OC OD Kx HK Qz Option.map_some Option.map_none Option.bind_some Option.getD_some Option.getD_none Option.isNone_none Option.isNone_some Bool.and_true Bool.true_and Bool.and_false Bool.false_and Bool.not_true Bool.not_false if_true if_false List.length_cons List.length_nil and_true true_and and_self List.all_cons List.all_nil List.append_nil List.nil_append List.cons_append List.getElem?_cons_zero List.getElem?_cons_succ List.getElem?_nil List.map_cons List.map_nil List.set_cons_zero List.set_cons_succ List.isEmpty_nil List.isEmpty_cons decide_true decide_false beq_self_eq_true bne_self_eq_false Nat.zero_add Nat.add_zero Nat.sub_zero Int.toNat_natCast Int.toNat_zero Int.toNat_one List.take_length List.length_append List.length_singleton true_or or_true or_self false_or or_false Ty.agg.injEq Ty.slice.injEq Ty.prod.injEq Ty.int.injEq Option.some.injEq beq_iff_eq JX evMG evMQ nT GY Jx Bj IB GC PX H9 GX HL It JN Ly LX Lz QD Jy M0 M2 IA AW Ad Op.operands Call.operands List.filterMap_cons List.filterMap_nil List.append_eq Bool.cond_false_right Bool.cond_true_left cond_true cond_false implies_true decide_eq_true_eq beq_true beq_false Bool.or_true Bool.or_false Bool.true_or Bool.false_or Option.isSome_some Ex Kl ET GK U0 Mc Ez FM FL HF GL Ig Jh TA Y4 Nq zG Ik E1 Fd H4 A1 XJ List.drop_zero DJ GZ VY Cs J1 Bn AV.fgt AV.fgts Obj.fgt Af Ap AW EW L1 Bx IE List.any_cons List.any_nil ZV XM VZ XN J2 OI qs List.flatMap_cons List.flatMap_nil List.cons_append tn Vb J5 List.take_succ_cons List.drop_succ_cons Ve Gc Be cC K2 Cd Cz Ar E5 Ir B1 EV DI GV HJ F1 Hj
attribute [local go_sem] ty1 ty2 ty3 ty4 ty5 ty9 uJ uK uL uM uN uO uP uQ uR uS uT uU uV uW uX uY uZ u3 u4 u5 u6 u7 u9 vA vB vC vD vE vF vG vH vI vJ vK vL vM vN vO vP vQ vR vS vT vU vV vW vX vY vZ v4 v5 v6 v7 v8 v9 wA wB wC wD wE wF wG wH wI wJ wK wL wM wN wO wP wQ wR wS wT wU cH cI cJ cK cL cM cN cO cQ cR cS cU cV cW cX cZ c6 c7 c8 c9 dA dB dC dD dE dF dG dH dI dJ dK dL dM dN dP dQ dR dS dT dU dV dW dX dY dZ d3 d4 d5 d6 d7 d8 d9 eA eB eC eD eE eF eG eH eI eJ eK eL eO eP eQ eU eW eX eY eZ e7 e9 fA fB fC fD fE fF fG fH fI fJ fK fL fM fN fO fP fQ fR fS fT fU fV fW fX fY fZ f3 f4 f5 f8 f9 gA gB gC gD gE gF
set_option maxRecDepth 100000
set_option maxHeartbeats 4000000
section
attribute [local go_sem] IY
def Fb (l:List (List Int×Int)) (s:Nat):List (Nat×Obj):=[(1000000,.arr 82 Bi l),(70,.box 3 false [.p T3 (s:Int)])]
theorem Su (l:List (List Int×Int)) (a b s:Nat) (al:a<l.length) (bl:b<l.length) (hs:s≤1000):B9 Tryz.prog 158 [.sr 1000000 Bi 0 l.length,.p T3 (a:Int),.p T3 (b:Int),.bp 70 [] 0,.fn 47] (Fb l s) [1000000,70] (fun res objs'=>∃x y t:Nat,res=.tup [.p T3 (x:Int),.p T3 (y:Int)]∧objs'=Fb l t∧((x=a∧y=b)∨(x=b∧y=a))∧t≤s+1):=by
 refine Bw Tryz.func158 (by kernel_rfl) rfl Tryz.ntmps158 (by simp only[List.length_cons,List.length_nil];omega) (by kernel_rfl) rfl rfl (AF [(47,IY)]) (AD LJ AH) ?_
 intro w0 K O0 ρ0 hc hok1 hok2
 simp only[A1,Fb]
 repeat'(first|exact trivial|refine eS rfl ?_|refine AB ?_|refine rX [0,1,2,3,4,10,11,22] hc ?_ ?_|refine rC ?_ ?_<;>intro AA<;>try(cases AA;done))
 ·exact B6
 ·exact B6
 ·refine Am hc [.tmp 10,.tmp 11] rfl (.inl rfl) (.tup [.p T3 (b:Int),.p T3 (a:Int)]) eT ⟨b,a,s+1,rfl,?_,.inr ⟨rfl,rfl⟩,Nat.le_refl _⟩
  rw[show ((s+1:Nat):Int)=(s:Int)+1 by omega]
 ·exact Am hc [.tmp 10,.tmp 11] rfl (.inl rfl) (.tup [.p T3 (a:Int),.p T3 (b:Int)]) eT ⟨a,b,s,rfl,rfl,.inl ⟨rfl,rfl⟩,by omega⟩
theorem WR (l:List (List Int×Int)) (a b c s:Nat) (al:a<l.length) (bl:b<l.length) (cl:c<l.length) (hs:s≤900):B9 Tryz.prog 148 [.sr 1000000 Bi 0 l.length,.p T3 (a:Int),.p T3 (b:Int),.p T3 (c:Int),.bp 70 [] 0,.fn 47] (Fb l s) [1000000,70] (fun res objs'=>∃x t:Nat,res=.p T3 (x:Int)∧objs'=Fb l t∧(x=a∨x=b∨x=c)∧t≤s+3):=by
 refine Bw Tryz.func148 (by kernel_rfl) rfl Tryz.ntmps148 (by simp only[List.length_cons,List.length_nil];omega) (by kernel_rfl) rfl rfl (AF []) AH ?_
 intro w0 K O0 ρ0 hc hok1 hok2
 simp only[A1,Fb]
 repeat'(first|exact trivial|refine eS rfl ?_|refine AB ?_|refine rX [0,1,2,3,4,5,12] hc ?_ ?_|refine rC ?_ ?_<;>intro AA<;>try(cases AA;done))
 refine cP 5 hc ?_ ?_
 ·trivial
 ·refine rM hc (Su l a b s al bl (by omega)) [(1000000,.nm 1000000),(70,.nm 70)] [] ?_ ?_ ?_
  ·first|exact eN|refine eM ?_
  ·simp only[Fb]
   first|exact eN|refine eM ?_
  ·rintro _ _ ⟨a1,b1,s1,rfl,rfl,h1,hs1⟩
   refine⟨[(1000000,.nm 1000000),(70,.nm 70)],.tup [.p T3 (a1:Int),.p T3 (b1:Int)],[(1000000,.arr 82 Bi l),(70,.box 3 false [.p T3 (s1:Int)])],rfl,rfl,?_,?_,rfl,rfl,?_⟩
   ·simp only[Fb]
    first|exact eN|refine eM ?_
   ·first|exact eN|refine eM ?_
   ·refine rL [0,1,2,3,4,5,12] hc ?_ ?_
    ·trivial
    ·repeat'(first|exact trivial|refine eS rfl ?_|refine AB ?_|refine rX [0,1,2,3,4,5,12] hc ?_ ?_|refine rC ?_ ?_<;>intro AA<;>try(cases AA;done))
     refine cP 5 hc ?_ ?_
     ·trivial
     ·refine rM hc (Su l b1 c s1 (by omega) cl (by omega)) [(1000000,.nm 1000000),(70,.nm 70)] [] ?_ ?_ ?_
      ·first|exact eN|refine eM ?_
      ·simp only[Fb]
       first|exact eN|refine eM ?_
      ·rintro _ _ ⟨b2,c2,s2,rfl,rfl,h2,hs2⟩
       refine⟨[(1000000,.nm 1000000),(70,.nm 70)],.tup [.p T3 (b2:Int),.p T3 (c2:Int)],[(1000000,.arr 82 Bi l),(70,.box 3 false [.p T3 (s2:Int)])],rfl,rfl,?_,?_,rfl,rfl,?_⟩
       ·simp only[Fb]
        first|exact eN|refine eM ?_
       ·first|exact eN|refine eM ?_
       ·refine rL [0,1,2,3,4,5,12] hc ?_ ?_
        ·trivial
        ·repeat'(first|exact trivial|refine eS rfl ?_|refine AB ?_|refine rX [0,1,2,3,4,5,12] hc ?_ ?_|refine rC ?_ ?_<;>intro AA<;>try(cases AA;done))
         refine cP 5 hc ?_ ?_
         ·trivial
         ·refine rM hc (Su l a1 b2 s2 (by omega) (by omega) (by omega)) [(1000000,.nm 1000000),(70,.nm 70)] [] ?_ ?_ ?_
          ·first|exact eN|refine eM ?_
          ·simp only[Fb]
           first|exact eN|refine eM ?_
          ·rintro _ _ ⟨a3,b3,s3,rfl,rfl,h3,hs3⟩
           refine⟨[(1000000,.nm 1000000),(70,.nm 70)],.tup [.p T3 (a3:Int),.p T3 (b3:Int)],[(1000000,.arr 82 Bi l),(70,.box 3 false [.p T3 (s3:Int)])],rfl,rfl,?_,?_,rfl,rfl,?_⟩
           ·simp only[Fb]
            first|exact eN|refine eM ?_
           ·first|exact eN|refine eM ?_
           ·refine rL [0,1,2,3,4,5,12] hc ?_ ?_
            ·trivial
            ·repeat'(first|exact trivial|refine eS rfl ?_|refine AB ?_|refine rX [0,1,2,3,4,5,12] hc ?_ ?_|refine rC ?_ ?_<;>intro AA<;>try(cases AA;done))
             exact Am hc [.tmp 12] rfl (.inl rfl) (.p T3 (b3:Int)) eT ⟨b3,s3,rfl,rfl,by omega,by omega⟩
theorem WS (l:List (List Int×Int)) (b s:Nat) (b0:1≤b) (bl:b+1<l.length) (hl:l.length≤100000) (hs:s≤900):B9 Tryz.prog 147 [.sr 1000000 Bi 0 l.length,.p T3 (b:Int),.bp 70 [] 0,.fn 47] (Fb l s) [1000000,70] (fun res objs'=>∃x t:Nat,res=.p T3 (x:Int)∧objs'=Fb l t∧(b-1≤x∧x≤b+1)∧t≤s+3):=by
 refine Bw Tryz.func147 (by kernel_rfl) rfl Tryz.ntmps147 (by simp only[List.length_cons,List.length_nil];omega) (by kernel_rfl) rfl rfl (AF []) AH ?_
 intro w0 K O0 ρ0 hc hok1 hok2
 simp only[A1,Fb]
 have key:=WR l (b-1) b (b+1) s (by omega) (by omega) bl hs
 rw[show ((b-1:Nat):Int)=(b:Int)-1 by omega,show ((b+1:Nat):Int)=(b:Int)+1 by omega]at key
 repeat'(first|exact trivial|refine eS rfl ?_|refine AB ?_|refine rX [0,1,2,3,8] hc ?_ ?_|refine rC ?_ ?_<;>intro AA<;>try(cases AA;done))
 refine cP 8 hc ?_ ?_
 ·exact B6
 ·refine rM hc (key) [(1000000,.nm 1000000),(70,.nm 70)] [] ?_ ?_ ?_
  ·first|exact eN|refine eM ?_
  ·simp only[Fb]
   first|exact eN|refine eM ?_
  ·rintro _ _ ⟨x,t,rfl,rfl,hx,ht⟩
   refine⟨[(1000000,.nm 1000000),(70,.nm 70)],.p T3 (x:Int),[(1000000,.arr 82 Bi l),(70,.box 3 false [.p T3 (t:Int)])],rfl,rfl,?_,?_,rfl,rfl,?_⟩
   ·simp only[Fb]
    first|exact eN|refine eM ?_
   ·first|exact eN|refine eM ?_
   ·refine rL [0,1,2,3,8] hc ?_ ?_
    ·trivial
    ·repeat'(first|exact trivial|refine eS rfl ?_|refine AB ?_|refine rX [0,1,2,3,8] hc ?_ ?_|refine rC ?_ ?_<;>intro AA<;>try(cases AA;done))
     exact Am hc [.tmp 8] rfl (.inl rfl) (.p T3 (x:Int)) eT ⟨x,t,rfl,rfl,by omega,ht⟩
theorem yI (l:List (List Int×Int)) (hl:l.length≤100000) (a b:Nat) (hab:a+13≤b) (hb:b≤l.length):B9 Tryz.prog 116 [.sr 1000000 Bi 0 l.length,.p T3 (a:Int),.p T3 (b:Int),.fn 47] [(1000000,.arr 82 Bi l)] [1000000] (fun res objs'=>∃(j:Nat) (h:Int),res=.tup [.p T3 (j:Int),.p T3 h]∧objs'=[(1000000,.arr 82 Bi l)]∧a≤j∧j<b):=by
 refine Bw Tryz.func116 (by kernel_rfl) rfl Tryz.ntmps116 (by simp only[List.length_cons,List.length_nil];omega) (by kernel_rfl) rfl rfl (AF []) AH ?_
 intro w0 K O0 ρ0 hc hok1 hok2
 simp only[A1]
 obtain⟨t,ht⟩:∃t,t=(b-a) / 4:=⟨_,rfl⟩
 have et:((b:Int)-(a:Int)).tdiv 4=(t:Int):=by
  rw[Int.tdiv_eq_ediv_of_nonneg (by omega)]
  omega
 have ht1:4*t≤b-a:=by omega
 have ht3:3≤t:=by omega
 clear ht
 (refine eS rfl ?_;refine rX [0,1,2,3,8,9,10,11,12,13,14,34,36,55,57,60] hc ?_ ?_;(next=>first|exact trivial|exact B6))
 (refine eS rfl ?_;refine rX [0,1,2,3,8,9,10,11,12,13,14,34,36,55,57,60] hc ?_ ?_;(next=>first|exact trivial|exact B6))
 (refine eS rfl ?_;refine rX [0,1,2,3,8,9,10,11,12,13,14,34,36,55,57,60] hc ?_ ?_;(next=>first|exact trivial|exact B6))
 (refine eS rfl ?_;refine rX [0,1,2,3,8,9,10,11,12,13,14,34,36,55,57,60] hc ?_ ?_;(next=>first|exact trivial|exact B6|(rw[et];refine⟨⟨by decide,?_⟩,?_,?_⟩<;>omega)))
 (refine eS rfl ?_;refine rX [0,1,2,3,8,9,10,11,12,13,14,34,36,55,57,60] hc ?_ ?_;(next=>first|exact trivial|exact B6|(rw[et];refine⟨⟨by decide,?_⟩,?_,?_⟩<;>omega)))
 (refine eS rfl ?_;refine rX [0,1,2,3,8,9,10,11,12,13,14,34,36,55,57,60] hc ?_ ?_;(next=>first|exact trivial|exact B6|(rw[et];refine⟨⟨by decide,?_⟩,?_,?_⟩<;>omega)))
 rw[et,show (a:Int)+(t:Int)*1=((a+t:Nat):Int) by omega,show (a:Int)+(t:Int)*2=((a+t*2:Nat):Int) by omega,show (a:Int)+(t:Int)*3=((a+t*3:Nat):Int) by omega]
 refine GR ?_
 refine Mw (ι:={x:Nat×Nat//a≤x.1∧x.1<b}) (fun x=>⟨[(11,.bp 11 [] 0),(13,.p T3 (x.1.1:Int))],[(1000000,.arr 82 Bi l),(11,.box 3 false [.p T3 (x.1.2:Int)])]⟩) ?_ (fun x=>?_)
 ·repeat'(first|exact trivial|refine eS rfl ?_|refine AB ?_|refine rX [0,1,2,3,8,9,10,11,12,13,14,34,36,55,57,60] hc ?_ ?_)
  refine rC (fun AA=>?_) (fun AA=>?_)
  ·repeat'(first|exact trivial|refine eS rfl ?_|refine AB ?_|refine rX [0,1,2,3,8,9,10,11,12,13,14,34,36,55,57,60] hc ?_ ?_)
   refine rC (fun hcond2=>?_) (fun hcond2=>?_)
   ·repeat'(first|exact trivial|refine eS rfl ?_|refine AB ?_|refine rP [0,1,2,3,8,9,10,11,12,13,14,34,36,55,57,60] hc ?_ ?_|fail)
    refine cP 3 hc ?_ ?_
    ·trivial
    ·refine rM hc (WS l (a+t) 0 (by omega) (by omega) hl (by omega)) [(1000000,.nm 1000000),(70,.nm 11)] [] ?_ ?_ ?_
     ·first|exact eN|refine eM ?_
     ·simp only[Fb]
      first|exact eN|refine eM ?_
     ·rintro _ _ ⟨x1,s1,rfl,rfl,hx1,hs1⟩
      refine⟨[(1000000,.nm 1000000),(11,.nm 70)],.p T3 (x1:Int),[(1000000,.arr 82 Bi l),(11,.box 3 false [.p T3 (s1:Int)])],rfl,rfl,?_,?_,rfl,rfl,?_⟩
      ·simp only[Fb]
       first|exact eN|refine eM ?_
      ·first|exact eN|refine eM ?_
      ·refine rL [0,1,2,3,8,9,10,11,12,13,14,34,36,55,57,60] hc ?_ ?_
       ·trivial
       ·repeat'(first|exact trivial|refine eS rfl ?_|refine AB ?_|refine rX [0,1,2,3,8,9,10,11,12,13,14,34,36,55,57,60] hc ?_ ?_)
        refine cP 3 hc ?_ ?_
        ·trivial
        ·refine rM hc (WS l (a+t*2) s1 (by omega) (by omega) hl (by omega)) [(1000000,.nm 1000000),(70,.nm 11)] [] ?_ ?_ ?_
         ·first|exact eN|refine eM ?_
         ·simp only[Fb]
          first|exact eN|refine eM ?_
         ·rintro _ _ ⟨x2,s2,rfl,rfl,hx2,hs2⟩
          refine⟨[(1000000,.nm 1000000),(11,.nm 70)],.p T3 (x2:Int),[(1000000,.arr 82 Bi l),(11,.box 3 false [.p T3 (s2:Int)])],rfl,rfl,?_,?_,rfl,rfl,?_⟩
          ·simp only[Fb]
           first|exact eN|refine eM ?_
          ·first|exact eN|refine eM ?_
          ·refine rL [0,1,2,3,8,9,10,11,12,13,14,34,36,55,57,60] hc ?_ ?_
           ·trivial
           ·repeat'(first|exact trivial|refine eS rfl ?_|refine AB ?_|refine rX [0,1,2,3,8,9,10,11,12,13,14,34,36,55,57,60] hc ?_ ?_)
            refine cP 3 hc ?_ ?_
            ·trivial
            ·refine rM hc (WS l (a+t*3) s2 (by omega) (by omega) hl (by omega)) [(1000000,.nm 1000000),(70,.nm 11)] [] ?_ ?_ ?_
             ·first|exact eN|refine eM ?_
             ·simp only[Fb]
              first|exact eN|refine eM ?_
             ·rintro _ _ ⟨x3,s3,rfl,rfl,hx3,hs3⟩
              refine⟨[(1000000,.nm 1000000),(11,.nm 70)],.p T3 (x3:Int),[(1000000,.arr 82 Bi l),(11,.box 3 false [.p T3 (s3:Int)])],rfl,rfl,?_,?_,rfl,rfl,?_⟩
              ·simp only[Fb]
               first|exact eN|refine eM ?_
              ·first|exact eN|refine eM ?_
              ·refine rL [0,1,2,3,8,9,10,11,12,13,14,34,36,55,57,60] hc ?_ ?_
               ·trivial
               ·repeat'(first|exact trivial|refine eS rfl ?_|refine AB ?_|refine rX [0,1,2,3,8,9,10,11,12,13,14,34,36,55,57,60] hc ?_ ?_)
                refine cP 5 hc ?_ ?_
                ·trivial
                ·refine rM hc (WR l (x1) (x2) (x3) s3 (by omega) (by omega) (by omega) (by omega)) [(1000000,.nm 1000000),(70,.nm 11)] [] ?_ ?_ ?_
                 ·first|exact eN|refine eM ?_
                 ·simp only[Fb]
                  first|exact eN|refine eM ?_
                 ·rintro _ _ ⟨x4,s4,rfl,rfl,hx4,hs4⟩
                  refine⟨[(1000000,.nm 1000000),(11,.nm 70)],.p T3 (x4:Int),[(1000000,.arr 82 Bi l),(11,.box 3 false [.p T3 (s4:Int)])],rfl,rfl,?_,?_,rfl,rfl,?_⟩
                  ·simp only[Fb]
                   first|exact eN|refine eM ?_
                  ·first|exact eN|refine eM ?_
                  ·refine rL [0,1,2,3,8,9,10,11,12,13,14,34,36,55,57,60] hc ?_ ?_
                   ·trivial
                   ·repeat'(first|exact trivial|refine eS rfl ?_|refine AB ?_|refine rX [0,1,2,3,8,9,10,11,12,13,14,34,36,55,57,60] hc ?_ ?_)
                    refine⟨⟨(x4,s4),by simp only;omega,by simp only;omega⟩,AC [(1000000,.nm 1000000),(11,.nm 11)] rfl rfl ?_ ?_⟩
                    ·first|exact eN|refine eM ?_
                    ·first|exact eN|refine eM ?_
   ·repeat'(first|exact trivial|refine eS rfl ?_|refine AB ?_|refine rP [0,1,2,3,8,9,10,11,12,13,14,34,36,55,57,60] hc ?_ ?_|fail)
    refine cP 5 hc ?_ ?_
    ·trivial
    ·refine rM hc (WR l (a+t) (a+t*2) (a+t*3) 0 (by omega) (by omega) (by omega) (by omega)) [(1000000,.nm 1000000),(70,.nm 11)] [] ?_ ?_ ?_
     ·first|exact eN|refine eM ?_
     ·simp only[Fb]
      first|exact eN|refine eM ?_
     ·rintro _ _ ⟨x4,s4,rfl,rfl,hx4,hs4⟩
      refine⟨[(1000000,.nm 1000000),(11,.nm 70)],.p T3 (x4:Int),[(1000000,.arr 82 Bi l),(11,.box 3 false [.p T3 (s4:Int)])],rfl,rfl,?_,?_,rfl,rfl,?_⟩
      ·simp only[Fb]
       first|exact eN|refine eM ?_
      ·first|exact eN|refine eM ?_
      ·refine rL [0,1,2,3,8,9,10,11,12,13,14,34,36,55,57,60] hc ?_ ?_
       ·trivial
       ·repeat'(first|exact trivial|refine eS rfl ?_|refine AB ?_|refine rX [0,1,2,3,8,9,10,11,12,13,14,34,36,55,57,60] hc ?_ ?_)
        refine⟨⟨(x4,s4),by simp only;omega,by simp only;omega⟩,AC [(1000000,.nm 1000000),(11,.nm 11)] rfl rfl ?_ ?_⟩
        ·first|exact eN|refine eM ?_
        ·first|exact eN|refine eM ?_
  ·exfalso
   omega
 ·obtain⟨⟨j,s⟩,hj1,hj2⟩:=x
  simp only at hj1 hj2 ⊢
  repeat'(first|exact trivial|refine eS rfl ?_|refine AB ?_|refine rX [0,1,2,3,8,9,10,11,12,13,14,34,36,55,57,60] hc ?_ ?_|refine rC ?_ ?_<;>intro AA<;>try(cases AA;done))
  ·refine Ev.ent (σ':=⟨[(8,.p T3 (j:Int)),(9,.p T3 (1:Int))],[(1000000,.arr 82 Bi l)]⟩) ?_ (AC [(1000000,.nm 1000000)] rfl rfl ?_ ?_)
   ·exact Am hc [.tmp 8,.tmp 9] rfl (.inl rfl) (.tup [.p T3 (j:Int),.p T3 (1:Int)]) eT ⟨j,1,rfl,rfl,hj1,hj2⟩
   ·first|exact eN|refine eM ?_
   ·first|exact eN|refine eM ?_
  ·refine Ev.ent (σ':=⟨[(8,.p T3 (j:Int)),(9,.p T3 (2:Int))],[(1000000,.arr 82 Bi l)]⟩) ?_ (AC [(1000000,.nm 1000000)] rfl rfl ?_ ?_)
   ·exact Am hc [.tmp 8,.tmp 9] rfl (.inl rfl) (.tup [.p T3 (j:Int),.p T3 (2:Int)]) eT ⟨j,2,rfl,rfl,hj1,hj2⟩
   ·first|exact eN|refine eM ?_
   ·first|exact eN|refine eM ?_
  ·refine Ev.ent (σ':=⟨[(8,.p T3 (j:Int)),(9,.p T3 (0:Int))],[(1000000,.arr 82 Bi l)]⟩) ?_ (AC [(1000000,.nm 1000000)] rfl rfl ?_ ?_)
   ·exact Am hc [.tmp 8,.tmp 9] rfl (.inl rfl) (.tup [.p T3 (j:Int),.p T3 (0:Int)]) eT ⟨j,0,rfl,rfl,hj1,hj2⟩
   ·first|exact eN|refine eM ?_
   ·first|exact eN|refine eM ?_
theorem yJ (l:List (List Int×Int)) (hl:l.length<256) (a b:Nat) (hab:a+8≤b) (hb:b≤l.length):B9 Tryz.prog 115 [.sr 1000000 Bi 0 l.length,.p T3 (a:Int),.p T3 (b:Int),.fn 47] [(1000000,.arr 82 Bi l)] [1000000] (fun res objs'=>res=.raw (.tuple #[])∧∃r,objs'=[(1000000,.arr 82 Bi r)]∧DT ([],0) a b l r):=by
 refine Bw Tryz.func115 (by kernel_rfl) rfl Tryz.ntmps115 (by simp only[List.length_cons,List.length_nil];omega) (by kernel_rfl) rfl rfl (AF []) AH ?_
 intro w0 K O0 ρ0 hc hok1 hok2
 simp only[A1]
 obtain⟨n,hn⟩:∃n,b=a+n:=⟨b-a,by omega⟩
 subst hn
 have en:((a+n:Nat):Int)-(a:Int)=(n:Int):=by omega
 obtain⟨t,ht⟩:∃t,t=n / 4:=⟨_,rfl⟩
 have et:(n:Int).tdiv 4=(t:Int):=by
  rw[Int.tdiv_eq_ediv_of_nonneg (by omega)]
  omega
 have ht1:4*t≤n:=by omega
 have ht3:2≤t:=by omega
 clear ht
 (refine eS rfl ?_;refine rX [0,1,2,8,9,10,11,12,17,35,45] hc ?_ ?_;(next=>first|exact trivial|exact B6))
 rw[en]
 repeat'(first|exact trivial|refine eS rfl ?_|refine AB ?_|refine rX [0,1,2,8,9,10,11,12,17,35,45] hc ?_ ?_)
 refine rC (fun AA=>?_) (fun AA=>?_)
 ·repeat'(first|exact trivial|refine eS rfl ?_|refine AB ?_|refine rX [0,1,2,8,9,10,11,12,17,35,45] hc ?_ ?_)
  ·exact B6
  ·refine cP 1 hc ?_ ?_
   ·trivial
   ·refine rM hc (yG (n:Int) (by omega) (by omega)) [] [] ?_ ?_ ?_
    ·first|exact eN|refine eM ?_
    ·first|exact eN|refine eM ?_
    ·rintro _ _ ⟨⟨m,rfl,hm1,hm2⟩,rfl⟩
     rw[Int.toNat_natCast]at hm1 hm2
     refine⟨[],.p (.int .u64) (m:Int),[],rfl,rfl,?_,?_,rfl,rfl,?_⟩
     ·first|exact eN|refine eM ?_
     ·first|exact eN|refine eM ?_
     ·refine rL [0,1,2,8,9,10,11,12,17,35,45] hc ?_ ?_
      ·trivial
      ·repeat'(first|exact trivial|refine eS rfl ?_|refine AB ?_|refine rX [0,1,2,8,9,10,11,12,17,35,45] hc ?_ ?_)
       ·rw[et]
        refine⟨⟨by decide,?_⟩,?_,?_,?_⟩<;>omega
       ·rw[et,show (a:Int)+(t:Int)*2-1=((a+t*2-1:Nat):Int) by omega]
        refine AK (ι:={s:Nat×Int×List (List Int×Int)//(a≤s.1∧s.1≤a+t*2+2)∧(0≤s.2.1∧s.2.1≤18446744073709551615)∧DT ([],0) a (a+n) l s.2.2}) (fun s=>⟨[(0,.sr 1000000 Bi 0 l.length),(1,.p T3 (a:Int)),(8,.p (.int .i64) (n:Int)),(9,.bp 9 [] 0),(10,.p (.int .u64) (m:Int)),(11,.p (.int .i64) (s.1.1:Int))],[(1000000,.arr 82 Bi s.1.2.2),(9,.box 196 false [.p (.int .u64) s.1.2.1])]⟩) (fun s=>a+t*2+2-s.1.1) ⟨(a+t*2-1,(n:Int),l),by simp only;omega,by simp only;omega,DT.refl _ _ l⟩ (AC [(1000000,.nm 1000000),(9,.nm 9)] rfl rfl ?_ ?_) (fun s=>?_)
        ·first|exact eN|refine eM ?_
        ·first|exact eN|refine eM ?_
        ·obtain⟨⟨i,x,c⟩,⟨hi1,hi2⟩,hx,hp⟩:=s
         simp only at hi1 hi2 hx hp ⊢
         have hcl:=hp.len
         repeat'(first|exact trivial|refine eS rfl ?_|refine AB ?_|refine rX [0,1,2,8,9,10,11,12,17,35,45] hc ?_ ?_)
         ·rw[et]
          refine⟨⟨by decide,?_⟩,?_,?_,?_⟩<;>omega
         ·rw[et]
          refine rC (fun hcond2=>?_) (fun hcond2=>?_)
          ·refine eS rfl ?_
           refine cP 0 hc ?_ ?_
           ·trivial
           ·refine rM hc (yH x hx) [(70,.nm 9)] [] ?_ ?_ ?_
            ·first|exact eN|refine eM ?_
            ·first|exact eN|refine eM ?_
            ·rintro _ _ ⟨v,hv,rfl,rfl⟩
             refine⟨[(9,.nm 70)],.p (.int .u64) v,[(9,.box 196 false [.p (.int .u64) v])],rfl,rfl,?_,?_,rfl,rfl,?_⟩
             ·first|exact eN|refine eM ?_
             ·first|exact eN|refine eM ?_
             ·have hav:=yF v ((m:Int)-1) (by omega) (by omega)
              refine rL [0,1,2,8,9,10,11,12,17,35,45] hc ?_ ?_
              ·exact⟨by omega,by omega⟩
              ·generalize Bm .and .u64 v ((m:Int)-1)=r at *
               repeat'(first|exact trivial|refine eS rfl ?_|refine AB ?_|refine rX [0,1,2,8,9,10,11,12,17,35,45] hc ?_ ?_)
               refine rC (fun hcond3=>?_) (fun hcond3=>?_)
               ·obtain⟨o,ho⟩:∃o:Nat,r-(n:Int)=(o:Int):=⟨(r-(n:Int)).toNat,by omega⟩
                have ho2:o<n:=by omega
                refine rX [0,1,2,8,9,10,11,12,17,35,45] hc ?_ ?_
                ·exact B6
                ·rw[ho]
                 have hps:DT ([],0) a (a+n) c (B4 ([],0) c i (a+o)):=DT.swap c (by omega) (by omega) (by omega) (by omega) (by omega)
                 have hsw:B4 ([],0) c i (a+o)=(c.set i (c.getD (a+o) ([],0))).set (a+o) (c.getD i ([],0)):=rfl
                 have eo:((a:Int)+(o:Int)).toNat=a+o:=by omega
                 repeat'(first|exact trivial|refine eS rfl ?_|refine AB ?_|refine rP [0,1,2,8,9,10,11,12,17,35,45] hc ?_ ?_|fail)
                 (refine Df drawsAny hc 18 [([0,1,6,7,8,9,10,11,12,13,14,15,16],17)] [2,3,4,5] (by kernel_rfl) (TF ?_ ?_);(next=>exact B6);refine TG hc [] ?_ ?_;(next=>exact B6);refine WY [0,1,2,8,9,10,11,12,17,35,45] hc ?_ ?_ ?_;(next=>exact B6);(next=>exact B6))
                 rw[eo,←hsw]
                 repeat'(first|exact trivial|refine eS rfl ?_|refine AB ?_|refine rX [0,1,2,8,9,10,11,12,17,35,45] hc ?_ ?_)
                 ·exact B6
                 ·refine⟨⟨(i+1,v,B4 ([],0) c i (a+o)),by simp only;omega,hv,hp.trans hps⟩,by simp only;omega,AC [(1000000,.nm 1000000),(9,.nm 9)] rfl rfl ?_ ?_⟩
                  ·first|exact eN|refine eM ?_
                  ·first|exact eN|refine eM ?_
               ·obtain⟨o,ho⟩:∃o:Nat,r=(o:Int):=⟨r.toNat,by omega⟩
                subst ho
                have ho2:o<n:=by omega
                have hps:DT ([],0) a (a+n) c (B4 ([],0) c i (a+o)):=DT.swap c (by omega) (by omega) (by omega) (by omega) (by omega)
                have hsw:B4 ([],0) c i (a+o)=(c.set i (c.getD (a+o) ([],0))).set (a+o) (c.getD i ([],0)):=rfl
                have eo:((a:Int)+(o:Int)).toNat=a+o:=by omega
                repeat'(first|exact trivial|refine eS rfl ?_|refine AB ?_|refine rP [0,1,2,8,9,10,11,12,17,35,45] hc ?_ ?_|fail)
                (refine Df drawsAny hc 18 [([0,1,6,7,8,9,10,11,12,13,14,15,16],17)] [2,3,4,5] (by kernel_rfl) (TF ?_ ?_);(next=>exact B6);refine TG hc [] ?_ ?_;(next=>exact B6);refine WY [0,1,2,8,9,10,11,12,17,35,45] hc ?_ ?_ ?_;(next=>exact B6);(next=>exact B6))
                rw[eo,←hsw]
                repeat'(first|exact trivial|refine eS rfl ?_|refine AB ?_|refine rX [0,1,2,8,9,10,11,12,17,35,45] hc ?_ ?_)
                ·exact B6
                ·refine⟨⟨(i+1,v,B4 ([],0) c i (a+o)),by simp only;omega,hv,hp.trans hps⟩,by simp only;omega,AC [(1000000,.nm 1000000),(9,.nm 9)] rfl rfl ?_ ?_⟩
                 ·first|exact eN|refine eM ?_
                 ·first|exact eN|refine eM ?_
          ·repeat'(first|exact trivial|refine eS rfl ?_|refine AB ?_|refine rX [0,1,2,8,9,10,11,12,17,35,45] hc ?_ ?_|refine rC ?_ ?_<;>intro AA<;>try(cases AA;done))
           refine Ev.ent (σ':=⟨[],[(1000000,.arr 82 Bi c)]⟩) ?_ (AC [(1000000,.nm 1000000)] rfl rfl ?_ ?_)
           ·exact Am hc [] rfl (.inr rfl) (.raw (.tuple #[])) rfl ⟨rfl,c,rfl,hp⟩
           ·first|exact eN|refine eM ?_
           ·first|exact eN|refine eM ?_
 ·exfalso
  omega
def Yq (l:List (List Int×Int)) (a b lim:Nat):Prop:=B9 Tryz.prog 73 [.sr 1000000 Bi 0 l.length,.p T3 (a:Int),.p T3 (b:Int),.p T3 (lim:Int),.fn 47] [(1000000,.arr 82 Bi l)] [1000000] (fun res objs'=>res=.raw (.tuple #[])∧∃r,objs'=[(1000000,.arr 82 Bi r)]∧DT ([],0) a b l r∧Pv A5 ([],0) a b r)
theorem mG (l:List (List Int×Int)) (hl:l.length<256) (hD:Y0 A5 ([],0) l) (a b lim:Nat) (hab:a≤b) (hb:b≤l.length) (hlim:lim≤1000) (hB:Bf A5 ([],0) a b l)
  (IH:∀(l':List (List Int×Int)),l'.length<256→Y0 A5 ([],0) l'→∀a' b' lim':Nat,b'-a'<b-a→a'≤b'→b'≤l'.length→lim'≤1000→Bf A5 ([],0) a' b' l'→Yq l' a' b' lim'):Yq l a b lim:=by
 unfold Yq
 refine Bw Tryz.func73 (by kernel_rfl) rfl Tryz.ntmps73 (by simp only[List.length_cons,List.length_nil];omega) (by kernel_rfl) rfl rfl (AF [(47,IY)]) (AD LJ AH) ?_
 intro w0 K O0 ρ0 hc hok1 hok2
 simp only[A1]
 repeat'(first|exact trivial|refine eS rfl ?_|refine AB ?_|refine rX [0,1,2,3,4,10,11,12,13,14,15,16,17,18,19,20,25,32,39,56,75,80,97,125] hc ?_ ?_)
 refine AK (ι:={s:(Nat×Nat×Nat)×(Bool×Bool)×List (List Int×Int)//mD A5 ([],0) a b s.1.1 s.1.2.1 s.2.2∧DT ([],0) a b l s.2.2∧Bf A5 ([],0) s.1.1 s.1.2.1 s.2.2∧s.1.2.2≤1000}) (fun s=>⟨[(0,.sr 1000000 Bi 0 l.length),(1,.p T3 (s.1.1.1:Int)),(2,.p T3 (s.1.1.2.1:Int)),(3,.p T3 (s.1.1.2.2:Int)),(4,.fn 47),(10,.p .bool s.1.2.1.1),(11,.p .bool s.1.2.1.2)],[(1000000,.arr 82 Bi s.1.2.2)]⟩) (fun s=>s.1.1.2.1-s.1.1.1) ⟨((a,b,lim),(true,true),l),mE hab l,DT.refl a b l,hB,hlim⟩ (AC [(1000000,.nm 1000000)] rfl rfl ?_ ?_) (fun s=>?_)
 ·first|exact eN|refine eM ?_
 ·first|exact eN|refine eM ?_
 ·obtain⟨⟨⟨a1,b1,lim1⟩,⟨wb,wp⟩,m⟩,hcut,hp0,hB1,hl1⟩:=s
  simp only at hcut hp0 hB1 hl1 ⊢
  obtain⟨q1,q2,q3⟩:=hcut.ab
  have hmD:=hD.perm BD hp0.perm
  have hml:=hp0.len
  repeat'(first|exact trivial|refine eS rfl ?_|refine AB ?_|refine rX [0,1,2,3,4,10,11,12,13,14,15,16,17,18,19,20,25,32,39,56,75,80,97,125] hc ?_ ?_)
  ·exact B6
  ·refine rC (fun AA=>?_) (fun AA=>?_)
   ·have key:=yB m (by omega) hmD a1 b1 (by omega) (by omega)
    rw[hml]at key
    repeat'(first|exact trivial|refine eS rfl ?_|refine AB ?_|refine rX [0,1,2,3,4,10,11,12,13,14,15,16,17,18,19,20,25,32,39,56,75,80,97,125] hc ?_ ?_)
    refine cP 4 hc ?_ ?_
    ·trivial
    ·refine rM hc (key) [(1000000,.nm 1000000)] [] ?_ ?_ ?_
     ·first|exact eN|refine eM ?_
     ·first|exact eN|refine eM ?_
     ·rintro _ _ ⟨rfl,r,rfl,hpr,hsr⟩
      refine⟨[(1000000,.nm 1000000)],.raw (.tuple #[]),[(1000000,.arr 82 Bi r)],rfl,rfl,?_,?_,rfl,rfl,CU ?_⟩
      ·first|exact eN|refine eM ?_
      ·first|exact eN|refine eM ?_
      ·repeat'(first|exact trivial|refine eS rfl ?_|refine AB ?_|refine rX [0,1,2,3,4,10,11,12,13,14,15,16,17,18,19,20,25,32,39,56,75,80,97,125] hc ?_ ?_|refine rC ?_ ?_<;>intro AA<;>try(cases AA;done))
       exact Am hc [] rfl (.inl rfl) (.raw (.tuple #[])) rfl ⟨rfl,r,rfl,hp0.trans (hpr.mono q1 q3),(hcut.pin hpr).done hsr⟩
   ·have h13:a1+13≤b1:=by omega
    have el:(b1:Int)-(a1:Int)=((b1-a1:Nat):Int):=by omega
    rw[el]
    repeat'(first|exact trivial|refine eS rfl ?_|refine AB ?_|refine rX [0,1,2,3,4,10,11,12,13,14,15,16,17,18,19,20,25,32,39,56,75,80,97,125] hc ?_ ?_)
    refine rC (fun hcond2=>?_) (fun hcond2=>?_)
    ·have key:=sA m (by omega) hmD a1 b1 q2 (by omega)
     rw[hml]at key
     repeat'(first|exact trivial|refine eS rfl ?_|refine AB ?_|refine rX [0,1,2,3,4,10,11,12,13,14,15,16,17,18,19,20,25,32,39,56,75,80,97,125] hc ?_ ?_)
     refine cP 4 hc ?_ ?_
     ·trivial
     ·refine rM hc (key) [(1000000,.nm 1000000)] [] ?_ ?_ ?_
      ·first|exact eN|refine eM ?_
      ·first|exact eN|refine eM ?_
      ·rintro _ _ ⟨rfl,r,rfl,hpr,hsr⟩
       refine⟨[(1000000,.nm 1000000)],.raw (.tuple #[]),[(1000000,.arr 82 Bi r)],rfl,rfl,?_,?_,rfl,rfl,CU ?_⟩
       ·first|exact eN|refine eM ?_
       ·first|exact eN|refine eM ?_
       ·repeat'(first|exact trivial|refine eS rfl ?_|refine AB ?_|refine rX [0,1,2,3,4,10,11,12,13,14,15,16,17,18,19,20,25,32,39,56,75,80,97,125] hc ?_ ?_|refine rC ?_ ?_<;>intro AA<;>try(cases AA;done))
        exact Am hc [] rfl (.inl rfl) (.raw (.tuple #[])) rfl ⟨rfl,r,rfl,hp0.trans (hpr.mono q1 q3),(hcut.pin hpr).done hsr⟩
    ·have hl0:0<lim1:=by omega
     refine bT ?_
     refine GR ?_
     refine Mw (ι:={x:Nat×List (List Int×Int)//x.1≤1000∧DT ([],0) a1 b1 m x.2}) (fun x=>⟨[(0,.sr 1000000 Bi 0 l.length),(1,.p T3 (a1:Int)),(2,.p T3 (b1:Int)),(3,.p T3 (x.1.1:Int)),(4,.fn 47),(10,.p .bool wb),(11,.p .bool wp),(12,.p (.int .i64) ((b1-a1:Nat):Int))],[(1000000,.arr 82 Bi x.1.2)]⟩) ?_ (fun x=>?_)
     ·repeat'(first|exact trivial|refine eS rfl ?_|refine AB ?_|refine rX [0,1,2,3,4,10,11,12,13,14,15,16,17,18,19,20,25,32,39,56,75,80,97,125] hc ?_ ?_)
      refine rC (fun hcond3=>?_) (fun hcond3=>?_)
      ·have key:=yJ m (by omega) a1 b1 (by omega) (by omega)
       rw[hml]at key
       refine eS rfl ?_
       refine cP 4 hc ?_ ?_
       ·trivial
       ·refine rM hc (key) [(1000000,.nm 1000000)] [] ?_ ?_ ?_
        ·first|exact eN|refine eM ?_
        ·first|exact eN|refine eM ?_
        ·rintro _ _ ⟨rfl,r,rfl,hpr⟩
         refine⟨[(1000000,.nm 1000000)],.raw (.tuple #[]),[(1000000,.arr 82 Bi r)],rfl,rfl,?_,?_,rfl,rfl,CU ?_⟩
         ·first|exact eN|refine eM ?_
         ·first|exact eN|refine eM ?_
         ·repeat'(first|exact trivial|refine eS rfl ?_|refine AB ?_|refine rX [0,1,2,3,4,10,11,12,13,14,15,16,17,18,19,20,25,32,39,56,75,80,97,125] hc ?_ ?_)
          ·exact B6
          ·refine⟨⟨(lim1-1,r),by simp only;omega,hpr⟩,AC [(1000000,.nm 1000000)] rfl rfl ?_ ?_⟩
           ·first|exact eN|refine eM ?_
           ·simp only
            rw[show ((lim1-1:Nat):Int)=(lim1:Int)-1 by omega]
            first|exact eN|refine eM ?_
      ·repeat'(first|exact trivial|refine eS rfl ?_|refine AB ?_|refine rX [0,1,2,3,4,10,11,12,13,14,15,16,17,18,19,20,25,32,39,56,75,80,97,125] hc ?_ ?_)
       refine⟨⟨(lim1,m),hl1,DT.refl _ _ m⟩,AC [(1000000,.nm 1000000)] rfl rfl ?_ ?_⟩
       ·first|exact eN|refine eM ?_
       ·first|exact eN|refine eM ?_
     ·obtain⟨⟨lim2,m2⟩,hl2,hp2⟩:=x
      simp only at hl2 hp2 ⊢
      have hml2:m2.length=l.length:=hp2.len.trans hml
      have key:=yI m2 (by omega) a1 b1 h13 (by omega)
      rw[hml2]at key
      refine eS rfl ?_
      refine cP 4 hc ?_ ?_
      ·trivial
      ·refine rM hc (key) [(1000000,.nm 1000000)] [] ?_ ?_ ?_
       ·first|exact eN|refine eM ?_
       ·first|exact eN|refine eM ?_
       ·rintro _ _ ⟨p2,hint,rfl,rfl,hpa,hpb⟩
        refine⟨[(1000000,.nm 1000000)],.tup [.p T3 (p2:Int),.p T3 hint],[(1000000,.arr 82 Bi m2)],rfl,rfl,?_,?_,rfl,rfl,?_⟩
        ·first|exact eN|refine eM ?_
        ·first|exact eN|refine eM ?_
        ·refine rL [0,1,2,3,4,10,11,12,13,14,15,16,17,18,19,20,25,32,39,56,75,80,97,125] hc ?_ ?_
         ·trivial
         ·refine GR ?_
          refine Mw (ι:={x:Nat×Int×List (List Int×Int)//(a1≤x.1∧x.1<b1)∧DT ([],0) a1 b1 m x.2.2}) (fun x=>⟨[(0,.sr 1000000 Bi 0 l.length),(1,.p T3 (a1:Int)),(2,.p T3 (b1:Int)),(3,.p T3 (lim2:Int)),(4,.fn 47),(10,.p .bool wb),(11,.p .bool wp),(12,.p (.int .i64) ((b1-a1:Nat):Int)),(13,.p T3 (x.1.1:Int)),(14,.p T3 x.1.2.1)],[(1000000,.arr 82 Bi x.1.2.2)]⟩) ?_ (fun x=>?_)
          ·repeat'(first|exact trivial|refine eS rfl ?_|refine AB ?_|refine rX [0,1,2,3,4,10,11,12,13,14,15,16,17,18,19,20,25,32,39,56,75,80,97,125] hc ?_ ?_)
           refine rC (fun hcond3=>?_) (fun hcond3=>?_)
           ·have key:=yC m2 (by omega) a1 b1 (by omega) (by omega)
            rw[hml2]at key
            refine eS rfl ?_
            refine cP 4 hc ?_ ?_
            ·trivial
            ·refine rM hc (key) [(1000000,.nm 1000000)] [] ?_ ?_ ?_
             ·first|exact eN|refine eM ?_
             ·first|exact eN|refine eM ?_
             ·rintro _ _ ⟨rfl,r,rfl,hpr⟩
              refine⟨[(1000000,.nm 1000000)],.raw (.tuple #[]),[(1000000,.arr 82 Bi r)],rfl,rfl,?_,?_,rfl,rfl,CU ?_⟩
              ·first|exact eN|refine eM ?_
              ·first|exact eN|refine eM ?_
              ·repeat'(first|exact trivial|refine eS rfl ?_|refine AB ?_|refine rX [0,1,2,3,4,10,11,12,13,14,15,16,17,18,19,20,25,32,39,56,75,80,97,125] hc ?_ ?_)
               ·exact B6
               ·refine⟨⟨(b1-1-(p2-a1),1,r),by simp only;omega,hp2.trans hpr⟩,AC [(1000000,.nm 1000000)] rfl rfl ?_ ?_⟩
                ·first|exact eN|refine eM ?_
                ·simp only
                 rw[show ((b1-1-(p2-a1):Nat):Int)=(b1:Int)-1-((p2:Int)-(a1:Int)) by omega]
                 first|exact eN|refine eM ?_
           ·repeat'(first|exact trivial|refine eS rfl ?_|refine AB ?_|refine rX [0,1,2,3,4,10,11,12,13,14,15,16,17,18,19,20,25,32,39,56,75,80,97,125] hc ?_ ?_)
            refine⟨⟨(p2,hint,m2),⟨hpa,hpb⟩,hp2⟩,AC [(1000000,.nm 1000000)] rfl rfl ?_ ?_⟩
            ·first|exact eN|refine eM ?_
            ·first|exact eN|refine eM ?_
          ·clear hpa hpb hp2 hml2 key
           obtain⟨⟨p2,hint,m2⟩,⟨hpa,hpb⟩,hp2⟩:=x
           simp only at hpa hpb hp2 ⊢
           have hml2:m2.length=l.length:=hp2.len.trans hml
           have hmD2:=hmD.perm BD hp2.perm
           have hB2:=hB1.pin hp2
           refine Mw (ι:={x:List (List Int×Int)//DT ([],0) a1 b1 m x}) (fun x=>⟨[(0,.sr 1000000 Bi 0 l.length),(1,.p T3 (a1:Int)),(2,.p T3 (b1:Int)),(3,.p T3 (lim2:Int)),(4,.fn 47),(10,.p .bool wb),(11,.p .bool wp),(12,.p (.int .i64) ((b1-a1:Nat):Int)),(13,.p T3 (p2:Int))],[(1000000,.arr 82 Bi x.1)]⟩) ?_ (fun x=>?_)
           ·repeat'(first|exact trivial|refine eS rfl ?_|refine AB ?_|refine rX [0,1,2,3,4,10,11,12,13,14,15,16,17,18,19,20,25,32,39,56,75,80,97,125] hc ?_ ?_)
            refine rC (fun hcond3=>?_) (fun hcond3=>?_)
            ·have key:=yE m2 (by omega) hmD2 a1 b1 (by omega) (by omega) hB2
             rw[hml2]at key
             refine eS rfl ?_
             refine cP 4 hc ?_ ?_
             ·trivial
             ·refine rM hc (key) [(1000000,.nm 1000000)] [] ?_ ?_ ?_
              ·first|exact eN|refine eM ?_
              ·first|exact eN|refine eM ?_
              ·rintro _ _ ⟨w,r,rfl,rfl,hpr,hsr⟩
               refine⟨[(1000000,.nm 1000000)],.p .bool w,[(1000000,.arr 82 Bi r)],rfl,rfl,?_,?_,rfl,rfl,CU ?_⟩
               ·first|exact eN|refine eM ?_
               ·first|exact eN|refine eM ?_
               ·refine eS rfl ?_
                refine rC (fun hcond4=>?_) (fun hcond4=>?_)
                ·repeat'(first|exact trivial|refine eS rfl ?_|refine AB ?_|refine rX [0,1,2,3,4,10,11,12,13,14,15,16,17,18,19,20,25,32,39,56,75,80,97,125] hc ?_ ?_|refine rC ?_ ?_<;>intro AA<;>try(cases AA;done))
                 have hpr2:=hp2.trans hpr
                 exact Am hc [] rfl (.inl rfl) (.raw (.tuple #[])) rfl ⟨rfl,r,rfl,hp0.trans (hpr2.mono q1 q3),(hcut.pin hpr2).done (hsr hcond4)⟩
                ·repeat'(first|exact trivial|refine eS rfl ?_|refine AB ?_|refine rX [0,1,2,3,4,10,11,12,13,14,15,16,17,18,19,20,25,32,39,56,75,80,97,125] hc ?_ ?_)
                 refine⟨⟨r,hp2.trans hpr⟩,AC [(1000000,.nm 1000000)] rfl rfl ?_ ?_⟩
                 ·first|exact eN|refine eM ?_
                 ·first|exact eN|refine eM ?_
            ·repeat'(first|exact trivial|refine eS rfl ?_|refine AB ?_|refine rX [0,1,2,3,4,10,11,12,13,14,15,16,17,18,19,20,25,32,39,56,75,80,97,125] hc ?_ ?_)
             refine⟨⟨m2,hp2⟩,AC [(1000000,.nm 1000000)] rfl rfl ?_ ?_⟩
             ·first|exact eN|refine eM ?_
             ·first|exact eN|refine eM ?_
           ·clear hml2 hmD2 hB2 hp2
            obtain⟨m3,hp3⟩:=x
            simp only
            have hml3:m3.length=l.length:=hp3.len.trans hml
            have hmD3:=hmD.perm BD hp3.perm
            have hB3:=hB1.pin hp3
            have hc3:=hcut.pin hp3
            repeat'(first|exact trivial|refine eS rfl ?_|refine AB ?_|refine rX [0,1,2,3,4,10,11,12,13,14,15,16,17,18,19,20,25,32,39,56,75,80,97,125] hc ?_ ?_)
            ·dsimp only[Ty.den]
             exact⟨fun _=>by omega,fun _=>by omega,fun _=>by omega⟩
            ·refine Cc (by simp only[go_sem,Nat.reduceEqDiff,reduceCtorEq,Nat.reduceAdd,Nat.reduceSub,Nat.reduceMul,Nat.reduceLeDiff,Nat.reduceLT,Int.reduceLE,Int.reduceToNat,Int.reduceNeg,↓reduceIte];rfl) ?_ ?_
             ·intro hc2
              exfalso
              simp only[Bool.and_eq_true,decide_eq_true_eq,Bool.not_eq_true',decide_eq_false_iff_not]at hc2
              obtain⟨h1,h2⟩:=hc2
              rw[show ((a1:Int)-1).toNat=a1-1 by omega]at h2
              rcases hB3 with h|h
              ·omega
              ·exact h2 (h p2 hpa hpb)
             ·intro hc2
              clear hc2
              have key:=yD m3 (by omega) hmD3 a1 b1 p2 hpa hpb (by omega)
              rw[hml3]at key
              repeat'(first|exact trivial|refine eS rfl ?_|refine AB ?_|refine rX [0,1,2,3,4,10,11,12,13,14,15,16,17,18,19,20,25,32,39,56,75,80,97,125] hc ?_ ?_)
              refine cP 5 hc ?_ ?_
              ·trivial
              ·refine rM hc (key) [(1000000,.nm 1000000)] [] ?_ ?_ ?_
               ·first|exact eN|refine eM ?_
               ·first|exact eN|refine eM ?_
               ·rintro _ _ ⟨q,w,m4,rfl,rfl,hp4,he4⟩
                refine⟨[(1000000,.nm 1000000)],.tup [.p T3 (q:Int),.p .bool w],[(1000000,.arr 82 Bi m4)],rfl,rfl,?_,?_,rfl,rfl,?_⟩
                ·first|exact eN|refine eM ?_
                ·first|exact eN|refine eM ?_
                ·have hqa:=he4.l
                 have hqb:=he4.r
                 have hp04:=hp0.trans ((hp3.trans hp4).mono q1 q3)
                 have hml4:=hp04.len
                 have hmD4:=hD.perm BD hp04.perm
                 have hB4:=hB3.pin hp4
                 have hc4:=hc3.pin hp4
                 clear hp3 hml3 hmD3 hB3 hc3 hp4 key
                 have e8:(((b1-a1:Nat):Int)).tdiv 8=(((b1-a1) / 8:Nat):Int):=by
                  rw[Int.tdiv_eq_ediv_of_nonneg (by omega)]
                  omega
                 refine rL [0,1,2,3,4,10,11,12,13,14,15,16,17,18,19,20,25,32,39,56,75,80,97,125] hc ?_ ?_
                 ·trivial
                 ·repeat'(first|exact trivial|refine eS rfl ?_|refine AB ?_|refine rX [0,1,2,3,4,10,11,12,13,14,15,16,17,18,19,20,25,32,39,56,75,80,97,125] hc ?_ ?_)
                  ·exact B6
                  ·rw[e8]
                   exact⟨by decide,by omega,by omega⟩
                  ·rw[e8]
                   refine rC (fun hcond3=>?_) (fun hcond3=>?_)
                   ·have key:=IH m4 (by omega) hmD4 a1 q lim2 (by omega) hqa (by omega) hl2 (hB4.sub (by omega))
                    unfold Yq at key
                    rw[hml4]at key
                    repeat'(first|exact trivial|refine eS rfl ?_|refine AB ?_|refine rX [0,1,2,3,4,10,11,12,13,14,15,16,17,18,19,20,25,32,39,56,75,80,97,125] hc ?_ ?_)
                    refine cP 5 hc ?_ ?_
                    ·trivial
                    ·refine rM hc (key) [(1000000,.nm 1000000)] [] ?_ ?_ ?_
                     ·first|exact eN|refine eM ?_
                     ·first|exact eN|refine eM ?_
                     ·rintro _ _ ⟨rfl,r,rfl,hpr,hsr⟩
                      refine⟨[(1000000,.nm 1000000)],.raw (.tuple #[]),[(1000000,.arr 82 Bi r)],rfl,rfl,?_,?_,rfl,rfl,CU ?_⟩
                      ·first|exact eN|refine eM ?_
                      ·first|exact eN|refine eM ?_
                      ·have her:=he4.pinL hpr
                       have hpr1:DT ([],0) a1 b1 m4 r:=hpr.mono (Nat.le_refl _) (by omega)
                       repeat'(first|exact trivial|refine eS rfl ?_|refine AB ?_|refine rX [0,1,2,3,4,10,11,12,13,14,15,16,17,18,19,20,25,32,39,56,75,80,97,125] hc ?_ ?_)
                       ·exact B6
                       ·refine⟨⟨((q+1,b1,lim2),(decide ((((b1-a1) / 8:Nat):Int)≤(q:Int)-(a1:Int)),w),r),(hc4.pin hpr1).left BD her hsr,hp04.trans (hpr1.mono q1 q3),her.bf,hl2⟩,by simp only;omega,AC [(1000000,.nm 1000000)] rfl rfl ?_ ?_⟩
                        ·first|exact eN|refine eM ?_
                        ·first|exact eN|refine eM ?_
                   ·have key:=IH m4 (by omega) hmD4 (q+1) b1 lim2 (by omega) (by omega) (by omega) hl2 he4.bf
                    unfold Yq at key
                    rw[hml4,show ((q+1:Nat):Int)=(q:Int)+1 by omega]at key
                    repeat'(first|exact trivial|refine eS rfl ?_|refine AB ?_|refine rX [0,1,2,3,4,10,11,12,13,14,15,16,17,18,19,20,25,32,39,56,75,80,97,125] hc ?_ ?_)
                    refine cP 6 hc ?_ ?_
                    ·exact B6
                    ·refine rM hc (key) [(1000000,.nm 1000000)] [] ?_ ?_ ?_
                     ·first|exact eN|refine eM ?_
                     ·first|exact eN|refine eM ?_
                     ·rintro _ _ ⟨rfl,r,rfl,hpr,hsr⟩
                      refine⟨[(1000000,.nm 1000000)],.raw (.tuple #[]),[(1000000,.arr 82 Bi r)],rfl,rfl,?_,?_,rfl,rfl,CU ?_⟩
                      ·first|exact eN|refine eM ?_
                      ·first|exact eN|refine eM ?_
                      ·have her:=he4.pinR hpr
                       have hpr1:DT ([],0) a1 b1 m4 r:=hpr.mono (by omega) (Nat.le_refl _)
                       repeat'(first|exact trivial|refine eS rfl ?_|refine AB ?_|refine rX [0,1,2,3,4,10,11,12,13,14,15,16,17,18,19,20,25,32,39,56,75,80,97,125] hc ?_ ?_)
                       refine⟨⟨((a1,q,lim2),(decide ((((b1-a1) / 8:Nat):Int)≤(b1:Int)-(q:Int)),w),r),(hc4.pin hpr1).right BD her hsr,hp04.trans (hpr1.mono q1 q3),(hB4.pin hpr1).sub (b':=q) (by omega),hl2⟩,by simp only;omega,AC [(1000000,.nm 1000000)] rfl rfl ?_ ?_⟩
                       ·first|exact eN|refine eM ?_
                       ·first|exact eN|refine eM ?_
theorem yK (l:List (List Int×Int)) (hl:l.length<256) (hD:Y0 A5 ([],0) l) (a b lim:Nat) (hab:a≤b) (hb:b≤l.length) (hlim:lim≤1000) (hB:Bf A5 ([],0) a b l):Yq l a b lim:=by
 have key:∀(n:Nat) (l:List (List Int×Int)),l.length<256→Y0 A5 ([],0) l→∀a b lim:Nat,b-a<n→a≤b→b≤l.length→lim≤1000→Bf A5 ([],0) a b l→Yq l a b lim:=by
  intro n
  induction n with
  | zero=>intro l _ _ a b lim h;omega
  | succ n ih =>
   intro l hl hD a b lim hn hab hb hlim hB
   exact mG l hl hD a b lim hab hb hlim hB fun l' h1 h2 a' b' lim' h3 h4 h5 h6 h7=>ih l' h1 h2 a' b' lim' (by omega) h4 h5 h6 h7
 exact key (b-a+1) l hl hD a b lim (by omega) hab hb hlim hB
end
/- The insertion sort of counted paths. -/
section
attribute [local go_sem] IY
theorem TV {p q r:List Int×Int} (h1:A5 p q≤0) (h2:A5 q r≤0):A5 p r≤0:=by
 by_cases e1:A5 p q=0
 ·rw[IZ.1 e1];exact h2
 ·by_cases e2:A5 q r=0
  ·rw[←IZ.1 e2];exact h1
  ·have:=Ss (a:=p) (b:=q) (c:=r) (by omega) (by omega)
   omega
def zD (m:List (List Int×Int)) (i:Nat):Prop:=∀a b,a<b→b<i→A5 (m.getD a ([],0)) (m.getD b ([],0))≤0
end
/- slices.SortFunc of at most 12 counted paths. -/
section
def Ut (p:List Int×Int):List (List Int×Int)→List (List Int×Int)
 | []=>[p]
 | q :: l=>if A5 p q≤0 then p :: q :: l else q :: Ut p l
def Ni (l:List (List Int×Int)):List (List Int×Int):=l.foldr Ut []
theorem MX (p:List Int×Int):∀l:List (List Int×Int),(Ut p l).Perm (p :: l)
 | []=>List.Perm.refl _
 | q :: l=>by
  unfold Ut
  split
  ·exact List.Perm.refl _
  ·exact((MX p l).cons q).trans (List.Perm.swap p q l)
theorem Uu (p:List Int×Int):∀ {l:List (List Int×Int)},l.Pairwise (fun a b=>A5 a b≤0)→(Ut p l).Pairwise (fun a b=>A5 a b≤0)
 | [],_=>List.pairwise_singleton _ _
 | q :: l,h=>by
  unfold Ut
  rw[List.pairwise_cons]at h
  split
  ·rename_i hpq
   rw[List.pairwise_cons]
   refine⟨fun x hx=>?_,List.pairwise_cons.2 h⟩
   rcases List.mem_cons.1 hx with rfl|hx
   ·exact hpq
   ·exact TV hpq (h.1 x hx)
  ·rename_i hpq
   rw[List.pairwise_cons]
   refine⟨fun x hx=>?_,Uu p h.2⟩
   rcases List.mem_cons.1 ((MX p l).mem_iff.1 hx) with rfl|hx
   ·have:=LK x q
    omega
   ·exact h.1 x hx
theorem JE:∀l:List (List Int×Int),(Ni l).Perm l
 | []=>List.Perm.refl _
 | p :: l=>(MX p (Ni l)).trans ((JE l).cons p)
theorem O5:∀l:List (List Int×Int),(Ni l).Pairwise (fun a b=>A5 a b≤0)
 | []=>List.Pairwise.nil
 | p :: l=>Uu p (O5 l)
theorem sC {l r:List (List Int×Int)} (hp:r.Perm l) (hs:zD r l.length):r=Ni l:=by
 refine List.Perm.eq_of_pairwise (le:=fun a b=>A5 a b≤0) (fun a b _ _ h1 h2=>?_) ?_ (O5 l) (hp.trans (JE l).symm)
 ·have:=LK a b
  exact IZ.1 (by omega)
 ·rw[List.pairwise_iff_getElem]
  intro i j hi hj hij
  have:=hs i j hij (by rw[←hp.length_eq];exact hj)
  rwa [List.getD_eq_getElem?_getD,List.getElem?_eq_getElem hi,List.getD_eq_getElem?_getD,List.getElem?_eq_getElem hj]at this
end
/- slices.SortFunc of any counted paths that are different. -/
section
theorem sD (l:List (List Int×Int)) (hl:l.length<256) (hD:l.Nodup):B9 Tryz.prog 46 [.sr 1000000 Bi 0 l.length,.fn 47] [(1000000,.arr 82 Bi l)] [1000000] (fun res objs'=>res=.raw (.tuple #[])∧∃r,objs'=[(1000000,.arr 82 Bi r)]∧List.Perm r l∧zD r l.length):=by
 have hDst:Y0 A5 ([],0) l:=(iV BD l).2 (hD.imp fun hab e=>hab (IZ.1 e))
 refine Bw Tryz.func46 (by kernel_rfl) rfl Tryz.ntmps46 (by simp only[List.length_cons,List.length_nil];omega) (by kernel_rfl) rfl rfl (AF []) AH ?_
 intro w0 K O0 ρ0 hc hok1 hok2
 simp only[A1]
 repeat'(first|exact trivial|refine eS rfl ?_|refine AB ?_|refine rX [0,1,4] hc ?_ ?_|refine rC ?_ ?_<;>intro AA<;>try(cases AA;done))
 refine cP 4 hc ?_ ?_
 ·exact eV
 ·refine rM hc (iX (l.length:Int) (by omega) (by omega)) [] [] ?_ ?_ ?_
  ·first|exact eN|refine eM ?_
  ·first|exact eN|refine eM ?_
  ·rintro _ _ ⟨⟨n,rfl,h8,-⟩,rfl⟩
   refine⟨[],.p T3 (n:Int),[],rfl,rfl,?_,?_,rfl,rfl,?_⟩
   ·first|exact eN|refine eM ?_
   ·first|exact eN|refine eM ?_
   ·have key:=yK l hl hDst 0 l.length n (Nat.zero_le _) (Nat.le_refl _) (by omega) (.inl rfl)
    unfold Yq at key
    rw[show ((0:Nat):Int)=0 from rfl]at key
    refine VU hc 1 (by simp only[go_sem,Nat.reduceEqDiff,reduceCtorEq,Nat.reduceAdd,Nat.reduceSub,Nat.reduceMul,Nat.reduceLeDiff,Nat.reduceLT,Int.reduceLE,Int.reduceToNat,Int.reduceNeg,↓reduceIte];rfl) ?_ ?_
    ·trivial
    ·refine rM hc (key) [(1000000,.nm 1000000)] [] ?_ ?_ ?_
     ·first|exact eN|refine eM ?_
     ·first|exact eN|refine eM ?_
     ·rintro _ _ ⟨rfl,r,rfl,hp,hs⟩
      refine⟨[(1000000,.nm 1000000)],.raw (.tuple #[]),[(1000000,.arr 82 Bi r)],rfl,rfl,?_,?_,rfl,rfl,CU ?_⟩
      ·first|exact eN|refine eM ?_
      ·first|exact eN|refine eM ?_
      ·repeat'(first|exact trivial|refine eS rfl ?_|refine AB ?_|refine rX [0,1,4] hc ?_ ?_|refine rC ?_ ?_<;>intro AA<;>try(cases AA;done))
       exact Am hc [] rfl (.inr rfl) (.raw (.tuple #[])) rfl ⟨rfl,r,rfl,hp.perm,fun a b h1 h2=>by have:=hs a b (Nat.zero_le _) h1 h2;omega⟩
end
/- quick.Train. -/
section
attribute [local go_sem] KX Yj
abbrev Eu:=List (ByteArray×(List Int×Int))
def Gv (p:List Int):ByteArray:=JI (Ka p)
def Bq (m:Eu) (p:List Int):Eu:=Fz .str Bi (Gv p) (p,(((EF .str Bi (Gv p) m).getD ([],0):List Int×Int)).2+1) m
def mH (h:AP) (a b:List AL) (m:Eu):Eu:=(CR h a b).foldl Bq m
def Ja (h:AP) (ps:List (List AL×List AL)):Eu:=ps.foldl (fun m x=>mH h x.1 x.2 m) []
def MY (k:Int) (n:Nat):Nat:=min (min (if k<0 then 0 else k).toNat 256) n
def BL (h:AP) (ps:List (List AL×List AL)) (k:Int):List (List Int):=((Ni ((Ja h ps).map (·.2))).take (MY k (Ja h ps).length)).map (·.1)
def Kb:Ae:={ ins:=[TH,kG,T3],pre:=fun(h,ps,k,_)=>(rK h∧List.length (h:AP).2≤64)∧List.length ps≤1000∧(∀x∈(ps:List (List AL×List AL)),(VF h x.1∧FY x.1∧x.1.length≤12)∧VF h x.2)∧(Ja h ps).length<256,out:=fun(h,ps,k,_)=>[.p IJ (BL h ps k)] }
attribute [local go_sem] Kb
abbrev CT:=Bi
def Sv (n:Int) (m:Eu):Prop:=∀x∈m,0≤x.2.2∧x.2.2≤n
theorem Sw {n:Int} {k:ByteArray}:∀ {m:Eu},0≤n→Sv n m→0≤(((EF .str CT k m).getD ([],0):List Int×Int)).2∧(((EF .str CT k m).getD ([],0):List Int×Int)).2≤n
 | [],hn,_=>⟨Int.le_refl 0,hn⟩
 | x :: m,hn,h=>by
  unfold EF
  split
  ·exact h x (by simp)
  ·exact Sw hn fun y hy=>h y (by simp[hy])
theorem iY {n:Int} {k:ByteArray} {v:List Int×Int}:∀ {m:Eu},Sv n m→0≤v.2→v.2≤n→Sv n (Fz .str CT k v m)
 | [],_,h0,h1=>by
  intro x hx
  have hx:x=(k,v):=by simpa[Fz] using hx
  rw[hx];exact⟨h0,h1⟩
 | y :: m,h,h0,h1=>by
  intro x hx
  unfold Fz at hx
  split at hx
  ·rcases List.mem_cons.1 hx with rfl|hx
   ·exact⟨h0,h1⟩
   ·exact h x (by simp[hx])
  ·rcases List.mem_cons.1 hx with rfl|hx
   ·exact h _ (by simp)
   ·exact iY (fun z hz=>h z (by simp[hz])) h0 h1 x hx
theorem aR {n:Int} {m:Eu} (hn:0≤n) (h:Sv n m) (p:List Int):Sv (n+1) (Bq m p):=by
 obtain⟨q1,q2⟩:=Sw (k:=Gv p) hn h
 exact iY (fun x hx=>by have:=h x hx;omega) (Int.add_nonneg q1 (by decide)) (Int.add_le_add_right q2 1)
theorem Sx {α β:Type} (f:β→α→β) (b:β) (l:List α) (d:α) {k:Nat} (h:k<l.length):(l.take (k+1)).foldl f b=f ((l.take k).foldl f b) (l.getD k d):=by
 rw[Ab l d h,List.foldl_append]
 rfl
def TW (h:AP) (ps:List (List AL×List AL)) (k:Nat):Eu:=(ps.take k).foldl (fun m x=>mH h x.1 x.2 m) []
def WT (m:Eu) (ys:List (List Int×Int)) (left:List Nat):Prop:=(ys++left.map fun i=>(m.getD i (⟨#[]⟩,([],0))).2).Perm (m.map (·.2))
theorem mI (m:Eu):WT m [] (List.range m.length):=by
 unfold WT
 have:(List.range m.length).map (fun i=>(m.getD i (⟨#[]⟩,([],0))).2)=m.map (·.2):=by
  apply List.ext_getElem
  ·simp
  ·intro i h1 h2
   have hi:i<m.length:=by simpa using h1
   simp[List.getD_eq_getElem?_getD,List.getElem?_eq_getElem hi]
 rw[this]
 exact List.Perm.refl _
theorem mJ {m:Eu} {ys:List (List Int×Int)} {left:List Nat} (h:WT m ys left) {i:Nat} (hi:i∈left) {e:ByteArray×(List Int×Int)} (he:m[i]?=some e):WT m (ys++[e.2]) (left.erase i):=by
 unfold WT at h ⊢
 have h1:=(List.perm_cons_erase hi).map fun i=>(m.getD i (⟨#[]⟩,([],0))).2
 have h2:(m.getD i (⟨#[]⟩,([],0))).2=e.2:=by rw[List.getD_eq_getElem?_getD,he];rfl
 rw[List.map_cons,h2]at h1
 have h3:=(h1.append_left ys).symm.trans h
 rw[List.append_assoc]
 exact h3
theorem sE {m:Eu} {ys:List (List Int×Int)} (h:WT m ys []):ys.Perm (m.map (·.2)):=by
 unfold WT at h
 simpa using h
abbrev Sy (k:Int) (n:Nat):Int:=if (n:Int)<(if (256:Int)<(if k<0 then 0 else k) then 256 else if k<0 then 0 else k) then (n:Int) else if (256:Int)<(if k<0 then 0 else k) then 256 else if k<0 then 0 else k
theorem mK (k:Int) (n:Nat):0≤Sy k n∧Sy k n≤(n:Int):=by
 unfold Sy
 (repeat' split)<;>omega
theorem mL (k:Int) (n:Nat):(Sy k n).toNat=MY k n:=by
 unfold Sy MY
 (repeat' split)<;>omega
def s5 (m:Eu):Prop:=(m.map (·.1)).Nodup∧∀e∈m,e.1=Gv e.2.1
theorem aU (a b:ByteArray):(a==b)=true↔a=b:=by
 cases a with
 | mk a =>
  cases b with
  | mk b =>
   constructor
   ·intro h
    have h:(a==b)=true:=h
    rw[beq_iff_eq.1 h]
   ·intro h
    injection h with h
    subst h
    show (a==a)=true
    exact beq_self_eq_true a
theorem O6 (k:ByteArray) (v:List Int×Int):∀m:Eu,(k∈m.map (·.1)∧(Fz .str CT k v m).map (·.1)=m.map (·.1))∨(k∉m.map (·.1)∧(Fz .str CT k v m).map (·.1)=m.map (·.1)++[k])
 | []=>.inr ⟨by simp,rfl⟩
 | x :: m=>by
  unfold Fz
  by_cases hk:k=x.1
  ·subst hk
   rw[if_pos (show Nq .str x.1 x.1=true from (aU x.1 x.1).2 rfl)]
   exact .inl ⟨by simp,rfl⟩
  ·rw[if_neg (show ¬Nq .str k x.1=true from fun h=>hk ((aU k x.1).1 h))]
   rcases O6 k v m with ⟨h1,h2⟩|⟨h1,h2⟩
   ·refine .inl ⟨by rw[List.map_cons];exact List.mem_cons_of_mem _ h1,?_⟩
    rw[List.map_cons,h2]
    rfl
   ·refine .inr ⟨by rw[List.map_cons];intro h;rcases List.mem_cons.1 h with h|h;exact hk h;exact h1 h,?_⟩
    rw[List.map_cons,h2]
    rfl
theorem Yr {k:ByteArray} {v:List Int×Int}:∀ {m:Eu} {e:ByteArray×(List Int×Int)},e∈Fz .str CT k v m→e=(k,v)∨e∈m
 | [],e,h=>by left;simpa[Fz] using h
 | x :: m,e,h=>by
  unfold Fz at h
  split at h
  ·rcases List.mem_cons.1 h with h|h
   ·exact .inl h
   ·exact .inr (by simp[h])
  ·rcases List.mem_cons.1 h with h|h
   ·exact .inr (by simp[h])
   ·rcases Yr h with h|h
    ·exact .inl h
    ·exact .inr (by simp[h])
theorem Pw {m:Eu} (h:s5 m) (p:List Int):s5 (Bq m p):=by
 refine⟨?_,fun e he=>?_⟩
 ·unfold Bq
  rcases O6 (Gv p) (p,(((EF .str CT (Gv p) m).getD ([],0):List Int×Int)).2+1) m with ⟨-,e1⟩|⟨hn,e1⟩
  ·have e1:(Fz .str Bi (Gv p) (p,(((EF .str Bi (Gv p) m).getD ([],0):List Int×Int)).2+1) m).map (·.1)=_:=e1
   rw[e1]
   exact h.1
  ·have e1:(Fz .str Bi (Gv p) (p,(((EF .str Bi (Gv p) m).getD ([],0):List Int×Int)).2+1) m).map (·.1)=_:=e1
   rw[e1,List.nodup_append]
   exact⟨h.1,by simp,fun a ha b hb e=>hn (by rw[List.mem_singleton]at hb;rw[←hb,←e];exact ha)⟩
 ·rcases Yr he with rfl|he
  ·rfl
  ·exact h.2 e he
theorem Ys:∀(l:List (List Int)) {m:Eu},s5 m→s5 (l.foldl Bq m)
 | [],_,h=>h
 | p :: l,_,h=>Ys l (Pw h p)
theorem sF (h:AP) (ps:List (List AL×List AL)):s5 (Ja h ps):=by
 have key:∀(ps:List (List AL×List AL)) (m:Eu),s5 m→s5 (ps.foldl (fun m x=>mH h x.1 x.2 m) m):=by
  intro ps
  induction ps with
  | nil=>exact fun m hm=>hm
  | cons x ps ih=>exact fun m hm=>ih _ (Ys _ hm)
 exact key ps [] ⟨List.nodup_nil,fun e he=>by cases he⟩
theorem s5.vals {m:Eu} (h:s5 m):(m.map (·.2)).Nodup:=by
 have h1:m.Pairwise fun a b=>a.1≠b.1:=List.pairwise_map.1 h.1
 refine List.pairwise_map.2 (h1.imp_of_mem fun {a b} ha hb hab e=>hab ?_)
 rw[h.2 a ha,h.2 b hb,e]
theorem Sz:Ag Tryz.prog 25 Kb:=by
 refine AR Tryz.func25 (by kernel_rfl) rfl Tryz.ntmps25 (by decide) (by kernel_rfl) (AF [(22,KX),(45,Yj)]) (AD Yg (AD yA AH)) ?_
 rintro w0 O0 ⟨⟨ht,hf⟩,ps,kk,u⟩ hc-⟨⟨hw,h64⟩,hps,hv,h12⟩
 simp only[Kb,AN]
 have hps:List.length ps≤1000:=hps
 repeat'(first|exact trivial|refine eS rfl ?_|refine AB ?_|refine rX [0,1,2,3,6,7,9,11,12,13,15,16,18,20,21,22,23,31,32,33,34,51,53,68,69,70,71] hc ?_ ?_|refine rC ?_ ?_<;>intro AA<;>try(cases AA;done))
 refine AK (ι:={k:Nat//k≤List.length ps∧Sv (12*(k:Int)) (TW (ht,hf) ps k)}) (fun k=>⟨[(2,.p T3 kk),(3,.bp 3 [] 0),(7,.mp 19),(20,.p kG ps),(21,.p (.int .i64) (List.length ps:Int)),(22,.p (.int .i64) (k.1:Int))],[(3,.box 37 true [.p WZ ht,.p Xa hf]),(19,.mapo .str Bi (TW (ht,hf) ps k.1))]⟩) (fun k=>List.length ps-k.1) ⟨0,Nat.zero_le _,fun x hx=>by cases hx⟩ (AC [(3,.nm 3),(19,.nm 19)] rfl rfl ?_ ?_) (fun k=>?_)
 ·first|exact eN|refine eM ?_
  rfl
 ·first|exact eN|refine eM ?_
 ·obtain⟨k,hk,hle⟩:=k
  simp only
  have hks:∀h:k<List.length ps,TW (ht,hf) ps (k+1)=(CR (ht,hf) (List.getD (ps:List (List AL×List AL)) k ([],[])).1 (List.getD (ps:List (List AL×List AL)) k ([],[])).2).foldl Bq (TW (ht,hf) ps k):=fun h=>Sx _ _ _ _ h
  repeat'(first|exact trivial|refine eS rfl ?_|refine AB ?_|refine rX [0,1,2,3,6,7,9,11,12,13,15,16,18,20,21,22,23,31,32,33,34,51,53,68,69,70,71] hc ?_ ?_|refine rC ?_ ?_<;>intro AA<;>try(cases AA;done))
  ·exact AA
  ·have hk1:k<List.length ps:=by omega
   obtain⟨⟨va,sa,la⟩,vb⟩:=hv _ (AE (ps:List (List AL×List AL)) ([],[]) hk1)
   exact⟨hw,⟨va.good,va.pos,va.ty,la⟩,vb.good,vb.pos,vb.ty⟩
  ·have hk1:k<List.length ps:=by omega
   obtain⟨⟨va,sa,la⟩,vb⟩:=hv _ (AE (ps:List (List AL×List AL)) ([],[]) hk1)
   have hks:=hks hk1
   have hcr:=fun p hp=>Uq (h:=(ht,hf)) (a:=(List.getD (ps:List (List AL×List AL)) k ([],[])).1) (b:=(List.getD (ps:List (List AL×List AL)) k ([],[])).2) (p:=p) h64 va sa hp
   have hcl:=Ur (h:=(ht,hf)) (a:=(List.getD (ps:List (List AL×List AL)) k ([],[])).1) (b:=(List.getD (ps:List (List AL×List AL)) k ([],[])).2)
   generalize CR (ht,hf) (List.getD ps k ([],[])).1 (List.getD ps k ([],[])).2=cl at *
   generalize (List.getD ps k ([],[])).1=ga at *
   have hcl:cl.length≤12:=by omega
   refine AK (ι:={j:Nat//j≤List.length cl∧Sv (12*(k:Int)+(j:Int)) ((cl.take j).foldl Bq (TW (ht,hf) ps k))}) (fun j=>⟨[(2,.p T3 kk),(3,.bp 3 [] 0),(7,.mp 19),(20,.p kG ps),(21,.p (.int .i64) (List.length ps:Int)),(22,.p (.int .i64) (k:Int)),(31,.p IJ cl),(32,.p (.int .i64) (List.length cl:Int)),(33,.p (.int .i64) (j.1:Int))],[(3,.box 37 true [.p WZ ht,.p Xa hf]),(19,.mapo .str Bi ((cl.take j.1).foldl Bq (TW (ht,hf) ps k)))]⟩) (fun j=>List.length cl-j.1) ⟨0,Nat.zero_le _,by simpa using hle⟩ (AC [(3,.nm 3),(19,.nm 19)] rfl rfl ?_ ?_) (fun j=>?_)
   ·first|exact eN|refine eM ?_
    rfl
   ·first|exact eN|refine eM ?_
   ·obtain⟨j,hj,hlj⟩:=j
    simp only
    have hjs:∀h:j<cl.length,(cl.take (j+1)).foldl Bq (TW (ht,hf) ps k)=Bq ((cl.take j).foldl Bq (TW (ht,hf) ps k)) (List.getD cl j []):=fun h=>Sx _ _ _ _ h
    have hk0:(0:Int)≤12*(k:Int)+(j:Int):=by omega
    have hfm:=fun p=>Sw (k:=Gv p) hk0 hlj
    have hst:=fun p=>aR hk0 hlj p
    repeat'(first|exact trivial|refine eS rfl ?_|refine AB ?_|refine rX [0,1,2,3,6,7,9,11,12,13,15,16,18,20,21,22,23,31,32,33,34,51,53,68,69,70,71] hc ?_ ?_|refine rC ?_ ?_<;>intro AA<;>try(cases AA;done))
    ·exact AA
    ·have hj1:j<cl.length:=by omega
     obtain⟨q1,q2⟩:=hcr _ (AE cl [] hj1)
     exact⟨by omega,q2⟩
    ·have hj1:j<cl.length:=by omega
     have hjs:=hjs hj1
     obtain⟨f1,f2⟩:=hfm (cl.getD j [])
     refine cP 6 hc ?_ ?_
     ·trivial
     ·refine A2P hc Tryz.underlying82 ?_
      refine rL [0,1,2,3,6,7,9,11,12,13,15,16,18,20,21,22,23,31,32,33,34,51,53,68,69,70,71] hc ?_ ?_
      ·refine⟨?_,?_⟩
       ·exact Int.le_trans (by decide) (Int.add_nonneg f1 (by decide))
       ·exact Int.le_trans (Int.add_le_add_right f2 1) (by omega)
      ·repeat'(first|exact trivial|refine eS rfl ?_|refine AB ?_|refine rX [0,1,2,3,6,7,9,11,12,13,15,16,18,20,21,22,23,31,32,33,34,51,53,68,69,70,71] hc ?_ ?_|refine rC ?_ ?_<;>intro AA<;>try(cases AA;done))
       ·omega
       ·have hlj2:=hst (cl.getD j [])
        rw[←hjs]at hlj2
        refine⟨⟨j+1,hj1,fun x hx=>by have:=hlj2 x hx;omega⟩,by simp only;omega,AC [(3,.nm 3),(19,.nm 19)] rfl rfl ?_ ?_⟩
        ·simp only
         rw[hjs]
         first|exact eN|refine eM ?_
         rfl
        ·first|exact eN|refine eM ?_
    ·omega
    ·have hj1:j=cl.length:=by omega
     subst hj1
     rw[List.take_length]at hlj hst ⊢
     rw[←hks]at hlj ⊢
     refine⟨⟨k+1,hk1,fun x hx=>by have:=hlj x hx;omega⟩,by simp only;omega,AC [(3,.nm 3),(19,.nm 19)] rfl rfl ?_ ?_⟩
     ·first|exact eN|refine eM ?_
     ·first|exact eN|refine eM ?_
  ·have hk1:k=List.length ps:=by omega
   subst hk1
   have hce:TW (ht,hf) ps (List.length ps)=Ja (ht,hf) ps:=by unfold TW Ja;rw[List.take_length]
   rw[hce]at hle ⊢
   refine cP 1 hc ?_ ?_
   ·trivial
   ·refine A2Q hc Tryz.underlying79 ?_
    refine rL [0,1,2,3,6,7,9,11,12,13,15,16,18,20,21,22,23,31,32,33,34,51,53,68,69,70,71] hc ?_ ?_
    ·trivial
    ·repeat'(first|exact trivial|refine eS rfl ?_|refine AB ?_|refine rX [0,1,2,3,6,7,9,11,12,13,15,16,18,20,21,22,23,31,32,33,34,51,53,68,69,70,71] hc ?_ ?_|refine rC ?_ ?_<;>intro AA<;>try(cases AA;done))
     have htr:BL (ht,hf) ps kk=((Ni ((Ja (ht,hf) ps).map (·.2))).take (MY kk (Ja (ht,hf) ps).length)).map (·.1):=rfl
     rw[htr]
     clear htr
     have hmn:=(sF (ht,hf) ps).vals
     generalize Ja (ht,hf) ps=m at *
     have h12:m.length<256:=h12
     refine AK (ι:={x:List Nat×Option Nat×List (List Int×Int)//WT m x.2.2 x.1}) (fun x=>⟨[(2,.p T3 kk),(13,.sr 59 Bi 0 (List.length x.1.2.2)),(51,.bp 51 [] 0)],[(51,.itr .str Bi m x.1.1 x.1.2.1),(59,.arr 82 Bi x.1.2.2)]⟩) (fun x=>List.length x.1.1) ⟨(List.range m.length,none,[]),mI m⟩ (AC [(51,.nm 51),(59,.nil)] rfl rfl ?_ ?_) (fun x=>?_)
     ·first|exact eN|refine eM ?_
     ·first|exact eN|refine eM ?_
     ·obtain⟨⟨left,cur,ys⟩,hg⟩:=x
      have hg:WT m ys left:=hg
      have hyl:ys.length+left.length=m.length:=by have:=hg.length_eq;simpa using this
      simp only
      repeat'(first|exact trivial|refine eS rfl ?_|refine AB ?_|refine rP [0,1,2,3,6,7,9,11,12,13,15,16,18,20,21,22,23,31,32,33,34,51,53,68,69,70,71] hc ?_ ?_|fail)
      refine cP 0 hc ?_ ?_
      ·trivial
      ·refine A2R hc (fun h0=>?_) (fun i hi e he=>?_)
       ·subst h0
        refine rL [0,1,2,3,6,7,9,11,12,13,15,16,18,20,21,22,23,31,32,33,34,51,53,68,69,70,71] hc ?_ ?_
        ·trivial
        ·repeat'(first|exact trivial|refine eS rfl ?_|refine AB ?_|refine rX [0,1,2,3,6,7,9,11,12,13,15,16,18,20,21,22,23,31,32,33,34,51,53,68,69,70,71] hc ?_ ?_|refine rC ?_ ?_<;>intro AA<;>try(cases AA;done))
         have hp:=sE hg
         have hpl:=hp.length_eq
         rw[List.length_map]at hpl
         refine cP 1 hc ?_ ?_
         ·trivial
         ·refine rM hc (sD ys (by omega) (hp.nodup_iff.2 hmn)) [(1000000,.nm 59)] [] ?_ ?_ ?_
          ·first|exact eN|refine eM ?_
          ·first|exact eN|refine eM ?_
          ·rintro _ _ ⟨rfl,r,rfl,hpr,hs⟩
           have hr:r=Ni (m.map (·.2)):=sC (hpr.trans hp) (by rw[List.length_map,←hpl];exact hs)
           have hrl:r.length=m.length:=by rw[hpr.length_eq,hpl]
           rw[←hr]
           clear hr hs hpr
           refine⟨[(59,.nm 1000000)],.raw (.tuple #[]),[(59,.arr 82 Bi r)],rfl,rfl,?_,?_,rfl,rfl,CU ?_⟩
           ·first|exact eN|refine eM ?_
           ·first|exact eN|refine eM ?_
           ·have hyr:ys.length=r.length:=by omega
            repeat'(first|exact trivial|refine eS rfl ?_|refine AB ?_|refine rX [0,1,2,3,6,7,9,11,12,13,15,16,18,20,21,22,23,31,32,33,34,51,53,68,69,70,71] hc ?_ ?_|refine rC ?_ ?_<;>intro AA<;>try(cases AA;done))
            ·exact mK kk ys.length
            ·have hz:Int.toNat (if (ys.length:Int)<(if (256:Int)<(if kk<0 then 0 else kk) then 256 else if kk<0 then 0 else kk) then (ys.length:Int) else if (256:Int)<(if kk<0 then 0 else kk) then 256 else if kk<0 then 0 else kk)=MY kk m.length:=by
              rw[←hpl]
              exact mL kk ys.length
             have hzl:MY kk m.length≤r.length:=by
              rw[hrl]
              exact Nat.min_le_right _ _
             rw[hz]
             generalize MY kk m.length=z at *
             refine AK (ι:={j:Nat//j≤z}) (fun j=>⟨[(16,.sr 78 Bz 0 j.1),(68,.sr 59 Bi 0 z),(69,.p (.int .i64) (z:Int)),(70,.p (.int .i64) (j.1:Int))],[(59,.arr 82 Bi r),(78,.arr 30 Bz ((r.take j.1).map (·.1)))]⟩) (fun j=>z-j.1) ⟨0,Nat.zero_le _⟩ (AC [(59,.nm 59),(78,.nil)] rfl rfl ?_ ?_) (fun j=>?_)
             ·first|exact eN|refine eM ?_
             ·first|exact eN|refine eM ?_
             ·obtain⟨j,hj⟩:=j
              simp only
              have hjl:((r.take j).map (·.1)).length=j:=by rw[List.length_map,List.length_take];omega
              have hjs:∀h:j<r.length,(r.take (j+1)).map (·.1)=(r.take j).map (·.1)++[(r.getD j ([],0)).1]:=fun h=>by rw[Ab r ([],0) h,List.map_append];rfl
              have hjt:((r.take j).map (·.1)).take j=(r.take j).map (·.1):=List.take_of_length_le (by omega)
              repeat'(first|exact trivial|refine eS rfl ?_|refine AB ?_|refine rX [0,1,2,3,6,7,9,11,12,13,15,16,18,20,21,22,23,31,32,33,34,51,53,68,69,70,71] hc ?_ ?_|refine rC ?_ ?_<;>intro AA<;>try(cases AA;done))
              ·exact AA
              ·simp only[AO]
               omega
              ·omega
              ·have hj1:j<z:=by omega
               refine⟨⟨j+1,hj1⟩,by simp only;omega,AC [(59,.nm 59),(78,.nm 78)] rfl rfl ?_ ?_⟩
               ·simp only
                rw[hjs (by omega)]
                first|exact eN|refine eM ?_
                rw[hjt]
               ·first|exact eN|refine eM ?_
              ·have hj1:j=z:=by omega
               subst hj1
               exact AG hc [.tmp 6] rfl (.inl rfl) (by simp) (by first|exact eR|refine Al ?_;exact hjt)
       ·refine rL [0,1,2,3,6,7,9,11,12,13,15,16,18,20,21,22,23,31,32,33,34,51,53,68,69,70,71] hc ?_ ?_
        ·trivial
        ·repeat'(first|exact trivial|refine eS rfl ?_|refine AB ?_|refine rP [0,1,2,3,6,7,9,11,12,13,15,16,18,20,21,22,23,31,32,33,34,51,53,68,69,70,71] hc ?_ ?_|fail)
         refine rC (fun AA=>?_) (fun AA=>?_)<;>try(cases AA;done)
         repeat'(first|exact trivial|refine eS rfl ?_|refine AB ?_|refine rP [0,1,2,3,6,7,9,11,12,13,15,16,18,20,21,22,23,31,32,33,34,51,53,68,69,70,71] hc ?_ ?_|fail)
         refine cP 0 hc ?_ ?_
         ·trivial
         ·refine A2S hc he ?_
          refine rL [0,1,2,3,6,7,9,11,12,13,15,16,18,20,21,22,23,31,32,33,34,51,53,68,69,70,71] hc ?_ ?_
          ·trivial
          ·repeat'(first|exact trivial|refine eS rfl ?_|refine AB ?_|refine rX [0,1,2,3,6,7,9,11,12,13,15,16,18,20,21,22,23,31,32,33,34,51,53,68,69,70,71] hc ?_ ?_|refine rC ?_ ?_<;>intro AA<;>try(cases AA;done))
           ·simp only[AO]
            have hll:=List.length_pos_of_mem hi
            omega
           ·have hll:=List.length_erase_of_mem hi
            have hlp:=List.length_pos_of_mem hi
            refine⟨⟨(left.erase i,some i,ys++[e.2]),mJ hg hi he⟩,by simp only;omega,AC [(51,.nm 51),(59,.nm 59)] rfl rfl ?_ ?_⟩
            ·first|exact eN|refine eM ?_
            ·first|exact eN|refine eM ?_
end
/- Functions of grammarlabref15: Hier. -/
section
attribute [local go_sem] NV NU
def Px:Ae:={ ins:=[EH],pre:=fun _=>True,out:=fun(d,_)=>[.p TH (DA d)] }
theorem WU:Ag Tryz.prog 16 Px:=by
 refine AR Tryz.func16 (by kernel_rfl) rfl Tryz.ntmps16 (by decide) (by kernel_rfl) (AF [(35,NV),(36,NU)]) (AD Z1 (AD Zz AH)) ?_
 rintro w0 O0 ⟨d,u⟩ hc - -
 simp only[Px,AN]
 repeat'(first|exact trivial|refine eS rfl ?_|refine AB ?_|refine rX [0,2,3,4,5,9,16] hc ?_ ?_|refine rC ?_ ?_<;>intro AA<;>try(cases AA;done))
 ·have h1:DA d=(A9 d).1:=by unfold DA;rw[if_pos ⟨by exact eV,AA⟩]
  exact AG hc [.cell 2 37] rfl (.inl rfl) (by simp) (by rw[h1];first|exact eR|refine Al ?_)
 ·have h1:DA d=(A9 Gp).1:=by unfold DA;rw[if_neg (fun h=>AA h.2)]
  exact AG hc [.cell 2 37] rfl (.inl rfl) (by simp) (by rw[h1];first|exact eR|refine Al ?_)
 ·have h1:DA d=(A9 Gp).1:=by
   unfold DA
   rw[if_neg]
   intro h
   have:=h.1
   exact eV
  exact AG hc [.cell 2 37] rfl (.inl rfl) (by simp) (by rw[h1];first|exact eR|refine Al ?_)
end
/- Plain: a part of what is valid is valid; parts of what unifies unify. -/
section
theorem Nj (d:List AJ):H11 (DA d):=by
 unfold DA
 split
 ·exact Pu d
 ·exact Pu Gp
end
/- The types of a compiled hierarchy have different, normal codes. -/
section
theorem aV (d:List AJ):Nd ((A9 d).1.1.map fun t=>t.2.1):=by
 unfold A9
 split
 ·exact⟨.nil,fun c h=>(by cases h)⟩
 ·rename_i hv
  have hv:(BJ d).2=0:=Classical.byContradiction hv
  have h5:BH d=0:=by
   unfold BJ at hv
   split at hv
   ·rename_i h;exact absurd hv h
   ·rename_i h;exact Classical.byContradiction h
  obtain⟨hz,-,-⟩:=CK h5
  obtain⟨h3,hlen,-⟩:=Bc hz
  have hf:Nd (Ay (AZ d)):=WK (Uh h3)
  have e:((Fs d).1.map fun t=>t.2.1)=(Au d).map fun x=>x.2:=by
   show ((EX _ _ _).map fun t=>t.2.1)=_
   unfold EX
   rw[List.map_map]
   apply List.ext_getElem
   ·simp
   ·intro i h1 h2
    simp[List.getD_eq_getElem?_getD,show i<(Au d).length by simpa using h1]
  show Nd ((Fs d).1.map fun t=>t.2.1)
  rw[e]
  refine⟨KV (by simpa using hf.nd),fun c hc=>?_⟩
  obtain⟨x,hx,rfl⟩:=List.mem_map.1 hc
  obtain⟨b,hb,rfl⟩:=DP.1 hx
  exact hf.nrm b hb
end
/- Plain: unifications that can be computed. -/
section
/-! What is valid can be computed -/
def roB (f:List AL):Bool:=(List.range f.length).all fun(i:Nat)=>i==0||(List.range i).any fun j=>(f.getD j (0,[])).2.any fun a=>a.2==(i:Int)
def yL:List (Int×Int)→Bool
 | a :: b :: l=>decide (a.1<b.1)&&yL (b :: l)
 | _=>true
theorem iZ:∀ {l:List (Int×Int)},yL l=true→Str l
 | [],_=>.nil
 | [a],_=>List.pairwise_singleton _ _
 | a :: b :: l,h=>by
  simp only[yL,Bool.and_eq_true,decide_eq_true_eq]at h
  have ih:=iZ h.2
  refine List.pairwise_cons.2 ⟨fun c hc=>?_,ih⟩
  rcases List.mem_cons.1 hc with rfl|hc
  ·exact h.1
  ·have:=(List.pairwise_cons.1 ih).1 c hc
   omega
def vfB (h:AP) (f:List AL):Bool :=
 decide (0<f.length)&&decide (f.length≤100)&&roB f&&(CP f 0==f)&&f.all fun x=>decide (0≤x.1)&&decide (x.1<(h.1.length:Int))&&decide (x.2.length≤100)&&yL x.2&&x.2.all fun a=>decide (0≤a.1)&&decide (a.1<(h.2.length:Int))&&decide (0≤a.2)&&decide (a.2<(f.length:Int))
theorem sG {h:AP} {f:List AL} (hb:vfB h f=true):VF h f:=by
 unfold vfB at hb
 simp only[Bool.and_eq_true,decide_eq_true_eq,List.all_eq_true,beq_iff_eq]at hb
 obtain⟨⟨⟨⟨h1,h2⟩,h3⟩,h4⟩,h5⟩:=hb
 refine⟨⟨by omega,fun x hx=>⟨by have:=(h5 x hx).1.1.2;omega,fun a ha=>?_⟩⟩,h1,fun x hx=>?_,fun x hx=>?_,fun x hx a ha=>?_,h4,fun i i0 i1=>?_⟩
 ·have:=(h5 x hx).2 a ha
  exact⟨this.1.2,this.2⟩
 ·exact(h5 x hx).1.1.1
 ·exact iZ (h5 x hx).1.2
 ·exact((h5 x hx).2 a ha).1.1
 ·unfold roB at h3
  rw[List.all_eq_true]at h3
  have:=h3 i.toNat (List.mem_range.2 (by omega))
  rw[Bool.or_eq_true,beq_iff_eq]at this
  rcases this with e|e
  ·omega
  ·obtain⟨j,hj,e⟩:=List.any_eq_true.1 e
   obtain⟨a,ha,e⟩:=List.any_eq_true.1 e
   have hj:=List.mem_range.1 hj
   refine⟨(j:Int),by omega,by omega,a,by rw[Bk,Int.toNat_natCast];exact ha,?_⟩
   have e:a.2=(i.toNat:Int):=by simpa using e
   omega
end
/- The example of layer 16: the kernel's part. -/
section
abbrev pH:AP:=DA []
def Yt:List AL:=[(0,[(2,1),(10,2)]),(1,[]),(6,[])]
def yM:List AL:=[(0,[(2,1),(10,2)]),(6,[]),(7,[])]
theorem Lk:H11 pH:=Nj []
theorem i4 {h:AP} (hk:lE h) (hb:h.1.length≤256):rK h:=⟨by omega,fun x hx=>Nat.le_trans (hk.1.wid x.2.1 (List.mem_map.2 ⟨x,hx,rfl⟩)) (by omega)⟩
theorem sH (d:List AJ):WN (DA d):=by
 have key:∀d:List AJ,WN (A9 d).1:=fun d t ht=>(aV d).nrm _ (List.mem_map.2 ⟨t,ht,rfl⟩)
 unfold DA
 split
 ·exact key d
 ·exact key Gp
theorem A0f:pH.1.length=13:=by decide +kernel
theorem WV:VF pH Yt:=sG (by decide +kernel)
theorem sI:VF pH yM:=sG (by decide +kernel)
theorem qx1:CR pH Yt yM=[[10]]:=by decide +kernel
theorem qx2:CR pH yM Yt=[[10]]:=by decide +kernel
theorem qx3:CR pH Yt Yt=[]:=by decide +kernel
theorem qx4:JV (Fx pH) [6,-1] [7,6]=false:=by decide +kernel
theorem qx5:JV (Fx pH) [-1,6] [7,1]=true:=by decide +kernel
theorem qx6:Ja pH [(Yt,yM),(yM,Yt),(Yt,Yt)]=[(JI (Ka [10]),([10],2))]:=by
 simp only[Ja,List.foldl_cons,List.foldl_nil,mH,qx1,qx2,qx3]
 decide +kernel
theorem qx7:BL pH [(Yt,yM),(yM,Yt),(Yt,Yt)] 1=[[10]]:=by
 unfold BL
 rw[qx6]
 decide +kernel
theorem qx8:TU Yt [[10],[5],[]]=[6,-1,0]:=by decide +kernel
end
/- Of grammarlablaw16: exampleHolds. -/
section
theorem yN (h:AP):(h.1,h.2)=h:=rfl
attribute [local go_sem] Px KX Kb lS GE Ow Ox
def Uv:Ae:={ ins:=[],pre:=fun _=>True,out:=fun _=>[.p .bool true] }
theorem i5:Ag Tryz.prog 12 Uv:=by
 refine AR Tryz.func12 (by kernel_rfl) rfl Tryz.ntmps12 (by decide) (by kernel_rfl) (AF [(16,Px),(22,KX),(25,Kb),(14,lS),(21,GE),(13,Ow),(18,Ox)] [10,14,18,22,38,41,42,43,44,47,48,52,53,58,63,64,70,71,76]) (AD WU (AD Yg (AD Sz (AD A0c (AD Oz (AD rI (AD rN AH))))))) ?_
 rintro w0 O0 u hc - -
 simp only[Uv,AN]
 repeat'(first|exact trivial|refine eS rfl ?_|refine AB ?_|refine rP [0,1,2,3,4,5,6] hc ?_ ?_|fail)
 ·exact⟨i4 Lk.hu.ok Lk.b1,⟨WV.good,WV.ty⟩,sI.good,sI.ty⟩
 ·refine⟨⟨i4 Lk.hu.ok Lk.b1,Lk.hu.ft⟩,fun x hx=>?_,?_⟩
  ·simp only[List.mem_cons,List.not_mem_nil,or_false]at hx
   rcases hx with rfl|rfl|rfl
   ·exact⟨⟨WV,WV.srt Lk.hu,by decide⟩,sI⟩
   ·exact⟨⟨sI,sI.srt Lk.hu,by decide⟩,WV⟩
   ·exact⟨⟨WV,WV.srt Lk.hu,by decide⟩,WV⟩
  ·have h6:=qx6
   unfold Yt yM at h6
   show List.length (Ja (DA []) _)<256
   rw[h6]
   decide
 ·exact WV.good
 ·have h1:=qx1
  have h7:=qx7
  have h8:=qx8
  have hl:(DA []).1.length=13:=A0f
  have h4:JV (Fx (DA [])) [6,-1] [7,6]=false:=qx4
  have h5:JV (Fx (DA [])) [-1,6] [7,1]=true:=qx5
  have hw:rK (DA []):=i4 Lk.hu.ok Lk.b1
  unfold Yt yM at h1 h7
  unfold Yt at h8
  have he:((DA []).1,(DA []).2)=DA []:=rfl
  simp only[he]
  rw[h1,h7,h8]
  clear h1 h7 h8
  generalize DA []=h at *
  repeat'(first|exact trivial|refine eS rfl ?_|refine AB ?_|refine rX [0,1,2,3,4,5,6] hc ?_ ?_|refine rC ?_ ?_<;>intro AA<;>try(cases AA;done))
  ·simp only[yN h]
   have t1:y9 h [6,-1]:=fun x hx=>by simp only[List.mem_cons,List.not_mem_nil,or_false]at hx;rcases hx with rfl|rfl<;>omega
   have t2:y9 h [7,6]:=fun x hx=>by simp only[List.mem_cons,List.not_mem_nil,or_false]at hx;rcases hx with rfl|rfl<;>omega
   have t3:y9 h [-1,6]:=fun x hx=>by simp only[List.mem_cons,List.not_mem_nil,or_false]at hx;rcases hx with rfl|rfl<;>omega
   have t4:y9 h [7,1]:=fun x hx=>by simp only[List.mem_cons,List.not_mem_nil,or_false]at hx;rcases hx with rfl|rfl<;>omega
   have t5:y9 h [3]:=fun x hx=>by simp only[List.mem_cons,List.not_mem_nil,or_false]at hx;subst hx;omega
   have t6:y9 h []:=fun x hx=>by cases hx
   exact⟨fun _=>⟨hw,t1,t2⟩,fun _=>⟨hw,t3,t4⟩,fun _=>⟨hw,t6,t5⟩⟩
  ·simp only[yN h,h4,h5]
   have h9:JV (Fx h) [] [3]=true:=rfl
   rw[h9]
   exact AG hc [.tmp 0] rfl (.inl rfl) (by simp) (by first|exact eR|refine Al ?_)
end
/- Functions of grammarlabref15: Valid. -/
section
attribute [local go_sem] SL Qh
def O7:Ae:={ ins:=[TH,HS],pre:=fun _=>True,out:=fun(h,f,_)=>[.p .bool (Hw h f)],lend:=true }
theorem sJ:Ag Tryz.prog 20 O7:=by
 refine AR Tryz.func20 (by kernel_rfl) rfl Tryz.ntmps20 (by decide) (by kernel_rfl) (AF [(30,SL),(39,Qh)]) (AD qC (AD l4 AH)) ?_
 rintro w0 O0 ⟨⟨ht,hf⟩,f,u⟩ hc - -
 simp only[O7,AN]
 repeat'(first|exact trivial|refine eS rfl ?_|refine AB ?_|refine rX [0,1,2,3,4] hc ?_ ?_|refine rC ?_ ?_<;>intro AA<;>try(cases AA;done))
 ·intro h
  obtain⟨h1,h2⟩:=KO h
  exact⟨Nat.le_trans h1 (by decide),fun x hx=>Nat.le_trans (h2 x hx) (by decide)⟩
 ·exact AG hc [.tmp 4] rfl (.inl rfl) (by simp) (by unfold Hw;first|exact eR|refine Al ?_)
end
/- Of grammarlablaw16: light. -/
section
attribute [local go_sem] O7
end
/- Of grammarlablaw16: types; of grammarlabref16: has. -/
section
attribute [local go_sem] KW
def sK (h:AP) (l:List Int):Bool:=decide (l.length≤20)&&l.all fun x=>decide (x<(h.1.length:Int))
def Yu:Ae:={ ins:=[TH,Bz],pre:=fun _=>True,out:=fun(h,l,_)=>[.p .bool (sK h l)],lend:=true }
attribute [local go_sem] Yu
def S0:Ae:={ ins:=[IJ,Bz],pre:=fun _=>True,out:=fun(l,p,_)=>[.p .bool (decide (p∈(l:List (List Int))))],lend:=true }
attribute [local go_sem] S0
theorem sL:Ag Tryz.prog 49 S0:=by
 refine AR Tryz.func49 (by kernel_rfl) rfl Tryz.ntmps49 (by decide) (by kernel_rfl) (AF [(40,KW)]) (AD Sn AH) ?_
 rintro w0 O0 ⟨l,p,u⟩ hc ⟨⟨hl,-⟩,-⟩ -
 simp only[AO]at hl
 simp only[S0,AN]
 repeat'(first|exact trivial|refine eS rfl ?_|refine AB ?_|refine rX [0,1,4,5,9,17] hc ?_ ?_|refine rC ?_ ?_<;>intro AA<;>try(cases AA;done))
 refine AK (ι:={k:Nat//k≤List.length l∧p∉(l:List (List Int)).take k}) (fun k=>⟨[(0,.p IJ l),(1,.p Bz p),(5,.p (.int .i64) (k.1:Int))],[]⟩) (fun k=>List.length l-k.1) ⟨0,Nat.zero_le _,by simp⟩ (AC [] rfl rfl ?_ ?_) (fun k=>?_)
 ·first|exact eN|refine eM ?_
 ·first|exact eN|refine eM ?_
 ·obtain⟨k,hk,he⟩:=k
  repeat'(first|exact trivial|refine eS rfl ?_|refine AB ?_|refine rX [0,1,4,5,9,17] hc ?_ ?_|refine rC ?_ ?_<;>intro AA<;>try(cases AA;done))
  ·exact AA
  ·have hkl:k<List.length l:=by exact eV
   have h1:p∈(l:List (List Int)):=by
    rw[←AA]
    exact AE (l:List (List Int)) [] hkl
   exact AG hc [.tmp 4] rfl (.inl rfl) (by simp) (by rw[decide_eq_true h1];first|exact eR|refine Al ?_)
  ·exact eV
  ·have hkl:k<List.length l:=by exact eV
   refine⟨⟨k+1,hkl,?_⟩,by simp only;omega,AC [] rfl rfl ?_ ?_⟩
   ·rw[Ab (l:List (List Int)) [] hkl]
    intro hm
    rcases List.mem_append.1 hm with hm|hm
    ·exact he hm
    ·exact AA (List.mem_singleton.1 hm).symm
   ·first|exact eN|refine eM ?_
   ·first|exact eN|refine eM ?_
  ·have hkl:(l:List (List Int)).take k=l:=List.take_of_length_le (by exact eV)
   rw[hkl]at he
   exact AG hc [.tmp 4] rfl (.inl rfl) (by simp) (by rw[decide_eq_false he];first|exact eR|refine Al ?_)
end
/- Functions of unify: Unify. -/
section
open Go
end
/- The laws QuickVectors, QuickFits, QuickClashes. -/
section
structure HQ (h:AP):Prop where
 h11:H11 h
 nrm:WN h
 wd:rK h
theorem zE (d:List AJ):HQ (DA d):=⟨Nj d,sH d,i4 (Nj d).hu.ok (Nj d).b1⟩
theorem HQ.vf {h:AP} (hh:HQ h) {f:List AL} (hv:Hw h f=true):(VF h f∧FY f)∧f.length≤12:=by
 have:=rW hh.h11.b1 hh.h11.hu.ft hv
 exact⟨⟨this.1,this.1.srt hh.h11.hu⟩,this.2⟩
attribute [local go_sem] Uv lS Ow Px Yu Ox O7 KX IX GE
end
/- Of grammarlablaw16: valid; of grammarlabref16: Train. -/
section
abbrev Aa:=List (List AL×List AL)
def B5 (h:AP) (ps:Aa):Bool:=decide (ps.length≤6)&&ps.all fun x=>Hw h x.1&&Hw h x.2
def CG (h:AP) (x:List AL×List AL):List (List Int):=CV h x.1 x.2 x.1.length
def G0 (l:List (List Int)) (all:List (List Int)):List (List Int):=l.foldl (fun a p=>Dl p false a) all
def sM (h:AP) (ps:Aa):List (List Int):=ps.foldl (fun a x=>G0 (CG h x) a) []
def Ek (found:List (List (List Int))) (p:List Int):Int:=(found.countP fun l=>decide (p∈l):Nat)
def O8 (found:List (List (List Int))) (k:Int) (n:Int) (out:List (List Int)) (p:List Int):List (List Int):=if Ek found p=n∧(out.length:Int)<k∧(out.length:Int)<256 then out++[p] else out
def TX (found:List (List (List Int))) (k:Int) (all:List (List Int)):Nat→List (List Int)→List (List Int)
 | 0,out=>out
 | n+1,out=>TX found k all n (all.foldl (O8 found k ((n+1:Nat):Int)) out)
def Kd (h:AP) (ps:Aa) (k:Int):List (List Int):=TX (ps.map (CG h)) k (sM h ps) ps.length []
theorem Yv:∀(l all:List (List Int)),(G0 l all).length≤all.length+l.length
 | [],all=>Nat.le_refl _
 | p :: l,all=>by
  have h1:=Yv l (Dl p false all)
  have h2:=O3 p false all
  rw[if_neg (by simp)]at h2
  show (G0 l (Dl p false all)).length≤_
  rw[List.length_cons]
  omega
theorem Ke {α β:Type} (f:β→α→β) (b:β) (l:List α) (d:α) {k:Nat} (h:k<l.length):(l.take (k+1)).foldl f b=f ((l.take k).foldl f b) (l.getD k d):=by
 rw[Ab l d h,List.foldl_append]
 rfl
attribute [local go_sem] O7 IX Sq S0
def Ia:Ae:={ ins:=[TH,kG],pre:=fun _=>True,out:=fun(h,ps,_)=>[.p .bool (B5 h ps)],lend:=true }
attribute [local go_sem] Ia
theorem S1:Ag Tryz.prog 24 Ia:=by
 refine AR Tryz.func24 (by kernel_rfl) rfl Tryz.ntmps24 (by decide) (by kernel_rfl) (AF [(20,O7)]) (AD sJ AH) ?_
 rintro w0 O0 ⟨⟨ht,hf⟩,ps,u⟩ hc - -
 simp only[Ia,AN]
 repeat'(first|exact trivial|refine eS rfl ?_|refine AB ?_|refine rX [0,1,2,4,5,8,12,32] hc ?_ ?_|refine rC ?_ ?_<;>intro AA<;>try(cases AA;done))
 ·have h1:B5 (ht,hf) ps=false:=by
   unfold B5
   rw[decide_eq_false (by omega)]
   rfl
  exact AG hc [.tmp 4] rfl (.inl rfl) (by simp) (by rw[h1];first|exact eR|refine Al ?_)
 ·have hl6:List.length ps≤6:=by omega
  refine AK (ι:={k:Nat//k≤List.length ps∧((ps:Aa).take k).all (fun x=>Hw (ht,hf) x.1&&Hw (ht,hf) x.2)=true}) (fun k=>⟨[(1,.p kG ps),(2,.bp 2 [] 0),(5,.p (.int .i64) (k.1:Int))],[(2,.box 37 true [.p WZ ht,.p Xa hf])]⟩) (fun k=>List.length ps-k.1) ⟨0,Nat.zero_le _,rfl⟩ (AC [(2,.nm 2)] rfl rfl ?_ ?_) (fun k=>?_)
  ·first|exact eN|refine eM ?_
  ·first|exact eN|refine eM ?_
  ·obtain⟨k,hk,he⟩:=k
   simp only
   repeat'(first|exact trivial|refine eS rfl ?_|refine AB ?_|refine rX [0,1,2,4,5,8,12,32] hc ?_ ?_|refine rC ?_ ?_<;>intro AA<;>try(cases AA;done))
   ·exact⟨AA,fun _=>AA⟩
   ·have hk1:k<List.length ps:=by omega
    have h1:B5 (ht,hf) ps=false:=by
     unfold B5
     rw[Bool.and_eq_false_iff]
     right
     rw[List.all_eq_false]
     refine⟨_,AE (ps:Aa) ([],[]) hk1,?_⟩
     rw[Bool.and_eq_true]
     rintro⟨e1,e2⟩
     rcases AA with h|h
     ·rw[e1]at h;cases h
     ·rw[e2]at h;cases h
    exact AG hc [.tmp 4] rfl (.inl rfl) (by simp) (by rw[h1];first|exact eR|refine Al ?_)
   ·omega
   ·have hk1:k<List.length ps:=by omega
    refine⟨⟨k+1,hk1,?_⟩,by simp only;omega,AC [(2,.nm 2)] rfl rfl ?_ ?_⟩
    ·rw[Ab (ps:Aa) ([],[]) hk1,List.all_append,he]
     simp only[List.all_cons,List.all_nil,Bool.and_true,Bool.true_and,Bool.and_eq_true]
     exact AA
    ·first|exact eN|refine eM ?_
    ·first|exact eN|refine eM ?_
   ·have hk1:k=List.length ps:=by omega
    rw[hk1,show (ps:Aa).take (List.length ps)=ps from List.take_length]at he
    have h1:B5 (ht,hf) ps=true:=by
     unfold B5
     rw[decide_eq_true (show List.length (ps:Aa)≤6 from hl6),he]
     rfl
    exact AG hc [.tmp 4] rfl (.inl rfl) (by simp) (by rw[h1];first|exact eR|refine Al ?_)
def Kg:Ae:={ ins:=[TH,kG,T3],pre:=fun(h,ps,k,_)=>rK h∧List.length ps≤6∧(∀x∈(ps:Aa),(BA x.1∧0<x.1.length∧QJ h x.1∧x.1.length≤12)∧BA x.2∧0<x.2.length∧QJ h x.2),out:=fun(h,ps,k,_)=>[.p IJ (Kd h ps k)] }
attribute [local go_sem] Kg
theorem aW:Ag Tryz.prog 26 Kg:=by
 refine AR Tryz.func26 (by kernel_rfl) rfl Tryz.ntmps26 (by decide) (by kernel_rfl) (AF [(23,IX),(44,Sq),(49,S0)]) (AD aM (AD iU (AD sL AH))) ?_
 rintro w0 O0 ⟨⟨ht,hf⟩,ps,kk,u⟩ hc-⟨hw,h6,hv⟩
 simp only[Kg,AN]
 have h6:List.length ps≤6:=h6
 repeat'(first|exact trivial|refine eS rfl ?_|refine AB ?_|refine rX [0,1,2,3,6,7,8,9,10,11,12,13,14,15,16,20,42,54,60,66,77,93] hc ?_ ?_|refine rC ?_ ?_<;>intro AA<;>try(cases AA;done))
 refine AK (ι:={k:Nat//k≤List.length ps∧(((ps:Aa).take k).foldl (fun a x=>G0 (CG (ht,hf) x) a) []).length≤12*k}) (fun k=>⟨[(1,.p kG ps),(2,.p T3 kk),(3,.bp 3 [] 0),(7,.sr 38 IJ 0 k.1),(8,.p IJ (((ps:Aa).take k.1).foldl (fun a x=>G0 (CG (ht,hf) x) a) [])),(9,.p (.int .i64) (k.1:Int))],[(3,.box 37 true [.p WZ ht,.p Xa hf]),(38,.arr 25 IJ (((ps:Aa).take k.1).map (CG (ht,hf))))]⟩) (fun k=>List.length ps-k.1) ⟨0,Nat.zero_le _,Nat.le_refl 0⟩ (AC [(3,.nm 3),(38,.nil)] rfl rfl ?_ ?_) (fun k=>?_)
 ·first|exact eN|refine eM ?_
 ·first|exact eN|refine eM ?_
  rfl
 ·obtain⟨k,hk,hle⟩:=k
  simp only
  have hks:∀h:k<List.length ps,((ps:Aa).take (k+1)).foldl (fun a x=>G0 (CG (ht,hf) x) a) []=G0 (CG (ht,hf) (List.getD (ps:Aa) k ([],[]))) (((ps:Aa).take k).foldl (fun a x=>G0 (CG (ht,hf) x) a) []):=fun h=>Ke _ _ _ _ h
  have hfs:∀h:k<List.length ps,((ps:Aa).take (k+1)).map (CG (ht,hf))=((ps:Aa).take k).map (CG (ht,hf))++[CG (ht,hf) (List.getD (ps:Aa) k ([],[]))]:=fun h=>by rw[Ab (ps:Aa) ([],[]) h,List.map_append];rfl
  have hfl:(((ps:Aa).take k).map (CG (ht,hf))).length=k:=by rw[List.length_map,List.length_take];exact Nat.min_eq_left hk
  have hft:(((ps:Aa).take k).map (CG (ht,hf))).take k=((ps:Aa).take k).map (CG (ht,hf)):=List.take_of_length_le (by omega)
  repeat'(first|exact trivial|refine eS rfl ?_|refine AB ?_|refine rX [0,1,2,3,6,7,8,9,10,11,12,13,14,15,16,20,42,54,60,66,77,93] hc ?_ ?_|refine rC ?_ ?_<;>intro AA<;>try(cases AA;done))
  ·have hk1:k<List.length ps:=by omega
   obtain⟨⟨g1,g2,g3,g4⟩,g5,g6,g7⟩:=hv _ (AE (ps:Aa) ([],[]) hk1)
   exact⟨AA,AA,hw,⟨g1,g2,g3,g4⟩,g5,g6,g7⟩
  ·simp only[AO]
   omega
  ·have hk1:k<List.length ps:=by omega
   obtain⟨⟨g1,g2,g3,g4⟩,g5,g6,g7⟩:=hv _ (AE (ps:Aa) ([],[]) hk1)
   have hks:=hks hk1
   have hfs:=hfs hk1
   rw[hft]
   have hcl:(CG (ht,hf) (List.getD (ps:Aa) k ([],[]))).length≤12:=Nat.le_trans (KY _ _ _ _) g4
   have hce:CV (ht,hf) (List.getD ps k ([],[])).1 (List.getD ps k ([],[])).2 (List.length (List.getD ps k ([],[])).1)=CG (ht,hf) (List.getD (ps:Aa) k ([],[])):=rfl
   rw[hce]
   generalize CG (ht,hf) (List.getD (ps:Aa) k ([],[]))=cl at *
   generalize ((ps:Aa).take k).map (CG (ht,hf))=fo at *
   refine AK (ι:={j:Nat//j≤cl.length}) (fun j=>⟨[(1,.p kG ps),(2,.p T3 kk),(3,.bp 3 [] 0),(7,.sr 38 IJ 0 (k+1)),(8,.p IJ (G0 (cl.take j.1) (((ps:Aa).take k).foldl (fun a x=>G0 (CG (ht,hf) x) a) []))),(9,.p (.int .i64) (k:Int)),(10,.p IJ cl),(11,.p (.int .i64) (j.1:Int))],[(3,.box 37 true [.p WZ ht,.p Xa hf]),(38,.arr 25 IJ (fo++[cl]))]⟩) (fun j=>cl.length-j.1) ⟨0,Nat.zero_le _⟩ (AC [(3,.nm 3),(38,.nm 38)] rfl rfl ?_ ?_) (fun j=>?_)
   ·first|exact eN|refine eM ?_
   ·first|exact eN|refine eM ?_
    rfl
   ·obtain⟨j,hj⟩:=j
    simp only
    have hjl:=Yv (cl.take j) (((ps:Aa).take k).foldl (fun a x=>G0 (CG (ht,hf) x) a) [])
    rw[List.length_take]at hjl
    have hjs:∀h:j<cl.length,G0 (cl.take (j+1)) (((ps:Aa).take k).foldl (fun a x=>G0 (CG (ht,hf) x) a) [])=Dl (cl.getD j []) false (G0 (cl.take j) (((ps:Aa).take k).foldl (fun a x=>G0 (CG (ht,hf) x) a) [])):=fun h=>Ke _ _ _ _ h
    repeat'(first|exact trivial|refine eS rfl ?_|refine AB ?_|refine rX [0,1,2,3,6,7,8,9,10,11,12,13,14,15,16,20,42,54,60,66,77,93] hc ?_ ?_|refine rC ?_ ?_<;>intro AA<;>try(cases AA;done))
    ·exact⟨AA,Nat.le_trans hjl (by omega)⟩
    ·omega
    ·have hj1:j<cl.length:=by omega
     refine⟨⟨j+1,hj1⟩,by simp only;omega,AC [(3,.nm 3),(38,.nm 38)] rfl rfl ?_ ?_⟩
     ·first|exact eN|refine eM ?_
     ·simp only
      rw[hjs hj1]
      first|exact eN|refine eM ?_
    ·omega
    ·have hj1:j=cl.length:=by omega
     subst hj1
     rw[List.take_length]at hjl ⊢
     refine⟨⟨k+1,hk1,by rw[hks];omega⟩,by simp only;omega,AC [(3,.nm 3),(38,.nm 38)] rfl rfl ?_ ?_⟩
     ·simp only
      rw[hfs]
      first|exact eN|refine eM ?_
     ·simp only
      rw[hks]
      first|exact eN|refine eM ?_
  ·have hk1:k=List.length ps:=by omega
   subst hk1
   have hta:(ps:Aa).take (List.length ps)=ps:=List.take_length
   rw[hta]at hle hft hfl ⊢
   have hae:(ps:Aa).foldl (fun a x=>G0 (CG (ht,hf) x) a) []=sM (ht,hf) ps:=rfl
   have htr:Kd (ht,hf) ps kk=TX ((ps:Aa).map (CG (ht,hf))) kk (sM (ht,hf) ps) (List.length ps) []:=rfl
   rw[hae]at hle ⊢
   rw[htr]
   clear htr hae hft hks hfs
   generalize (ps:Aa).map (CG (ht,hf))=fo at *
   generalize sM (ht,hf) ps=al at *
   generalize hn:List.length ps=n0 at *
   refine AK (ι:={s:Nat×List (List Int)//s.1≤n0∧s.2.length≤256∧TX fo kk al n0 []=TX fo kk al s.1 s.2}) (fun s=>⟨[(2,.p T3 kk),(7,.sr 38 IJ 0 n0),(8,.p IJ al),(12,.sr 100 Bz 0 s.1.2.length),(13,.p (.int .i64) (s.1.1:Int))],[(38,.arr 25 IJ fo),(100,.arr 30 Bz s.1.2)]⟩) (fun s=>s.1.1) ⟨(n0,[]),Nat.le_refl _,Nat.zero_le _,rfl⟩ (AC [(38,.nm 38),(100,.nil)] rfl rfl ?_ ?_) (fun s=>?_)
   ·first|exact eN|refine eM ?_
   ·first|exact eN|refine eM ?_
   ·obtain⟨⟨n,out⟩,hn1,ho1,heq⟩:=s
    simp only at hn1 ho1 heq ⊢
    repeat'(first|exact trivial|refine eS rfl ?_|refine AB ?_|refine rX [0,1,2,3,6,7,8,9,10,11,12,13,14,15,16,20,42,54,60,66,77,93] hc ?_ ?_|refine rC ?_ ?_<;>intro AA<;>try(cases AA;done))
    ·have hn0:0<n:=by omega
     have hal:al.length≤72:=by omega
     refine AK (ι:={s:Nat×List (List Int)//s.1≤al.length∧s.2.length≤256∧s.2=(al.take s.1).foldl (O8 fo kk (n:Int)) out}) (fun s=>⟨[(2,.p T3 kk),(7,.sr 38 IJ 0 n0),(8,.p IJ al),(12,.sr 100 Bz 0 s.1.2.length),(13,.p (.int .i64) (n:Int)),(14,.p (.int .i64) (s.1.1:Int))],[(38,.arr 25 IJ fo),(100,.arr 30 Bz s.1.2)]⟩) (fun s=>al.length-s.1.1) ⟨(0,out),Nat.zero_le _,ho1,rfl⟩ (AC [(38,.nm 38),(100,.nm 100)] rfl rfl ?_ ?_) (fun s=>?_)
     ·first|exact eN|refine eM ?_
     ·first|exact eN|refine eM ?_
     ·obtain⟨⟨i,o⟩,hi,ho,hoe⟩:=s
      simp only at hi ho hoe ⊢
      have hos:∀h:i<al.length,(al.take (i+1)).foldl (O8 fo kk (n:Int)) out=O8 fo kk (n:Int) o (al.getD i []):=fun h=>by rw[Ke _ _ _ [] h,←hoe]
      repeat'(first|exact trivial|refine eS rfl ?_|refine AB ?_|refine rX [0,1,2,3,6,7,8,9,10,11,12,13,14,15,16,20,42,54,60,66,77,93] hc ?_ ?_|refine rC ?_ ?_<;>intro AA<;>try(cases AA;done))
      ·have hi1:i<al.length:=by omega
       have hos:=hos hi1
       generalize hpe:al.getD i []=p at *
       refine AK (ι:={m:Nat//m≤n0}) (fun x=>⟨[(2,.p T3 kk),(7,.sr 38 IJ 0 n0),(8,.p IJ al),(12,.sr 100 Bz 0 o.length),(13,.p (.int .i64) (n:Int)),(14,.p (.int .i64) (i:Int)),(15,.p (.int .i64) (Ek (fo.take x.1) p)),(16,.p (.int .i64) (x.1:Int))],[(38,.arr 25 IJ fo),(100,.arr 30 Bz o)]⟩) (fun x=>n0-x.1) ⟨0,Nat.zero_le _⟩ (AC [(38,.nm 38),(100,.nm 100)] rfl rfl ?_ ?_) (fun x=>?_)
       ·first|exact eN|refine eM ?_
       ·first|exact eN|refine eM ?_
        rfl
       ·obtain⟨m,hm⟩:=x
        simp only
        have hmt:0≤Ek (fo.take m) p∧Ek (fo.take m) p≤(m:Int):=by
         unfold Ek
         have:=List.countP_le_length (p:=fun l=>decide (p∈l)) (l:=fo.take m)
         rw[List.length_take]at this
         omega
        have hms:∀h:m<fo.length,Ek (fo.take (m+1)) p=Ek (fo.take m) p+(if p∈fo.getD m [] then 1 else 0):=fun h=>by
         unfold Ek
         rw[Ab fo [] h,List.countP_append,List.countP_cons,List.countP_nil]
         by_cases hp:p∈fo.getD m []
         ·rw[if_pos (decide_eq_true hp),if_pos hp]
          omega
         ·rw[if_neg (by simpa using hp),if_neg hp]
          omega
        rw[←hpe]at hms hmt
        repeat'(first|exact trivial|refine eS rfl ?_|refine AB ?_|refine rX [0,1,2,3,6,7,8,9,10,11,12,13,14,15,16,20,42,54,60,66,77,93] hc ?_ ?_|refine rC ?_ ?_<;>intro AA<;>try(cases AA;done))
        ·exact⟨AA,Int.ofNat_lt.2 hi1⟩
        ·rw[←hpe]
         omega
        ·omega
        ·have hm1:m<n0:=by omega
         have hms:=hms (by omega)
         rw[if_pos AA]at hms
         refine⟨⟨m+1,hm1⟩,by simp only;omega,AC [(38,.nm 38),(100,.nm 100)] rfl rfl ?_ ?_⟩
         ·first|exact eN|refine eM ?_
         ·simp only
          rw[←hpe,hms]
          first|exact eN|refine eM ?_
        ·omega
        ·have hm1:m<n0:=by omega
         have hms:=hms (by omega)
         rw[if_neg AA,Int.add_zero]at hms
         refine⟨⟨m+1,hm1⟩,by simp only;omega,AC [(38,.nm 38),(100,.nm 100)] rfl rfl ?_ ?_⟩
         ·first|exact eN|refine eM ?_
         ·simp only
          rw[←hpe,hms]
          first|exact eN|refine eM ?_
        ·simp only[AO]
         exact⟨Int.ofNat_lt.2 hi1,by omega⟩
        ·omega
        ·have hm1:m=n0:=by omega
         have hft2:fo.take m=fo:=List.take_of_length_le (by omega)
         rw[hft2]at AA
         have hos1:O8 fo kk (n:Int) o p=o++[p]:=if_pos ⟨AA.1.1,AA.1.2,AA.2⟩
         rw[hos1]at hos
         refine⟨⟨(i+1,o++[p]),hi1,by simp only[List.length_append,List.length_singleton];omega,hos.symm⟩,by simp only;omega,AC [(38,.nm 38),(100,.nm 100)] rfl rfl ?_ ?_⟩
         ·simp only
          rw[←hpe]
          first|exact eN|refine eM ?_
         ·first|exact eN|refine eM ?_
        ·omega
        ·have hm1:m=n0:=by omega
         have hft2:fo.take m=fo:=List.take_of_length_le (by omega)
         rw[hft2]at AA
         have hos1:O8 fo kk (n:Int) o p=o:=if_neg fun h=>by
          have:=AA ⟨h.1,h.2.1⟩
          have:=h.2.2
          omega
         rw[hos1]at hos
         refine⟨⟨(i+1,o),hi1,ho,hos.symm⟩,by simp only;omega,AC [(38,.nm 38),(100,.nm 100)] rfl rfl ?_ ?_⟩
         ·first|exact eN|refine eM ?_
         ·first|exact eN|refine eM ?_
      ·omega
      ·have hi1:i=al.length:=by omega
       subst hi1
       rw[List.take_length]at hoe
       have hoo:TX fo kk al n out=TX fo kk al (n-1) o:=by
        obtain⟨n',rfl⟩:∃n',n=n'+1:=⟨n-1,by omega⟩
        rw[hoe]
        rfl
       refine⟨⟨(n-1,o),by simp only;omega,ho,heq.trans hoo⟩,by simp only;omega,AC [(38,.nm 38),(100,.nm 100)] rfl rfl ?_ ?_⟩
       ·first|exact eN|refine eM ?_
       ·simp only
        rw[show ((n-1:Nat):Int)=(n:Int)-1 by omega]
        first|exact eN|refine eM ?_
    ·have hn0:n=0:=by omega
     subst hn0
     have hr:TX fo kk al n0 []=out:=heq
     exact AG hc [.tmp 6] rfl (.inl rfl) (by simp) (by rw[hr];first|exact eR|refine Al ?_)
end
/- Plain: both ways of training are the same; fewer paths are a beginning of more. -/
section
def yO (p:List Int):Prop:=∀x∈p,0≤x∧x<64
theorem A0g {x y:Int} (hx:0≤x∧x<64) (hy:0≤y∧y<64) (e:UInt8.ofNat x.toNat=UInt8.ofNat y.toNat):x=y:=by
 have:=congrArg UInt8.toNat e
 simp only[UInt8.toNat_ofNat']at this
 omega
theorem Yw {p q:List Int} (hp:yO p) (hq:yO q) (e:Gv p=Gv q):p=q:=by
 unfold Gv JI at e
 injection e with e
 have e:=congrArg Array.toList e
 simp only at e
 have key:∀p q:List Int,yO p→yO q→(Ka p).map (fun x=>UInt8.ofNat x.toNat)=(Ka q).map (fun x=>UInt8.ofNat x.toNat)→p=q:=by
  intro p
  induction p with
  | nil =>
   intro q _ _ e
   cases q with
   | nil=>rfl
   | cons y q=>simp[Ka]at e
  | cons x p ih =>
   intro q hp hq e
   cases q with
   | nil=>simp[Ka]at e
   | cons y q =>
    have e2:(([Lm .i64 x 8,x]++Ka p).map fun x=>UInt8.ofNat x.toNat)=(([Lm .i64 y 8,y]++Ka q).map fun x=>UInt8.ofNat x.toNat):=e
    simp only[List.cons_append,List.nil_append,List.map_cons,List.cons.injEq]at e2
    obtain⟨_,h2,h3⟩:=e2
    rw[A0g (hp x (by simp)) (hq y (by simp)) h2,ih q (fun z hz=>hp z (by simp[hz])) (fun z hz=>hq z (by simp[hz])) h3]
 exact key p q hp hq e
/-! What the map counts -/
structure mM (S:List (List Int)) (m:Eu):Prop where
 mok:s5 m
 cnt:∀e∈m,e.2.1∈S∧e.2.2=(S.count e.2.1:Int)
 cov:∀p∈S,∃e∈m,e.2.1=p
theorem S2 {e:ByteArray×(List Int×Int)}:∀ {m:Eu},(m.map (·.1)).Nodup→e∈m→EF .str CT e.1 m=some e.2
 | [],_,h=>by cases h
 | x :: m,hn,h=>by
  rw[List.map_cons,List.nodup_cons]at hn
  unfold EF
  rcases List.mem_cons.1 h with rfl|h
  ·rw[if_pos (show Nq .str e.1 e.1=true from (aU _ _).2 rfl)]
  ·rw[if_neg (show ¬Nq .str e.1 x.1=true from fun h2=>hn.1 (by rw[←(aU _ _).1 h2];exact List.mem_map.2 ⟨e,h,rfl⟩))]
   exact S2 hn.2 h
theorem S3 {k:ByteArray}:∀ {m:Eu},(∀e∈m,e.1≠k)→EF .str CT k m=none
 | [],_=>rfl
 | x :: m,h=>by
  unfold EF
  rw[if_neg (show ¬Nq .str k x.1=true from fun h2=>h x (by simp) ((aU _ _).1 h2).symm)]
  exact S3 fun e he=>h e (by simp[he])
theorem Yx {k:ByteArray} {v:List Int×Int} {e:ByteArray×(List Int×Int)}:∀ {m:Eu},(m.map (·.1)).Nodup→(e∈Fz .str CT k v m↔e=(k,v)∨(e∈m∧e.1≠k))
 | [],_=>by
  have:Fz .str CT k v []=[(k,v)]:=rfl
  rw[this]
  simp
 | x :: m,hn=>by
  rw[List.map_cons,List.nodup_cons]at hn
  unfold Fz
  by_cases hk:k=x.1
  ·subst hk
   rw[if_pos (show Nq .str x.1 x.1=true from (aU _ _).2 rfl)]
   constructor
   ·intro h
    rcases List.mem_cons.1 h with h|h
    ·exact .inl h
    ·exact .inr ⟨by simp[h],fun e2=>hn.1 (by rw[←e2];exact List.mem_map.2 ⟨e,h,rfl⟩)⟩
   ·rintro (h|⟨h,h2⟩)
    ·rw[h];simp
    ·rcases List.mem_cons.1 h with h|h
     ·exact absurd (by rw[h]) h2
     ·simp[h]
  ·rw[if_neg (show ¬Nq .str k x.1=true from fun h=>hk ((aU k x.1).1 h))]
   have ih:=Yx (k:=k) (v:=v) (e:=e) hn.2
   constructor
   ·intro h
    rcases List.mem_cons.1 h with h|h
    ·exact .inr ⟨by simp[h],by rw[h];exact fun e2=>hk e2.symm⟩
    ·rcases ih.1 h with h|⟨h,h2⟩
     ·exact .inl h
     ·exact .inr ⟨by simp[h],h2⟩
   ·rintro (h|⟨h,h2⟩)
    ·exact List.mem_cons_of_mem _ (ih.2 (.inl h))
    ·rcases List.mem_cons.1 h with h|h
     ·rw[h];simp
     ·exact List.mem_cons_of_mem _ (ih.2 (.inr ⟨h,h2⟩))
theorem yP {S:List (List Int)} {m:Eu} (h:mM S m) (hS:∀p∈S,yO p) {p:List Int} (hp:yO p):mM (S++[p]) (Bq m p):=by
 have hcp:∀q,(S++[p]).count q=S.count q+(if p=q then 1 else 0):=fun q=>by
  rw[List.count_append,List.count_cons,List.count_nil]
  by_cases e:p=q
  ·simp[e]
  ·simp[e]
 have hv:(((EF .str CT (Gv p) m).getD ([],0):List Int×Int)).2=(S.count p:Int):=by
  by_cases hpS:p∈S
  ·obtain⟨e,he,hep⟩:=h.cov p hpS
   have h1:=S2 h.mok.1 he
   rw[h.mok.2 e he,hep]at h1
   rw[h1]
   have:=(h.cnt e he).2
   rw[hep]at this
   exact this
  ·have h1:EF .str CT (Gv p) m=none:=S3 fun e he hk=>hpS (by
    have h2:=(h.cnt e he).1
    rw[h.mok.2 e he]at hk
    rw[←Yw (hS _ h2) hp hk]
    exact h2)
   rw[h1,List.count_eq_zero.2 hpS]
   rfl
 have hmem:∀e,e∈Bq m p↔e=(Gv p,(p,(S.count p:Int)+1))∨(e∈m∧e.1≠Gv p):=fun e=>by
  unfold Bq
  rw[hv]
  exact Yx h.mok.1
 refine⟨Pw h.mok p,fun e he=>?_,fun q hq=>?_⟩
 ·rcases (hmem e).1 he with rfl|⟨h1,h2⟩
  ·refine⟨by simp,?_⟩
   simp only
   rw[hcp,if_pos rfl]
   omega
  ·have hep:e.2.1≠p:=fun e2=>h2 (by rw[h.mok.2 e h1,e2])
   obtain⟨c1,c2⟩:=h.cnt e h1
   refine⟨by simp[c1],?_⟩
   rw[hcp,if_neg (fun e2=>hep e2.symm),c2]
   omega
 ·by_cases hqp:q=p
  ·exact⟨_,(hmem _).2 (.inl rfl),hqp.symm⟩
  ·have hqS:q∈S:=by
    rcases List.mem_append.1 hq with h1|h1
    ·exact h1
    ·exact absurd (by simpa using h1) hqp
   obtain⟨e,he,hep⟩:=h.cov q hqS
   refine⟨e,(hmem e).2 (.inr ⟨he,fun e2=>hqp ?_⟩),hep⟩
   rw[h.mok.2 e he,hep]at e2
   exact Yw (hS q hqS) hp e2
theorem sN {S:List (List Int)}:∀(l:List (List Int)) {T:List (List Int)} {m:Eu},mM T m→(∀p∈T,yO p)→(∀p∈l,yO p)→mM (T++l) (l.foldl Bq m)
 | [],T,m,h,_,_=>by rw[List.append_nil];exact h
 | p :: l,T,m,h,hT,hl=>by
  have:=sN (S:=S) l (yP h hT (hl p (by simp))) (fun q hq=>by
   rcases List.mem_append.1 hq with h1|h1
   ·exact hT q h1
   ·rw[show q=p by simpa using h1];exact hl p (by simp)) (fun q hq=>hl q (by simp[hq]))
  rw[List.append_assoc]at this
  exact this
def Cw (h:AP) (ps:Aa):List (List Int):=ps.flatMap fun x=>CR h x.1 x.2
theorem Uw (h:AP) (ps:Aa):Ja h ps=(Cw h ps).foldl Bq []:=by
 have key:∀(ps:Aa) (m:Eu),ps.foldl (fun m x=>mH h x.1 x.2 m) m=(Cw h ps).foldl Bq m:=by
  intro ps
  induction ps with
  | nil=>exact fun m=>rfl
  | cons x ps ih =>
   intro m
   show ps.foldl _ (mH h x.1 x.2 m)=_
   rw[ih]
   unfold Cw
   rw[List.flatMap_cons,List.foldl_append]
   rfl
 exact key ps []
structure TY (h:AP) (ps:Aa):Prop where
 pth:∀p∈Cw h ps,yO p
 nd:∀x∈ps,(CR h x.1 x.2).Nodup
theorem yQ {h:AP} {ps:Aa} (ho:TY h ps):mM (Cw h ps) (Ja h ps):=by
 rw[Uw]
 have:=sN (S:=Cw h ps) (Cw h ps) (T:=[]) (m:=[]) ⟨⟨List.nodup_nil,fun e he=>(by cases he)⟩,fun e he=>(by cases he),fun p hp=>(by cases hp)⟩ (fun p hp=>(by cases hp)) ho.pth
 exact this
theorem Gw {h:AP}:∀ {ps:Aa},(∀x∈ps,(CR h x.1 x.2).Nodup)→∀p,(Cw h ps).count p=ps.countP fun x=>decide (p∈CR h x.1 x.2)
 | [],_,p=>rfl
 | x :: ps,hn,p=>by
  have ih:=Gw (fun y hy=>hn y (List.mem_cons_of_mem _ hy)) p
  unfold Cw at ih ⊢
  rw[List.flatMap_cons,List.count_append,ih,(hn x (by simp)).count,List.countP_cons]
  by_cases hp:p∈CR h x.1 x.2
  ·rw[if_pos hp,if_pos (decide_eq_true hp)]
   omega
  ·rw[if_neg hp,if_neg (by simpa using hp)]
   omega
/-! The list of all -/
structure AI (S all:List (List Int)):Prop where
 srt:all.Pairwise fun a b=>Ba a b≤0
 nd:all.Nodup
 mem:∀p,p∈all↔p∈S
theorem S4 {p:List Int}:∀ {l:List (List Int)},(l.Pairwise fun a b=>Ba a b≤0)→l.Nodup→p∈l→Dl p false l=l
 | [],_,_,h=>by cases h
 | q :: l,hs,hn,h=>by
  rw[List.pairwise_cons]at hs
  rw[List.nodup_cons]at hn
  rw[D9]
  by_cases hqp:q=p
  ·subst hqp
   have h0:Ba q q=0:=EE.2 rfl
   rw[if_pos ⟨rfl,by omega⟩,if_pos rfl,decide_eq_false (by omega)]
   show [q]++([]++Dl q true l)=q :: l
   rw[MV hn.1]
   rfl
  ·have hpl:p∈l:=by
    rcases List.mem_cons.1 h with h|h
    ·exact absurd h.symm hqp
    ·exact h
   have h1:=hs.1 p hpl
   have h2:Ba q p<0:=by
    have:Ba q p≠0:=fun e=>hqp (EE.1 e)
    omega
   rw[if_neg (fun e=>e.2 h2),if_neg hqp,decide_eq_true h2]
   show []++([q]++Dl p false l)=q :: l
   rw[S4 hs.2 hn.2 hpl]
   rfl
theorem yR {S all:List (List Int)} (h:AI S all) (p:List Int):AI (S++[p]) (Dl p false all):=by
 by_cases hp:p∈all
 ·rw[S4 h.srt h.nd hp]
  refine⟨h.srt,h.nd,fun q=>?_⟩
  rw[List.mem_append,←h.mem q]
  constructor
  ·exact .inl
  ·rintro (h1|h1)
   ·exact h1
   ·rw[show q=p by simpa using h1];exact hp
 ·rw[O4 hp]
  have hperm:=IW p all
  refine⟨Nh p h.srt,hperm.nodup_iff.2 (List.nodup_cons.2 ⟨hp,h.nd⟩),fun q=>?_⟩
  rw[hperm.mem_iff,List.mem_cons,List.mem_append,h.mem q]
  constructor
  ·rintro (h1|h1)
   ·right;rw[h1];simp
   ·exact .inl h1
  ·rintro (h1|h1)
   ·exact .inr h1
   ·left;simpa using h1
theorem S5:∀(l:List (List Int)) {T all:List (List Int)},AI T all→AI (T++l) (G0 l all)
 | [],T,all,h=>by rw[List.append_nil];exact h
 | p :: l,T,all,h=>by
  have:=S5 l (yR h p)
  rw[List.append_assoc]at this
  exact this
theorem Yy (h:AP):∀(ps:Aa) {T all:List (List Int)},AI T all→AI (T++ps.flatMap (CG h)) (ps.foldl (fun a x=>G0 (CG h x) a) all)
 | [],T,all,h=>by rw[List.flatMap_nil,List.append_nil];exact h
 | x :: ps,T,all,ha=>by
  have:=Yy h ps (S5 (CG h x) ha)
  rw[List.append_assoc]at this
  exact this
/-! The paths in the order of training -/
def Ux (k:Int):Nat:=min (if k<0 then 0 else k).toNat 256
theorem sO (k:Int) (n:Nat):n<Ux k↔((n:Int)<k∧(n:Int)<256):=by
 unfold Ux
 split<;>omega
theorem mN {α:Type} (A B:List α) (K:Nat):(A.take K++B).take K=(A++B).take K:=by
 rw[List.take_append,List.take_append,List.take_take,Nat.min_self,List.length_take,show K-min K A.length=K-A.length by omega]
theorem JF (found:List (List (List Int))) (k n:Int):∀(l out:List (List Int)),out.length≤Ux k→l.foldl (O8 found k n) out=(out++l.filter (fun p=>decide (Ek found p=n))).take (Ux k)
 | [],out,h=>by
  rw[List.filter_nil,List.append_nil,List.take_of_length_le h]
  rfl
 | p :: l,out,h=>by
  show l.foldl (O8 found k n) (O8 found k n out p)=_
  by_cases ht:Ek found p=n
  ·rw[List.filter_cons_of_pos (by simpa using ht)]
   by_cases hl:out.length<Ux k
   ·have h1:O8 found k n out p=out++[p]:=if_pos ⟨ht,(sO k _).1 hl⟩
    rw[h1,JF found k n l _ (by rw[List.length_append,List.length_singleton];omega),List.append_assoc]
    rfl
   ·have h1:O8 found k n out p=out:=if_neg fun e=>hl ((sO k _).2 e.2)
    rw[h1,JF found k n l _ h,List.take_append_of_le_length (by omega),List.take_append_of_le_length (by omega)]
  ·have h1:O8 found k n out p=out:=if_neg fun e=>ht e.1
   rw[List.filter_cons_of_neg (by simpa using ht),h1,JF found k n l _ h]
def LL (c:List Int→Int) (all:List (List Int)):Nat→List (List Int)
 | 0=>[]
 | n+1=>all.filter (fun p=>decide (c p=((n+1:Nat):Int)))++LL c all n
theorem i6 (found:List (List (List Int))) (k:Int) (all:List (List Int)):∀(n:Nat) (out:List (List Int)),out.length≤Ux k→TX found k all n out=(out++LL (Ek found) all n).take (Ux k)
 | 0,out,h=>by
  show out=_
  rw[show LL (Ek found) all 0=[] from rfl,List.append_nil,List.take_of_length_le h]
 | n+1,out,h=>by
  show TX found k all n (all.foldl (O8 found k ((n+1:Nat):Int)) out)=_
  rw[JF found k _ all out h,i6 found k all n _ (by rw[List.length_take];omega),mN _ _ (Ux k),List.append_assoc]
  rfl
theorem S6 (c:List Int→Int) (all:List (List Int)) (p:List Int):∀n:Nat,p∈LL c all n↔p∈all∧1≤c p∧c p≤(n:Int)
 | 0=>by
  constructor
  ·intro h;cases h
  ·rintro⟨-,h1,h2⟩;omega
 | n+1=>by
  show p∈all.filter (fun p=>decide (c p=((n+1:Nat):Int)))++LL c all n↔_
  rw[List.mem_append,List.mem_filter,S6 c all p n,decide_eq_true_eq]
  constructor
  ·rintro (⟨h1,h2⟩|⟨h1,h2,h3⟩)
   ·exact⟨h1,by omega,by omega⟩
   ·exact⟨h1,h2,by omega⟩
  ·rintro⟨h1,h2,h3⟩
   by_cases h4:c p=((n+1:Nat):Int)
   ·exact .inl ⟨h1,h4⟩
   ·exact .inr ⟨h1,h2,by omega⟩
theorem zF (c:List Int→Int) {all:List (List Int)} (hn:all.Nodup):∀n:Nat,(LL c all n).Nodup
 | 0=>List.nodup_nil
 | n+1=>by
  show (all.filter (fun p=>decide (c p=((n+1:Nat):Int)))++LL c all n).Nodup
  rw[List.nodup_append]
  refine⟨hn.filter _,zF c hn n,fun a ha b hb e=>?_⟩
  subst e
  have h1:=of_decide_eq_true (List.mem_filter.1 ha).2
  have h2:=((S6 c all a n).1 hb).2.2
  omega
theorem sP (c:List Int→Int) {all:List (List Int)} (hs:all.Pairwise fun a b=>Ba a b≤0):∀n:Nat,((LL c all n).map fun p=>(p,c p)).Pairwise fun a b=>A5 a b≤0
 | 0=>List.Pairwise.nil
 | n+1=>by
  show ((all.filter (fun p=>decide (c p=((n+1:Nat):Int)))++LL c all n).map fun p=>(p,c p)).Pairwise fun a b=>A5 a b≤0
  rw[List.map_append,List.pairwise_append]
  refine⟨?_,sP c hs n,?_⟩
  ·rw[List.pairwise_map]
   refine(hs.filter _).imp_of_mem fun {a b} ha hb h=>?_
   have h1:=of_decide_eq_true (List.mem_filter.1 ha).2
   have h2:=of_decide_eq_true (List.mem_filter.1 hb).2
   unfold A5
   rw[if_pos (show c a=c b by rw[h1,h2])]
   exact h
  ·intro a ha b hb
   obtain⟨p,hp,rfl⟩:=List.mem_map.1 ha
   obtain⟨q,hq,rfl⟩:=List.mem_map.1 hb
   have h1:=of_decide_eq_true (List.mem_filter.1 hp).2
   have h2:=((S6 c all q n).1 hq).2.2
   unfold A5 Ej
   rw[if_neg (show ¬c p=c q by omega),if_pos (show c q<c p by omega)]
   decide
theorem aX {l r:List (List Int×Int)} (hp:r.Perm l) (hs:r.Pairwise fun a b=>A5 a b≤0):Ni l=r:=by
 refine List.Perm.eq_of_pairwise (fun a b _ _ h1 h2=>?_) (O5 l) hs ((JE l).trans hp.symm)
 rw[LK a b]at h2
 exact IZ.1 (by omega)
theorem yS {S all:List (List Int)} {m:Eu} (hm:mM S m) (ha:AI S all) {c:List Int→Int} (hc:∀p,c p=(S.count p:Int)) {n:Nat} (hn:∀p,S.count p≤n):Ni (m.map (·.2))=(LL c all n).map fun p=>(p,c p):=by
 refine aX ?_ (sP c ha.srt n)
 have hinj:((LL c all n).map fun p=>(p,c p)).Nodup:=by
  refine List.Pairwise.map _ (fun a b h e=>h (congrArg Prod.fst e)) (zF c ha.nd n)
 refine(List.perm_ext_iff_of_nodup hinj hm.mok.vals).2 fun e=>?_
 constructor
 ·intro h
  obtain⟨p,hp,rfl⟩:=List.mem_map.1 h
  obtain⟨h1,h2,h3⟩:=(S6 c all p n).1 hp
  obtain⟨e,he,hep⟩:=hm.cov p ((ha.mem p).1 h1)
  refine List.mem_map.2 ⟨e,he,Prod.ext hep ?_⟩
  rw[(hm.cnt e he).2,hep]
  exact(hc p).symm
 ·intro h
  obtain⟨e',he,rfl⟩:=List.mem_map.1 h
  obtain⟨c1,c2⟩:=hm.cnt e' he
  refine List.mem_map.2 ⟨e'.2.1,(S6 c all _ n).2 ⟨(ha.mem _).2 c1,?_,?_⟩,Prod.ext rfl ?_⟩
  ·rw[hc]
   have:=List.count_pos_iff.2 c1
   omega
  ·rw[hc]
   have:=hn e'.2.1
   omega
  ·rw[hc]
   exact c2.symm
theorem Gx {h:AP} {ps:Aa} (ho:TY h ps) {all:List (List Int)} (ha:AI (Cw h ps) all) (k:Int) {n:Nat} (hn:ps.length≤n):BL h ps k=(LL (fun p=>((Cw h ps).count p:Int)) all n).take (Ux k):=by
 have hm:=yQ ho
 have hle:∀p,(Cw h ps).count p≤n:=fun p=>by
  rw[Gw ho.nd p]
  exact Nat.le_trans List.countP_le_length hn
 have hs:=yS hm ha (c:=fun p=>((Cw h ps).count p:Int)) (fun _=>rfl) hle
 unfold BL
 rw[hs,List.map_take,List.map_map]
 have hl:(Ja h ps).length=(LL (fun p=>((Cw h ps).count p:Int)) all n).length:=by
  have h1:=(JE ((Ja h ps).map (·.2))).length_eq
  rw[hs,List.length_map,List.length_map]at h1
  exact h1.symm
 have hid:(LL (fun p=>((Cw h ps).count p:Int)) all n).map ((fun x:List Int×Int=>x.1)∘fun p=>(p,((Cw h ps).count p:Int)))=LL (fun p=>((Cw h ps).count p:Int)) all n:=by
  rw[show ((fun x:List Int×Int=>x.1)∘fun p=>(p,((Cw h ps).count p:Int)))=id from rfl,List.map_id]
 rw[hid,hl]
 show List.take (min (Ux k) _) _=_
 rw[←List.take_take,List.take_length]
theorem aY {h:AP} (hk:lE h) (hn:WN h) (h64:h.2.length≤64) {ps:Aa} (hv:∀x∈ps,(VF h x.1∧FY x.1)∧VF h x.2) (ho:TY h ps) (k:Int):Kd h ps k=BL h ps k:=by
 have hf:∀x∈ps,CG h x=CR h x.1 x.2:=fun x hx=>aN hk hn h64 (hv x hx).1.1 (hv x hx).1.2 (hv x hx).2
 have hall:ps.flatMap (CG h)=Cw h ps:=by
  unfold Cw
  rw[List.flatMap_def,List.flatMap_def,List.map_congr_left hf]
 have ha:AI (Cw h ps) (sM h ps):=by
  have:=Yy h ps (T:=[]) (all:=[]) ⟨List.Pairwise.nil,List.nodup_nil,fun p=>Iff.rfl⟩
  rw[hall]at this
  exact this
 have hc:∀p,Ek (ps.map (CG h)) p=((Cw h ps).count p:Int):=fun p=>by
  unfold Ek
  rw[Gw ho.nd p,List.countP_map,List.countP_congr]
  intro x hx
  show decide (p∈CG h x)=true↔_
  rw[hf x hx]
 have hc:Ek (ps.map (CG h))=fun p=>((Cw h ps).count p:Int):=funext hc
 unfold Kd
 rw[i6 _ _ _ _ _ (Nat.zero_le _),hc,List.nil_append,Gx ho ha k (Nat.le_refl _)]
theorem sQ {h:AP} (h64:h.2.length≤64) {a b:List AL} (va:VF h a) (hs:FY a):(CR h a b).Nodup:=by
 unfold CR
 refine(Fa _).nodup_iff.2 ?_
 unfold D8
 have hr:((List.range a.length).filter (mR h a b)).Nodup:=List.nodup_range.filter _
 rw[List.Nodup,List.pairwise_map]
 refine List.Pairwise.imp_of_mem (fun {i j} hi hj hij e=>hij ?_) hr
 exact Up h64 va hs (List.mem_range.1 (List.mem_filter.1 hi).1) (List.mem_range.1 (List.mem_filter.1 hj).1) e
theorem A2q {h:AP} (h64:h.2.length≤64) {ps:Aa} (hv:∀x∈ps,(VF h x.1∧FY x.1)∧VF h x.2):TY h ps:=by
 refine⟨fun p hp=>?_,fun x hx=>sQ h64 (hv x hx).1.1 (hv x hx).1.2⟩
 obtain⟨x,hx,hp⟩:=List.mem_flatMap.1 hp
 exact(Uq h64 (hv x hx).1.1 (hv x hx).1.2 hp).2
theorem i7:∀(l:List (List Int)) (m:Eu),(l.foldl Bq m).length≤m.length+l.length
 | [],m=>Nat.le_refl _
 | p :: l,m=>by
  have h1:=i7 l (Bq m p)
  have h2:(Bq m p).length≤m.length+1:=by
   show (Fz .str CT (Gv p) (p,(((EF .str CT (Gv p) m).getD ([],0):List Int×Int)).2+1) m).length≤_
   generalize (p,(((EF .str CT (Gv p) m).getD ([],0):List Int×Int)).2+1)=v
   have hv:=O6 (Gv p) v m
   generalize Fz .str CT (Gv p) v m=m' at *
   rcases hv with ⟨-,e⟩|⟨-,e⟩
   ·have:=congrArg List.length e
    rw[List.length_map,List.length_map]at this
    omega
   ·have:=congrArg List.length e
    rw[List.length_map,List.length_append,List.length_map]at this
    simp only[List.length_singleton]at this
    omega
  rw[List.length_cons]
  show (l.foldl Bq (Bq m p)).length≤_
  omega
theorem Yz {h:AP} {n:Nat}:∀ {ps:Aa},(∀x∈ps,x.1.length≤n)→(Cw h ps).length≤n*ps.length
 | [],_=>Nat.zero_le _
 | x :: ps,hl=>by
  have h1:=Yz (h:=h) (ps:=ps) fun y hy=>hl y (List.mem_cons_of_mem _ hy)
  have h2:=Ur (h:=h) (a:=x.1) (b:=x.2)
  have h3:=hl x (List.mem_cons_self ..)
  unfold Cw at h1 ⊢
  rw[List.flatMap_cons,List.length_append,List.length_cons,Nat.mul_succ]
  omega
theorem sR {h:AP} {ps:Aa} (h6:ps.length≤6) (hl:∀x∈ps,x.1.length≤12):(Ja h ps).length<256:=by
 rw[Uw]
 have h1:=i7 (Cw h ps) []
 have h2:=Yz (h:=h) hl
 simp only[List.length_nil]at h1
 omega
theorem Uy {h:AP} {ps qs:Aa} (hp:qs.Perm ps) (ho:TY h ps) (ho2:TY h qs) (p:List Int):(Cw h qs).count p=(Cw h ps).count p:=by
 rw[Gw ho.nd,Gw ho2.nd,hp.countP_eq]
theorem aZ {h:AP} {ps qs:Aa} (hp:qs.Perm ps) (ho:TY h ps) (ho2:TY h qs) (k:Int):BL h qs k=BL h ps k:=by
 have hc:(fun p=>((Cw h qs).count p:Int))=fun p=>((Cw h ps).count p:Int):=funext fun p=>by rw[Uy hp ho ho2]
 have ha:AI (Cw h ps) (G0 (Cw h ps) []):=S5 (Cw h ps) (T:=[]) (all:=[]) ⟨List.Pairwise.nil,List.nodup_nil,fun p=>Iff.rfl⟩
 have hb:AI (Cw h qs) (G0 (Cw h ps) []):=⟨ha.srt,ha.nd,fun p=>by
  rw[ha.mem,←List.count_pos_iff,←List.count_pos_iff,Uy hp ho ho2]⟩
 rw[Gx ho2 hb k (Nat.le_refl _),Gx ho ha k (Nat.le_of_eq hp.length_eq.symm),hc]
theorem a9 {h:AP} {ps:Aa} (ho:TY h ps) {k l:Int} (hkl:Ux k≤Ux l):BL h ps k=(BL h ps l).take (BL h ps k).length:=by
 have ha:AI (Cw h ps) (G0 (Cw h ps) []):=S5 (Cw h ps) (T:=[]) (all:=[]) ⟨List.Pairwise.nil,List.nodup_nil,fun p=>Iff.rfl⟩
 rw[Gx ho ha k (Nat.le_refl _),Gx ho ha l (Nat.le_refl _),List.length_take,List.take_take]
 generalize LL _ _ _=L
 by_cases h1:Ux k≤L.length
 ·rw[show min (min (Ux k) L.length) (Ux l)=Ux k by omega]
 ·rw[List.take_of_length_le (by omega),show min (min (Ux k) L.length) (Ux l)=L.length by omega,List.take_length]
end
/- The laws QuickTrains, QuickPrefix. -/
section
theorem El {h:AP} (hh:HQ h) {ps:Aa} (e:B5 h ps=true):ps.length≤6∧∀x∈ps,((VF h x.1∧FY x.1)∧x.1.length≤12)∧VF h x.2:=by
 unfold B5 at e
 rw[Bool.and_eq_true,decide_eq_true_eq,List.all_eq_true]at e
 refine⟨e.1,fun x hx=>?_⟩
 have h1:=e.2 x hx
 rw[Bool.and_eq_true]at h1
 exact⟨hh.vf h1.1,(hh.vf h1.2).1.1⟩
theorem Kh {h:AP} (hh:HQ h) {ps:Aa} (e:B5 h ps=true):(rK h∧List.length (h:AP).2≤64)∧List.length ps≤1000∧(∀x∈(ps:Aa),(VF h x.1∧FY x.1∧x.1.length≤12)∧VF h x.2)∧(Ja h ps).length<256:=by
 obtain⟨h6,hv⟩:=El hh e
 exact⟨⟨hh.wd,hh.h11.hu.ft⟩,by omega,fun x hx=>⟨⟨(hv x hx).1.1.1,(hv x hx).1.1.2,(hv x hx).1.2⟩,(hv x hx).2⟩,sR h6 fun x hx=>(hv x hx).1.2⟩
theorem WW {h:AP} (hh:HQ h) {ps:Aa} (e:B5 h ps=true):rK h∧List.length ps≤6∧(∀x∈(ps:Aa),(BA x.1∧0<x.1.length∧QJ h x.1∧x.1.length≤12)∧BA x.2∧0<x.2.length∧QJ h x.2):=by
 obtain⟨h6,hv⟩:=El hh e
 exact⟨hh.wd,h6,fun x hx=>⟨⟨(hv x hx).1.1.1.good,(hv x hx).1.1.1.pos,(hv x hx).1.1.1.ty,(hv x hx).1.2⟩,(hv x hx).2.good,(hv x hx).2.pos,(hv x hx).2.ty⟩⟩
theorem Ki {h:AP} (hh:HQ h) {ps:Aa} (e:B5 h ps=true):TY h ps:=A2q hh.h11.hu.ft fun x hx=>⟨((El hh e).2 x hx).1.1,((El hh e).2 x hx).2⟩
theorem WX {h:AP} (hh:HQ h) {ps:Aa} (e:B5 h ps=true) (k:Int):Kd h ps k=BL h ps k:=aY hh.h11.hu.ok hh.nrm hh.h11.hu.ft (fun x hx=>⟨((El hh e).2 x hx).1.1,((El hh e).2 x hx).2⟩) (Ki hh e) k
theorem Py {h:AP} {ps:Aa} (e:B5 h ps=true):B5 h ps.reverse=true:=by
 unfold B5 at e ⊢
 rw[Bool.and_eq_true,decide_eq_true_eq]at e ⊢
 rw[List.length_reverse,List.all_reverse]
 exact e
theorem sS {α:Type} (l:List α) (d:α) {j:Nat} (h0:0<j) (h:j≤l.length):(l.drop (j-1)).reverse=(l.drop j).reverse++[l.getD (j-1) d]:=by
 have h1:l.drop (j-1)=l.getD (j-1) d :: l.drop j:=by
  rw[List.drop_eq_getElem_cons (by omega),List.getD_eq_getElem?_getD,List.getElem?_eq_getElem (by omega),show j-1+1=j by omega]
  rfl
 rw[h1,List.reverse_cons]
theorem bA {h:AP} (hh:HQ h) {ps:Aa} (e:B5 h ps=true) {k:Int} (k0:0≤k) (k1:k≤255) :
  (BL h ps.reverse k).length≤(BL h ps 256).length∧(((BL h ps.reverse k).length:Int)=k∨(BL h ps.reverse k).length=(BL h ps 256).length)∧BL h ps.reverse k=(BL h ps 256).take (BL h ps.reverse k).length:=by
 have ho:=Ki hh e
 rw[aZ (List.reverse_perm ps) ho (Ki hh (Py e)) k]
 have ha:AI (Cw h ps) (G0 (Cw h ps) []):=S5 (Cw h ps) (T:=[]) (all:=[]) ⟨List.Pairwise.nil,List.nodup_nil,fun p=>Iff.rfl⟩
 refine⟨?_,?_,a9 ho (by unfold Ux;omega)⟩
 all_goals rw[Gx ho ha k (Nat.le_refl _),Gx ho ha 256 (Nat.le_refl _),List.length_take,List.length_take]
 all_goals generalize List.length (LL _ _ _)=n
 all_goals unfold Ux
 ·rw[if_neg (by omega),if_neg (by omega)]
  omega
 ·rw[if_neg (by omega),if_neg (by omega)]
  omega
attribute [local go_sem] Px Ia Uv Kb Kg GE
def bB:Ae:={ ins:=[EH,kG,T3],pre:=fun _=>True,out:=fun _=>[.p .bool true] }
attribute [local go_sem] bB
theorem sT:Ag Tryz.prog 6 bB:=by
 refine AR Tryz.func6 (by kernel_rfl) rfl Tryz.ntmps6 (by decide) (by kernel_rfl) (AF [(16,Px),(24,Ia),(12,Uv),(25,Kb),(26,Kg),(21,GE)]) (AD WU (AD S1 (AD i5 (AD Sz (AD aW (AD Oz AH)))))) ?_
 rintro w0 O0 ⟨d,ps,kk,u⟩ hc - -
 simp only[bB,AN]
 have hh:=zE d
 repeat'(first|exact trivial|refine eS rfl ?_|refine AB ?_|refine rX [0,1,2,6,7,13] hc ?_ ?_|refine rC ?_ ?_<;>intro AA<;>try(cases AA;done))
 all_goals try simp only[yN (DA d)]at *
 all_goals generalize DA d=h at *
 ·exact AG hc [.tmp 6] rfl (.inl rfl) (by simp) (by first|exact eR|refine Al ?_)
 ·exact⟨Kh hh AA,WW hh AA⟩
 ·rw[WX hh AA,decide_eq_true (rfl:BL h ps kk=BL h ps kk)]
  exact AG hc [.tmp 6] rfl (.inl rfl) (by simp) (by first|exact eR|refine Al ?_)
def bC:Ae:={ ins:=[EH,kG,T5],pre:=fun _=>True,out:=fun _=>[.p .bool true] }
attribute [local go_sem] bC
theorem sU:Ag Tryz.prog 7 bC:=by
 refine AR Tryz.func7 (by kernel_rfl) rfl Tryz.ntmps7 (by decide) (by kernel_rfl) (AF [(16,Px),(24,Ia),(12,Uv),(25,Kb),(21,GE)]) (AD WU (AD S1 (AD i5 (AD Sz (AD Oz AH))))) ?_
 rintro w0 O0 ⟨d,ps,kk,u⟩ hc ⟨-,-,hku,-⟩ -
 have hkr:∀x:Int,x=kk→0≤x∧x≤255:=fun x e=>by rw[e];exact hku
 have hkq:=hkr kk rfl
 simp only[bC,AN]
 have hh:=zE d
 repeat'(first|exact trivial|refine eS rfl ?_|refine AB ?_|refine rX [0,1,2,6,7,8,9,10,11,17,22] hc ?_ ?_|refine rC ?_ ?_<;>intro AA<;>try(cases AA;done))
 all_goals try simp only[yN (DA d)]at *
 all_goals generalize DA d=h at *
 ·exact AG hc [.tmp 6] rfl (.inl rfl) (by simp) (by first|exact eR|refine Al ?_)
 ·have hv16:=AA
  clear AA
  refine AK (ι:={j:Nat//j≤List.length ps}) (fun j=>⟨[(0,.p EH d),(1,.p kG ps),(2,.p T5 kk),(7,.bp 7 [] 0),(8,.sr 32 T50 0 (List.length ps-j.1)),(9,.p (.int .i64) (j.1:Int))],[(7,.box 37 true [.p WZ h.1,.p Xa h.2]),(32,.arr 50 T50 ((ps:Aa).drop j.1).reverse)]⟩) (fun j=>j.1) ⟨List.length ps,Nat.le_refl _⟩ (AC [(7,.nm 7),(32,.nil)] rfl rfl ?_ ?_) (fun j=>?_)
  ·simp only
   rw[show (ps:Aa).drop (List.length ps)=[] from List.drop_length,List.reverse_nil]
   first|exact eN|refine eM ?_
  ·simp only
   rw[Nat.sub_self]
   first|exact eN|refine eM ?_
  ·obtain⟨j,hj⟩:=j
   have hj:j≤(ps:Aa).length:=hj
   have h6:=(El hh hv16).1
   simp only
   have hdl:((ps:Aa).drop j).reverse.length=List.length ps-j:=by rw[List.length_reverse,List.length_drop]
   have hdt:(((ps:Aa).drop j).reverse).take (List.length ps-j)=((ps:Aa).drop j).reverse:=List.take_of_length_le (by omega)
   repeat'(first|exact trivial|refine eS rfl ?_|refine AB ?_|refine rX [0,1,2,6,7,8,9,10,11,17,22] hc ?_ ?_|refine rC ?_ ?_<;>intro AA<;>try(cases AA;done))
   ·have h7:(j:Int)-1<((ps:Aa).length:Int):=by omega
    exact⟨by omega,⟨show (0:Int)≤(j:Int)-1 by omega,h7⟩,by simp only[AO];show ((ps:Aa).length-j+1)*48≤_;omega⟩
   ·omega
   ·have j0:0<j:=by omega
    refine⟨⟨j-1,by show j-1≤(ps:Aa).length;omega⟩,by simp only;omega,AC [(7,.nm 7),(32,.nm 32)] rfl rfl ?_ ?_⟩
    ·simp only
     rw[sS (ps:Aa) ([],[]) j0 hj,show Int.toNat ((j:Int)-1)=j-1 by omega,hdt]
     first|exact eN|refine eM ?_
    ·simp only
     rw[show ((j-1:Nat):Int)=(j:Int)-1 by omega,show List.length (ps:Aa)-(j-1)=List.length (ps:Aa)-j+1 by omega]
     first|exact eN|refine eM ?_
   ·exact Kh hh hv16
   ·have j0:j=0:=by omega
    subst j0
    rw[List.drop_zero,Nat.sub_zero]at *
    refine GD [32] ?_
    repeat'(first|exact trivial|refine eS rfl ?_|refine AB ?_|refine rX [0,1,2,6,7,8,9,10,11,17,22] hc ?_ ?_|refine rC ?_ ?_<;>intro AA<;>try(cases AA;done))
    all_goals rw[show List.take (List.length ps) (List.reverse ps)=List.reverse (ps:Aa) from List.take_of_length_le (Nat.le_of_eq List.length_reverse)]
    ·exact⟨by have:=hkr kk rfl;omega,Kh hh (Py hv16)⟩
    ·exact⟨fun _=>by have:=hkr kk rfl;omega,fun e=>by
      rw[Bool.and_eq_true,decide_eq_true_eq]at e
      exact e.1⟩
    ·obtain⟨p1,p2,p3⟩:=bA hh hv16 hkq.1 hkq.2
     have q1:decide (((BL (h.1,h.2) (List.reverse (ps:Aa)) kk).length:Int)≤((BL (h.1,h.2) ps 256).length:Int))=true:=decide_eq_true (by exact_mod_cast p1)
     have q2:(((BL (h.1,h.2) (List.reverse (ps:Aa)) kk).length:Int)==kk||((BL (h.1,h.2) (List.reverse (ps:Aa)) kk).length:Int)==((BL (h.1,h.2) ps 256).length:Int))=true:=by
      rw[Bool.or_eq_true,beq_iff_eq,beq_iff_eq]
      rcases p2 with e|e
      ·exact .inl e
      ·exact .inr (by rw[show (BL (h.1,h.2) (List.reverse (ps:Aa)) kk).length=(BL (h.1,h.2) ps 256).length from e])
     have q3:decide (BL (h.1,h.2) (List.reverse (ps:Aa)) kk=List.take (BL (h.1,h.2) (List.reverse (ps:Aa)) kk).length (BL (h.1,h.2) ps 256))=true:=decide_eq_true p3
     rw[q1,q2,q3]
     exact AG hc [.tmp 6] rfl (.inl rfl) (by simp) (by first|exact eR|refine Al ?_)
end
end Go.Proofs.YtmejfnhmgbhkmabGreat.Fw
