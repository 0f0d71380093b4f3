/- Contracts of the program's and the reference's functions, and the plain laws of what they compute: I7 K3 K4 C38 K7 U16 K8 C36 K9 K5 K6 M1 M2. -/
import Derived.Test.YtapkhdkbkodbjaaGreatJYC
import Derived.Test.YtapkhdkbkodbjaaGreatJYB
import Derived.Test.YtapkhdkbkodbjaaGreatJYA
set_option linter.unusedVariables false
set_option linter.unusedSimpArgs false
namespace Go.Proofs.YtapkhdkbkodbjaaGreat.Fw
open Go
attribute [local irreducible] Ev
attribute [local go_sem] fT AL List.toList_toArray B1 evG evK YL E2 Ke Gw GA GQ Pi LS CP DX M5 Ce Ct frz lC Gq DW BB F2 Bg AV.frz AV.frzs AV.drp AV.drps AV.names AV.namess aq Gt LR KT Tj JS Bh Bp Jp El Il Em Io Im Ip VJ Pb HJ KV F4 Ed VK Ra qUn Jq Iq Lv FX Dz JV KW Eo Tk Cl Ep FH Rb Ir Nv Fg Nu Pc Rc Lw JW KX DM DB Fh D0 Hn Dj FI Dk Eq F6 Ce Cs PZ RZ OT Gm JU JT KU Nw Pf Ly L2 Lz Ka Sm L1 Kb aR Ph Pg AV.trn AV.trns EY Ck Obj.trn J5 gF DP Dm DN Er Ci FJ Ak lk HV Gr Hk bin lB YP lE Sk yQ yR pfs AV.cells CL Jn Pa KZ Pe Ca Ns Ty.cell1 Ik FD Dy GP LQ Eh KS Lu RW Ff HI Nl Th VI Lt KQ aP eL Sj Nt DF Jo RV.flat Ty.flat Ty.size St.add upd del Bi Value.oneCell' Ln Ty.dflt Ij P0 Hz QH List.take_succ_cons List.take_zero List.length_cons f3 f4 QG Jz MJ Hf J0 A1Q GB NF NG NH NI Rl Rm NJ Iz Va Option.map_some Option.map_none Option.bind_some Option.getD_some Option.getD_none Option.isNone_none Option.isNone_some Bool.and_true Bool.true_and Bool.and_false Bool.false_and Bool.not_true Bool.not_false if_true if_false List.length_cons List.length_nil and_true true_and and_self List.all_cons List.all_nil List.append_nil List.nil_append List.cons_append List.getElem?_cons_zero List.getElem?_cons_succ List.getElem?_nil List.map_cons List.map_nil List.set_cons_zero List.set_cons_succ List.isEmpty_nil List.isEmpty_cons decide_true decide_false beq_self_eq_true bne_self_eq_false Nat.zero_add Nat.add_zero Nat.sub_zero Int.toNat_natCast Int.toNat_zero Int.toNat_one List.take_length List.length_append List.length_singleton true_or or_true or_self false_or or_false Ty.agg.injEq Ty.slice.injEq Ty.prod.injEq Ty.int.injEq Option.some.injEq beq_iff_eq Lo evMG evMQ opM H5 MF B8 Jy Gx QA Jw H0 I0 Kn LZ Oh N0 Oi Tn MG QB QC Jx Ac Ap Op.operands Call.operands List.filterMap_cons List.filterMap_nil List.append_eq Bool.cond_false_right Bool.cond_true_left cond_true cond_false implies_true decide_eq_true_eq beq_true beq_false Bool.or_true Bool.or_false Bool.true_or Bool.false_or Option.isSome_some Array.empty_append List.append_toArray F3 M6 FK Hl aQ Pd F5 GX GW It Hm KY Lx YQ lD Hj inB Kd F7 Gn Jr Ar f5 List.drop_zero Dr H6 bP CU Kr Bu AV.fgt AV.fgts Obj.fgt Ao Am Ac DR Ii BS Gy List.any_cons List.any_nil l9 f8 bQ f9 MM Rr qs List.flatMap_cons List.flatMap_nil List.cons_append tn bU J6 List.take_succ_cons List.drop_succ_cons bZ HK BV qE NN CD CT Ag FN Km Br FM D6 Hx Iy Gb Hy
attribute [local go_sem] ty1 ty2 ty3 ty4 ty5 ty9 A5y A5z A5A A5B A5C A5D A5E A5F A5G A5H A5I A5J A5K A5L A5M A5N A5O A5P A5Q A5R A5S A5T A5U A5V A5W A5X A5Y A5Z A60 A61 A62 A63 A64 A65 A66 A67 A68 A69 A6a A6b A6c A6d A6e A6f A6g A6h A6i A6j A6k A6l A6m A6n A6o A6p A6q A6r A6s A6t A6u A6v A6w A6x A6y A6z A6A A6B A6C A6D A6E A6F A6G qL qM qN qO qP qQ qR qS qT qU qV qW qX qY qZ q9 rA rB rD rE rF rG rH rI rJ rK rO rQ rR rS rU rV rW rZ r7 r8 r9 sA sB sC sD sE sF sG sH sI sJ sK sL sM sN sO sP sQ sR sS sT sU sV sW sX sY sZ s5 s6 s7 s8 s9 tA tB tC tD tE tF tG tH tI tJ tK tL tM tN tP tQ tR tS tT tU tV tW tX tY tZ t8 t9 uA uB uC uD uE uF uG uH uI uJ uK uL uM uN uP uQ uR uS uT uU uV uW uX uY uZ u3 u4 u5 u6 u7 u9 vA vB vC vD vE vF vG vH vI vJ vK vL vM vN vO vP vQ vS vT vU vV vW vX vY vZ v4 v5 v6 v7 v8 v9 wA wB wC wD wF wG wH wI wJ
set_option maxRecDepth 100000
set_option maxHeartbeats 4000000
section
attribute [local go_sem] RM eC VC VD RN yK cs4 cs5
theorem A81 (h:AH) (w:LW) (x:AD):(Tx h w x=true->BQ h w x=1)/\(Tx h w x=false->OQ h w x=true->BQ h w x=3)/\(Tx h w x=false->OQ h w x=false->Lm h w x=false->BQ h w x=0)/\(Tx h w x=false->Lm h w x=true->BQ h w x=2):=by
 unfold BQ;refine⟨λh1=>BY h1,λh1 a=>?_,λh1 a b=>?_,λh1 a=>?_⟩
 ·have b:Lm h w x=false:=by
   unfold OQ RK at a;unfold Lm Tg;simp only[AT,Fe]at a;have:decide (0<=Dh x.2 w.first)=false:=ADY (by omega);rw[this];simp
  rw[h1,a,b];rfl
 ·rw[h1,a,b];rfl
 ·rw[h1,a];rfl
def RR:Aa:={ ins:=[ER,Da,T3],pre:=λ(h,f,n,_)=>GL h/\AW f/\Dv h f/\(0:Int)<=n/\n<(List.length f:Int),out:=λ(h,f,n,_)=>[.p Ft (Aq h f n).1,.p .bool (Aq h f n).2.1,.p Lr (Aq h f n).2.2] }
attribute [local go_sem] RR
theorem pD:Ab Tryz.prog 55 RR:=by
 refine qJ [0,1,2,3,4,6,7,8,9,10,13,14,18,24,30] [38,45] [] Tryz.func55 Tryz.ntmps55 (AF pB (AF X4 (AF aF (AF A16 (AF pC (AF A7X AG)))))) ?_;rintro w0 O0 ⟨h,f,n,u⟩ g-⟨hk,c,q,hn⟩;have hk:GL h:=hk;have c:AW f:=c;have q:Dv h f:=q;have hn:0<=n/\n<(f.length:Int):=hn;have F:(h.1,h.2)=h:=rfl;simp only[RR,AL];repeat'(first|exact trivial|refine eS rfl ?_|refine AB ?_|refine rX g ?_ ?_|refine rC ?_ ?_<;>intro b<;>try(cases b;done))
 all_goals try simp only[F]at *
 ·exact hk
 ·have m:Aq h f n=([],false,5):=by unfold Aq;rw[b,An (by simp)]
  exact fI g [.tmp 6,.tmp 7,.tmp 8] (by rw[m];exact eR)
 ·have t:PT h=true:=b;have D:=λ(i:Nat) (hi:WGo h (BH h) f n i)=>kW c t hn.1 hn.2 hi;have E:=λ(i:Nat) (hi:WGo h (BH h) f n i)=>RQ c hn.1 hn.2 i hi;obtain⟨-,-,-,-,P,Q,-,-⟩:=LP h;refine AJ (ι:={i:Nat//WGo h (BH h) f n i}) (λi=>⟨[(2,.p T3 (A2 h (BH h) f n i.1).2.2.2),(3,.bp 3 [] 0),(4,.bp 4 [] 0),(9,.sr 46 T3 0 (A2 h (BH h) f n i.1).2.1.length),(10,.sr 39 T3 0 (A2 h (BH h) f n i.1).1.length)],[(3,.box 31 true [.p Tr h.1,.p WB h.2]),(4,.box 25 true [.p FQ f]),(46,.arr 3 T3 (A2 h (BH h) f n i.1).2.1),(39,.arr 3 T3 (A2 h (BH h) f n i.1).1)]⟩) (λi=>f.length+1-i.1) ⟨0,λj w=>by omega⟩ (AC [(3,.nm 3),(4,.nm 4),(46,.nil),(39,.nil)] rfl rfl ?_ ?_) (λi=>?_)
  ·first|exact eN|refine eM ?_
   try exact⟨rfl,rfl⟩
  ·first|exact eN|refine eM ?_
   exact⟨rfl,rfl,rfl⟩
  ·obtain⟨i,hi⟩:=i;obtain⟨A,B,d⟩:=D i hi;obtain⟨C,L,o,M⟩:=E i hi;have N:=C.len;have O:=c.1;obtain⟨H,I,J,K⟩:=A81 h (BH h) (GN f (A2 h (BH h) f n i).2.2.2);simp only;repeat'(first|exact trivial|refine eS rfl ?_|refine AB ?_|refine rX g ?_ ?_|refine rC ?_ ?_<;>intro b<;>try(cases b;done))
   ·have G:(A2 h (BH h) f n i).2.2.2∈(A2 h (BH h) f n i).1:=by simpa[w3] using b
    exact fI g [.tmp 6,.tmp 7,.tmp 8] (by rw[A G];exact eR)
   ·exact⟨⟨t,hk⟩,c,q,o⟩
   ·have a:(A2 h (BH h) f n i).2.2.2∉(A2 h (BH h) f n i).1:=by
     have k:w3 (A2 h (BH h) f n i).1 (A2 h (BH h) f n i).2.2.2=false:=by assumption
     intro l;have:=AEe.1 k _ l;simp at this
    have b1:BQ h (BH h) (GN f (A2 h (BH h) f n i).2.2.2)=1->Aq h f n=((A2 h (BH h) f n i).2.1,true,0):=λe=>by
     rw[d a (by rw[e];decide) (by rw[e];decide),show (A2 h (BH h) f n (i+1)).2.1=(A2 h (BH h) f n i).2.1 from An (by rw[e];decide),show (A2 h (BH h) f n (i+1)).2.2.1=true from ADX e]
    have r:BQ h (BH h) (GN f (A2 h (BH h) f n i).2.2.2)=3->Aq h f n=((A2 h (BH h) f n i).2.1,false,0):=λe=>by
     rw[d a (by rw[e];decide) (by rw[e];decide),show (A2 h (BH h) f n (i+1)).2.1=(A2 h (BH h) f n i).2.1 from An (by rw[e];decide),show (A2 h (BH h) f n (i+1)).2.2.1=false from ADY (by rw[e];decide)]
    have m:=b1 (H b);refine FP [46] ?_;exact fI g [.tmp 6,.tmp 7,.tmp 8] (by rw[m];exact eR)
   ·exact⟨⟨t,hk⟩,c,q,o⟩
   ·have a:(A2 h (BH h) f n i).2.2.2∉(A2 h (BH h) f n i).1:=by
     have k:w3 (A2 h (BH h) f n i).1 (A2 h (BH h) f n i).2.2.2=false:=by assumption
     intro l;have:=AEe.1 k _ l;simp at this
    have b1:BQ h (BH h) (GN f (A2 h (BH h) f n i).2.2.2)=1->Aq h f n=((A2 h (BH h) f n i).2.1,true,0):=λe=>by
     rw[d a (by rw[e];decide) (by rw[e];decide),show (A2 h (BH h) f n (i+1)).2.1=(A2 h (BH h) f n i).2.1 from An (by rw[e];decide),show (A2 h (BH h) f n (i+1)).2.2.1=true from ADX e]
    have r:BQ h (BH h) (GN f (A2 h (BH h) f n i).2.2.2)=3->Aq h f n=((A2 h (BH h) f n i).2.1,false,0):=λe=>by
     rw[d a (by rw[e];decide) (by rw[e];decide),show (A2 h (BH h) f n (i+1)).2.1=(A2 h (BH h) f n i).2.1 from An (by rw[e];decide),show (A2 h (BH h) f n (i+1)).2.2.1=false from ADY (by rw[e];decide)]
    have m:=r (I b.1 b.2);refine FP [46] ?_;exact fI g [.tmp 6,.tmp 7,.tmp 8] (by rw[m];exact eR)
   ·exact⟨⟨t,hk⟩,c,q,o⟩
   ·have a:(A2 h (BH h) f n i).2.2.2∉(A2 h (BH h) f n i).1:=by
     have k:w3 (A2 h (BH h) f n i).1 (A2 h (BH h) f n i).2.2.2=false:=by assumption
     intro l;have:=AEe.1 k _ l;simp at this
    have b1:BQ h (BH h) (GN f (A2 h (BH h) f n i).2.2.2)=1->Aq h f n=((A2 h (BH h) f n i).2.1,true,0):=λe=>by
     rw[d a (by rw[e];decide) (by rw[e];decide),show (A2 h (BH h) f n (i+1)).2.1=(A2 h (BH h) f n i).2.1 from An (by rw[e];decide),show (A2 h (BH h) f n (i+1)).2.2.1=true from ADX e]
    have r:BQ h (BH h) (GN f (A2 h (BH h) f n i).2.2.2)=3->Aq h f n=((A2 h (BH h) f n i).2.1,false,0):=λe=>by
     rw[d a (by rw[e];decide) (by rw[e];decide),show (A2 h (BH h) f n (i+1)).2.1=(A2 h (BH h) f n i).2.1 from An (by rw[e];decide),show (A2 h (BH h) f n (i+1)).2.2.1=false from ADY (by rw[e];decide)]
    rename_i s z;have m:=B a (J s (z s) b);exact fI g [.tmp 6,.tmp 7,.tmp 8] (by rw[m];exact eR)
   ·simp only[AP];omega
   ·refine⟨⟨c,o⟩,?_⟩;simp only[AP];omega
   ·exact⟨c,o⟩
   ·have a:(A2 h (BH h) f n i).2.2.2∉(A2 h (BH h) f n i).1:=by
     have k:w3 (A2 h (BH h) f n i).1 (A2 h (BH h) f n i).2.2.2=false:=by assumption
     intro l;have:=AEe.1 k _ l;simp at this
    have b1:BQ h (BH h) (GN f (A2 h (BH h) f n i).2.2.2)=1->Aq h f n=((A2 h (BH h) f n i).2.1,true,0):=λe=>by
     rw[d a (by rw[e];decide) (by rw[e];decide),show (A2 h (BH h) f n (i+1)).2.1=(A2 h (BH h) f n i).2.1 from An (by rw[e];decide),show (A2 h (BH h) f n (i+1)).2.2.1=true from ADX e]
    have r:BQ h (BH h) (GN f (A2 h (BH h) f n i).2.2.2)=3->Aq h f n=((A2 h (BH h) f n i).2.1,false,0):=λe=>by
     rw[d a (by rw[e];decide) (by rw[e];decide),show (A2 h (BH h) f n (i+1)).2.1=(A2 h (BH h) f n i).2.1 from An (by rw[e];decide),show (A2 h (BH h) f n (i+1)).2.2.1=false from ADY (by rw[e];decide)]
    rename_i s z;have v:=K s b;have y:(A2 h (BH h) f n (i+1)).2.1=(A2 h (BH h) f n i).2.1++[Dh (List.getD f (A2 h (BH h) f n i).2.2.2.toNat (0,[])).2 (BH h).first]:=BY v;have x:(A2 h (BH h) f n (i+1)).1=(A2 h (BH h) f n i).1++[(A2 h (BH h) f n i).2.2.2]:=rfl;refine⟨⟨i+1,λj w=>(Nat.lt_succ_iff_lt_or_eq.1 w).elim (hi j) λe=>by rw[e];exact⟨v,a⟩⟩,by simp only;omega,AC [(3,.nm 3),(4,.nm 4),(46,.nm 46),(39,.nm 39)] rfl rfl ?_ ?_⟩
    ·simp only[y,x];first|exact eN|refine eM ?_
     rfl
    ·simp only[y,x];first|exact eN|refine eM ?_
     rfl
end
section
attribute [local go_sem] A4n PU Qz Q0 atS cs4 cs5
theorem VG {h:AH} {f:List AD} (e:BP h f≠0):Ai h f=BP h f:=by
 unfold Ai;rw[An e]
theorem JQ {h:AH} {f:List AD} (e:Ai h f=0):BP h f=0:=by
 unfold Ai at e;split at e
 ·assumption
 ·exact e
def A82 (h:AH) (f:List AD):Prop:=(eI h/\GL h)/\Cz f/\TS f/\(BP h f=0->VF h f)
def RS:Aa:={ ins:=[ER,T27],pre:=λ(h,r,_)=>A82 h r.2.2,out:=λ(h,r,_)=>[.p Lr (CG h r.2.1 r.2.2)] }
attribute [local go_sem] RS
theorem A83:Ab Tryz.prog 20 RS:=by
 refine qJ [0,1,2,3,4,5,6,7,8,9,10,11,12,20,26,33,38,48,70] [43] [] Tryz.func20 Tryz.ntmps20 (AF Zn (AF A0A (AF X3 (AF A8E AG)))) ?_;rintro w0 O0 ⟨h,⟨nm,ar,f⟩,u⟩ g-hp;have hp:A82 h f:=hp;obtain⟨⟨w,hk⟩,hs,r,s⟩:=hp;have z:(h.1,h.2)=h:=rfl;have A:=Ig h;have i:CG h ar f=if ar<1\/2<ar then 2 else if Ai h f≠0 then Ai h f else if Ah h<0 then 13 else if (CZ f 0 [Ah h]).2=false then 13
 else if (Aq h f (CZ f 0 [Ah h]).1).2.2≠0\/(Aq h f (CZ f 0 [Ah h]).1).2.1=false\/((Aq h f (CZ f 0 [Ah h]).1).1.length:Int)≠ar then 13 else 0:=rfl
 simp only[RS,AL];repeat'(first|exact trivial|refine eS rfl ?_|refine AB ?_|refine rX g ?_ ?_|refine rC ?_ ?_<;>intro c<;>try(cases c;done))
 ·have d:CG h ar f=2:=i.trans (BY c);exact fI g [.tmp 4] (by rw[d];exact eR)
 ·exact⟨hs,r⟩
 ·have ha:¬((ar:Int)<1\/2<(ar:Int)):=by
   have a:(1:Int)<=(ar:Int)/\(ar:Int)<=2:=by assumption
   exact λq=>q.elim (λq=>absurd a.1 (oR.2 q)) λq=>absurd a.2 (oR.2 q)
  have c:BP h f≠0:=c;have d:CG h ar f=BP h f:=by rw[i,An ha,BY (by rw[VG c];exact c),VG c]
  exact fI g [.tmp 4] (by rw[d];exact eR)
 ·exact⟨w,hs,r⟩
 ·have ha:¬((ar:Int)<1\/2<(ar:Int)):=by
   have a:(1:Int)<=(ar:Int)/\(ar:Int)<=2:=by assumption
   exact λq=>q.elim (λq=>absurd a.1 (oR.2 q)) λq=>absurd a.2 (oR.2 q)
  have d:CG h ar f=Ai h f:=by rw[i,An ha,BY c]
  exact fI g [.tmp 4] (by rw[d];exact eR)
 ·have ha:¬((ar:Int)<1\/2<(ar:Int)):=by
   have a:(1:Int)<=(ar:Int)/\(ar:Int)<=2:=by assumption
   exact λq=>q.elim (λq=>absurd a.1 (oR.2 q)) λq=>absurd a.2 (oR.2 q)
  have j:Ai h f=0:=by
   have a:(Ai h f != 0)=false:=by assumption
   simpa using a
  have d:CG h ar f=13:=by rw[i,An ha,An (λq=>q j),BY (show Ah h<0 from c)]
  exact fI g [.tmp 4] (by rw[d];exact eR)
 ·have j:Ai h f=0:=by
   have a:(Ai h f != 0)=false:=by assumption
   simpa using a
  have vf:=s (JQ j);exact⟨vf.good,vf.pos⟩
 ·have ha:¬((ar:Int)<1\/2<(ar:Int)):=by
   have a:(1:Int)<=(ar:Int)/\(ar:Int)<=2:=by assumption
   exact λq=>q.elim (λq=>absurd a.1 (oR.2 q)) λq=>absurd a.2 (oR.2 q)
  have j:Ai h f=0:=by
   have a:(Ai h f != 0)=false:=by assumption
   simpa using a
  have k:¬Ah h<0:=AAb.2 (by assumption);have d:CG h ar f=13:=by rw[i,An ha,An (λq=>q j),An k,BY (show (CZ f 0 [Ah h]).2=false from c)]
  exact fI g [.tmp 4] (by rw[d];exact eR)
 ·have ha:¬((ar:Int)<1\/2<(ar:Int)):=by
   have a:(1:Int)<=(ar:Int)/\(ar:Int)<=2:=by assumption
   exact λq=>q.elim (λq=>absurd a.1 (oR.2 q)) λq=>absurd a.2 (oR.2 q)
  have j:Ai h f=0:=by
   have a:(Ai h f != 0)=false:=by assumption
   simpa using a
  have k:¬Ah h<0:=AAb.2 (by assumption);have vf:=s (JQ j);have c:(CZ f 0 [Ah h]).2=true:=c;have o:=RP vf _ c;rw[An ha,An (λq=>q j),An k,An (by rw[c];simp)]at i;have hn:=A19 h f _ vf.good vf.ty o.1 o.2;have v:Xu (h.1,h.2) ⟨#[65,82,71,83]⟩=Ah h:=rfl;simp only[v]at *;generalize (CZ f 0 [Ah h]).1=n at *;generalize y:Aq h f n=N at *;obtain⟨l,b,e⟩:=N;refine cP 4 g ?_ ?_
  ·trivial
  ·refine rM g (hn) [] [] ?_ ?_ ?_
   ·first|exact eN|refine eM ?_
   ·first|exact eN|refine eM ?_
   ·rintro _ B rfl;refine⟨[],.tup [.p Ft l,.p .bool b,.p Lr e],[],rfl,rfl,?_,?_,rfl,rfl,?_⟩
    ·first|exact eN|refine eM ?_
    ·first|exact eN|refine eM ?_
    ·refine rL g ?_ ?_
     ·trivial
     ·repeat'(first|exact trivial|refine eS rfl ?_|refine AB ?_|refine rX g ?_ ?_|refine rC ?_ ?_<;>intro c<;>try(cases c;done))
      ·have d:CG h ar f=13:=i.trans (BY (by
        rcases c with (q|q)|q
        ·exact .inl q
        ·exact .inr (.inl q)
        ·exact .inr (.inr q)))
       exact fI g [.tmp 4] (by rw[d];exact eR)
      ·have d:CG h ar f=0:=i.trans (An (by
        obtain⟨⟨x,t⟩,m⟩:=c;have m:((l.length:Int) != (ar:Int))=false:=m;rintro (q|q|q)
        ·exact q (by simpa using x)
        ·have q:b=false:=q;rw[q]at t;cases t
        ·exact q (by simpa using m)))
       exact fI g [.tmp 4] (by rw[d];exact eR)
end
section
attribute [local go_sem] PU LI Mp Xf TL RR cs4 cs5
theorem aK (e:Int):∀l:List (Int×Int),Yb l e=E1 l e
 | []=>rfl
 | a :: l=>by unfold Yb E1;rw[aK e l]
def A9X:Aa:={ ins:=[Da,Ft],pre:=λ(f,_,_)=>AW f/\0<List.length f,out:=λ(f,p,_)=>[.p T3 (CZ f 0 p).1,.p .bool (CZ f 0 p).2] }
attribute [local go_sem] A9X
theorem A4w:Ab Tryz.prog 71 A9X:=by
 refine fK [0,1,2,4,5,6,7,8,9,13,27] Tryz.func71 Tryz.ntmps71 (AF A3Y AG) ?_;rintro w0 O0 ⟨f,p,u⟩ g ⟨-,⟨l,-⟩,-⟩ ⟨hf,h0⟩;simp only[AP]at l;simp only[A9X,AL];repeat'(first|exact trivial|refine eS rfl ?_|refine AB ?_|refine rX g ?_ ?_|refine rC ?_ ?_<;>intro b<;>try(cases b;done))
 refine AJ (ι:={s:Nat×Int//s.1<=p.length/\(0<=s.2/\s.2<(f.length:Int))/\CZ f 0 p=CZ f s.2 (p.drop s.1)}) (λs=>⟨[(1,.p Ft p),(2,.bp 2 [] 0),(6,.p (.int .i64) s.1.2),(7,.p (.int .i64) (s.1.1:Int))],[(2,.box 25 true [.p FQ f])]⟩) (λs=>p.length-s.1.1) ⟨(0,0),IS _,⟨AEu 0,by show (0:Int)<_;omega⟩,rfl⟩ (AC [(2,.nm 2)] rfl rfl ?_ ?_) (λs=>?_)
 ·first|exact eN|refine eM ?_
 ·first|exact eN|refine eM ?_
 ·obtain⟨⟨k,n⟩,hk,hn,d⟩:=s;simp only at hk hn d ⊢;have h:=λe=>aK e (f.getD n.toNat (0,[])).2;repeat'(first|exact trivial|refine eS rfl ?_|refine AB ?_|refine rX g ?_ ?_|refine rC ?_ ?_<;>intro b<;>try(cases b;done))
  ·exact⟨b,hn⟩
  ·have c:k<p.length:=by exact eV
   rw[h]at b;have h1:CZ f 0 p=(0,false):=by
    rw[d,KN c];simp only[CZ];rw[An (by rw[AR,b];simp)]
   exact fI g [.tmp 4,.tmp 5] (by rw[h1];exact eR)
  ·exact eV
  ·have c:k<p.length:=by exact eV
   rw[h]at b;have h1:=d;rw[KN c]at h1;simp only[CZ]at h1;rw[BY b]at h1;obtain⟨a,ha,-,j⟩:=Xw b;have i:=BE hf ha;rw[j]at i;refine⟨⟨(k+1,(E1 (f.getD n.toNat (0,[])).2 (p.getD k 0)).1),c,i,h1⟩,by simp only;omega,AC [(2,.nm 2)] rfl rfl ?_ ?_⟩
   ·first|exact eN|refine eM ?_
   ·simp only;rw[<-h];first|exact eN|refine eM ?_
  ·have c:p.drop k=[]:=By (UA.1 b);rw[c]at d;exact fI g [.tmp 4,.tmp 5] (by rw[d];first|exact eR|refine YM ?_;exact⟨rfl,rfl⟩)
theorem A84:Ab Tryz.prog 58 TL:=by
 refine fK [0,1,2,4] Tryz.func58 Tryz.ntmps58 (AF cU AG) ?_;rintro w0 O0 ⟨f,n,u⟩ a-⟨hf,hn⟩;simp only[TL,AL];repeat'(first|exact trivial|refine eS rfl ?_|refine AB ?_|refine rX a ?_ ?_|refine rC ?_ ?_<;>intro b<;>try(cases b;done))
 ·exact⟨hf,hn⟩
 ·exact fI a [.cell 4 25]
def yM:Aa:={ ins:=[Da,Ft],pre:=λ(f,p,_)=>∃h,HU h/\VF h f,out:=λ(f,p,_)=>[.p Da (Yc f p),.p .bool (CZ f 0 p).2] }
attribute [local go_sem] yM
theorem A85:Ab Tryz.prog 80 yM:=by
 refine fK [0,1,2,4,5,6,7,15] Tryz.func80 Tryz.ntmps80 (AF A4w (AF A84 AG)) ?_;rintro w0 O0 ⟨f,p,u⟩ b-⟨h,hu,vf⟩;have vf:VF h f:=vf;have c:=RP vf p;simp only[yM,AL];repeat'(first|exact trivial|refine eS rfl ?_|refine AB ?_|refine rX b ?_ ?_|refine rC ?_ ?_<;>intro a<;>try(cases a;done))
 ·exact⟨vf.good,vf.pos⟩
 ·exact fI b [.cell 4 25,.tmp 5] (by unfold Yc;rw[a,An (by simp)];exact eR)
 ·exact⟨vf.good,c a⟩
 ·have d:=GE vf.good (vf.srt hu) (c a).1 (c a).2;exact fI b [.cell 4 25,.tmp 5] (by unfold Yc;rw[a,BY rfl,<-d];exact eR)
theorem A4x:Ab Tryz.prog 21 RS:=by
 refine qJ [0,1,2,3,4,5,6,7,8,9,10,18,24,30,35,45,67] [40] [] Tryz.func21 Tryz.ntmps21 (AF Za (AF oH (AF Sc (AF A4w (AF pD AG))))) ?_;rintro w0 O0 ⟨h,⟨nm,ar,f⟩,u⟩ g-hp;have hp:A82 h f:=hp;obtain⟨⟨o,hk⟩,hs,s,j⟩:=hp;have r:(h.1,h.2)=h:=rfl;have t:=Ig h;have e:CG h ar f=if ar<1\/2<ar then 2 else if Ai h f≠0 then Ai h f else if Ah h<0 then 13 else if (CZ f 0 [Ah h]).2=false then 13
 else if (Aq h f (CZ f 0 [Ah h]).1).2.2≠0\/(Aq h f (CZ f 0 [Ah h]).1).2.1=false\/((Aq h f (CZ f 0 [Ah h]).1).1.length:Int)≠ar then 13 else 0:=rfl
 simp only[RS,AL];repeat'(first|exact trivial|refine eS rfl ?_|refine AB ?_|refine rX g ?_ ?_|refine rC ?_ ?_<;>intro b<;>try(cases b;done))
 ·have c:CG h ar f=2:=e.trans (BY b);exact fI g [.tmp 4] (by rw[c];exact eR)
 ·exact hs
 ·exact⟨o,hs,hk⟩
 ·have ha:¬((ar:Int)<1\/2<(ar:Int)):=by
   have a:(1:Int)<=(ar:Int)/\(ar:Int)<=2:=by assumption
   exact λq=>q.elim (λq=>absurd a.1 (oR.2 q)) λq=>absurd a.2 (oR.2 q)
  have c:CG h ar f=Ai h f:=by rw[e,An ha,BY b]
  exact fI g [.tmp 4] (by rw[c];exact eR)
 ·have ha:¬((ar:Int)<1\/2<(ar:Int)):=by
   have a:(1:Int)<=(ar:Int)/\(ar:Int)<=2:=by assumption
   exact λq=>q.elim (λq=>absurd a.1 (oR.2 q)) λq=>absurd a.2 (oR.2 q)
  have d:Ai h f=0:=by
   have a:(Ai h f != 0)=false:=by assumption
   simpa using a
  have c:CG h ar f=13:=by rw[e,An ha,An (λq=>q d),BY (show Ah h<0 from b)]
  exact fI g [.tmp 4] (by rw[c];exact eR)
 ·have d:Ai h f=0:=by
   have a:(Ai h f != 0)=false:=by assumption
   simpa using a
  have vf:=j (JQ d);exact⟨vf.good,vf.pos⟩
 ·have ha:¬((ar:Int)<1\/2<(ar:Int)):=by
   have a:(1:Int)<=(ar:Int)/\(ar:Int)<=2:=by assumption
   exact λq=>q.elim (λq=>absurd a.1 (oR.2 q)) λq=>absurd a.2 (oR.2 q)
  have d:Ai h f=0:=by
   have a:(Ai h f != 0)=false:=by assumption
   simpa using a
  have i:¬Ah h<0:=AAb.2 (by assumption);have c:CG h ar f=13:=by rw[e,An ha,An (λq=>q d),An i,BY (show (CZ f 0 [Ah h]).2=false from b)]
  exact fI g [.tmp 4] (by rw[c];exact eR)
 ·have d:Ai h f=0:=by
   have a:(Ai h f != 0)=false:=by assumption
   simpa using a
  have vf:=j (JQ d);exact⟨hk,vf.good,vf.ty,RP vf _ b⟩
 ·have ha:¬((ar:Int)<1\/2<(ar:Int)):=by
   have a:(1:Int)<=(ar:Int)/\(ar:Int)<=2:=by assumption
   exact λq=>q.elim (λq=>absurd a.1 (oR.2 q)) λq=>absurd a.2 (oR.2 q)
  have d:Ai h f=0:=by
   have a:(Ai h f != 0)=false:=by assumption
   simpa using a
  have i:¬Ah h<0:=AAb.2 (by assumption);have vf:=j (JQ d);have k:(CZ f 0 [Ah h]).2=true:=by assumption
  rw[An ha,An (λq=>q d),An i,An (by rw[k];simp)]at e;have c:CG h ar f=13:=e.trans (BY (by
   rcases b with (q|q)|q
   ·exact .inl q
   ·exact .inr (.inl q)
   ·exact .inr (.inr q)))
  exact fI g [.tmp 4] (by rw[c];exact eR)
 ·have ha:¬((ar:Int)<1\/2<(ar:Int)):=by
   have a:(1:Int)<=(ar:Int)/\(ar:Int)<=2:=by assumption
   exact λq=>q.elim (λq=>absurd a.1 (oR.2 q)) λq=>absurd a.2 (oR.2 q)
  have d:Ai h f=0:=by
   have a:(Ai h f != 0)=false:=by assumption
   simpa using a
  have i:¬Ah h<0:=AAb.2 (by assumption);have vf:=j (JQ d);have k:(CZ f 0 [Ah h]).2=true:=by assumption
  rw[An ha,An (λq=>q d),An i,An (by rw[k];simp)]at e;have c:CG h ar f=0:=e.trans (An (by
   obtain⟨⟨l,p⟩,m⟩:=b;rintro (q|q|q)
   ·have l:((Aq h f (CZ f 0 [Ah h]).1).2.2 != 0)=false:=l;exact q (by simpa using l)
   ·rw[show (Aq h f (CZ f 0 [Ah h]).1).2.1=true from p]at q;cases q
   ·have m:(((Aq h f (CZ f 0 [Ah h]).1).1.length:Int) != (ar:Int))=false:=m;exact q (by simpa using m)))
  exact fI g [.tmp 4] (by rw[c];exact eR)
 ·have ha:¬((ar:Int)<1\/2<(ar:Int)):=by
   have a:(1:Int)<=(ar:Int)/\(ar:Int)<=2:=by assumption
   exact λq=>q.elim (λq=>absurd a.1 (oR.2 q)) λq=>absurd a.2 (oR.2 q)
  have b:BP h f≠0:=b;have c:CG h ar f=BP h f:=by rw[e,An ha,BY (by rw[VG b];exact b),VG b]
  exact fI g [.tmp 4] (by rw[c];exact eR)
 all_goals
  exfalso;have n:¬BP h f=0:=by assumption
  have a:(BP h f != 0)=false:=by assumption
  exact n (by simpa using a)
end
section
attribute [local go_sem] LG LI
end
section
attribute [local go_sem] KD aD PU LG Mp RS cs1 cs2 cs3 cs4 cs5
def RT:List AI:=Cw++[(⟨#[97,103,114]⟩,[⟨#[116,111,112]⟩],[]),(⟨#[115,103]⟩,[⟨#[97,103,114]⟩],[]),(⟨#[112,108]⟩,[⟨#[97,103,114]⟩],[])]++[(⟨#[99,97,116]⟩,[⟨#[115,105,103,110]⟩],[(⟨#[65,71,82]⟩,⟨#[97,103,114]⟩)])]++[(⟨#[100,101,116]⟩,[⟨#[99,97,116]⟩],[]),(⟨#[110]⟩,[⟨#[99,97,116]⟩],[]),(⟨#[110,112]⟩,[⟨#[99,97,116]⟩],[])]
def RU:Aa:={ ins:=[],pre:=λ_=>True,out:=λ_=>[.p FE RT] }
attribute [local go_sem] RU
theorem pE:Ab Tryz.prog 64 RU:=by
 refine qJ [0,1] [6,8,10,12,15,17,19,22,24,26,28] [] Tryz.func64 Tryz.ntmps64 (AF WX AG) ?_;rintro w0 O0 u b - -;simp only[RU,AL];have a:Cw.length=13:=rfl;repeat'(first|exact trivial|refine eS rfl ?_|refine AB ?_|refine rX b ?_ ?_|refine rC ?_ ?_<;>intro c<;>try(cases c;done))
 ·rw[a];decide
 ·rw[a];decide
 ·rw[a];decide
 ·rw[a];decide
 ·refine FP [2] ?_;exact fI b [.tmp 0] (by rw[show RT=List.take (Cw.length+3+1+3) (List.take (Cw.length+3+1) (List.take (Cw.length+3) (Cw++[(⟨#[97,103,114]⟩,[⟨#[116,111,112]⟩],[]),(⟨#[115,103]⟩,[⟨#[97,103,114]⟩],[]),(⟨#[112,108]⟩,[⟨#[97,103,114]⟩],[])])++[(⟨#[99,97,116]⟩,[⟨#[115,105,103,110]⟩],[(⟨#[65,71,82]⟩,⟨#[97,103,114]⟩)])])++[(⟨#[100,101,116]⟩,[⟨#[99,97,116]⟩],[]),(⟨#[110]⟩,[⟨#[99,97,116]⟩],[]),(⟨#[110,112]⟩,[⟨#[99,97,116]⟩],[])]) from rfl];exact eR)
def Gl (h:AH) (fs:List ByteArray) (a:List Int) (n:Nat):List (Int×Int):=(List.range n).map λi=>(Xu h (fs.getD i ByteArray.empty),a.getD i 0)
theorem kX (h:AH) (fs:List ByteArray) (a:List Int) (n:Nat):Gl h fs a (n+1)=Gl h fs a n++[(Xu h (fs.getD n ByteArray.empty),a.getD n 0)]:=by simp[Gl,YF]
theorem pF (h:AH) (fs:List ByteArray) (a:List Int) (n:Nat):(Gl h fs a n).length=n:=by simp[Gl]
def VH:Aa:={ ins:=[ER,T9,F1,Ft],pre:=λ(_,_,fs,a,_)=>List.length fs<=1000/\List.length fs<=List.length a,out:=λ(h,s,fs,a,_)=>[.p Ls (Hd h s,Gl h fs a (List.length fs))] }
attribute [local go_sem] VH
theorem A1a:Ab Tryz.prog 65 VH:=by
 refine qJ [0,1,2,3,4,8,9,10,18] [34] [] Tryz.func65 Tryz.ntmps65 (AF Nk (AF Sc AG)) ?_;rintro w0 O0 ⟨h,s,fs,b,u⟩ c-⟨f,e⟩;have f:fs.length<=1000:=f;have e:fs.length<=b.length:=e;simp only[VH,AL];have l:(h.1,h.2)=h:=rfl;repeat'(first|exact trivial|refine eS rfl ?_|refine AB ?_|refine rX c ?_ ?_|refine rC ?_ ?_<;>intro a<;>try(cases a;done))
 refine AJ (ι:={k:Nat//k<=fs.length}) (λk=>⟨[(2,.p F1 fs),(3,.p Ft b),(4,.bp 4 [] 0),(8,.bp 8 [] 0),(9,.bp 9 [] 0),(10,.p (.int .i64) (k.1:Int))],[(4,.box 31 true [.p Tr h.1,.p WB h.2]),(8,.box 93 true [.p T3 (0:Int),.raw (.slice none 0 0)]),(9,.box 93 true [.p T3 (Hd h s),.sr 35 AU 0 (Gl h fs b k.1).length]),(35,.arr 106 AU (Gl h fs b k.1))]⟩) (λk=>fs.length-k.1) ⟨0,IS _⟩ (AC [(4,.nm 4),(8,.nm 8),(9,.nm 9),(35,.nil)] rfl rfl ?_ ?_) (λk=>?_)
 ·first|exact eN|refine eM ?_
  exact⟨rfl,rfl⟩
 ·first|exact eN|refine eM ?_
 ·obtain⟨k,hk⟩:=k;have i:=pF h fs b k;have j:=kX h fs b k;simp only;repeat'(first|exact trivial|refine eS rfl ?_|refine AB ?_|refine rX c ?_ ?_|refine rC ?_ ?_<;>intro a<;>try(cases a;done))
  ·have d:k<fs.length:=IN.1 a;refine⟨a,IN.2 (AA8 d e),?_⟩;rw[i];simp only[AP];omega
  ·omega
  ·have d:k<fs.length:=IN.1 a;refine⟨⟨k+1,d⟩,by simp only;omega,AC [(4,.nm 4),(8,.nm 8),(9,.nm 9),(35,.nm 35)] rfl rfl ?_ ?_⟩
   ·simp only[j];first|exact eN|refine eM ?_
    try rfl
   ·first|exact eN|refine eM ?_
  ·have g:k=fs.length:=AE8 hk (UA.1 a);subst g;exact fI c [.cell 8 93]
theorem ADh (d:List AI):k9 (IP d):=by
 unfold IP;split
 ·exact RG d
 ·exact RG Cw
theorem A4y (d:List AI):A0R (IP d):=by
 unfold IP;split
 ·exact Mx d
 ·exact Mx Cw
theorem Sg {h:AH} (hh:k9 h) {f:List AD} (c:Fb f=true):A82 h f:=by
 obtain⟨h1,b⟩:=JH c;refine⟨⟨hh.ft,hh.ok⟩,⟨UD h1 (by decide),λx a=>UD (b x a) (by decide)⟩,λx a=>UD (b x a) (by decide),λd=>?_⟩;refine(A4d hh.b1 hh.b2 ?_).1;unfold cW;rw[c,d];rfl
end
def Cr:Nat->List Int->Int->Int
 | 0,_,n=>n
 | k+1,p,n=>if EX p n=n then n else Cr k p (EX p n)
def X7 (p:List Int) (n:Int):Bool:=EX p (Cr 100 p n)==Cr 100 p n
theorem kY {p:List Int}:∀ {k:Nat} {n:Int},EX p (Cr k p n)=Cr k p n->Rt p n (Cr k p n)
 | 0,n,h=>.base h
 | k+1,n,h=>by
  unfold Cr at h ⊢;split
  ·rename_i e;exact .base e
  ·rename_i e;rw[An e]at h;exact .step e (kY h)
theorem X8 {p:List Int} {n:Int} (h:X7 p n=true):Rt p n (Cr 100 p n):=kY (by unfold X7 at h;simpa using h)
abbrev ClD:=List Int×List Int×List (List (Int×Int))
def aL (h:AH):Nat->ClD->List (Int×Int)->Option (Option ClD)
 | 0,_,_=>none
 | k+1,s,W=>match W.getLast? with
  | none=>some (some s)
  | some w =>
   if (X7 s.1 w.1&&X7 s.1 w.2)=true then
    if Cr 100 s.1 w.1=Cr 100 s.1 w.2 then aL h k s W.dropLast
    else if (Bo h (s.2.1.getD (Cr 100 s.1 w.1).toNat 0) (s.2.1.getD (Cr 100 s.1 w.2).toNat 0)).2=false then some none
    else aL h k (s.1.set (Cr 100 s.1 w.2).toNat (Cr 100 s.1 w.1),s.2.1.set (Cr 100 s.1 w.1).toNat (Bo h (s.2.1.getD (Cr 100 s.1 w.1).toNat 0) (s.2.1.getD (Cr 100 s.1 w.2).toNat 0)).1,s.2.2.set (Cr 100 s.1 w.1).toNat (B4 (s.2.2.getD (Cr 100 s.1 w.1).toNat []) (s.2.2.getD (Cr 100 s.1 w.2).toNat [])).1)
     (W.dropLast++(B4 (s.2.2.getD (Cr 100 s.1 w.1).toNat []) (s.2.2.getD (Cr 100 s.1 w.2).toNat [])).2)
   else none
theorem A86 {α:Type} {W:List α} {w:α} (h:W.getLast?=some w):W=W.dropLast++[w]:=by
 obtain⟨a,e⟩:=List.getLast?_eq_some_iff.1 h;rw[e];simp
theorem X9 {h:AH} (hk:GL h) {N:List AD} {P:List (Int×Int)}:∀(k:Nat) (s:ClD) (W:List (Int×Int)),JI h N P s.1 s.2.1 s.2.2 W ->
  (∀t,aL h k s W=some (some t)->JI h N P t.1 t.2.1 t.2.2 [])/\(aL h k s W=some none->∀X v,Dv h X->¬eJ h N P X v)
 | 0,s,W,a=>⟨λt e=>(by cases e),λe=>(by cases e)⟩
 | k+1,s,W,a=>by
  unfold aL;cases g:W.getLast? with
  | none =>
   have:W=[]:=List.getLast?_eq_none_iff.1 g;subst this;refine⟨λt e=>?_,λe=>(by cases e)⟩;have e:s=t:=by simpa using e
   rw[<-e];exact a
  | some w =>
   simp only;have i:=A86 g;obtain⟨x,y⟩:=w;rw[i]at a;by_cases c:(X7 s.1 x&&X7 s.1 y)=true
   ·rw[BY c];rw[AT]at c;have ha:=X8 c.1;have d:=X8 c.2;by_cases f:Cr 100 s.1 x=Cr 100 s.1 y
    ·rw[BY f];rw[<-f]at d;exact X9 hk k s _ (dI a ha d)
    ·rw[An f];by_cases b:(Bo h (s.2.1.getD (Cr 100 s.1 x).toNat 0) (s.2.1.getD (Cr 100 s.1 y).toNat 0)).2=false
     ·rw[BY b];refine⟨λt e=>(by cases e),λ_ X v j l=>?_⟩;have:=(Uy hk a ha d j l).2.1;rw[b]at this;cases this
     ·rw[An b];have b:(Bo h (s.2.1.getD (Cr 100 s.1 x).toNat 0) (s.2.1.getD (Cr 100 s.1 y).toNat 0)).2=true:=by simpa using b
      exact X9 hk k _ _ (XJ hk a ha d f b)
   ·rw[An c];exact⟨λt e=>(by cases e),λe=>(by cases e)⟩
def Sh (h:AH):ClD->List (Int×Int)->Option (Option ClD)
 | s,[]=>some (some s)
 | s,q :: P=>match aL h 1000 s [q] with
  | some (some t)=>Sh h t P
  | r=>r
theorem aM {h:AH} (hk:GL h) {N:List AD}:∀(R P:List (Int×Int)) (s:ClD),(∀q∈R,(0<=q.1/\q.1<(N.length:Int))/\(0<=q.2/\q.2<(N.length:Int)))->JI h N P s.1 s.2.1 s.2.2 [] ->
  (∀t,Sh h s R=some (some t)->JI h N (P++R) t.1 t.2.1 t.2.2 [])/\(Sh h s R=some none->∀X v,Dv h X->¬eJ h N (P++R) X v)
 | [],P,s,g,f=>⟨λt e=>by
   have e:s=t:=by simpa[Sh] using e
   rw[<-e,UO];exact f,λe=>(by cases e)⟩
 | q :: R,P,s,g,f=>by
  obtain⟨a,b⟩:=q;have c:=g (a,b) (by simp);obtain⟨m,n⟩:=X9 hk 1000 s [(a,b)] (XK f c.1 c.2);have i:P++(a,b) :: R=P++[(a,b)]++R:=by simp
  unfold Sh;rw[i];split
  ·rename_i t l;exact aM hk R (P++[(a,b)]) t (λq c=>g q (by simp[c])) (m t l)
  ·rename_i r k;refine⟨λt e=>absurd e (k t),λe X v j d=>n e X v j ⟨d.rng,d.ty,d.arc,λq c=>d.eq q (YC _ c)⟩⟩
def A87 (s:ClD):List AD:=(List.range s.1.length).map λk=>(s.2.1.getD k 0,(s.2.2.getD k []).map λa=>(a.1,Cr 100 s.1 a.2))
def eF (s:ClD):Bool:=(List.range s.1.length).all λ(k:Nat)=>X7 s.1 (k:Int)
theorem aN {h:AH} {N:List AD} {P:List (Int×Int)} {s:ClD} (b:JI h N P s.1 s.2.1 s.2.2 []) (a:eF s=true) {x:Int} (c:0<=x) (e:x<(N.length:Int)):Cr 100 s.1 x=Ek s.1 x:=by
 unfold eF at a;rw[Is]at a;have d:=b.lp;have:=a x.toNat (UM.2 (by omega));rw[ADu c]at this;rw[dK (X8 this)]
theorem A88 {h:AH} {N:List AD} {P:List (Int×Int)} {s:ClD} (b:JI h N P s.1 s.2.1 s.2.2 []) (c:eF s=true):A87 s=quo s.1 s.2.1 s.2.2:=by
 unfold A87 quo;refine UI λk _=>?_
 congr 1
 refine UI λa ha=>?_;have:=(b.arr k a ha).1;rw[aN b c this.1 this.2]
def A4A (N:List AD):ClD:=(Cq 0 N.length,Mw N,TY N)
def A89 (h:AH) (N:List AD) (P:List (Int×Int)):Option (List AD×Bool):=match Sh h (A4A N) P with
 | some (some s)=>if eF s=true then some (AN (A87 s) (Cr 100 s.1 0),true) else none
 | some none=>some ([],false)
 | none=>none
theorem A8a {h:AH} (hk:GL h) {N:List AD} (j:AW N) (k:Dv h N) (hs:∀x∈N,Nr x.2) (h0:0<N.length) {P:List (Int×Int)} (i:∀q∈P,(0<=q.1/\q.1<(N.length:Int))/\(0<=q.2/\q.2<(N.length:Int))) :
  (∀a,A89 h N P=some (a,true)->∃p ty ar,JI h N P p ty ar []/\a=AN (quo p ty ar) (Ek p 0))/\(∀a,A89 h N P=some (a,false)->a=[]/\∀X v,Dv h X->¬eJ h N P X v):=by
 obtain⟨f,g⟩:=aM hk P [] (A4A N) i (dT j k hs);rw[AE0]at f g;unfold A89;split
 ·rename_i s c;have b:=f s c;split
  ·rename_i d;refine⟨λa e=>⟨s.1,s.2.1,s.2.2,b,?_⟩,λa e=>(by cases e)⟩;have e:AN (A87 s) (Cr 100 s.1 0)=a:=by simpa using e
   rw[<-e,A88 b d,aN b d (by omega) (by omega)]
  ·exact⟨λa e=>(by cases e),λa e=>(by cases e)⟩
 ·rename_i c;refine⟨λa e=>(by cases e),λa e=>⟨?_,g c⟩⟩;have e:[]=a:=by simpa using e
  exact e.symm
 ·exact⟨λa e=>(by cases e),λa e=>(by cases e)⟩
def pG (h:AH) (a b:List AD):Option (List AD×Bool):=A89 h (Cc a b) [(0,(a.length:Int))]
theorem aO {h:AH} (hu:HU h) {a b:List AD} (va:VF h a) (c:VF h b) (s:a.length+b.length<=10000) {r:List AD×Bool} (g:pG h a b=some r):Ec h a b=r:=by
 have n:=FA a b;have hap:=va.pos;have o:=c.pos;obtain⟨d,z⟩:=r;have i:=PQ va.good c.good (by omega);obtain⟨l,m⟩:=A8a hu.ok (N:=Cc a b) i (XX va.ty c.ty) (Nh va.str c.str) (by omega) (P:=[(0,(a.length:Int))]) (λq k=>by
  have e:q=(0,(a.length:Int)):=by simpa using k
  subst e;simp only;omega)
 cases z with
 | true =>
  obtain⟨p,ty,ar,f,rfl⟩:=l d g;exact TW hu (dQ va c f (Xa f (by omega) (XY (va.ft64 hu) (c.ft64 hu))))
 | false =>
  obtain⟨rfl,j⟩:=m d g;exact Zy va c j
def roB (f:List AD):Bool:=(List.range f.length).all λ(i:Nat)=>i==0||(List.range i).any λj=>(f.getD j (0,[])).2.any λa=>a.2==(i:Int)
def A8b:List (Int×Int)->Bool
 | a :: b :: l=>decide (a.1<b.1)&&A8b (b :: l)
 | _=>true
theorem yN:∀ {l:List (Int×Int)},A8b l=true->Nr l
 | [],_=>.nil
 | [a],_=>List.pairwise_singleton _ _
 | a :: b :: l,h=>by
  simp only[A8b,AT,Fe]at h;have e:=yN h.2;refine UW.2 ⟨λc d=>?_,e⟩;rcases DO.1 d with rfl|d
  ·exact h.1
  ·have:=(UW.1 e).1 c d;omega
def vfB (h:AH) (f:List AD):Bool :=
 decide (0<f.length)&&decide (f.length<=100)&&roB f&&(AN f 0==f)&&f.all λx=>decide (0<=x.1)&&decide (x.1<(h.1.length:Int))&&decide (x.2.length<=100)&&A8b x.2&&x.2.all λa=>decide (0<=a.1)&&decide (a.1<(h.2.length:Int))&&decide (0<=a.2)&&decide (a.2<(f.length:Int))
theorem PX {h:AH} {f:List AD} (g:vfB h f=true):VF h f:=by
 unfold vfB at g;simp only[AT,Fe,Is,YD]at g;obtain⟨⟨⟨⟨h1,m⟩,d⟩,l⟩,c⟩:=g;refine⟨⟨by omega,λx b=>⟨by have:=(c x b).1.1.2;omega,λa ha=>?_⟩⟩,h1,λx b=>?_,λx b=>?_,λx b a ha=>?_,l,λi n o=>?_⟩
 ·have:=(c x b).2 a ha;exact⟨this.1.2,this.2⟩
 ·exact(c x b).1.1.1
 ·exact yN (c x b).1.2
 ·exact((c x b).2 a ha).1.1
 ·unfold roB at d;rw[Is]at d;have:=d i.toNat (UM.2 (by omega));rw[UU,YD]at this;rcases this with e|e
  ·omega
  ·obtain⟨j,k,e⟩:=UF.1 e;obtain⟨a,ha,e⟩:=UF.1 e;have k:=UM.1 k;refine⟨(j:Int),by omega,by omega,a,by rw[AR,UG];exact ha,?_⟩;have e:a.2=(i.toNat:Int):=by simpa using e
   omega
def JR:AH:=([(⟨#[116,111,112]⟩,[1048575],[],[]),(⟨#[115,105,103,110]⟩,[265226],[0],[(1,5),(12,18)]),(⟨#[99,97,116]⟩,[3082],[1],[(0,4),(1,5),(12,18)]),(⟨#[105,110,100,101,120]⟩,[480],[0],[]),(⟨#[97,103,114]⟩,[139265],[0],[]),(⟨#[108,105,115,116]⟩,[4612],[0],[]),(⟨#[99,111,110,115]⟩,[4],[5],[(3,0),(11,5)]),(⟨#[100,101,116]⟩,[8],[2],[(0,4),(1,5),(12,18)]),(⟨#[100,108,105,115,116]⟩,[16],[0],[(7,5),(8,5)]),(⟨#[101,110,116,105,116,121]⟩,[32],[3],[]),(⟨#[101,118,101,110,116]⟩,[64],[3],[]),(⟨#[104,97,110,100,108,101]⟩,[128],[3],[]),(⟨#[110]⟩,[1024],[2],[(0,4),(1,5),(12,18)]),(⟨#[110,112]⟩,[2048],[2],[(0,4),(1,5),(12,18)]),(⟨#[110,117,108,108]⟩,[4096],[5],[]),(⟨#[112,108]⟩,[8192],[4],[]),(⟨#[113,101,113]⟩,[16384],[0],[(4,11),(9,11)]),(⟨#[114,101,108]⟩,[32768],[0],[(6,11)]),(⟨#[115,101,109]⟩,[65536],[0],[(2,8),(5,3),(10,8),(13,11)]),(⟨#[115,103]⟩,[131072],[4],[])],[(⟨#[65,71,82]⟩,2),(⟨#[65,82,71,83]⟩,1),(⟨#[67,79,78,83]⟩,18),(⟨#[70,73,82,83,84]⟩,6),(⟨#[72,73,71,72]⟩,16),(⟨#[73,78,68,69,88]⟩,18),(⟨#[76,65,66,69,76]⟩,17),(⟨#[76,65,83,84]⟩,8),(⟨#[76,73,83,84]⟩,8),(⟨#[76,79,87]⟩,16),(⟨#[82,69,76,83]⟩,18),(⟨#[82,69,83,84]⟩,6),(⟨#[83,69,77]⟩,1),(⟨#[84,79,80]⟩,18)])
def pH:List AD:=[(13,[(0,1),(1,2)]),(4,[]),(6,[(3,3),(11,4)]),(7,[(0,1)]),(6,[(3,5),(11,6)]),(12,[(0,1)]),(14,[])]
def lA:List AD:=[(7,[(0,1)]),(19,[])]
def exN:List AD:=[(12,[])]
def exM:List AD:=[(13,[(0,1)]),(4,[])]
def exW:List AD:=[(13,[(0,1)]),(19,[])]
def exF:List AD:=[(13,[(0,1),(1,2)]),(19,[]),(6,[(3,3),(11,4)]),(7,[(0,1)]),(6,[(3,5),(11,6)]),(12,[(0,1)]),(14,[])]
instance baDecK:DecidableEq ByteArray:=λa b =>
 if h:a.data.toList=b.data.toList then isTrue (by
  cases a
  cases b
  exact ADx ByteArray.mk (Array.toList_inj.1 h))
 else isFalse λe=>h (by rw[e])
theorem A8d:((IP RT).1:List (ByteArray×List Int×List Int×List (Int×Int)))=JR.1:=by decide +kernel
theorem A8e:((IP RT).2:List (ByteArray×Int))=JR.2:=by decide +kernel
theorem pI:IP RT=JR:=AFC A8d A8e
theorem Si:k9 JR:=by rw[<-pI];exact ADh _
theorem yO:A0R JR:=by rw[<-pI];exact A4y _
theorem kZ:VF JR pH:=PX (by decide +kernel)
theorem A4B:VF JR lA:=PX (by decide +kernel)
theorem ADi:VF JR exN:=PX (by decide +kernel)
theorem A8G:VF JR exF:=PX (by decide +kernel)
theorem A8H:CG JR 2 pH=0:=by decide +kernel
theorem ADj:CG JR 1 pH=13:=by decide +kernel
theorem ADk {h:AH} (hh:k9 h) {a b u:List AD} {r:List AD×Bool} (va:VF h a) (e:VF h b) (d:a.length+b.length<=10000) (h1:pG h a b=some (u,true)) (c:Gj h u=r):HQ h a b=r:=by
 unfold HQ;rw[aO hh.hu va e d h1,BY rfl];exact c
theorem ADl {h:AH} (hh:k9 h) {a b:List AD} (va:VF h a) (d:VF h b) (c:a.length+b.length<=10000) (h1:pG h a b=some ([],false)):HQ h a b=([],false):=by
 unfold HQ;rw[aO hh.hu va d c h1,An (by simp)]
theorem A8I:Jl JR 0=[1,3]:=by decide +kernel
theorem A8J:Jl JR 1=[1,11,3]:=by decide +kernel
theorem A9Z:VF JR (A6 [1,3] lA):=PX (by decide +kernel)
theorem AA0:VF JR (A6 [1,11,3] exN):=PX (by decide +kernel)
theorem AA1:VF JR (A6 [1,11,3] lA):=PX (by decide +kernel)
theorem A8K:HQ JR pH (A6 [1,3] lA)=(exF,true):=ADk Si (u:=exF) kZ A9Z (by decide) (by decide +kernel) (by decide +kernel)
theorem ADm:HQ JR exF (A6 [1,11,3] exN)=(exF,true):=ADk Si (u:=exF) A8G AA0 (by decide) (by decide +kernel) (by decide +kernel)
theorem ADn:HQ JR exF (A6 [1,11,3] lA)=([],false):=ADl Si A8G AA1 (by decide) (by decide +kernel)
theorem ADo:Ll exF (Ah JR)=exW:=by decide +kernel
theorem ADp:Ll pH (Ah JR)=exM:=by decide +kernel
theorem A4C:eB JR 2 pH:=yI (λ_=>kZ) A8H
theorem ADq:GK JR 2 pH [lA,exN]=(exW,true):=by
 have h1:Cg JR (Jl JR) 0 pH [lA,exN]=(exF,true):=by
  unfold Cg;rw[A8I,A8K,BY rfl];unfold Cg;rw[A8J,ADm,BY rfl];rfl
 unfold GK;rw[An (by decide),h1,BY rfl,ADo]
theorem ADr:GK JR 2 pH [lA,lA]=([],false):=by
 have h1:Cg JR (Jl JR) 0 pH [lA,lA]=([],false):=by
  unfold Cg;rw[A8I,A8K,BY rfl];unfold Cg;rw[A8J,ADn,An (by simp)]
 unfold GK;rw[An (by decide),h1,An (by simp)]
theorem ADs:GK JR 2 pH [lA]=([],false):=BY (by decide)
theorem AA2:RA JR 2 pH [lA,exN]:=⟨Si,yO,kZ,by decide,A4C,λx a=>by
 rcases DO.1 a with rfl|a
 ·exact⟨A4B,by decide⟩
 ·rw[YB.1 a];exact⟨ADi,by decide⟩,by decide⟩
theorem AA3:RA JR 2 pH [lA,lA]:=⟨Si,yO,kZ,by decide,A4C,λx a=>by
 rcases DO.1 a with rfl|a
 ·exact⟨A4B,by decide⟩
 ·rw[YB.1 a];exact⟨A4B,by decide⟩,by decide⟩
section
attribute [local go_sem] KF KD
def k5:Aa:={ ins:=[FE],pre:=λ_=>True,out:=λ(d,_)=>[.p ER (IP d)] }
theorem yP:Ab Tryz.prog 17 k5:=by
 refine fK [0,2,3,4,5,9,16] Tryz.func17 Tryz.ntmps17 (AF nI (AF WX AG)) ?_;rintro w0 O0 ⟨d,u⟩ a - -;simp only[k5,AL];repeat'(first|exact trivial|refine eS rfl ?_|refine AB ?_|refine rX a ?_ ?_|refine rC ?_ ?_<;>intro b<;>try(cases b;done))
 ·have h1:IP d=(Ax d).1:=by unfold IP;rw[BY ⟨by exact eV,b⟩]
  exact fI a [.cell 2 31] (by rw[h1];exact eR)
 ·have h1:IP d=(Ax Cw).1:=by unfold IP;rw[An (λh=>b h.2)]
  exact fI a [.cell 2 31] (by rw[h1];exact eR)
 ·have h1:IP d=(Ax Cw).1:=by
   unfold IP;rw[An];intro h;have:=h.1;exact eV
  exact fI a [.cell 2 31] (by rw[h1];exact eR)
end
section
attribute [local go_sem] RU k5 VH aD ZZ Sf RS JO Jk cs1 cs2 cs3 cs4 cs5
def k6:Aa:={ ins:=[],pre:=λ_=>True,out:=λ_=>[.p .bool true] }
attribute [local go_sem] k6
theorem A8f:Ab Tryz.prog 19 k6:=by
 refine qJ [0,1,2,3,4,5,6,7,9,11] [15,16,21,22,25,26,29,30,33,34,38,42,43,47,50,51,55,58,59,63,72,80,89] [] Tryz.func19 Tryz.ntmps19 (AF pE (AF yP (AF A1a (AF Nk (AF A6Z (AF A4s (AF A83 (AF aI (AF Wd AG))))))))) ?_;rintro w0 O0 u a - -;simp only[k6,AL];have c:=pI;have h14:=Si;have s:=ADq;have t:=ADr;have v:=ADs;have w:=AA2;have x:=AA3;have c1:=ADj;have c2:=A8H;have p:=ADp;have y:=kZ;have i:Hd JR ⟨#[110,112]⟩=13:=by decide +kernel
 have j:Hd JR ⟨#[97,103,114]⟩=4:=by decide +kernel
 have k:Hd JR ⟨#[99,111,110,115]⟩=6:=by decide +kernel
 have l:Hd JR ⟨#[100,101,116]⟩=7:=by decide +kernel
 have m:Hd JR ⟨#[110]⟩=12:=by decide +kernel
 have n:Hd JR ⟨#[110,117,108,108]⟩=14:=by decide +kernel
 have o:Hd JR ⟨#[115,103]⟩=19:=by decide +kernel
 have d:Gl JR [⟨#[65,71,82]⟩,⟨#[65,82,71,83]⟩] [1,2] 2=[(0,1),(1,2)]:=by decide +kernel
 have e:Gl JR [⟨#[70,73,82,83,84]⟩,⟨#[82,69,83,84]⟩] [3,4] 2=[(3,3),(11,4)]:=by decide +kernel
 have f:Gl JR [⟨#[65,71,82]⟩] [1] 1=[(0,1)]:=by decide +kernel
 have g:Gl JR [⟨#[70,73,82,83,84]⟩,⟨#[82,69,83,84]⟩] [5,6] 2=[(3,5),(11,6)]:=by decide +kernel
 have p0:Gl JR [] [] 0=[]:=rfl;have D:pH=[(13,[(0,1),(1,2)]),(4,[]),(6,[(3,3),(11,4)]),(7,[(0,1)]),(6,[(3,5),(11,6)]),(12,[(0,1)]),(14,[])]:=rfl;have A:lA=[(7,[(0,1)]),(19,[])]:=rfl;have C:exN=[(12,[])]:=rfl;have B:exM=[(13,[(0,1)]),(4,[])]:=rfl;have E:exW=[(13,[(0,1)]),(19,[])]:=rfl;have F:Fb pH=true:=by decide +kernel
 have r:=Sg h14 F;simp only[D,A,C,B,E]at s t v w x c1 c2 p y r;generalize JR=h at *;have b:(h.1,h.2)=h:=rfl;repeat'(first|exact trivial|refine eS rfl ?_|refine AB ?_|refine rP a ?_ ?_|fail)
 simp only[c];refine rT 1 a ?_ ?_
 ·first|trivial|exact⟨by decide,by decide⟩|trace_state
 ·simp only[c,b,i,j,k,l,m,n,o,p0,d,e,f,g];refine eS rfl ?_;refine rT 1 a ?_ ?_
  ·first|trivial|exact⟨by decide,by decide⟩|trace_state
  ·simp only[c,b,i,j,k,l,m,n,o,p0,d,e,f,g];refine eS rfl ?_;refine rT 1 a ?_ ?_
   ·first|trivial|exact⟨by decide,by decide⟩|trace_state
   ·simp only[c,b,i,j,k,l,m,n,o,p0,d,e,f,g];refine eS rfl ?_;refine rT 1 a ?_ ?_
    ·first|trivial|exact⟨by decide,by decide⟩|trace_state
    ·simp only[c,b,i,j,k,l,m,n,o,p0,d,e,f,g];repeat'(first|exact trivial|refine eS rfl ?_|refine AB ?_|refine rP a ?_ ?_|fail)
     refine CV drawsAny a 13 [([0,1,2,3,4,5,6,7,8,9,11],12)] [10] (by kernel_rfl) (NQ ?_ ?_)
     ·simp only[c,b,i,j,k,l,m,n,o,p0,d,e,f,g];exact λ_=>w
     ·simp only[c,b,i,j,k,l,m,n,o,p0,d,e,f,g];refine PY a [] ?_ ?_
      ·trivial
      ·refine S8 a ?_ ?_ ?_
       ·trivial
       ·simp only[c,b,i,j,k,l,m,n,o,p0,d,e,f,g]
       ·simp only[s];refine eS rfl ?_;refine rP a ?_ ?_
        ·simp only[c,b,i,j,k,l,m,n,o,p0,d,e,f,g];exact λq=>absurd q (by decide)
        ·simp only[c,b,i,j,k,l,m,n,o,p0,d,e,f,g];simp only[v];refine eS rfl ?_;refine rP a ?_ ?_
         ·simp only[c,b,i,j,k,l,m,n,o,p0,d,e,f,g];exact λ_=>x
         ·simp only[c,b,i,j,k,l,m,n,o,p0,d,e,f,g];simp only[t];repeat'(first|exact trivial|refine eS rfl ?_|refine AB ?_|refine rX a ?_ ?_|refine rC ?_ ?_<;>intro z<;>try(cases z;done))
          ·simp only[b,c2,p];exact⟨r,λ_=>⟨by decide,by decide⟩,λ_=>⟨h14.hu,y⟩,λ_=>⟨⟨by decide,by decide⟩,by decide,by decide⟩,λ_=>r⟩
          ·simp only[b,c1,c2,p,EW];exact fI a [.tmp 0]
end
section
attribute [local go_sem] PU kS TL cs4 cs5 S9 gM ne_eq not_false_eq_true
theorem A8g:Ab Tryz.prog 76 kS:=by
 refine qJ [0,1,2,4,5,10] [16,21] [] Tryz.func76 Tryz.ntmps76 (AF Sc AG) ?_;rintro w0 O0 ⟨h,i,u⟩ b-⟨c,d⟩;have c:(0:Int)<=(i:Int):=c;have d:(i:Int)<=100:=d;have o:(h.1,h.2)=h:=rfl;obtain⟨-,-,-,-,s,t,-,-⟩:=LP h;have r:=Ig h;simp only[kS,AL];obtain⟨m,rfl⟩:∃m:Nat,i=(m:Int):=⟨Int.toNat i,(ADu c).symm⟩;have q:m<=100:=UA.1 d;repeat'(first|exact trivial|refine eS rfl ?_|refine AB ?_|refine rX b ?_ ?_|refine rC ?_ ?_<;>intro a<;>try(cases a;done))
 refine AJ (ι:={k:Nat//k<=m}) (λk=>⟨[(2,.bp 2 [] 0),(5,.sr 8 T3 0 (k.1+1)),(1,.p T3 ((m:Int)-(k.1:Int)))],[(2,.box 31 true [.p Tr h.1,.p WB h.2]),(8,.arr 3 T3 (Tz h k.1))]⟩) (λk=>m-k.1) ⟨0,by omega⟩ (AC [(2,.nm 2),(8,.nm 8)] rfl rfl ?_ ?_) (λk=>?_)
 ·first|exact eN|refine eM ?_
  rfl
 ·first|exact eN|refine eM ?_
  exact(Int.sub_zero _).symm
 ·obtain⟨k,hk⟩:=k;have g:=kR h k;have j:=aG h k;simp only;repeat'(first|exact trivial|refine eS rfl ?_|refine AB ?_|refine rX b ?_ ?_|refine rC ?_ ?_<;>intro a<;>try(cases a;done))
  ·simp only[AP];omega
  ·omega
  ·have e:k<m:=by
    have f:(0:Int)<(m:Int)-(k:Int):=a;omega
   refine⟨⟨k+1,e⟩,by simp only;omega,AC [(2,.nm 2),(8,.nm 8)] rfl rfl ?_ ?_⟩
   ·first|exact eN|refine eM ?_
    rw[j,As (by omega)];rfl
   ·first|exact eN|refine eM ?_
    show (m:Int)-(k:Int)-1=(m:Int)-((k:Int)+1);omega
  ·simp only[AP];omega
  ·have e:k=m:=by
    have f:(m:Int)-(k:Int)<=0:=a;omega
   subst e;refine FP [8] ?_;have n:Jl h (Int.toNat (k:Int))=List.take (k+1+1) (List.take (k+1) (Tz h k)++[Xu (h.1,h.2) ⟨#[70,73,82,83,84]⟩]):=by
    rw[UG,yL,As (l:=Tz h k) (by omega),As (by rw[GO,g];exact NO _)];rfl
   exact fI b [.tmp 4] (by rw[n];exact eR)
def bN (f:List AD) (e:Int) (i k:Nat):List AD:=((f.getD 0 (0,[])).1,Aj 1 ((if i=0 then (f.getD 0 (0,[])).2.take k else (f.getD 0 (0,[])).2).filter λa=>a.1 != e)) :: (f.take i).map λx=>(x.1,Aj 1 x.2)
theorem AA4 (f:List AD) (e:Int) {i:Nat} (k:Nat) (hi:i<=f.length):(bN f e i k).length=i+1:=by
 simp only[bN,OS,Of,ON];omega
theorem A8h (f:List AD) (e:Int):bN f e 0 0=[((f.getD 0 (0,[])).1,[])]:=rfl
theorem YA (b:Nat) (l m:List (Int×Int)):Aj b (l++m)=Aj b l++Aj b m:=YK
theorem A8i {f:List AD} {e:Int} {i:Nat} (hi:i<f.length):bN f e (i+1) 0=bN f e i (f.getD i (0,[])).2.length++[((f.getD i (0,[])).1,Aj 1 (f.getD i (0,[])).2)]:=by
 unfold bN;rw[An (by omega),Az f (0,[]) hi,YK,ADF]
 congr 3
 split
 ·rename_i h0;subst h0;rw[UE]
 ·rfl
theorem AA5 (f:List AD) (e:Int) (h0:0<f.length):bN f e f.length 0=Id f e:=by
 unfold bN Id RI;rw[An (by omega),UE]
theorem A8j {f:List AD} {e:Int} {i:Nat} (k:Nat) (h:i≠0):bN f e i (k+1)=bN f e i k:=by
 unfold bN;rw[An h,An h]
theorem A8k {f:List AD} {e:Int} {k:Nat} (hk:k<(f.getD 0 (0,[])).2.length) (h:((f.getD 0 (0,[])).2.getD k (0,0)).1=e):bN f e 0 (k+1)=bN f e 0 k:=by
 unfold bN;rw[BY rfl,BY rfl,Mm _ _ hk,An (by simpa using h),UO]
theorem AA6 {f:List AD} {e:Int} {k:Nat} (hk:k<(f.getD 0 (0,[])).2.length) (h:((f.getD 0 (0,[])).2.getD k (0,0)).1≠e):bN f e 0 (k+1)=(bN f e 0 k).set 0 (((bN f e 0 k).getD 0 (0,[])).1,((bN f e 0 k).getD 0 (0,[])).2++[(((f.getD 0 (0,[])).2.getD k (0,0)).1,((f.getD 0 (0,[])).2.getD k (0,0)).2+1)]):=by
 unfold bN;rw[BY rfl,BY rfl,Mm _ _ hk,BY (by simpa using h),YA];rfl
def eG:Aa:={ ins:=[ER,Da],pre:=λ(h,f,_)=>HU h/\PF h f/\List.length f<=10000,out:=λ(h,f,_)=>[.p Da (Ll f (Ah h))] }
attribute [local go_sem] eG
theorem AA7 {h:AH} (hu:HU h) {f:List AD} (v:PF h f):KG f:=λx b=>by
 have c:=hu.ft;have:=XZ (v.str x b) λa ha=>by
  have:=v.ft x b a ha;omega
 exact⟨(Ia _).2 (v.str x b),by omega⟩
theorem A4D:Ab Tryz.prog 77 eG:=by
 refine qJ [0,1,2,3,4,5,6,7,8,9,22,40,79] [68,88] [(16,106)] Tryz.func77 Tryz.ntmps77 (AF Sc (AF cU AG)) ?_;rintro w0 O0 ⟨h,f,u⟩ d-⟨hu,hp,o⟩;have hp:PF h f:=hp;have o:f.length<=10000:=o;have h0:=hp.pos;have Q:(h.1,h.2)=h:=rfl;have V:=Ig h;have M:∀i,(f.getD i (0,[])).2.length<=100000:=λi=>by
  by_cases hi:i<f.length
  ·exact(hp.good.2 _ (AE f (0,[]) hi)).1
  ·rw[AS,UJ (by omega)];simp
 simp only[eG,AL];repeat'(first|exact trivial|refine eS rfl ?_|refine AB ?_|refine rX d ?_ ?_|refine rC ?_ ?_<;>intro b<;>try(cases b;done))
 ·exact IN.2 h0
 refine AJ (ι:={i:Nat//i<=f.length}) (λi=>⟨[(2,.bp 2 [] 0),(3,.bp 3 [] 0),(4,.bp 4 [] 0),(5,.bp 5 [] 0),(6,.p (.int .i64) (i.1:Int))],[(2,.box 31 true [.p Tr h.1,.p WB h.2]),(3,.box 25 true [.p FQ f]),(4,.box 25 true [.raw (.slice none 0 0)]),(5,.box 25 true [.sr 16 Ls 0 (bN f (Ah h) i.1 0).length]),(16,.nest 93 106 T3 AU (bN f (Ah h) i.1 0) none)]⟩) (λi=>f.length-i.1) ⟨0,by omega⟩ (AC [(2,.nm 2),(3,.nm 3),(4,.nm 4),(5,.nm 5),(16,.nm 16)] rfl rfl ?_ ?_) (λi=>?_)
 ·simp only[A8h];first|exact eN|refine eM ?_
 ·first|exact eN|refine eM ?_
 ·obtain⟨i,hi⟩:=i;simp only;repeat'(first|exact trivial|refine eS rfl ?_|refine AB ?_|refine rX d ?_ ?_|refine rC ?_ ?_<;>intro b<;>try(cases b;done))
  ·exact b
  ·have l:i<f.length:=IN.1 b;have G:=A8i (e:=Ah h) l;have R:=M i;have B:=λk=>AA4 f (Ah h) k hi;have I:=λa ha=>(hp.good.2 _ (AE f (0,[]) l)).2 a ha;generalize g:(f.getD i (0,[])).2=L at *;generalize U:(f.getD i (0,[])).1=ty at *;refine AJ (ι:={k:Nat//k<=L.length}) (λk=>⟨[(2,.bp 2 [] 0),(3,.bp 3 [] 0),(4,.bp 4 [] 0),(5,.bp 5 [] 0),(6,.p (.int .i64) (i:Int)),(7,.bp 7 [] 0),(8,.p (.int .i64) (k.1:Int))],[(2,.box 31 true [.p Tr h.1,.p WB h.2]),(3,.box 25 true [.p FQ f]),(4,.box 25 true [.raw (.slice none 0 0)]),(5,.box 25 true [.sr 16 Ls 0 (bN f (Ah h) i k.1).length]),(16,.nest 93 106 T3 AU (bN f (Ah h) i k.1) none),(7,.box 93 true [.p T3 ty,.sr 69 AU 0 (Aj 1 (L.take k.1)).length]),(69,.arr 106 AU (Aj 1 (L.take k.1)))]⟩) (λk=>L.length-k.1) ⟨0,by omega⟩ (AC [(2,.nm 2),(3,.nm 3),(4,.nm 4),(5,.nm 5),(16,.nm 16),(7,.nm 7),(69,.nil)] rfl rfl ?_ ?_) (λk=>?_)
   ·first|exact eN|refine eM ?_
    exact⟨rfl,rfl⟩
   ·first|exact eN|refine eM ?_
   ·obtain⟨k,hk⟩:=k;have O:(Aj 1 (L.take k)).length=k:=by
     unfold Aj;rw[Of,ON];omega
    have s:=λc:k<L.length=>show Aj 1 (L.take (k+1))=Aj 1 (L.take k)++[((L.getD k (0,0)).1,(L.getD k (0,0)).2+1)] by rw[Az L (0,0) c,YA];rfl
    have J:=λc:k<L.length=>I _ (AE L (0,0) c);have C:=B k;have K:=λh0:i≠0=>A8j (f:=f) (e:=Ah h) k h0;have y:=λ(h0:i=0) (c:k<L.length) (q:(L.getD k (0,0)).1=Ah h)=>show bN f (Ah h) i (k+1)=bN f (Ah h) i k by
     subst h0;exact A8k (by rw[g];exact c) (by rw[g];exact q)
    have t:=λ(h0:i=0) (c:k<L.length) (q:(L.getD k (0,0)).1≠Ah h)=>show bN f (Ah h) i (k+1)=(bN f (Ah h) i k).set 0 (((bN f (Ah h) i k).getD 0 (0,[])).1,((bN f (Ah h) i k).getD 0 (0,[])).2++[((L.getD k (0,0)).1,(L.getD k (0,0)).2+1)]) by
     subst h0;rw[AA6 (by rw[g];exact c) (by rw[g];exact q),g]
    simp only;repeat'(first|exact trivial|refine eS rfl ?_|refine AB ?_|refine rX d ?_ ?_|refine rC ?_ ?_<;>intro b<;>try(cases b;done))
    all_goals try rw[g]at b
    all_goals try rw[g]
    ·exact IN.2 l
    ·have c:k<L.length:=IN.1 b;have:=J c;exact⟨IN.2 l,IN.2 c,IN.2 l,IN.2 c,by omega,by omega⟩
    ·rw[O];simp only[AP];omega
    ·obtain⟨m,F⟩:=b;have m:i=0:=by
      have j:((i:Nat):Int)=0:=m;omega
     have c:k<L.length:=by
      have j:((k:Nat):Int)<((List.getD f i (0,[])).2.length:Int):=by assumption
      rw[g]at j;exact IN.1 j
     have v:=t m c F;have S:((bN f (Ah h) i k).getD 0 (0,[])).2.length<=100000:=by
      subst m;have z:=YH (λa:Int×Int=>a.1 != Ah h) (L.take k);show (Aj 1 (((f.getD 0 (0,[])).2.take k).filter _)).length<=100000;rw[g];unfold Aj;rw[Of];rw[ON]at z;omega
     have w:=v;generalize bN f (Ah h) i k=N at *;have r:(0:Int)<(N.length:Int):=by omega
     refine CV drawsAny d 10 [([2,3,4,5,6,7,8],9)] [0,1] (by kernel_rfl) (NQ ?_ ?_)
     ·exact r
     ·refine mxN d 16 ?_ ?_
      ·simp only[AP];dsimp only[Ty.den]at *;omega
      ·refine S8 d ?_ ?_ ?_
       ·trivial
       ·exact r
       ·repeat'(first|exact trivial|refine eS rfl ?_|refine AB ?_|refine rX d ?_ ?_|refine rC ?_ ?_<;>intro b<;>try(cases b;done))
        ·omega
        ·refine⟨⟨k+1,c⟩,by simp only;omega,AC [(2,.nm 2),(3,.nm 3),(4,.nm 4),(5,.nm 5),(16,.nm 16),(7,.nm 7),(69,.nm 69)] rfl rfl ?_ ?_⟩
         ·simp only[s c,w];first|exact eN|refine eM ?_
          rw[YG]
         ·first|exact eN|refine eM ?_
    ·omega
    ·have c:k<L.length:=by
      have j:((k:Nat):Int)<((List.getD f i (0,[])).2.length:Int):=by assumption
      rw[g]at j;exact IN.1 j
     have x:bN f (Ah h) i (k+1)=bN f (Ah h) i k:=by
      by_cases h0:i=0
      ·refine y h0 c ?_;have j:((L.getD k (0,0)).1 != Ah h)=false:=b (by rw[h0];rfl);exact bne_eq_false_iff_eq.1 j
      ·exact K h0
     refine⟨⟨k+1,c⟩,by simp only;omega,AC [(2,.nm 2),(3,.nm 3),(4,.nm 4),(5,.nm 5),(16,.nm 16),(7,.nm 7),(69,.nm 69)] rfl rfl ?_ ?_⟩
     ·simp only[s c,x];first|exact eN|refine eM ?_
      try simp
     ·first|exact eN|refine eM ?_
    ·have E:k=L.length:=AE8 hk (UA.1 b);subst E;rw[UE]at *;refine cP 3 d ?_ ?_
     ·trivial
     ·refine ADO d rfl ?_;refine rL d ?_ ?_
      ·rw[C];simp only[AP];omega
      ·repeat'(first|exact trivial|refine eS rfl ?_|refine AB ?_|refine rX d ?_ ?_|refine rC ?_ ?_<;>intro b<;>try(cases b;done))
       ·omega
       ·refine⟨⟨i+1,l⟩,by simp only;omega,AC [(2,.nm 2),(3,.nm 3),(4,.nm 4),(5,.nm 5),(16,.nm 16)] rfl rfl ?_ ?_⟩
        ·simp only[G];first|exact eN|refine eM ?_
         try simp
        ·first|exact eN|refine eM ?_
  ·have D:i=f.length:=AE8 hi (UA.1 b);subst D;rw[AA5 f (Ah h) h0];have P:=Nj f (Ah h);have n:=RJ hp o (Ah h);have A:=GE n.good (AA7 hu n) (root:=0) (by omega) (by omega);refine FP [16] ?_;have T:(Id f (Ah h)).take (Id f (Ah h)).length=Id f (Ah h):=UE;repeat'(first|exact trivial|refine eS rfl ?_|refine AB ?_|refine rX d ?_ ?_|refine rC ?_ ?_<;>intro b<;>try(cases b;done))
   ·exact⟨n.good,IN.2 n.pos⟩
   ·have H:Ll f (Ah h)=IU (Id f (Ah h)) 0:=A.symm;exact fI d [.cell 4 25] (by rw[H];exact eR)
end
section
attribute [local go_sem] PU kS eG JO PW yM A4o Sf cs4 cs5
theorem pJ:Ab Tryz.prog 31 JO:=by
 refine fK [0,1,2,3,4] Tryz.func31 Tryz.ntmps31 (AF A4D AG) ?_;rintro w0 O0 ⟨h,⟨nm,ar,f⟩,u⟩ a-⟨hu,vf,c⟩;simp only[JO,AL];repeat'(first|exact trivial|refine eS rfl ?_|refine AB ?_|refine rX a ?_ ?_|refine rC ?_ ?_<;>intro b<;>try(cases b;done))
 ·exact⟨hu,vf.pf,c⟩
 ·exact fI a [.cell 4 25]
theorem A1b:Ab Tryz.prog 29 PW:=by
 refine fK [0,1,2,3,4,6,7,15] Tryz.func29 Tryz.ntmps29 (AF A8g (AF A85 AG)) ?_;rintro w0 O0 ⟨h,⟨nm,ar,f⟩,i,u⟩ c-hp;have hp:(0:Int)<=(i:Int)->(i:Int)<(ar:Int)->HU h/\VF h f/\(ar:Int)<=2:=hp;simp only[PW,AL];repeat'(first|exact trivial|refine eS rfl ?_|refine AB ?_|refine rX c ?_ ?_|refine rC ?_ ?_<;>intro a<;>try(cases a;done))
 ·have d:M3 h ar f i=([],false):=An λb=>by
   rcases a with h1|h1
   ·exact absurd b.1 (oR.2 h1)
   ·exact absurd b.2 (AAb.2 h1)
  exact fI c [.cell 6 25,.tmp 7] (by rw[d];exact eR)
 ·obtain⟨e,g⟩:=a;obtain⟨hu,vf,b⟩:=hp e g;exact⟨⟨e,ADD (AFy g) (ADD b (by decide))⟩,h,hu,vf⟩
 ·have d:M3 h ar f i=(Yc f (Jl h (Int.toNat i)),(CZ f 0 (Jl h (Int.toNat i))).2):=BY a;exact fI c [.cell 6 25,.tmp 7] (by rw[d];exact eR)
end
section
attribute [local go_sem] k5 LG k6 RS Sf Jk
theorem A4E {h:AH} (hh:k9 h) {ar:Int} {f:List AD} (a:Fb f=true) (c:CG h ar f=0):VF h f/\f.length<=12/\eB h ar f:=by
 obtain⟨-,-,-,b⟩:=Sg hh a;have ok:=yI (λe=>b (JQ e)) c;exact⟨b (JQ ok.chk),(JH a).1,ok⟩
end
section
attribute [local go_sem] k5 LG k6 RS PW JO A7Y Jk
theorem k7 {h:AH} {ar:Int} {f:List AD} (vf:VF h f) (i:Int):Cz (M3 h ar f i).1:=by
 unfold M3;split
 ·unfold Yc;split
  ·rename_i e;have:=RP vf _ e;exact Xn (aB vf.good this.1 this.2).1
  ·exact⟨IS _,λx a=>by cases a⟩
 ·exact⟨IS _,λx a=>by cases a⟩
def pK:Aa:={ ins:=[FE,T27,T3],pre:=λ_=>True,out:=λ_=>[.p .bool true] }
attribute [local go_sem] pK
theorem A4F:Ab Tryz.prog 6 pK:=by
 refine fK [0,1,2,4,6,7,8,9,10,11,12,24] Tryz.func6 Tryz.ntmps6 (AF yP (AF A33 (AF A8f (AF A4x (AF A4r (AF A1b (AF aI (AF pJ (AF A9V (AF Wd AG)))))))))) ?_;rintro w0 O0 ⟨d,⟨nm,ar,f⟩,i,u⟩ a - -;simp only[pK,AL];have hh:=ADh d;have e:=λb a=>A4E (ar:=ar) (f:=f) hh b a;repeat'(first|exact trivial|refine eS rfl ?_|refine AB ?_|refine rX a ?_ ?_|refine rC ?_ ?_<;>intro c<;>try(cases c;done))
 ·exact λq=>Sg hh (by simpa using q)
 ·exact fI a [.tmp 6]
 ·obtain⟨c1,c2⟩:=c;have w:=e c1 (by simpa using c2);exact λ_ _=>⟨hh.hu,w.1,w.2.2.arb.2⟩
 ·obtain⟨c1,c2⟩:=c;have w:=e c1 (by simpa using c2);exact λ_ _=>⟨hh.hu,w.1,w.2.2.arb.2⟩
 ·obtain⟨c1,c2⟩:=c;have w:=e c1 (by simpa using c2);have b:f.length<=10000:=UD w.2.1 (by decide);have j:=(A7R w.1.pf b (Ah (IP d))).small;have g:=k7 (ar:=ar) w.1 i;have h:=w.1.small;exact⟨λ_=>g,λ_=>⟨hh.hu,w.1,b⟩,λ_=>⟨hh.hu,w.1,b⟩,λ_=>j,λ_=>h⟩
 ·have hs:AY nm nm=true:=by unfold AY;exact beq_self_eq_true _
  exact fI a [.tmp 6] (by rw[EW,EW,EW,hs];exact eR)
end
end Go.Proofs.YtapkhdkbkodbjaaGreat.Fw
