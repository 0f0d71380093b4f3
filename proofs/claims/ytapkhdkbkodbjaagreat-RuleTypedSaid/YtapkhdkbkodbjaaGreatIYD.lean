/- Contracts of the program's and the reference's functions, and the plain laws of what they compute: K2 I3 I4 I6 I7 K3 K4 C38 K7 U16 K8 C36 K9 K5 K6 M1 M2 M3. -/
import Derived.Test.YtapkhdkbkodbjaaGreatIYC
import Derived.Test.YtapkhdkbkodbjaaGreatIYB
import Derived.Test.YtapkhdkbkodbjaaGreatIZI
import Derived.Test.YtapkhdkbkodbjaaGreatIYA
set_option linter.unusedVariables false
set_option linter.unusedSimpArgs false
namespace Go.Proofs.YtapkhdkbkodbjaaGreat.Fw
open Go
attribute [local irreducible] Ev
attribute [local go_sem] i9 AM List.toList_toArray B1 evG evK ZN E7 LC HK GM JJ Tq OW DS Dd NS Cj DK frz nV HE Db BB GE Bj AV.frz AV.frzs AV.drp AV.drps AV.names AV.namess aq HG Lq Kt Uu Jl Bk Bt KA El JB Em JD JC JE WV QV Hd Kv GG Ee WW SV qUn KB JF MM Fk D7 Jo Kw Eo Uv Dn Ep FW SW JG OU Fv OT QW SX MN Jp Kx Eq D8 Hl EA II Dp FX Dq Er GI Cj Cv QT SU Ow G9 Jn Jm Ku QZ Tn OV MR MP K0 Tp MQ LA dB Qb Qa AV.trn AV.trns FN DR Obj.trn KP jQ D9 Et Ef Es Cl FY Ap lk Hr HF ID bin nU ZQ nX Tl zf1 zfs pfs AV.cells CO J8 QU Kz QY Cf OP Ty.cell1 JA FO D6 Ge Lp FM Ks ML SR Fu Hc OI Us WU MK Kq c9 iH Tk OQ DJ J9 RV.flat Ty.flat Ty.size St.add upd del Bl Value.oneCell' MC Ty.dflt I9 Qs IR Q2 List.take_succ_cons List.take_zero List.length_cons jH jI Q1 KM Mf H7 KN A3t GN Nf Ng Nh Ni Sh Si Nj JO Wm Option.map_some Option.map_none Option.bind_some Option.getD_some Option.getD_none Option.isNone_none Option.isNone_some Bool.and_true Bool.true_and Bool.and_false Bool.false_and Bool.not_true Bool.not_false if_true if_false List.length_cons List.length_nil and_true true_and and_self List.all_cons List.all_nil List.append_nil List.nil_append List.cons_append List.getElem?_cons_zero List.getElem?_cons_succ List.getElem?_nil List.map_cons List.map_nil List.set_cons_zero List.set_cons_succ List.isEmpty_nil List.isEmpty_cons decide_true decide_false beq_self_eq_true bne_self_eq_false Nat.zero_add Nat.add_zero Nat.sub_zero Int.toNat_natCast Int.toNat_zero Int.toNat_one List.take_length List.length_append List.length_singleton true_or or_true or_self false_or or_false Ty.agg.injEq Ty.slice.injEq Ty.prod.injEq Ty.int.injEq Option.some.injEq beq_iff_eq Lx evMG evMQ opM IU Mc B9 KK He Qv KI IT JP LK Lw PI Oa PJ Uy Md Qw Qx KJ Ad Al Op.operands Call.operands List.filterMap_cons List.filterMap_nil List.append_eq Bool.cond_false_right Bool.cond_true_left cond_true cond_false implies_true decide_eq_true_eq beq_true beq_false Bool.or_true Bool.or_false Bool.true_or Bool.false_or Option.isSome_some Array.empty_append List.append_toArray GF NT FZ IE dA QX GH Gm Gl JH IG Ky MO ZR nW IC inB LB GJ HA KC Aq jJ List.drop_zero Df IV eB CZ LO CX AV.fgt AV.fgts Obj.fgt A1 Aj Ad DV Iz BS HL List.any_cons List.any_nil oT jK eC jL Mi Sn qs List.flatMap_cons List.flatMap_nil List.cons_append tn eF KQ List.take_succ_cons List.drop_succ_cons eJ Hf BV tR Nn CG CY Ag Fc LJ Bv Fb EC IP JN Gr IQ
attribute [local go_sem] ty1 ty2 ty3 ty4 ty5 ty9 A7j A7k A7l A7m A7n A7o A7p A7q A7r A7s A7t A7u A7v A7w A7x A7y A7z A7A A7B A7C A7D A7E A7F A7G A7H A7I A7J A7K A7L A7M A7N A7O A7P A7Q A7R A7S A7T A7U A7V A7W A7X A7Y A7Z A80 A81 A82 A83 A84 A85 A86 A87 A88 A89 A8a A8b A8c A8d A8e A8f A8g A8h A8i A8j A8k A8l A8m A8n A8o A8p A8q A8r tZ t8 t9 uA uB uC uD uE uF uG uH uI uJ uK uL uM uN uP uQ uR uS uT uU uV uW uX uY uZ u3 u4 u5 u6 u7 u9 vA vB vC vD vE vF vG vH vI vJ vK vL vM vN vO vP vQ vS vT vU vV vW vY vZ v6 v7 v8 v9 wA wB wC wD wF wG wH wI wJ wK wL wM wN wP wQ wR wS wT wU wV wW wX wY wZ w4 w5 w6 w7 w8 w9 xA xB xC xD xE xF xG xH xI xJ xK xL xM xN xO xP xQ xR xS xT xU xV xW xX xY xZ x5 x6 x7 x8 x9 yA yB yC yD yE yF yG yH yI yJ yK yL yM yN yO yP yQ yR yS yT yU yV yW yX yY yZ y3 y4 y5 y6 y7 y8 y9 zA zB zC zD zE zF zG zH zI zJ
set_option maxRecDepth 100000
set_option maxHeartbeats 4000000
section
attribute [local go_sem] A6a Pu A2J WQ ABw A6b cs4 cs5
def Lo:AZ:={ ins:=[ED,T27],pre:=λ(h,r,_)=>HU h/\VF h r.2.2/\List.length r.2.2<=10000,out:=λ(h,r,_)=>[.p DZ (Gb r.2.2 (A7 h))] }
attribute [local go_sem] Lo
theorem cU:Ab Tryz.prog 28 Lo:=by
 refine fK [0,1,2,3,4] Tryz.func28 Tryz.ntmps28 (AF Y3 (AF cS AH)) ?_;rintro w0 O0 ⟨h,⟨nm,ar,f⟩,u⟩ a-⟨hu,vf,c⟩;simp only[Lo,AM];repeat'(first|exact trivial|apply eS rfl|apply AB|refine rX a ?_ ?_|refine rC ?_ ?_<;>intro b<;>try(cases b;done))
 .exact⟨h,hu,vf.pf,c⟩
 exact fI a [.cell 4 25] (by rw[<-NQ];exact eR)
noncomputable def Y5 (h:AG) (ar:Int) (f:List AE) (i:Int):List AE×Bool:=if 0<=i/\i<ar then (Pt f (GA h i.toNat),(CR f 0 (GA h i.toNat)).2) else ([],false)
theorem hC {h:AG} {f:List AE} (vf:VF h f) (p:List Int) (e:(CR f 0 p).2=true):0<=(CR f 0 p).1/\(CR f 0 p).1<(f.length:Int):=by
 have ha:=R7 vf.good vf.str p 0;cases a:BX f 0 p with
 | none=>rw[a]at ha;rw[ha]at e;cases e
 | some n =>
  rw[a]at ha;rw[ha];exact Yn vf.good vf.pos p n a
noncomputable def Tg:AZ:={ ins:=[ED,T27,T3],pre:=λ(h,r,i,_)=>(0:Int)<=i->(i:Int)<r.2.1->HU h/\VF h r.2.2/\(r.2.1:Int)<=2,out:=λ(h,r,i,_)=>[.p DZ (Y5 h r.2.1 r.2.2 i).1,.p .bool (Y5 h r.2.1 r.2.2 i).2] }
attribute [local go_sem] Tg
theorem A6f:Ab Tryz.prog 26 Tg:=by
 refine fK [0,1,2,3,4,6,7,15] Tryz.func26 Tryz.ntmps26 (AF A6d (AF ABx AH)) ?_;rintro w0 O0 ⟨h,⟨nm,ar,f⟩,i,u⟩ c-hp;have hp:(0:Int)<=(i:Int)->(i:Int)<(ar:Int)->HU h/\VF h f/\(ar:Int)<=2:=hp;simp only[Tg,AM];repeat'(first|exact trivial|apply eS rfl|apply AB|refine rX c ?_ ?_|refine rC ?_ ?_<;>intro a<;>try(cases a;done))
 .have d:Y5 h ar f i=([],false):=An λb=>by
   rcases a with h1|h1
   .exact absurd b.1 (VT.2 h1)
   exact absurd b.2 (ZF.2 h1)
  exact fI c [.cell 6 25,.tmp 7] (by rw[d];exact eR)
 .obtain⟨e,g⟩:=a;obtain⟨hu,vf,b⟩:=hp e g;exact⟨⟨e,AA6 (Int.le_of_lt g) (AA6 b (by decide))⟩,vf.good,vf.srt hu,vf.pos,hC vf _⟩
 have d:Y5 h ar f i=(Pt f (GA h (Int.toNat i)),(CR f 0 (GA h (Int.toNat i))).2):=BY a;exact fI c [.cell 6 25,.tmp 7] (by rw[d];exact eR)
noncomputable def Pv:AZ:={ ins:=[ED,T27,T38],pre:=λ(h,r,A,_)=>(List.length A:Int)=r.2.1->RA h r.2.1 r.2.2 A,out:=λ(h,r,A,_)=>[.p DZ (B8 h r.2.1 r.2.2 A).1,.p .bool (B8 h r.2.1 r.2.2 A).2] }
attribute [local go_sem] Pv
theorem Y6:Ab Tryz.prog 23 Pv:=by
 refine fK [0,1,2,3,4,6,7,8,9,10,11,12,17,21,22,23,24,39] Tryz.func23 Tryz.ntmps23 (AF A6d (AF ABy (AF Y3 (AF cS AH)))) ?_;rintro w0 O0 ⟨h,⟨nm,ar,f⟩,A,u⟩ d-hp;have hp:(List.length A:Int)=(ar:Int)->RA h ar f A:=hp;have F:(h.1,h.2)=h:=rfl;simp only[Pv,AM];repeat'(first|exact trivial|apply eS rfl|apply AB|refine rX d ?_ ?_|refine rC ?_ ?_<;>intro c<;>try(cases c;done))
 .have j:B8 h ar f A=([],false):=BY c;exact fI d [.cell 6 25,.tmp 7] (by rw[j];exact eR)
 have x:(A.length:Int)=ar:=by simpa using c
 have i:=hp x;have j:B8 h ar f A=if (CL h (GA h) 0 f A).2=true then (Gb (CL h (GA h) 0 f A).1 (A7 h),true) else ([],false):=An (by omega)
 have E:=i.la;have z:=A0x h;have q:=A69 i.ok.lw i.ok.args;have D:=i.va;refine AI (ι:={s:Nat×List AE//s.1<=A.length/\CL h (GA h) 0 f A=CL h (GA h) s.1 s.2 (A.drop s.1)/\VF h s.2/\s.2.length<=12+16*s.1}) (λs=>⟨[(3,.bp 3 [] 0),(6,.bp 6 [] 0),(8,.bp 8 [] 0),(21,.p T38 A),(22,.p (.int .i64) (A.length:Int)),(23,.p (.int .i64) (s.1.1:Int))],[(3,.box 31 true [.p RB h.1,.p Sv h.2]),(6,.box 25 true [.raw (.slice none 0 0)]),(8,.box 25 true [.p Ex s.1.2])]⟩) (λs=>A.length-s.1.1) ⟨(0,f),IS _,rfl,i.vf,by have:=i.lf;simp only;omega⟩ (AC [(3,.nm 3),(6,.nm 6),(8,.nm 8)] rfl rfl ?_ ?_) (λs=>?_)
 .first|exact eN|refine eM ?_
 .first|exact eN|refine eM ?_
 obtain⟨⟨k,g⟩,hk,m,n,w⟩:=s;simp only at hk m n w ⊢;have B:∀l:k<A.length,CL h (GA h) k g (A.drop k)=if (Hj h g (Ak (GA h k) (A.getD k []))).2=true then CL h (GA h) (k+1) (Hj h g (Ak (GA h k) (A.getD k []))).1 (A.drop (k+1)) else ([],false):=λl=>by
  rw[M9 [] l];rfl
 repeat'(first|exact trivial|apply eS rfl|apply AB|refine rP d ?_ ?_|fail)
 refine rC (λc=>?_) λc=>?_
 .repeat'(first|exact trivial|apply eS rfl|apply AB|refine rP d ?_ ?_|fail)
  .exact c
  have l:k<A.length:=IN.1 c;have o:=D _ (AD A [] l);have H:=Dm (GA h k) (A.getD k []);have y:=z k;have r:=B l;have G:=gU (h:=h) (a:=g) (b:=Ak (GA h k) (A.getD k []));have C:=A0r i.hh n (Yr n.h0 o.1 (q k) (by omega) (by omega)) (by omega);refine CQ drawsAny d 12 [([0,1,2,3,4,5,6,7,8,10],11)] [9] (by kernel_rfl) (MF ?_ ?_)
  .exact⟨show (k:Int)<=100 by omega,⟨i.hh,i.top⟩,n,o.1,q k,by rw[y];omega,by omega,QB o.2 (by decide)⟩
  refine OL d [] ?_ ?_
  .trivial
  refine Ss d ?_ ?_ ?_
  .trivial
  .trivial
  repeat'(first|exact trivial|apply eS rfl|apply AB|refine rX d ?_ ?_|refine rC ?_ ?_<;>intro c<;>try(cases c;done))
  .have t:¬(Hj h g (Ak (GA h k) (A.getD k []))).2=true:=λe=>by
    have c:(Hj h g (Ak (GA h k) (A.getD k []))).2=false:=c;rw[e]at c;cases c
   rw[m,r,An t]at j;have j:B8 h ar f A=([],false):=j;exact fI d [.cell 6 25,.tmp 7] (by rw[j];exact eR)
  .omega
  refine⟨⟨(k+1,(Hj h g (Ak (GA h k) (A.getD k []))).1),l,m.trans (r.trans (BY c)),(C.vf c).wt.1,by simp only;omega⟩,by simp only;omega,AC [(3,.nm 3),(6,.nm 6),(8,.nm 8)] rfl rfl ?_ ?_⟩
  .first|exact eN|refine eM ?_
  first|exact eN|refine eM ?_
 have v:A.drop k=[]:=B0 (P6.1 c);rw[v]at m;rw[m]at j;have j:B8 h ar f A=(Gb g (A7 h),true):=j;repeat'(first|exact trivial|apply eS rfl|apply AB|refine rX d ?_ ?_|refine rC ?_ ?_<;>intro c<;>try(cases c;done))
 .exact⟨h,i.hh.hu,n.pf,by omega⟩
 exact fI d [.cell 6 25,.tmp 7] (by rw[j,<-NQ];exact eR)
end
section
attribute [local go_sem] A0A A6a Pu Xq cs4 cs5
def wdF (h:AG) (w:LW):jY.den:=(h,w.list,w.cons,w.null,w.dlist,w.first,w.rest,w.head,w.last)
def lwO (w:jY.den):LW:=⟨w.2.1,w.2.2.1,w.2.2.2.1,w.2.2.2.2.1,w.2.2.2.2.2.1,w.2.2.2.2.2.2.1,w.2.2.2.2.2.2.2.1,w.2.2.2.2.2.2.2.2⟩
def nI:AZ:={ ins:=[DZ,T3,T3],pre:=λ(f,n,_)=>AR f/\(0:Int)<=n/\n<(List.length f:Int),out:=λ(f,n,e,_)=>[.p T3 (Bz (List.getD (f:List AE) n.toNat (0,[])).2 e)],lend:=true }
attribute [local go_sem] nI
theorem hZ:Ab Tryz.prog 89 nI:=by
 refine fK [0,1,2,3,6,8,14,15,16,17,23] Tryz.func89 Tryz.ntmps89 AH ?_;rintro w0 O0 ⟨f,n,e,u⟩ d-⟨g,hn⟩;have g:AR f:=g;have hn:0<=n/\n<(f.length:Int):=hn;simp only[nI,AM];repeat'(first|exact trivial|apply eS rfl|apply AB|refine rX d ?_ ?_|refine rC ?_ ?_<;>intro a<;>try(cases a;done))
 .exact hn
 have j:=(g.2 _ (AD f (0,[]) (Tf hn))).1;generalize (f.getD n.toNat (0,[])).2=L at *;refine AI (ι:={k:Nat//k<=L.length/\Bz L e=Bz (L.drop k) e}) (λk=>⟨[(2,.p T3 e),(14,.p DM L),(15,.p (.int .i64) (L.length:Int)),(16,.p (.int .i64) (k.1:Int))],[]⟩) (λk=>L.length-k.1) ⟨0,IS _,rfl⟩ (eW []) (λk=>?_)
 obtain⟨k,hk,b⟩:=k;have i:=λh:k<L.length=>TN e L h;simp only;repeat'(first|exact trivial|apply eS rfl|apply AB|refine rX d ?_ ?_|refine rC ?_ ?_<;>intro a<;>try(cases a;done))
 .exact a
 .have c:k<L.length:=by exact eV
  rw[i c,BY a]at b;exact fI d [.tmp 6] (by rw[b];exact eR)
 .omega
 .have c:k<L.length:=by exact eV
  rw[i c,An a]at b;exact⟨⟨k+1,by omega,b⟩,by simp only;omega,eW []⟩
 have c:L.drop k=[]:=B0 (by exact eV);rw[c]at b;exact fI d [.tmp 6] (by rw[b];first|exact eR|refine UO ?_;rfl)
def WOk (h:AG) (w:LW):Prop:=(0<=w.cons/\w.cons<(h.1.length:Int))/\(0<=w.null/\w.null<(h.1.length:Int))
def Y7:AZ:={ ins:=[jY,DZ,T3],pre:=λ(w,f,n,_)=>WOk w.1 (lwO w)/\AR f/\Cn w.1 f/\(0:Int)<=n/\n<(List.length f:Int),out:=λ(w,f,n,_)=>[.p T3 (BQ w.1 (lwO w) (List.getD (f:List AE) n.toNat (0,[])))],lend:=true }
attribute [local go_sem] Y7
theorem nJ:Ab Tryz.prog 91 Y7:=by
 refine fK [0,1,2,3,4,6,7,8,9,28,43,56] Tryz.func91 Tryz.ntmps91 (AF hZ (AF Vz AH)) ?_;rintro w0 O0 ⟨⟨h,l,c,d,dl,a,e,b,la⟩,f,n,u⟩ i-⟨j,k,m,hn⟩;have j:WOk h ⟨l,c,d,dl,a,e,b,la⟩:=j;have k:AR f:=k;have m:Cn h f:=m;have hn:0<=n/\n<(f.length:Int):=hn;have o:=m _ (AD f (0,[]) (Tf hn));simp only[Y7,AM];repeat'(first|exact trivial|apply eS rfl|apply AB|refine rX i ?_ ?_|refine rC ?_ ?_<;>intro p<;>try(cases p;done))
 .exact hn
 .exact⟨k,hn⟩
 .exact⟨j.2,o⟩
 .have g:BQ h ⟨l,c,d,dl,a,e,b,la⟩ (f.getD n.toNat (0,[]))=1:=by
   unfold BQ VG MB Ov R5 Ur;simp only[AT,By];grind
  exact fI i [.tmp 6] (by rw[show lwO (h,l,c,d,dl,a,e,b,la)=⟨l,c,d,dl,a,e,b,la⟩ from rfl,g];exact eR)
 .exact⟨j.1,o⟩
 .have g:BQ h ⟨l,c,d,dl,a,e,b,la⟩ (f.getD n.toNat (0,[]))=2:=by
   unfold BQ VG MB Ov R5 Ur;simp only[AT,By];grind
  exact fI i [.tmp 6] (by rw[show lwO (h,l,c,d,dl,a,e,b,la)=⟨l,c,d,dl,a,e,b,la⟩ from rfl,g];exact eR)
 .exact⟨o,j.1⟩
 .have g:BQ h ⟨l,c,d,dl,a,e,b,la⟩ (f.getD n.toNat (0,[]))=3:=by
   unfold BQ VG MB Ov R5 Ur;simp only[AT,By];grind
  exact fI i [.tmp 6] (by rw[show lwO (h,l,c,d,dl,a,e,b,la)=⟨l,c,d,dl,a,e,b,la⟩ from rfl,g];exact eR)
 have g:BQ h ⟨l,c,d,dl,a,e,b,la⟩ (f.getD n.toNat (0,[]))=0:=by
  unfold BQ VG MB Ov R5 Ur;simp only[AT,By];grind
 exact fI i [.tmp 6] (by rw[show lwO (h,l,c,d,dl,a,e,b,la)=⟨l,c,d,dl,a,e,b,la⟩ from rfl,g];exact eR)
theorem A9I {a b:Int}:(if b<a then b else a)<0↔a<0\/b<0:=by split<;>omega
theorem A9J {a b:Int}:(0<=if b<a then b else a)↔0<=a/\0<=b:=by split<;>omega
def AAg:jY.den:=(([],[]),0,0,0,0,0,0,0,0)
def Y8:AZ:={ ins:=[ED],pre:=λ_=>True,out:=λ(h,_)=>[.p jY (if Pr h=true then wdF h (BI h) else AAg),.p MG (if Pr h=true then 0 else 5)] }
attribute [local go_sem] Y8
theorem A6g:Ab Tryz.prog 88 Y8:=by
 refine fK [0,1,2,3,4,58] Tryz.func88 Tryz.ntmps88 (AF A9F (AF Y3 (AF Vz AH))) ?_;rintro w0 O0 ⟨⟨a,hf⟩,u⟩ b - -;obtain⟨f,g,i,j,k,l,m,n⟩:=NP (a,hf);obtain⟨⟨s,t,v,w⟩,o,p,q,r⟩:=Te (a,hf);simp only[Y8,AM];repeat'(first|exact trivial|apply eS rfl|apply AB|refine rX b ?_ ?_|refine rC ?_ ?_<;>intro e<;>try(cases e;done))
 all_goals simp only[f,g,i,j,k,l,m,n,A9I,A9J]at *
 .refine⟨λh=>?_,λh=>?_⟩<;>simp only[Px,VP,On,not_or]at h<;>grind
 .have c:Pr (a,hf)=false:=by
   rw[ABL];intro d;unfold Pr at d;simp only[AT,By]at d;grind
  exact fI b [.cell 2 115,.tmp 3] (by simp only[c,dO,AAG,AAg];exact eR)
 have c:Pr (a,hf)=true:=by
  unfold Pr;simp only[AT,By];grind
 exact fI b [.cell 2 115,.tmp 3] (by simp only[c,ZD,wdF];exact eR)
end
section
attribute [local go_sem] Y8 Y7 nI
def D0 (h:AG) (w:LW):Obj:=.box 115 true [.p ED h,.p T3 w.list,.p T3 w.cons,.p T3 w.null,.p T3 w.dlist,.p T3 w.first,.p T3 w.rest,.p T3 w.head,.p T3 w.last]
theorem A6h (h:AG) (w:LW) (f:List AE) (n:Int):BK Tryz.prog 90 [.p jY (wdF h w),.p DZ f,.p T3 n] [] [] (λres c=>res=.clo 139 [5,3,4]/\c=[(5,.box 3 false [.p T3 n]),(4,.box 25 true [.p Ex f]),(3,D0 h w)]):=by
 refine LQ [0,1,2,3,4,5,6] [] [] Tryz.func90 Tryz.ntmps90 AH ?_;intro w0 K O0 ρ0 a d e;simp only[Aq,wdF];repeat'(first|exact trivial|apply eS rfl|apply AB|refine rX a ?_ ?_|refine rC ?_ ?_<;>intro b<;>try(cases b;done))
 exact fM a [.tmp 6] (.clo 139 [5,3,4]) eT ⟨rfl,rfl⟩
abbrev WS:=List Int×List Int×Bool×Int
def Gd (f:List AE) (n:Int):AE:=f.getD n.toNat (0,[])
def cV (h:AG) (w:LW) (f:List AE) (s:WS):WS:=(s.1++[s.2.2.2],if BQ h w (Gd f s.2.2.2)=2 then s.2.1++[Bz (Gd f s.2.2.2).2 w.first] else s.2.1,decide (BQ h w (Gd f s.2.2.2)=1),Bz (Gd f s.2.2.2).2 w.rest)
def A3 (h:AG) (w:LW) (f:List AE) (n:Int):Nat->WS
 | 0=>([],[],false,n)
 | i+1=>cV h w f (A3 h w f n i)
def WGo (h:AG) (w:LW) (f:List AE) (n:Int) (i:Nat):Prop:=∀j,j<i->BQ h w (Gd f (A3 h w f n j).2.2.2)=2/\(A3 h w f n j).2.2.2∉(A3 h w f n j).1
theorem A2K (h:AG) (w:LW) (x:AE):BQ h w x=0\/BQ h w x=1\/BQ h w x=2\/BQ h w x=3:=by
 unfold BQ;split
 .exact .inr (.inl rfl)
 split
 .exact .inr (.inr (.inl rfl))
 split
 .exact .inr (.inr (.inr rfl))
 exact .inl rfl
theorem SA {h:AG} {w:LW} {f:List AE} {n:Int} (hf:AR f) (n0:0<=n) (n1:n<(f.length:Int)):∀i,WGo h w f n i->Kp f (A3 h w f n i).1/\(A3 h w f n i).1.length=i/\(0<=(A3 h w f n i).2.2.2/\(A3 h w f n i).2.2.2<(f.length:Int))/\(A3 h w f n i).2.1.length=i
 | 0,_=>⟨GV f,rfl,⟨n0,n1⟩,rfl⟩
 | i+1,c=>by
  obtain⟨h1,d,a,e⟩:=SA hf n0 n1 i (λj l=>c j (by omega));obtain⟨b,g⟩:=c i (by omega);have hk:=cN b;refine⟨h1.snoc a.1 a.2 g,?_,⟨hk.2,?_⟩,?_⟩
  .show ((A3 h w f n i).1++_).length=_;rw[IF,d];rfl
  .exact WE (by omega) _ λx k=>(Ah hf (n:=(A3 h w f n i).2.2.2) k).2
  show (if _ then _ else _:List Int).length=_;rw[BY b,IF,e];rfl
theorem nK {h:AG} {w:LW} {f:List AE} {n:Int} (k:Nat):∀i,WGo h w f n i->R6 h w f (k+i) [] [] n=R6 h w f k (A3 h w f n i).1 (A3 h w f n i).2.1 (A3 h w f n i).2.2.2
 | 0,_=>rfl
 | i+1,b=>by
  have e:=nK (h:=h) (w:=w) (f:=f) (n:=n) (k+1) i (λj g=>b j (by omega));obtain⟨a,d⟩:=b i (by omega);rw[show k+(i+1)=k+1+i by omega,e];have c:BQ h w (f.getD (A3 h w f n i).2.2.2.toNat (0,[]))=2:=a;show (if _ then _ else _)=_;rw[An d,c,An (by decide),An (by decide),An (by decide)];show _=R6 h w f k (cV h w f (A3 h w f n i)).1 (cV h w f (A3 h w f n i)).2.1 (cV h w f (A3 h w f n i)).2.2.2;unfold cV;rw[BY a];rfl
theorem nL {h:AG} {f:List AE} {n:Int} (hf:AR f) (j:Pr h=true) (n0:0<=n) (n1:n<(f.length:Int)) {i:Nat} (c:WGo h (BI h) f n i) :
  ((A3 h (BI h) f n i).2.2.2∈(A3 h (BI h) f n i).1->Am h f n=([],false,6)) /\
  ((A3 h (BI h) f n i).2.2.2∉(A3 h (BI h) f n i).1->BQ h (BI h) (Gd f (A3 h (BI h) f n i).2.2.2)=0->Am h f n=([],false,13)) /\
  ((A3 h (BI h) f n i).2.2.2∉(A3 h (BI h) f n i).1->BQ h (BI h) (Gd f (A3 h (BI h) f n i).2.2.2)≠0->BQ h (BI h) (Gd f (A3 h (BI h) f n i).2.2.2)≠2->Am h f n=((A3 h (BI h) f n (i+1)).2.1,(A3 h (BI h) f n (i+1)).2.2.1,0)):=by
 obtain⟨h1,k,l,-⟩:=SA hf n0 n1 i c;have m:=h1.len;have e:Am h f n=R6 h (BI h) f ((f.length-i)+1) (A3 h (BI h) f n i).1 (A3 h (BI h) f n i).2.1 (A3 h (BI h) f n i).2.2.2:=by
  unfold Am;rw[BY j,<-nK _ _ c,show f.length-i+1+i=f.length+1 by omega]
 rw[e];show (_->(if _ then _ else _)=_)/\(_->_->(if _ then _ else _)=_)/\(_->_->_->(if _ then _ else _)=_);refine⟨λq=>BY q,λb a=>?_,λb a d=>?_⟩
 .have a:BQ h (BI h) (f.getD (A3 h (BI h) f n i).2.2.2.toNat (0,[]))=0:=a;rw[An b,a];rfl
 have hk:=A2K h (BI h) (Gd f (A3 h (BI h) f n i).2.2.2);have hs:(A3 h (BI h) f n (i+1)).2.1=(A3 h (BI h) f n i).2.1:=An d;have g:(A3 h (BI h) f n (i+1)).2.2.1=decide (BQ h (BI h) (Gd f (A3 h (BI h) f n i).2.2.2)=1):=rfl;rw[An b,hs,g];show (if BQ h (BI h) (Gd f (A3 h (BI h) f n i).2.2.2)=1 then _ else if BQ h (BI h) (Gd f (A3 h (BI h) f n i).2.2.2)=3 then _ else _)=_;rcases hk with hk|hk|hk|hk
 .exact absurd hk a
 .rw[hk];rfl
 .exact absurd hk d
 rw[hk];rfl
def wE:List (Nat×AV):=[(4,.bp 4 [] 0),(6,.bp 6 [] 0),(7,.bp 7 [] 0),(8,.bp 8 [] 0),(9,.bp 9 [] 0),(11,.bp 11 [] 0),(12,.bp 12 [] 0),(13,.bp 13 [] 0)]
def wO (h:AG) (w:LW) (f:List AE) (L:Go.Loop) (a:Array Value) (s:WS) (m e:Int):List (Nat×Obj):=[(50,.box 3 false [.p T3 m]),(51,D0 h w),(52,.box 25 true [.p Ex f]),(101,.loop L),(102,.frame a wE),(6,.box 61 false [.raw (.slice none 0 0)]),(7,.box 4 false [.p .bool false]),(8,.box 35 false [.p MG e]),(9,D0 h w),(4,.box 25 true [.p Ex f]),(11,.box 61 false [.sr 60 T3 0 s.2.1.length]),(60,.arr 3 T3 s.2.1),(12,.box 4 false [.p .bool s.2.2.1]),(13,.box 119 false [.mp 24]),(24,.mapo T3 .bool (L9 s.1))]
def Ji (L:Go.Loop):Go.Loop:={ L with state:=.done,pending:=some .ret }
def WRd (h:AG) (w:LW) (f:List AE) (n:Int) (L:Go.Loop) (a:Array Value) (i:Nat) (b:Bool) (O:List (Nat×Obj)):Prop :=
 ((A3 h w f n i).2.2.2∈(A3 h w f n i).1/\b=false/\O=wO h w f (Ji L) a (A3 h w f n i) (A3 h w f n i).2.2.2 6) \/
 ((A3 h w f n i).2.2.2∉(A3 h w f n i).1/\BQ h w (Gd f (A3 h w f n i).2.2.2)=0/\b=false/\O=wO h w f (Ji L) a (A3 h w f n i) (A3 h w f n i).2.2.2 13) \/
 ((A3 h w f n i).2.2.2∉(A3 h w f n i).1/\BQ h w (Gd f (A3 h w f n i).2.2.2)≠0/\b=true/\O=wO h w f L a (A3 h w f n (i+1)) (A3 h w f n i).2.2.2 0)
theorem A2L (h:AG) (w:LW) (f:List AE) (n:Int) (E:WOk h w) (hf:AR f) (D:Cn h f) (n0:0<=n) (n1:n<(f.length:Int)) (L:Go.Loop) (d:Array Value)
  (m:∀i,WGo h w f n i->Z6 Tryz.prog 101 [.p T3 (A3 h w f n i).2.2.2] (wO h w f L d (A3 h w f n i) (A3 h w f n i).2.2.2 0) [50,51,52,101,102,6,7,8,9,4,11,12,13,24] (λres k=>∃b,res=.p .bool b/\WRd h w f n L d i b k)) :
  BK Tryz.prog 139 [.yl 101,.bp 50 [] 0,.bp 51 [] 0,.bp 52 [] 0] (wO h w f L d (A3 h w f n 0) n 0) [50,51,52,101,102,6,7,8,9,4,11,12,13,24] (λres k=>res=.raw (.tuple #[])/\∃i b,WGo h w f n i/\WRd h w f n L d i b k/\(b=true->BQ h w (Gd f (A3 h w f n i).2.2.2)≠2)):=by
 refine LQ [0,1,2,3,14] [] [] Tryz.func139 Tryz.ntmps139 (AF nJ (AF hZ AH)) ?_;intro w0 K O0 ρ0 a B C;simp only[Aq,wO,D0];have t:=m;clear m;repeat'(first|exact trivial|apply eS rfl|apply AB|refine rX a ?_ ?_|refine rC ?_ ?_<;>intro c<;>try(cases c;done))
 refine AI (ι:={i:Nat//WGo h w f n i}) (λi=>⟨[(0,.yl 101),(1,.bp 50 [] 0),(2,.bp 51 [] 0),(3,.bp 52 [] 0)],wO h w f L d (A3 h w f n i.1) (A3 h w f n i.1).2.2.2 0⟩) (λi=>f.length+1-i.1) ⟨0,λj o=>by omega⟩ (AC [(50,.nm 50),(51,.nm 51),(52,.nm 52),(101,.nm 101),(102,.nm 102),(6,.nm 6),(7,.nm 7),(8,.nm 8),(9,.nm 9),(4,.nm 4),(11,.nm 11),(60,.nm 60),(12,.nm 12),(13,.nm 13),(24,.nm 24)] rfl rfl ?_ ?_) (λi=>?_)
 .simp only[wO,D0,wE,A3];first|exact eN|refine eM ?_
 .simp only[wO,D0,wE,A3];first|exact eN|refine eM ?_
 obtain⟨i,hi⟩:=i;obtain⟨q,x,r,y⟩:=SA hf n0 n1 i hi;have u:=t i hi;have z:=q.len;have A:A3 h w f n (i+1)=cV h w f (A3 h w f n i):=rfl;simp only[wO,D0,wE];repeat'(first|exact trivial|apply eS rfl|apply AB|refine rX a ?_ ?_|refine rC ?_ ?_<;>intro c<;>try(cases c;done))
 refine cG 2 a ?_ ?_
 .trivial
 refine rY 101 101 a (u) [(50,.nm 50),(51,.nm 51),(52,.nm 52),(101,.nm 101),(102,.nm 102),(6,.nm 6),(7,.nm 7),(8,.nm 8),(9,.nm 9),(4,.nm 4),(11,.nm 11),(60,.nm 60),(12,.nm 12),(13,.nm 13),(24,.nm 24)] [60] ?_ ?_ ?_
 .first|exact eN|refine eM ?_
 .simp only[wO,D0,wE];first|exact eN|refine eM ?_
 rintro _ _ ⟨b,rfl,g⟩;have s:=g;rcases s with ⟨l,rfl,rfl⟩|⟨l,v,rfl,rfl⟩|⟨l,v,rfl,rfl⟩
 .refine⟨[(50,.nm 50),(51,.nm 51),(52,.nm 52),(101,.nm 101),(102,.nm 102),(6,.nm 6),(7,.nm 7),(8,.nm 8),(9,.nm 9),(4,.nm 4),(11,.nm 11),(60,.nm 60),(12,.nm 12),(13,.nm 13),(24,.nm 24)],.p .bool false,wO h w f (Ji L) d (A3 h w f n i) (A3 h w f n i).2.2.2 6,rfl,rfl,?_,?_,rfl,rfl,?_⟩
  .simp only[wO,D0,wE];first|exact eN|refine eM ?_
  .first|exact eN|refine eM ?_
  simp only[wO,D0,wE];refine rL a ?_ ?_
  .trivial
  repeat'(first|exact trivial|apply eS rfl|apply AB|refine rX a ?_ ?_|refine rC ?_ ?_<;>intro c<;>try(cases c;done))
  refine Ev.ent (σ':=⟨[],wO h w f (Ji L) d (A3 h w f n i) (A3 h w f n i).2.2.2 6⟩) ?_ (AC [(50,.nm 50),(51,.nm 51),(52,.nm 52),(101,.nm 101),(102,.nm 102),(6,.nm 6),(7,.nm 7),(8,.nm 8),(9,.nm 9),(4,.nm 4),(11,.nm 11),(60,.nm 60),(12,.nm 12),(13,.nm 13),(24,.nm 24)] rfl rfl ?_ ?_)
  .exact fM a [] (.raw (.tuple #[])) rfl ⟨rfl,i,false,hi,g,λe=>by cases e⟩
  .simp only[wO,D0,wE];first|exact eN|refine eM ?_
  first|exact eN|refine eM ?_
 .refine⟨[(50,.nm 50),(51,.nm 51),(52,.nm 52),(101,.nm 101),(102,.nm 102),(6,.nm 6),(7,.nm 7),(8,.nm 8),(9,.nm 9),(4,.nm 4),(11,.nm 11),(60,.nm 60),(12,.nm 12),(13,.nm 13),(24,.nm 24)],.p .bool false,wO h w f (Ji L) d (A3 h w f n i) (A3 h w f n i).2.2.2 13,rfl,rfl,?_,?_,rfl,rfl,?_⟩
  .simp only[wO,D0,wE];first|exact eN|refine eM ?_
  .first|exact eN|refine eM ?_
  simp only[wO,D0,wE];refine rL a ?_ ?_
  .trivial
  repeat'(first|exact trivial|apply eS rfl|apply AB|refine rX a ?_ ?_|refine rC ?_ ?_<;>intro c<;>try(cases c;done))
  refine Ev.ent (σ':=⟨[],wO h w f (Ji L) d (A3 h w f n i) (A3 h w f n i).2.2.2 13⟩) ?_ (AC [(50,.nm 50),(51,.nm 51),(52,.nm 52),(101,.nm 101),(102,.nm 102),(6,.nm 6),(7,.nm 7),(8,.nm 8),(9,.nm 9),(4,.nm 4),(11,.nm 11),(60,.nm 60),(12,.nm 12),(13,.nm 13),(24,.nm 24)] rfl rfl ?_ ?_)
  .exact fM a [] (.raw (.tuple #[])) rfl ⟨rfl,i,false,hi,g,λe=>by cases e⟩
  .simp only[wO,D0,wE];first|exact eN|refine eM ?_
  first|exact eN|refine eM ?_
 refine⟨[(50,.nm 50),(51,.nm 51),(52,.nm 52),(101,.nm 101),(102,.nm 102),(6,.nm 6),(7,.nm 7),(8,.nm 8),(9,.nm 9),(4,.nm 4),(11,.nm 11),(60,.nm 60),(12,.nm 12),(13,.nm 13),(24,.nm 24)],.p .bool true,wO h w f L d (A3 h w f n (i+1)) (A3 h w f n i).2.2.2 0,rfl,rfl,?_,?_,rfl,rfl,?_⟩
 .simp only[wO,D0,wE];first|exact eN|refine eM ?_
 .first|exact eN|refine eM ?_
 simp only[wO,D0,wE];refine rL a ?_ ?_
 .trivial
 repeat'(first|exact trivial|apply eS rfl|apply AB|refine rX a ?_ ?_|refine rC ?_ ?_<;>intro c<;>try(cases c;done))
 .exact⟨hf,r⟩
 .refine⟨⟨i+1,λj o=>(AFC.1 o).elim (hi j) λe=>by rw[e];exact⟨c,l⟩⟩,by simp only;omega,AC [(50,.nm 50),(51,.nm 51),(52,.nm 52),(101,.nm 101),(102,.nm 102),(6,.nm 6),(7,.nm 7),(8,.nm 8),(9,.nm 9),(4,.nm 4),(11,.nm 11),(60,.nm 60),(12,.nm 12),(13,.nm 13),(24,.nm 24)] rfl rfl ?_ ?_⟩
  .simp only[wO,D0,wE];first|exact eN|refine eM ?_
   rfl
  first|exact eN|refine eM ?_
 refine Ev.ent (σ':=⟨[],wO h w f L d (A3 h w f n (i+1)) (A3 h w f n i).2.2.2 0⟩) ?_ (AC [(50,.nm 50),(51,.nm 51),(52,.nm 52),(101,.nm 101),(102,.nm 102),(6,.nm 6),(7,.nm 7),(8,.nm 8),(9,.nm 9),(4,.nm 4),(11,.nm 11),(60,.nm 60),(12,.nm 12),(13,.nm 13),(24,.nm 24)] rfl rfl ?_ ?_)
 .exact fM a [] (.raw (.tuple #[])) rfl ⟨rfl,i,true,hi,g,λ_=>c⟩
 .simp only[wO,D0,wE];first|exact eN|refine eM ?_
 first|exact eN|refine eM ?_
end
section
attribute [local go_sem] Y8 Y7 nI
theorem A2M (h:AG) (f:List AE) (n:Int) (k:AR f) (G:Cn h f) (n0:0<=n) (n1:n<(f.length:Int)):BK Tryz.prog 54 [.p ED h,.p DZ f,.p T3 n] [] [] (λres ai=>res=.tup [.p F2 (Am h f n).1,.p .bool (Am h f n).2.1,.p MG (Am h f n).2.2]):=by
 refine fKR [0,1,2,3,4,6,7,8,9,10,11,12,13,14,15,22,28,29,34,38,41] [50] [] Tryz.func54 Tryz.ntmps54 (AF A6g (AF nJ (AF hZ AH))) ?_;intro w0 K O0 ρ0 a ad ae;simp only[Aq];have R:(h.1,h.2)=h:=rfl;repeat'(first|exact trivial|apply eS rfl|apply AB|refine rX a ?_ ?_|refine rC ?_ ?_<;>intro c<;>try(cases c;done))
 all_goals simp only[R]at *
 .have l:Pr h=false:=by
   cases d:Pr h with
   | true=>rw[d]at c;exact absurd rfl c
   | false=>rfl
  have j:Am h f n=([],false,5):=by unfold Am;rw[l,An (by simp)]
  simp only[l,dO,AAG,j];exact A1e a [.cell 6 61,.cell 7 4,.cell 8 35] rfl (.inl rfl) (.tup [.p F2 [],.p .bool false,.p MG 5]) eT rfl
 have l:Pr h=true:=by
  cases d:Pr h with
  | false=>rw[d]at c;exact absurd c (by decide)
  | true=>rfl
 simp only[l,ZD,wdF];have C:=nC l;have B:=Te h;have H:WOk h (BI h):=⟨⟨C.2.1,B.1.2.1⟩,C.2.2.1,B.1.2.2.1⟩;have v:=λ(i:Nat) (hi:WGo h (BI h) f n i)=>nL k l n0 n1 hi;have Q:=λ(i:Nat) (hi:WGo h (BI h) f n i)=>SA k n0 n1 i hi;generalize aa:BI h=w at *;refine Ev.ent (σ':=⟨[(2,.p T3 n),(4,.bp 4 [] 0),(6,.bp 6 [] 0),(7,.bp 7 [] 0),(8,.bp 8 [] 0),(9,.bp 9 [] 0),(11,.bp 11 [] 0),(12,.bp 12 [] 0),(13,.bp 13 [] 0)],[(6,.box 61 false [.raw (.slice none 0 0)]),(7,.box 4 false [.p .bool false]),(8,.box 35 false [.p MG 0]),(9,D0 h w),(4,.box 25 true [.p Ex f]),(11,.box 61 false [.raw (.slice none 0 0)]),(12,.box 4 false [.p .bool false]),(13,.box 119 false [.mp 24]),(24,.mapo T3 .bool [])]⟩) ?_ (AC [(6,.nm 6),(7,.nm 7),(8,.nm 8),(9,.nm 9),(4,.nm 4),(11,.nm 11),(12,.nm 12),(13,.nm 13),(24,.nm 24)] rfl rfl ?_ ?_)
 .simp only[D0];refine cP 3 a ?_ ?_
  .trivial
  refine rM a (A6h h w f n) [] [] ?_ ?_ ?_
  .simp only[wdF];first|exact eN|refine eM ?_
  .first|exact eN|refine eM ?_
  rintro _ _ ⟨rfl,rfl⟩;refine⟨[(50,.nm 5),(52,.nm 4),(51,.nm 3)],.clo 139 [50,51,52],[(50,.box 3 false [.p T3 n]),(52,.box 25 true [.p Ex f]),(51,D0 h w)],rfl,rfl,?_,?_,rfl,rfl,CV ?_⟩
  .simp only[D0];first|exact eN|refine eM ?_
  .first|exact eN|refine eM ?_
  simp only[D0];repeat'(first|exact trivial|apply eS rfl|apply AB|refine rX a ?_ ?_|refine rC ?_ ?_<;>intro c<;>try(cases c;done))
  refine jV a rfl rfl (by simp only[go_sem,Nat.reduceEqDiff,reduceCtorEq,Nat.reduceAdd,Nat.reduceSub,Nat.reduceMul,Nat.reduceLeDiff,Nat.reduceLT,Int.reduceLE,Int.reduceToNat,Int.reduceNeg,↓reduceIte];rfl) 101 103 102 rfl rfl rfl rfl ?_;intro L e r u J M N O V;refine⟨_,wO h w f L e (A3 h w f n 0) n 0,[50,51,52,101,102,6,7,8,9,4,11,12,13,24],_,[(50,.nm 50),(51,.nm 51),(52,.nm 52),(101,.nm 101),(102,.nm 102),(6,.nm 6),(7,.nm 7),(8,.nm 8),(9,.nm 9),(4,.nm 4),(11,.nm 11),(60,.nil),(12,.nm 12),(13,.nm 13),(24,.nm 24)],[60],A2L h w f n H k G n0 n1 L e ?_,rfl,rfl,?_,?_,rfl,?_⟩
  .intro i hi;obtain⟨I,Y,A,Z⟩:=Q i hi;have ab:=I.len;have t:=A98 (A3 h w f n i).1 (A3 h w f n i).2.2.2;have U:lwO (h,w.list,w.cons,w.null,w.dlist,w.first,w.rest,w.head,w.last)=w:=rfl;have D:L9 (A3 h w f n (i+1)).1=Gc T3 .bool (A3 h w f n i).2.2.2 true (L9 (A3 h w f n i).1):=by
    show L9 ((A3 h w f n i).1++[(A3 h w f n i).2.2.2])=_;simp[L9]
   have E:(A3 h w f n (i+1)).2.2.1=(BQ h w (f.getD (A3 h w f n i).2.2.2.toNat (0,[]))==1):=by
    show decide (BQ h w (Gd f (A3 h w f n i).2.2.2)=1)=_;rw[ABC];simp[Gd]
   have hT:=a.T;have hF:=a.F;refine jT (fr:=102) rfl rfl r M N O J V rfl (by kernel_rfl) (by simp) rfl rfl (by kernel_rfl) (by kernel_rfl) hT hF ?_;intro aj W X ak ah a af ag d;simp only[wO,D0,wE,Hf];repeat'(first|exact trivial|apply eS rfl|apply AB|refine rX a ?_ ?_|refine rC ?_ ?_<;>intro c<;>try(cases c;done))
   refine⟨rfl,?_⟩;repeat'(first|exact trivial|apply eS rfl|apply AB|refine rX a ?_ ?_|refine rC ?_ ?_<;>intro c<;>try(cases c;done))
   all_goals try simp only[U]at *
   .exact⟨H,k,G,A⟩
   .rw[t]at c;have S:(A3 h w f n i).2.2.2∈(A3 h w f n i).1:=by simpa[zZ] using c
    refine Ev.ent (σ':=⟨[],wO h w f { L with state:=.busy } e (A3 h w f n i) (A3 h w f n i).2.2.2 6⟩) ?_ (AC [(50,.nm 50),(51,.nm 51),(52,.nm 52),(101,.nm 101),(102,.nm 102),(6,.nm 6),(7,.nm 7),(8,.nm 8),(9,.nm 9),(4,.nm 4),(11,.nm 11),(60,.nm 60),(12,.nm 12),(13,.nm 13),(24,.nm 24)] rfl rfl ?_ ?_)
    .refine Z7 a (yn:=101) rfl rfl (by simp) d ⟨false,rfl,.inl ⟨S,rfl,?_⟩⟩;simp only[wO,D0,wE,Ji,go_sem,Nat.reduceEqDiff,reduceCtorEq,Nat.reduceAdd,Nat.reduceSub,Nat.reduceMul,Nat.reduceLeDiff,Nat.reduceLT,Int.reduceLE,Int.reduceToNat,Int.reduceNeg,↓reduceIte]
    .simp only[wO,D0,wE];first|exact eN|refine eM ?_
    first|exact eN|refine eM ?_
   .have o:(A3 h w f n i).2.2.2∉(A3 h w f n i).1:=by
     have g:(Bg T3 .bool (A3 h w f n i).2.2.2 (L9 (A3 h w f n i).1)).getD false=false:=by assumption
     rw[t]at g;intro m;have:=AAH.1 g _ m;simp at this
    refine Ev.ent (σ':=⟨[],wO h w f { L with state:=.busy } e (A3 h w f n i) (A3 h w f n i).2.2.2 13⟩) ?_ (AC [(50,.nm 50),(51,.nm 51),(52,.nm 52),(101,.nm 101),(102,.nm 102),(6,.nm 6),(7,.nm 7),(8,.nm 8),(9,.nm 9),(4,.nm 4),(11,.nm 11),(60,.nm 60),(12,.nm 12),(13,.nm 13),(24,.nm 24)] rfl rfl ?_ ?_)
    .refine Z7 a (yn:=101) rfl rfl (by simp) d ⟨false,rfl,.inr (.inl ⟨o,c,rfl,?_⟩)⟩;simp only[wO,D0,wE,Ji,go_sem,Nat.reduceEqDiff,reduceCtorEq,Nat.reduceAdd,Nat.reduceSub,Nat.reduceMul,Nat.reduceLeDiff,Nat.reduceLT,Int.reduceLE,Int.reduceToNat,Int.reduceNeg,↓reduceIte]
    .simp only[wO,D0,wE];first|exact eN|refine eM ?_
    first|exact eN|refine eM ?_
   .refine⟨⟨k,A⟩,?_⟩;have:=k.1;simp only[AQ];omega
   .have x:BQ h w (Gd f (A3 h w f n i).2.2.2)≠0:=by assumption
    have o:(A3 h w f n i).2.2.2∉(A3 h w f n i).1:=by
     have g:(Bg T3 .bool (A3 h w f n i).2.2.2 (L9 (A3 h w f n i).1)).getD false=false:=by assumption
     rw[t]at g;intro m;have:=AAH.1 g _ m;simp at this
    have y:(A3 h w f n (i+1)).2.1=(A3 h w f n i).2.1++[Bz (f.getD (A3 h w f n i).2.2.2.toNat (0,[])).2 w.first]:=BY c;refine Ev.ent (σ':=⟨[],wO h w f { L with state:=.busy } e (A3 h w f n (i+1)) (A3 h w f n i).2.2.2 0⟩) ?_ (AC [(50,.nm 50),(51,.nm 51),(52,.nm 52),(101,.nm 101),(102,.nm 102),(6,.nm 6),(7,.nm 7),(8,.nm 8),(9,.nm 9),(4,.nm 4),(11,.nm 11),(60,.nm 60),(12,.nm 12),(13,.nm 13),(24,.nm 24)] rfl rfl ?_ ?_)
    .refine Sr a (yn:=101) rfl rfl (by simp) d ⟨true,rfl,.inr (.inr ⟨o,x,rfl,?_⟩)⟩;simp only[wO,D0,wE,go_sem,Nat.reduceEqDiff,reduceCtorEq,Nat.reduceAdd,Nat.reduceSub,Nat.reduceMul,Nat.reduceLeDiff,Nat.reduceLT,Int.reduceLE,Int.reduceToNat,Int.reduceNeg,↓reduceIte,X7 r u]
    .simp only[wO,D0,wE,D,E,y];first|exact eN|refine eM ?_
    first|exact eN|refine eM ?_
   have x:BQ h w (Gd f (A3 h w f n i).2.2.2)≠0:=by assumption
   have o:(A3 h w f n i).2.2.2∉(A3 h w f n i).1:=by
    have g:(Bg T3 .bool (A3 h w f n i).2.2.2 (L9 (A3 h w f n i).1)).getD false=false:=by assumption
    rw[t]at g;intro m;have:=AAH.1 g _ m;simp at this
   have y:(A3 h w f n (i+1)).2.1=(A3 h w f n i).2.1:=An c;refine Ev.ent (σ':=⟨[],wO h w f { L with state:=.busy } e (A3 h w f n (i+1)) (A3 h w f n i).2.2.2 0⟩) ?_ (AC [(50,.nm 50),(51,.nm 51),(52,.nm 52),(101,.nm 101),(102,.nm 102),(6,.nm 6),(7,.nm 7),(8,.nm 8),(9,.nm 9),(4,.nm 4),(11,.nm 11),(60,.nm 60),(12,.nm 12),(13,.nm 13),(24,.nm 24)] rfl rfl ?_ ?_)
   .refine Sr a (yn:=101) rfl rfl (by simp) d ⟨true,rfl,.inr (.inr ⟨o,x,rfl,?_⟩)⟩;simp only[wO,D0,wE,go_sem,Nat.reduceEqDiff,reduceCtorEq,Nat.reduceAdd,Nat.reduceSub,Nat.reduceMul,Nat.reduceLeDiff,Nat.reduceLT,Int.reduceLE,Int.reduceToNat,Int.reduceNeg,↓reduceIte,X7 r u]
   .simp only[wO,D0,wE,D,E,y];first|exact eN|refine eM ?_
   first|exact eN|refine eM ?_
  .simp only[BV,wO,D0,wE,A3];first|exact eN|refine eM ?_
  .simp only[BV,wO,D0,wE,A3];first|exact eN|refine eM ?_
   rfl
  rintro _ _ ⟨rfl,i,b,hi,P,d⟩;rcases P with ⟨q,rfl,rfl⟩|⟨q,z,rfl,rfl⟩|⟨q,z,rfl,rfl⟩
  .have j:=(v i hi).1 q;refine⟨[(50,.nm 50),(51,.nm 51),(52,.nm 52),(101,.nm 101),(102,.nm 102),(6,.nm 6),(7,.nm 7),(8,.nm 8),(9,.nm 9),(4,.nm 4),(11,.nm 11),(60,.nm 60),(12,.nm 12),(13,.nm 13),(24,.nm 24)],wO h w f (Ji L) e (A3 h w f n i) (A3 h w f n i).2.2.2 6,Ji L,rfl,rfl,?_,rfl,rfl,rfl,rfl,?_⟩
   .simp only[wO,D0,wE];first|exact eN|refine eM ?_
   intro b;simp only[Ji,EvJ,wO,D0,wE,BV,go_sem,Nat.reduceEqDiff,reduceCtorEq,Nat.reduceAdd,Nat.reduceSub,Nat.reduceMul,Nat.reduceLeDiff,Nat.reduceLT,Int.reduceLE,Int.reduceToNat,Int.reduceNeg,↓reduceIte];replace a:=Np (dn:=103) (b:=b) a;repeat'(first|exact trivial|apply eS rfl|apply AB|refine rX a ?_ ?_|refine rC ?_ ?_<;>intro c<;>try(cases c;done))
   refine Ev.ent (σ':=⟨[(6,.bp 6 [] 0),(7,.bp 7 [] 0),(8,.bp 8 [] 0)],[(6,.box 61 false [.p F2 []]),(7,.box 4 false [.p .bool false]),(8,.box 35 false [.p MG 6]),(103,.dfr)]⟩) ?_ (AC [(6,.nm 6),(7,.nm 7),(8,.nm 8),(103,.nm 103)] rfl rfl ?_ ?_)
   .rw[j];exact Q7 a [.cell 6 61,.cell 7 4,.cell 8 35] rfl (.inl rfl) rfl rfl (.tup [.p F2 [],.p .bool false,.p MG 6]) eT rfl
   .first|exact eN|refine eM ?_
   first|exact eN|refine eM ?_
  .have j:=(v i hi).2.1 q z;refine⟨[(50,.nm 50),(51,.nm 51),(52,.nm 52),(101,.nm 101),(102,.nm 102),(6,.nm 6),(7,.nm 7),(8,.nm 8),(9,.nm 9),(4,.nm 4),(11,.nm 11),(60,.nm 60),(12,.nm 12),(13,.nm 13),(24,.nm 24)],wO h w f (Ji L) e (A3 h w f n i) (A3 h w f n i).2.2.2 13,Ji L,rfl,rfl,?_,rfl,rfl,rfl,rfl,?_⟩
   .simp only[wO,D0,wE];first|exact eN|refine eM ?_
   intro b;simp only[Ji,EvJ,wO,D0,wE,BV,go_sem,Nat.reduceEqDiff,reduceCtorEq,Nat.reduceAdd,Nat.reduceSub,Nat.reduceMul,Nat.reduceLeDiff,Nat.reduceLT,Int.reduceLE,Int.reduceToNat,Int.reduceNeg,↓reduceIte];replace a:=Np (dn:=103) (b:=b) a;repeat'(first|exact trivial|apply eS rfl|apply AB|refine rX a ?_ ?_|refine rC ?_ ?_<;>intro c<;>try(cases c;done))
   refine Ev.ent (σ':=⟨[(6,.bp 6 [] 0),(7,.bp 7 [] 0),(8,.bp 8 [] 0)],[(6,.box 61 false [.p F2 []]),(7,.box 4 false [.p .bool false]),(8,.box 35 false [.p MG 13]),(103,.dfr)]⟩) ?_ (AC [(6,.nm 6),(7,.nm 7),(8,.nm 8),(103,.nm 103)] rfl rfl ?_ ?_)
   .rw[j];exact Q7 a [.cell 6 61,.cell 7 4,.cell 8 35] rfl (.inl rfl) rfl rfl (.tup [.p F2 [],.p .bool false,.p MG 13]) eT rfl
   .first|exact eN|refine eM ?_
   first|exact eN|refine eM ?_
  have j:=(v i hi).2.2 q z (d rfl);refine⟨[(50,.nm 50),(51,.nm 51),(52,.nm 52),(101,.nm 101),(102,.nm 102),(6,.nm 6),(7,.nm 7),(8,.nm 8),(9,.nm 9),(4,.nm 4),(11,.nm 11),(60,.nm 60),(12,.nm 12),(13,.nm 13),(24,.nm 24)],wO h w f L e (A3 h w f n (i+1)) (A3 h w f n i).2.2.2 0,L,rfl,rfl,?_,rfl,rfl,rfl,by rw[r];rfl,?_⟩
  .simp only[wO,D0,wE];first|exact eN|refine eM ?_
  intro b;rw[u];generalize A3 h w f n (i+1)=s at *;simp only[EvJ,wO,D0,wE,BV,go_sem,Nat.reduceEqDiff,reduceCtorEq,Nat.reduceAdd,Nat.reduceSub,Nat.reduceMul,Nat.reduceLeDiff,Nat.reduceLT,Int.reduceLE,Int.reduceToNat,Int.reduceNeg,↓reduceIte];replace a:=Np (dn:=103) (b:=b) a;refine Fe [60] ?_;repeat'(first|exact trivial|apply eS rfl|apply AB|refine rP a ?_ ?_|fail)
  refine CQ drawsAny a 3 [([0],2)] [1] (by kernel_rfl) (MF ?_ ?_)
  .trivial
  refine OL a [] ?_ ?_
  .trivial
  refine Ss a ?_ ?_ ?_
  .trivial
  .trivial
  repeat'(first|exact trivial|apply eS rfl|apply AB|refine rX a ?_ ?_|refine rC ?_ ?_<;>intro c<;>try(cases c;done))
  refine Ev.ent (σ':=⟨[(6,.bp 6 [] 0),(7,.bp 7 [] 0),(8,.bp 8 [] 0)],[(6,.box 61 false [.p F2 s.2.1]),(7,.box 4 false [.p .bool s.2.2.1]),(8,.box 35 false [.p MG 0]),(103,.dfr)]⟩) ?_ (AC [(6,.nm 6),(7,.nm 7),(8,.nm 8),(103,.nm 103)] rfl rfl ?_ ?_)
  .rw[j];exact Q7 a [.cell 6 61,.cell 7 4,.cell 8 35] rfl (.inl rfl) rfl rfl (.tup [.p F2 s.2.1,.p .bool s.2.2.1,.p MG 0]) eT rfl
  .first|exact eN|refine eM ?_
  first|exact eN|refine eM ?_
 .simp only[D0];first|exact eN|refine eM ?_
 first|exact eN|refine eM ?_
end
section
attribute [local go_sem] R8 gY WO WP R9 A0B cs4 cs5
theorem A9K (h:AG) (w:LW) (x:AE):(VG h w x=true->BQ h w x=1)/\(VG h w x=false->Ov h w x=true->BQ h w x=3)/\(VG h w x=false->Ov h w x=false->MB h w x=false->BQ h w x=0)/\(VG h w x=false->MB h w x=true->BQ h w x=2):=by
 unfold BQ;refine⟨λh1=>BY h1,λh1 a=>?_,λh1 a b=>?_,λh1 a=>?_⟩
 .have b:MB h w x=false:=by
   unfold Ov R5 at a;unfold MB Ur;simp only[AT,By]at a;have:decide (0<=Bz x.2 w.first)=false:=AA7 (by omega);rw[this];simp
  rw[h1,a,b];rfl
 .rw[h1,a,b];rfl
 rw[h1,a];rfl
def SB:AZ:={ ins:=[ED,DZ,T3],pre:=λ(h,f,n,_)=>GB h/\AR f/\Cn h f/\(0:Int)<=n/\n<(List.length f:Int),out:=λ(h,f,n,_)=>[.p F2 (Am h f n).1,.p .bool (Am h f n).2.1,.p MG (Am h f n).2.2] }
attribute [local go_sem] SB
theorem sM:Ab Tryz.prog 55 SB:=by
 refine fKP [0,1,2,3,4,6,7,8,9,10,13,14,18,24,30] [38,45] [] Tryz.func55 Tryz.ntmps55 (AF sK (AF Y4 (AF cR (AF A2H (AF sL (AF A9G AH)))))) ?_;rintro w0 O0 ⟨h,f,n,u⟩ g-⟨hk,c,q,hn⟩;have hk:GB h:=hk;have c:AR f:=c;have q:Cn h f:=q;have hn:0<=n/\n<(f.length:Int):=hn;have F:(h.1,h.2)=h:=rfl;simp only[SB,AM];repeat'(first|exact trivial|apply eS rfl|apply AB|refine rX g ?_ ?_|refine rC ?_ ?_<;>intro b<;>try(cases b;done))
 all_goals try simp only[F]at *
 .exact hk
 .have m:Am h f n=([],false,5):=by unfold Am;rw[b,An (by simp)]
  exact fI g [.tmp 6,.tmp 7,.tmp 8] (by rw[m];exact eR)
 have t:Pr h=true:=b;have D:=λ(i:Nat) (hi:WGo h (BI h) f n i)=>nL c t hn.1 hn.2 hi;have E:=λ(i:Nat) (hi:WGo h (BI h) f n i)=>SA c hn.1 hn.2 i hi;obtain⟨-,-,-,-,P,Q,-,-⟩:=NP h;refine AI (ι:={i:Nat//WGo h (BI h) f n i}) (λi=>⟨[(2,.p T3 (A3 h (BI h) f n i.1).2.2.2),(3,.bp 3 [] 0),(4,.bp 4 [] 0),(9,.sr 46 T3 0 (A3 h (BI h) f n i.1).2.1.length),(10,.sr 39 T3 0 (A3 h (BI h) f n i.1).1.length)],[(3,.box 31 true [.p RB h.1,.p Sv h.2]),(4,.box 25 true [.p Ex f]),(46,.arr 3 T3 (A3 h (BI h) f n i.1).2.1),(39,.arr 3 T3 (A3 h (BI h) f n i.1).1)]⟩) (λi=>f.length+1-i.1) ⟨0,λj w=>by omega⟩ (AC [(3,.nm 3),(4,.nm 4),(46,.nil),(39,.nil)] rfl rfl ?_ ?_) (λi=>?_)
 .first|exact eN|refine eM ?_
  try exact⟨rfl,rfl⟩
 .first|exact eN|refine eM ?_
  exact⟨rfl,rfl,rfl⟩
 obtain⟨i,hi⟩:=i;obtain⟨A,B,d⟩:=D i hi;obtain⟨C,L,o,M⟩:=E i hi;have N:=C.len;have O:=c.1;obtain⟨H,I,J,K⟩:=A9K h (BI h) (Gd f (A3 h (BI h) f n i).2.2.2);simp only;repeat'(first|exact trivial|apply eS rfl|apply AB|refine rX g ?_ ?_|refine rC ?_ ?_<;>intro b<;>try(cases b;done))
 .have G:(A3 h (BI h) f n i).2.2.2∈(A3 h (BI h) f n i).1:=by simpa[zZ] using b
  exact fI g [.tmp 6,.tmp 7,.tmp 8] (by rw[A G];exact eR)
 .exact⟨⟨t,hk⟩,c,q,o⟩
 .have a:(A3 h (BI h) f n i).2.2.2∉(A3 h (BI h) f n i).1:=by
   have k:zZ (A3 h (BI h) f n i).1 (A3 h (BI h) f n i).2.2.2=false:=by assumption
   intro l;have:=AAH.1 k _ l;simp at this
  have b1:BQ h (BI h) (Gd f (A3 h (BI h) f n i).2.2.2)=1->Am h f n=((A3 h (BI h) f n i).2.1,true,0):=λe=>by
   rw[d a (by rw[e];decide) (by rw[e];decide),show (A3 h (BI h) f n (i+1)).2.1=(A3 h (BI h) f n i).2.1 from An (by rw[e];decide),show (A3 h (BI h) f n (i+1)).2.2.1=true from aS e]
  have r:BQ h (BI h) (Gd f (A3 h (BI h) f n i).2.2.2)=3->Am h f n=((A3 h (BI h) f n i).2.1,false,0):=λe=>by
   rw[d a (by rw[e];decide) (by rw[e];decide),show (A3 h (BI h) f n (i+1)).2.1=(A3 h (BI h) f n i).2.1 from An (by rw[e];decide),show (A3 h (BI h) f n (i+1)).2.2.1=false from AA7 (by rw[e];decide)]
  have m:=b1 (H b);refine Fe [46] ?_;exact fI g [.tmp 6,.tmp 7,.tmp 8] (by rw[m];exact eR)
 .exact⟨⟨t,hk⟩,c,q,o⟩
 .have a:(A3 h (BI h) f n i).2.2.2∉(A3 h (BI h) f n i).1:=by
   have k:zZ (A3 h (BI h) f n i).1 (A3 h (BI h) f n i).2.2.2=false:=by assumption
   intro l;have:=AAH.1 k _ l;simp at this
  have b1:BQ h (BI h) (Gd f (A3 h (BI h) f n i).2.2.2)=1->Am h f n=((A3 h (BI h) f n i).2.1,true,0):=λe=>by
   rw[d a (by rw[e];decide) (by rw[e];decide),show (A3 h (BI h) f n (i+1)).2.1=(A3 h (BI h) f n i).2.1 from An (by rw[e];decide),show (A3 h (BI h) f n (i+1)).2.2.1=true from aS e]
  have r:BQ h (BI h) (Gd f (A3 h (BI h) f n i).2.2.2)=3->Am h f n=((A3 h (BI h) f n i).2.1,false,0):=λe=>by
   rw[d a (by rw[e];decide) (by rw[e];decide),show (A3 h (BI h) f n (i+1)).2.1=(A3 h (BI h) f n i).2.1 from An (by rw[e];decide),show (A3 h (BI h) f n (i+1)).2.2.1=false from AA7 (by rw[e];decide)]
  have m:=r (I b.1 b.2);refine Fe [46] ?_;exact fI g [.tmp 6,.tmp 7,.tmp 8] (by rw[m];exact eR)
 .exact⟨⟨t,hk⟩,c,q,o⟩
 .have a:(A3 h (BI h) f n i).2.2.2∉(A3 h (BI h) f n i).1:=by
   have k:zZ (A3 h (BI h) f n i).1 (A3 h (BI h) f n i).2.2.2=false:=by assumption
   intro l;have:=AAH.1 k _ l;simp at this
  have b1:BQ h (BI h) (Gd f (A3 h (BI h) f n i).2.2.2)=1->Am h f n=((A3 h (BI h) f n i).2.1,true,0):=λe=>by
   rw[d a (by rw[e];decide) (by rw[e];decide),show (A3 h (BI h) f n (i+1)).2.1=(A3 h (BI h) f n i).2.1 from An (by rw[e];decide),show (A3 h (BI h) f n (i+1)).2.2.1=true from aS e]
  have r:BQ h (BI h) (Gd f (A3 h (BI h) f n i).2.2.2)=3->Am h f n=((A3 h (BI h) f n i).2.1,false,0):=λe=>by
   rw[d a (by rw[e];decide) (by rw[e];decide),show (A3 h (BI h) f n (i+1)).2.1=(A3 h (BI h) f n i).2.1 from An (by rw[e];decide),show (A3 h (BI h) f n (i+1)).2.2.1=false from AA7 (by rw[e];decide)]
  rename_i s z;have m:=B a (J s (z s) b);exact fI g [.tmp 6,.tmp 7,.tmp 8] (by rw[m];exact eR)
 .simp only[AQ];omega
 .refine⟨⟨c,o⟩,?_⟩;simp only[AQ];omega
 .exact⟨c,o⟩
 have a:(A3 h (BI h) f n i).2.2.2∉(A3 h (BI h) f n i).1:=by
  have k:zZ (A3 h (BI h) f n i).1 (A3 h (BI h) f n i).2.2.2=false:=by assumption
  intro l;have:=AAH.1 k _ l;simp at this
 have b1:BQ h (BI h) (Gd f (A3 h (BI h) f n i).2.2.2)=1->Am h f n=((A3 h (BI h) f n i).2.1,true,0):=λe=>by
  rw[d a (by rw[e];decide) (by rw[e];decide),show (A3 h (BI h) f n (i+1)).2.1=(A3 h (BI h) f n i).2.1 from An (by rw[e];decide),show (A3 h (BI h) f n (i+1)).2.2.1=true from aS e]
 have r:BQ h (BI h) (Gd f (A3 h (BI h) f n i).2.2.2)=3->Am h f n=((A3 h (BI h) f n i).2.1,false,0):=λe=>by
  rw[d a (by rw[e];decide) (by rw[e];decide),show (A3 h (BI h) f n (i+1)).2.1=(A3 h (BI h) f n i).2.1 from An (by rw[e];decide),show (A3 h (BI h) f n (i+1)).2.2.1=false from AA7 (by rw[e];decide)]
 rename_i s z;have v:=K s b;have y:(A3 h (BI h) f n (i+1)).2.1=(A3 h (BI h) f n i).2.1++[Bz (List.getD f (A3 h (BI h) f n i).2.2.2.toNat (0,[])).2 (BI h).first]:=BY v;have x:(A3 h (BI h) f n (i+1)).1=(A3 h (BI h) f n i).1++[(A3 h (BI h) f n i).2.2.2]:=rfl;refine⟨⟨i+1,λj w=>(AFC.1 w).elim (hi j) λe=>by rw[e];exact⟨v,a⟩⟩,by simp only;omega,AC [(3,.nm 3),(4,.nm 4),(46,.nm 46),(39,.nm 39)] rfl rfl ?_ ?_⟩
 .simp only[y,x];first|exact eN|refine eM ?_
  rfl
 simp only[y,x];first|exact eN|refine eM ?_
 rfl
end
section
attribute [local go_sem] A6a Pu Ro Nz atS cs4 cs5
theorem WR {h:AG} {f:List AE} (e:BE h f≠0):Ae h f=BE h f:=by
 unfold Ae;rw[An e]
theorem Jj {h:AG} {f:List AE} (e:Ae h f=0):BE h f=0:=by
 unfold Ae at e;split at e
 .assumption
 exact e
def A9L (h:AG) (f:List AE):Prop:=(iE h/\GB h)/\DB f/\Rl f/\(BE h f=0->VF h f)
def SC:AZ:={ ins:=[ED,T27],pre:=λ(h,r,_)=>A9L h r.2.2,out:=λ(h,r,_)=>[.p MG (Bn h r.2.1 r.2.2)] }
attribute [local go_sem] SC
theorem A9M:Ab Tryz.prog 20 SC:=by
 refine fKP [0,1,2,3,4,5,6,7,8,9,10,11,12,20,26,33,38,48,70] [43] [] Tryz.func20 Tryz.ntmps20 (AF bO (AF bP (AF Y3 (AF AAf AH)))) ?_;rintro w0 O0 ⟨h,⟨nm,ar,f⟩,u⟩ g-hp;have hp:A9L h f:=hp;obtain⟨⟨w,hk⟩,hs,r,s⟩:=hp;have z:(h.1,h.2)=h:=rfl;have A:=NQ h;have i:Bn h ar f=if ar<1\/2<ar then 2 else if Ae h f≠0 then Ae h f else if A7 h<0 then 13 else if (CR f 0 [A7 h]).2=false then 13
 else if (Am h f (CR f 0 [A7 h]).1).2.2≠0\/(Am h f (CR f 0 [A7 h]).1).2.1=false\/((Am h f (CR f 0 [A7 h]).1).1.length:Int)≠ar then 13 else 0:=rfl
 simp only[SC,AM];repeat'(first|exact trivial|apply eS rfl|apply AB|refine rX g ?_ ?_|refine rC ?_ ?_<;>intro c<;>try(cases c;done))
 .have d:Bn h ar f=2:=i.trans (BY c);exact fI g [.tmp 4] (by rw[d];exact eR)
 .exact⟨hs,r⟩
 .have ha:¬((ar:Int)<1\/2<(ar:Int)):=by
   have a:(1:Int)<=(ar:Int)/\(ar:Int)<=2:=by assumption
   exact λq=>q.elim (λq=>absurd a.1 (VT.2 q)) λq=>absurd a.2 (VT.2 q)
  have c:BE h f≠0:=c;have d:Bn h ar f=BE h f:=by rw[i,An ha,BY (by rw[WR c];exact c),WR c]
  exact fI g [.tmp 4] (by rw[d];exact eR)
 .exact⟨w,hs,r⟩
 .have ha:¬((ar:Int)<1\/2<(ar:Int)):=by
   have a:(1:Int)<=(ar:Int)/\(ar:Int)<=2:=by assumption
   exact λq=>q.elim (λq=>absurd a.1 (VT.2 q)) λq=>absurd a.2 (VT.2 q)
  have d:Bn h ar f=Ae h f:=by rw[i,An ha,BY c]
  exact fI g [.tmp 4] (by rw[d];exact eR)
 .have ha:¬((ar:Int)<1\/2<(ar:Int)):=by
   have a:(1:Int)<=(ar:Int)/\(ar:Int)<=2:=by assumption
   exact λq=>q.elim (λq=>absurd a.1 (VT.2 q)) λq=>absurd a.2 (VT.2 q)
  have j:Ae h f=0:=by
   have a:(Ae h f != 0)=false:=by assumption
   simpa using a
  have d:Bn h ar f=13:=by rw[i,An ha,An (λq=>q j),BY (show A7 h<0 from c)]
  exact fI g [.tmp 4] (by rw[d];exact eR)
 .have j:Ae h f=0:=by
   have a:(Ae h f != 0)=false:=by assumption
   simpa using a
  have vf:=s (Jj j);exact⟨vf.good,vf.pos⟩
 .have ha:¬((ar:Int)<1\/2<(ar:Int)):=by
   have a:(1:Int)<=(ar:Int)/\(ar:Int)<=2:=by assumption
   exact λq=>q.elim (λq=>absurd a.1 (VT.2 q)) λq=>absurd a.2 (VT.2 q)
  have j:Ae h f=0:=by
   have a:(Ae h f != 0)=false:=by assumption
   simpa using a
  have k:¬A7 h<0:=ZF.2 (by assumption);have d:Bn h ar f=13:=by rw[i,An ha,An (λq=>q j),An k,BY (show (CR f 0 [A7 h]).2=false from c)]
  exact fI g [.tmp 4] (by rw[d];exact eR)
 have ha:¬((ar:Int)<1\/2<(ar:Int)):=by
  have a:(1:Int)<=(ar:Int)/\(ar:Int)<=2:=by assumption
  exact λq=>q.elim (λq=>absurd a.1 (VT.2 q)) λq=>absurd a.2 (VT.2 q)
 have j:Ae h f=0:=by
  have a:(Ae h f != 0)=false:=by assumption
  simpa using a
 have k:¬A7 h<0:=ZF.2 (by assumption);have vf:=s (Jj j);have c:(CR f 0 [A7 h]).2=true:=c;have o:=hC vf _ c;rw[An ha,An (λq=>q j),An k,An (by rw[c];simp)]at i;have hn:=A2M h f _ vf.good vf.ty o.1 o.2;have v:ZO (h.1,h.2) ⟨#[65,82,71,83]⟩=A7 h:=rfl;simp only[v]at *;generalize (CR f 0 [A7 h]).1=n at *;generalize y:Am h f n=N at *;obtain⟨l,b,e⟩:=N;refine cP 4 g ?_ ?_
 .trivial
 refine rM g (hn) [] [] ?_ ?_ ?_
 .first|exact eN|refine eM ?_
 .first|exact eN|refine eM ?_
 rintro _ B rfl;refine⟨[],.tup [.p F2 l,.p .bool b,.p MG e],[],rfl,rfl,?_,?_,rfl,rfl,?_⟩
 .first|exact eN|refine eM ?_
 .first|exact eN|refine eM ?_
 refine rL g ?_ ?_
 .trivial
 repeat'(first|exact trivial|apply eS rfl|apply AB|refine rX g ?_ ?_|refine rC ?_ ?_<;>intro c<;>try(cases c;done))
 .have d:Bn h ar f=13:=i.trans (BY (by
   rcases c with (q|q)|q
   .exact .inl q
   .exact .inr (.inl q)
   exact .inr (.inr q)))
  exact fI g [.tmp 4] (by rw[d];exact eR)
 have d:Bn h ar f=0:=i.trans (An (by
  obtain⟨⟨x,t⟩,m⟩:=c;have m:((l.length:Int) != (ar:Int))=false:=m;rintro (q|q|q)
  .exact q (by simpa using x)
  .have q:b=false:=q;rw[q]at t;cases t
  exact q (by simpa using m)))
 exact fI g [.tmp 4] (by rw[d];exact eR)
end
section
attribute [local go_sem] Pu Jb NF Yd bA SB cs4 cs5
theorem cW (e:Int):∀l:List (Int×Int),Ze l e=E5 l e
 | []=>rfl
 | a :: l=>by unfold Ze E5;rw[cW e l]
def ABA:AZ:={ ins:=[DZ,F2],pre:=λ(f,_,_)=>AR f/\0<List.length f,out:=λ(f,p,_)=>[.p T3 (CR f 0 p).1,.p .bool (CR f 0 p).2] }
attribute [local go_sem] ABA
theorem ABB:Ab Tryz.prog 71 ABA:=by
 refine fK [0,1,2,4,5,6,7,8,9,13,27] Tryz.func71 Tryz.ntmps71 (AF A5D AH) ?_;rintro w0 O0 ⟨f,p,u⟩ g ⟨-,⟨l,-⟩,-⟩ ⟨hf,h0⟩;simp only[AQ]at l;simp only[ABA,AM];repeat'(first|exact trivial|apply eS rfl|apply AB|refine rX g ?_ ?_|refine rC ?_ ?_<;>intro b<;>try(cases b;done))
 refine AI (ι:={s:Nat×Int//s.1<=p.length/\(0<=s.2/\s.2<(f.length:Int))/\CR f 0 p=CR f s.2 (p.drop s.1)}) (λs=>⟨[(1,.p F2 p),(2,.bp 2 [] 0),(6,.p (.int .i64) s.1.2),(7,.p (.int .i64) (s.1.1:Int))],[(2,.box 25 true [.p Ex f])]⟩) (λs=>p.length-s.1.1) ⟨(0,0),IS _,⟨ABP 0,by show (0:Int)<_;omega⟩,rfl⟩ (AC [(2,.nm 2)] rfl rfl ?_ ?_) (λs=>?_)
 .first|exact eN|refine eM ?_
 .first|exact eN|refine eM ?_
 obtain⟨⟨k,n⟩,hk,hn,d⟩:=s;simp only at hk hn d ⊢;have h:=λe=>cW e (f.getD n.toNat (0,[])).2;repeat'(first|exact trivial|apply eS rfl|apply AB|refine rX g ?_ ?_|refine rC ?_ ?_<;>intro b<;>try(cases b;done))
 .exact⟨b,hn⟩
 .have c:k<p.length:=by exact eV
  rw[h]at b;have h1:CR f 0 p=(0,false):=by
   rw[d,Kn c];simp only[CR];rw[An (by rw[AO,b];simp)]
  exact fI g [.tmp 4,.tmp 5] (by rw[h1];exact eR)
 .exact eV
 .have c:k<p.length:=by exact eV
  rw[h]at b;have h1:=d;rw[Kn c]at h1;simp only[CR]at h1;rw[BY b]at h1;obtain⟨a,ha,-,j⟩:=Yw b;have i:=Ah hf ha;rw[j]at i;refine⟨⟨(k+1,(E5 (f.getD n.toNat (0,[])).2 (p.getD k 0)).1),c,i,h1⟩,by simp only;omega,AC [(2,.nm 2)] rfl rfl ?_ ?_⟩
  .first|exact eN|refine eM ?_
  simp only;rw[<-h];first|exact eN|refine eM ?_
 have c:p.drop k=[]:=B0 (P6.1 b);rw[c]at d;exact fI g [.tmp 4,.tmp 5] (by rw[d];first|exact eR|refine UO ?_;exact⟨rfl,rfl⟩)
theorem A6j:Ab Tryz.prog 21 SC:=by
 refine fKP [0,1,2,3,4,5,6,7,8,9,10,18,24,30,35,45,67] [40] [] Tryz.func21 Tryz.ntmps21 (AF Nw (AF YG (AF gX (AF ABB (AF sM AH))))) ?_;rintro w0 O0 ⟨h,⟨nm,ar,f⟩,u⟩ g-hp;have hp:A9L h f:=hp;obtain⟨⟨o,hk⟩,hs,s,j⟩:=hp;have r:(h.1,h.2)=h:=rfl;have t:=NQ h;have e:Bn h ar f=if ar<1\/2<ar then 2 else if Ae h f≠0 then Ae h f else if A7 h<0 then 13 else if (CR f 0 [A7 h]).2=false then 13
 else if (Am h f (CR f 0 [A7 h]).1).2.2≠0\/(Am h f (CR f 0 [A7 h]).1).2.1=false\/((Am h f (CR f 0 [A7 h]).1).1.length:Int)≠ar then 13 else 0:=rfl
 simp only[SC,AM];repeat'(first|exact trivial|apply eS rfl|apply AB|refine rX g ?_ ?_|refine rC ?_ ?_<;>intro b<;>try(cases b;done))
 .have c:Bn h ar f=2:=e.trans (BY b);exact fI g [.tmp 4] (by rw[c];exact eR)
 .exact hs
 .exact⟨o,hs,hk⟩
 .have ha:¬((ar:Int)<1\/2<(ar:Int)):=by
   have a:(1:Int)<=(ar:Int)/\(ar:Int)<=2:=by assumption
   exact λq=>q.elim (λq=>absurd a.1 (VT.2 q)) λq=>absurd a.2 (VT.2 q)
  have c:Bn h ar f=Ae h f:=by rw[e,An ha,BY b]
  exact fI g [.tmp 4] (by rw[c];exact eR)
 .have ha:¬((ar:Int)<1\/2<(ar:Int)):=by
   have a:(1:Int)<=(ar:Int)/\(ar:Int)<=2:=by assumption
   exact λq=>q.elim (λq=>absurd a.1 (VT.2 q)) λq=>absurd a.2 (VT.2 q)
  have d:Ae h f=0:=by
   have a:(Ae h f != 0)=false:=by assumption
   simpa using a
  have c:Bn h ar f=13:=by rw[e,An ha,An (λq=>q d),BY (show A7 h<0 from b)]
  exact fI g [.tmp 4] (by rw[c];exact eR)
 .have d:Ae h f=0:=by
   have a:(Ae h f != 0)=false:=by assumption
   simpa using a
  have vf:=j (Jj d);exact⟨vf.good,vf.pos⟩
 .have ha:¬((ar:Int)<1\/2<(ar:Int)):=by
   have a:(1:Int)<=(ar:Int)/\(ar:Int)<=2:=by assumption
   exact λq=>q.elim (λq=>absurd a.1 (VT.2 q)) λq=>absurd a.2 (VT.2 q)
  have d:Ae h f=0:=by
   have a:(Ae h f != 0)=false:=by assumption
   simpa using a
  have i:¬A7 h<0:=ZF.2 (by assumption);have c:Bn h ar f=13:=by rw[e,An ha,An (λq=>q d),An i,BY (show (CR f 0 [A7 h]).2=false from b)]
  exact fI g [.tmp 4] (by rw[c];exact eR)
 .have d:Ae h f=0:=by
   have a:(Ae h f != 0)=false:=by assumption
   simpa using a
  have vf:=j (Jj d);exact⟨hk,vf.good,vf.ty,hC vf _ b⟩
 .have ha:¬((ar:Int)<1\/2<(ar:Int)):=by
   have a:(1:Int)<=(ar:Int)/\(ar:Int)<=2:=by assumption
   exact λq=>q.elim (λq=>absurd a.1 (VT.2 q)) λq=>absurd a.2 (VT.2 q)
  have d:Ae h f=0:=by
   have a:(Ae h f != 0)=false:=by assumption
   simpa using a
  have i:¬A7 h<0:=ZF.2 (by assumption);have vf:=j (Jj d);have k:(CR f 0 [A7 h]).2=true:=by assumption
  rw[An ha,An (λq=>q d),An i,An (by rw[k];simp)]at e;have c:Bn h ar f=13:=e.trans (BY (by
   rcases b with (q|q)|q
   .exact .inl q
   .exact .inr (.inl q)
   exact .inr (.inr q)))
  exact fI g [.tmp 4] (by rw[c];exact eR)
 .have ha:¬((ar:Int)<1\/2<(ar:Int)):=by
   have a:(1:Int)<=(ar:Int)/\(ar:Int)<=2:=by assumption
   exact λq=>q.elim (λq=>absurd a.1 (VT.2 q)) λq=>absurd a.2 (VT.2 q)
  have d:Ae h f=0:=by
   have a:(Ae h f != 0)=false:=by assumption
   simpa using a
  have i:¬A7 h<0:=ZF.2 (by assumption);have vf:=j (Jj d);have k:(CR f 0 [A7 h]).2=true:=by assumption
  rw[An ha,An (λq=>q d),An i,An (by rw[k];simp)]at e;have c:Bn h ar f=0:=e.trans (An (by
   obtain⟨⟨l,p⟩,m⟩:=b;rintro (q|q|q)
   .have l:((Am h f (CR f 0 [A7 h]).1).2.2 != 0)=false:=l;exact q (by simpa using l)
   .rw[show (Am h f (CR f 0 [A7 h]).1).2.1=true from p]at q;cases q
   have m:(((Am h f (CR f 0 [A7 h]).1).1.length:Int) != (ar:Int))=false:=m;exact q (by simpa using m)))
  exact fI g [.tmp 4] (by rw[c];exact eR)
 .have ha:¬((ar:Int)<1\/2<(ar:Int)):=by
   have a:(1:Int)<=(ar:Int)/\(ar:Int)<=2:=by assumption
   exact λq=>q.elim (λq=>absurd a.1 (VT.2 q)) λq=>absurd a.2 (VT.2 q)
  have b:BE h f≠0:=b;have c:Bn h ar f=BE h f:=by rw[e,An ha,BY (by rw[WR b];exact b),WR b]
  exact fI g [.tmp 4] (by rw[c];exact eR)
 all_goals
  exfalso;have n:¬BE h f=0:=by assumption
  have a:(BE h f != 0)=false:=by assumption
  exact n (by simpa using a)
end
section
attribute [local go_sem] Ld Jb
def sN:AZ:={ ins:=[ED,DZ],pre:=λ_=>True,out:=λ(h,f,_)=>[.p .bool (Lf h f)],lend:=true }
theorem A6k:Ab Tryz.prog 36 sN:=by
 refine fK [0,1,2,3,4] Tryz.func36 Tryz.ntmps36 (AF k8 (AF Nw AH)) ?_;rintro w0 O0 ⟨⟨e,hf⟩,f,u⟩ a - -;simp only[sN,AM];repeat'(first|exact trivial|apply eS rfl|apply AB|refine rX a ?_ ?_|refine rC ?_ ?_<;>intro b<;>try(cases b;done))
 .intro h;obtain⟨h1,c⟩:=HV h;exact⟨QB h1 (by decide),λx d=>QB (c x d) (by decide)⟩
 exact fI a [.tmp 4] (by unfold Lf;exact eR)
end
section
attribute [local go_sem] KX cO Pu Ld sN NF SC cs1 cs2 cs3 cs4 cs5
def SD:List AJ:=C0++[(⟨#[97,103,114]⟩,[⟨#[116,111,112]⟩],[]),(⟨#[115,103]⟩,[⟨#[97,103,114]⟩],[]),(⟨#[112,108]⟩,[⟨#[97,103,114]⟩],[])]++[(⟨#[99,97,116]⟩,[⟨#[115,105,103,110]⟩],[(⟨#[65,71,82]⟩,⟨#[97,103,114]⟩)])]++[(⟨#[100,101,116]⟩,[⟨#[99,97,116]⟩],[]),(⟨#[110]⟩,[⟨#[99,97,116]⟩],[]),(⟨#[110,112]⟩,[⟨#[99,97,116]⟩],[])]
def SE:AZ:={ ins:=[],pre:=λ_=>True,out:=λ_=>[.p FJ SD] }
attribute [local go_sem] SE
theorem sO:Ab Tryz.prog 64 SE:=by
 refine fKP [0,1] [6,8,10,12,15,17,19,22,24,26,28] [] Tryz.func64 Tryz.ntmps64 (AF Xf AH) ?_;rintro w0 O0 u b - -;simp only[SE,AM];have a:C0.length=13:=rfl;repeat'(first|exact trivial|apply eS rfl|apply AB|refine rX b ?_ ?_|refine rC ?_ ?_<;>intro c<;>try(cases c;done))
 .rw[a];decide
 .rw[a];decide
 .rw[a];decide
 .rw[a];decide
 refine Fe [2] ?_;exact fI b [.tmp 0] (by rw[show SD=List.take (C0.length+3+1+3) (List.take (C0.length+3+1) (List.take (C0.length+3) (C0++[(⟨#[97,103,114]⟩,[⟨#[116,111,112]⟩],[]),(⟨#[115,103]⟩,[⟨#[97,103,114]⟩],[]),(⟨#[112,108]⟩,[⟨#[97,103,114]⟩],[])])++[(⟨#[99,97,116]⟩,[⟨#[115,105,103,110]⟩],[(⟨#[65,71,82]⟩,⟨#[97,103,114]⟩)])])++[(⟨#[100,101,116]⟩,[⟨#[99,97,116]⟩],[]),(⟨#[110]⟩,[⟨#[99,97,116]⟩],[]),(⟨#[110,112]⟩,[⟨#[99,97,116]⟩],[])]) from rfl];exact eR)
def G8 (h:AG) (fs:List ByteArray) (a:List Int) (n:Nat):List (Int×Int):=(List.range n).map λi=>(ZO h (fs.getD i ByteArray.empty),a.getD i 0)
theorem nM (h:AG) (fs:List ByteArray) (a:List Int) (n:Nat):G8 h fs a (n+1)=G8 h fs a n++[(ZO h (fs.getD n ByteArray.empty),a.getD n 0)]:=by simp[G8,SQ]
theorem sP (h:AG) (fs:List ByteArray) (a:List Int) (n:Nat):(G8 h fs a n).length=n:=by simp[G8]
def WT:AZ:={ ins:=[ED,T9,GD,F2],pre:=λ(_,_,fs,a,_)=>List.length fs<=1000/\List.length fs<=List.length a,out:=λ(h,s,fs,a,_)=>[.p Mn (H0 h s,G8 h fs a (List.length fs))] }
attribute [local go_sem] WT
theorem A2N:Ab Tryz.prog 65 WT:=by
 refine fKP [0,1,2,3,4,8,9,10,18] [34] [] Tryz.func65 Tryz.ntmps65 (AF OH (AF gX AH)) ?_;rintro w0 O0 ⟨h,s,fs,b,u⟩ c-⟨f,e⟩;have f:fs.length<=1000:=f;have e:fs.length<=b.length:=e;simp only[WT,AM];have l:(h.1,h.2)=h:=rfl;repeat'(first|exact trivial|apply eS rfl|apply AB|refine rX c ?_ ?_|refine rC ?_ ?_<;>intro a<;>try(cases a;done))
 refine AI (ι:={k:Nat//k<=fs.length}) (λk=>⟨[(2,.p GD fs),(3,.p F2 b),(4,.bp 4 [] 0),(8,.bp 8 [] 0),(9,.bp 9 [] 0),(10,.p (.int .i64) (k.1:Int))],[(4,.box 31 true [.p RB h.1,.p Sv h.2]),(8,.box 93 true [.p T3 (0:Int),.raw (.slice none 0 0)]),(9,.box 93 true [.p T3 (H0 h s),.sr 35 AW 0 (G8 h fs b k.1).length]),(35,.arr 106 AW (G8 h fs b k.1))]⟩) (λk=>fs.length-k.1) ⟨0,IS _⟩ (AC [(4,.nm 4),(8,.nm 8),(9,.nm 9),(35,.nil)] rfl rfl ?_ ?_) (λk=>?_)
 .first|exact eN|refine eM ?_
  exact⟨rfl,rfl⟩
 .first|exact eN|refine eM ?_
 obtain⟨k,hk⟩:=k;have i:=sP h fs b k;have j:=nM h fs b k;simp only;repeat'(first|exact trivial|apply eS rfl|apply AB|refine rX c ?_ ?_|refine rC ?_ ?_<;>intro a<;>try(cases a;done))
 .have d:k<fs.length:=IN.1 a;refine⟨a,IN.2 (ZG d e),?_⟩;rw[i];simp only[AQ];omega
 .omega
 .have d:k<fs.length:=IN.1 a;refine⟨⟨k+1,d⟩,by simp only;omega,AC [(4,.nm 4),(8,.nm 8),(9,.nm 9),(35,.nm 35)] rfl rfl ?_ ?_⟩
  .simp only[j];first|exact eN|refine eM ?_
   try rfl
  first|exact eN|refine eM ?_
 have g:k=fs.length:=AF7 hk (P6.1 a);subst g;exact fI c [.cell 8 93]
def okK (h:AG) (x:List AE):Bool:=Lf h x&&(Ae h x==0)
def J6 (h:AG) (ar:Int) (f:List AE) (A B:List (List AE)):Bool:=E1 f&&(Bn h ar f==0)&&decide (A.length<=3)&&decide (B.length<=3)&&(A++B).all (okK h)
theorem ABD (d:List AJ):cK (Hq d):=by
 unfold Hq;split
 .exact R3 d
 exact R3 C0
theorem Y9 (d:List AJ):Zd (Hq d):=by
 unfold Hq;split
 .exact NK d
 exact NK C0
theorem Th {h:AG} (hh:cK h) {f:List AE} (c:E1 f=true):A9L h f:=by
 obtain⟨h1,b⟩:=HV c;refine⟨⟨hh.ft,hh.ok⟩,⟨QB h1 (by decide),λx a=>QB (b x a) (by decide)⟩,λx a=>QB (b x a) (by decide),λd=>?_⟩;refine(Yo hh.b1 hh.b2 ?_).1;unfold Lf;rw[c,d];rfl
def iA:AZ:={ ins:=[ED,T40],pre:=λ(h,_,_)=>cK h,out:=λ(h,c,_)=>[.p .bool (J6 h c.2.1.2.1 c.2.1.2.2 c.2.2.1 c.2.2.2)] }
theorem nN:Ab Tryz.prog 22 iA:=by
 refine fK [0,1,2,3,4,5,6,30,41,59] Tryz.func22 Tryz.ntmps22 (AF k8 (AF A6j (AF A6k (AF YG AH)))) ?_;rintro w0 O0 ⟨h,⟨d,⟨nm,ar,f⟩,A,B⟩,u⟩ b-hh;have hh:cK h:=hh;simp only[iA,AM];have t:(h.1,h.2)=h:=rfl;repeat'(first|exact trivial|apply eS rfl|apply AB|refine rX b ?_ ?_|refine rC ?_ ?_<;>intro a<;>try(cases a;done))
 .exact λq=>Th hh (by simpa using q)
 .have g:J6 h ar f A B=false:=by
   cases m:J6 h ar f A B with
   | false=>rfl
   | true =>
    unfold J6 at m;simp only[AT,By]at m;obtain⟨⟨⟨⟨v1,j⟩,n⟩,v4⟩,-⟩:=m;rcases a with ((q|q)|q)|q
    .have q:E1 f=false:=q;rw[q]at v1;cases v1
    .have q:¬Bn h ar f=0:=q;exact absurd (by simpa using j) q
    .have q:(3:Int)<(A.length:Int):=q;omega
    have q:(3:Int)<(B.length:Int):=q;omega
  exact fI b [.tmp 4] (by rw[g];exact eR)
 obtain⟨⟨⟨v1,j⟩,n⟩,v4⟩:=a;have j:(Bn h ar f != 0)=false:=j;have n:(A.length:Int)<=3:=n;have v4:(B.length:Int)<=3:=v4;have o:J6 h ar f A B=(A++B).all (okK h):=by
  unfold J6;rw[v1,show (Bn h ar f==0)=true by simpa using j,aS (by omega),aS (by omega)];simp
 have v:(A++B).length<=6:=by rw[IF];omega
 repeat'(first|exact trivial|apply eS rfl|apply AB|refine rP b ?_ ?_|fail)
 refine CQ drawsAny b 7 [([0,1,2],3),([4,5],6)] [] (by kernel_rfl) (MF ?_ ?_)
 .trivial
 refine OL b [31] ?_ ?_
 .simp only[AQ];dsimp only[Ty.den]at *;omega
 refine MF ?_ ?_
 .trivial
 refine OL b [31] ?_ ?_
 .simp only[AQ];dsimp only[Ty.den]at *;omega
 refine Ss b ?_ ?_ ?_
 .trivial
 .trivial
 refine Fe [31] ?_;generalize s:A++B=L at *;repeat'(first|exact trivial|apply eS rfl|apply AB|refine rP b ?_ ?_|fail)
 refine AI (ι:={k:Nat//k<=L.length/\(L.take k).all (okK h)=true}) (λk=>⟨[(2,.bp 2 [] 0),(5,.p T38 L),(6,.p (.int .i64) (k.1:Int))],[(2,.box 31 true [.p RB h.1,.p Sv h.2])]⟩) (λk=>L.length-k.1) ⟨0,by simp⟩ (AC [(2,.nm 2)] rfl rfl ?_ ?_) (λk=>?_)
 .first|exact eN|refine eM ?_
 .first|exact eN|refine eM ?_
 obtain⟨k,hk,l⟩:=k;simp only;repeat'(first|exact trivial|apply eS rfl|apply AB|refine rX b ?_ ?_|refine rC ?_ ?_<;>intro a<;>try(cases a;done))
 .have e:k<L.length:=IN.1 a;refine⟨a,λ_=>a,λq=>⟨hh.ft,?_,hh.ok⟩⟩;exact(Yo hh.b1 hh.b2 (by simpa using q)).1.small
 .have e:k<L.length:=IN.1 (by assumption);have g:J6 h ar f A B=false:=by
   rw[o,iF];refine⟨_,AD L [] e,?_⟩;unfold okK;rw[AT,SJ];rintro⟨c,i⟩;rcases a with q|q
   .have q:Lf h (L.getD k [])=false:=q;rw[q]at c;cases c
   exact q i
  exact fI b [.tmp 4] (by rw[g];exact eR)
 .omega
 .have e:k<L.length:=IN.1 (by assumption);refine⟨⟨k+1,e,?_⟩,by simp only;omega,AC [(2,.nm 2)] rfl rfl ?_ ?_⟩
  .have q:okK h (L.getD k [])=true:=by
    obtain⟨c,i⟩:=a;have c:Lf h (L.getD k [])=true:=c;have i:(Ae h (L.getD k []) != 0)=false:=i;unfold okK;rw[c,AFX];simpa using i
   rw[Au L [] e,AFa,l];simpa using q
  .first|exact eN|refine eM ?_
  first|exact eN|refine eM ?_
 have r:L.take k=L:=As (P6.1 a);rw[r]at l;have g:J6 h ar f A B=true:=o.trans l;exact fI b [.tmp 4] (by rw[g];exact eR)
end
def Cu:Nat->List Int->Int->Int
 | 0,_,n=>n
 | k+1,p,n=>if Ea p n=n then n else Cu k p (Ea p n)
def ZA (p:List Int) (n:Int):Bool:=Ea p (Cu 100 p n)==Cu 100 p n
theorem nP {p:List Int}:∀ {k:Nat} {n:Int},Ea p (Cu k p n)=Cu k p n->Rt p n (Cu k p n)
 | 0,n,h=>.base h
 | k+1,n,h=>by
  unfold Cu at h ⊢;split
  .rename_i e;exact .base e
  rename_i e;rw[An e]at h;exact .step e (nP h)
theorem ZB {p:List Int} {n:Int} (h:ZA p n=true):Rt p n (Cu 100 p n):=nP (by unfold ZA at h;simpa using h)
abbrev ClD:=List Int×List Int×List (List (Int×Int))
def cX (h:AG):Nat->ClD->List (Int×Int)->Option (Option ClD)
 | 0,_,_=>none
 | k+1,s,W=>match W.getLast? with
  | none=>some (some s)
  | some w =>
   if (ZA s.1 w.1&&ZA s.1 w.2)=true then
    if Cu 100 s.1 w.1=Cu 100 s.1 w.2 then cX h k s W.dropLast
    else if (Bq h (s.2.1.getD (Cu 100 s.1 w.1).toNat 0) (s.2.1.getD (Cu 100 s.1 w.2).toNat 0)).2=false then some none
    else cX h k (s.1.set (Cu 100 s.1 w.2).toNat (Cu 100 s.1 w.1),s.2.1.set (Cu 100 s.1 w.1).toNat (Bq h (s.2.1.getD (Cu 100 s.1 w.1).toNat 0) (s.2.1.getD (Cu 100 s.1 w.2).toNat 0)).1,s.2.2.set (Cu 100 s.1 w.1).toNat (B5 (s.2.2.getD (Cu 100 s.1 w.1).toNat []) (s.2.2.getD (Cu 100 s.1 w.2).toNat [])).1)
     (W.dropLast++(B5 (s.2.2.getD (Cu 100 s.1 w.1).toNat []) (s.2.2.getD (Cu 100 s.1 w.2).toNat [])).2)
   else none
theorem A9N {α:Type} {W:List α} {w:α} (h:W.getLast?=some w):W=W.dropLast++[w]:=by
 obtain⟨a,e⟩:=List.getLast?_eq_some_iff.1 h;rw[e];simp
theorem ZC {h:AG} (hk:GB h) {N:List AE} {P:List (Int×Int)}:∀(k:Nat) (s:ClD) (W:List (Int×Int)),JI h N P s.1 s.2.1 s.2.2 W ->
  (∀t,cX h k s W=some (some t)->JI h N P t.1 t.2.1 t.2.2 [])/\(cX h k s W=some none->∀X v,Cn h X->¬Uh h N P X v)
 | 0,s,W,a=>⟨λt e=>(by cases e),λe=>(by cases e)⟩
 | k+1,s,W,a=>by
  unfold cX;cases g:W.getLast? with
  | none =>
   have:W=[]:=List.getLast?_eq_none_iff.1 g;subst this;refine⟨λt e=>?_,λe=>(by cases e)⟩;have e:s=t:=by simpa using e
   rw[<-e];exact a
  | some w =>
   simp only;have i:=A9N g;obtain⟨x,y⟩:=w;rw[i]at a;by_cases c:(ZA s.1 x&&ZA s.1 y)=true
   .rw[BY c];rw[AT]at c;have ha:=ZB c.1;have d:=ZB c.2;by_cases f:Cu 100 s.1 x=Cu 100 s.1 y
    .rw[BY f];rw[<-f]at d;exact ZC hk k s _ (gE a ha d)
    rw[An f];by_cases b:(Bq h (s.2.1.getD (Cu 100 s.1 x).toNat 0) (s.2.1.getD (Cu 100 s.1 y).toNat 0)).2=false
    .rw[BY b];refine⟨λt e=>(by cases e),λ_ X v j l=>?_⟩;have:=(WG hk a ha d j l).2.1;rw[b]at this;cases this
    rw[An b];have b:(Bq h (s.2.1.getD (Cu 100 s.1 x).toNat 0) (s.2.1.getD (Cu 100 s.1 y).toNat 0)).2=true:=by simpa using b
    exact ZC hk k _ _ (YI hk a ha d f b)
   rw[An c];exact⟨λt e=>(by cases e),λe=>(by cases e)⟩
def Ti (h:AG):ClD->List (Int×Int)->Option (Option ClD)
 | s,[]=>some (some s)
 | s,q :: P=>match cX h 1000 s [q] with
  | some (some t)=>Ti h t P
  | r=>r
theorem cZ {h:AG} (hk:GB h) {N:List AE}:∀(R P:List (Int×Int)) (s:ClD),(∀q∈R,(0<=q.1/\q.1<(N.length:Int))/\(0<=q.2/\q.2<(N.length:Int)))->JI h N P s.1 s.2.1 s.2.2 [] ->
  (∀t,Ti h s R=some (some t)->JI h N (P++R) t.1 t.2.1 t.2.2 [])/\(Ti h s R=some none->∀X v,Cn h X->¬Uh h N (P++R) X v)
 | [],P,s,g,f=>⟨λt e=>by
   have e:s=t:=by simpa[Ti] using e
   rw[<-e,QQ];exact f,λe=>(by cases e)⟩
 | q :: R,P,s,g,f=>by
  obtain⟨a,b⟩:=q;have c:=g (a,b) (by simp);obtain⟨m,n⟩:=ZC hk 1000 s [(a,b)] (YJ f c.1 c.2);have i:P++(a,b) :: R=P++[(a,b)]++R:=by simp
  unfold Ti;rw[i];split
  .rename_i t l;exact cZ hk R (P++[(a,b)]) t (λq c=>g q (by simp[c])) (m t l)
  rename_i r k;refine⟨λt e=>absurd e (k t),λe X v j d=>n e X v j ⟨d.rng,d.ty,d.arc,λq c=>d.eq q (SI _ c)⟩⟩
def A9O (s:ClD):List AE:=(List.range s.1.length).map λk=>(s.2.1.getD k 0,(s.2.2.getD k []).map λa=>(a.1,Cu 100 s.1 a.2))
def iB (s:ClD):Bool:=(List.range s.1.length).all λ(k:Nat)=>ZA s.1 (k:Int)
theorem c5 {h:AG} {N:List AE} {P:List (Int×Int)} {s:ClD} (b:JI h N P s.1 s.2.1 s.2.2 []) (a:iB s=true) {x:Int} (c:0<=x) (e:x<(N.length:Int)):Cu 100 s.1 x=Ek s.1 x:=by
 unfold iB at a;rw[If]at a;have d:=b.lp;have:=a x.toNat (QJ.2 (by omega));rw[ZL c]at this;rw[gG (ZB this)]
theorem A9P {h:AG} {N:List AE} {P:List (Int×Int)} {s:ClD} (b:JI h N P s.1 s.2.1 s.2.2 []) (c:iB s=true):A9O s=quo s.1 s.2.1 s.2.2:=by
 unfold A9O quo;refine QE λk _=>?_
 congr 1
 refine QE λa ha=>?_;have:=(b.arr k a ha).1;rw[c5 b c this.1 this.2]
def A6m (N:List AE):ClD:=(Ct 0 N.length,NJ N,Uk N)
def A9Q (h:AG) (N:List AE) (P:List (Int×Int)):Option (List AE×Bool):=match Ti h (A6m N) P with
 | some (some s)=>if iB s=true then some (AL (A9O s) (Cu 100 s.1 0),true) else none
 | some none=>some ([],false)
 | none=>none
theorem A9R {h:AG} (hk:GB h) {N:List AE} (j:AR N) (k:Cn h N) (hs:∀x∈N,MJ x.2) (h0:0<N.length) {P:List (Int×Int)} (i:∀q∈P,(0<=q.1/\q.1<(N.length:Int))/\(0<=q.2/\q.2<(N.length:Int))) :
  (∀a,A9Q h N P=some (a,true)->∃p ty ar,JI h N P p ty ar []/\a=AL (quo p ty ar) (Ek p 0))/\(∀a,A9Q h N P=some (a,false)->a=[]/\∀X v,Cn h X->¬Uh h N P X v):=by
 obtain⟨f,g⟩:=cZ hk P [] (A6m N) i (gL j k hs);rw[ABz]at f g;unfold A9Q;split
 .rename_i s c;have b:=f s c;split
  .rename_i d;refine⟨λa e=>⟨s.1,s.2.1,s.2.2,b,?_⟩,λa e=>(by cases e)⟩;have e:AL (A9O s) (Cu 100 s.1 0)=a:=by simpa using e
   rw[<-e,A9P b d,c5 b d (by omega) (by omega)]
  exact⟨λa e=>(by cases e),λa e=>(by cases e)⟩
 .rename_i c;refine⟨λa e=>(by cases e),λa e=>⟨?_,g c⟩⟩;have e:[]=a:=by simpa using e
  exact e.symm
 exact⟨λa e=>(by cases e),λa e=>(by cases e)⟩
def sQ (h:AG) (a b:List AE):Option (List AE×Bool):=A9Q h (Ci a b) [(0,(a.length:Int))]
theorem c6 {h:AG} (hu:HU h) {a b:List AE} (va:VF h a) (c:VF h b) (s:a.length+b.length<=10000) {r:List AE×Bool} (g:sQ h a b=some r):Dz h a b=r:=by
 have n:=FI a b;have hap:=va.pos;have o:=c.pos;obtain⟨d,z⟩:=r;have i:=Pp va.good c.good (by omega);obtain⟨l,m⟩:=A9R hu.ok (N:=Ci a b) i (YW va.ty c.ty) (OE va.str c.str) (by omega) (P:=[(0,(a.length:Int))]) (λq k=>by
  have e:q=(0,(a.length:Int)):=by simpa using k
  subst e;simp only;omega)
 cases z with
 | true =>
  obtain⟨p,ty,ar,f,rfl⟩:=l d g;exact Ui hu (gJ va c f (YY f (by omega) (YX (va.ft64 hu) (c.ft64 hu))))
 | false =>
  obtain⟨rfl,j⟩:=m d g;exact b6 va c j
def roB (f:List AE):Bool:=(List.range f.length).all λ(i:Nat)=>i==0||(List.range i).any λj=>(f.getD j (0,[])).2.any λa=>a.2==(i:Int)
def A9S:List (Int×Int)->Bool
 | a :: b :: l=>decide (a.1<b.1)&&A9S (b :: l)
 | _=>true
theorem A0C:∀ {l:List (Int×Int)},A9S l=true->MJ l
 | [],_=>.nil
 | [a],_=>AFF _ _
 | a :: b :: l,h=>by
  simp only[A9S,AT,By]at h;have e:=A0C h.2;refine SK.2 ⟨λc d=>?_,e⟩;rcases DO.1 d with rfl|d
  .exact h.1
  have:=(SK.1 e).1 c d;omega
def vfB (h:AG) (f:List AE):Bool :=
 decide (0<f.length)&&decide (f.length<=100)&&roB f&&(AL f 0==f)&&f.all λx=>decide (0<=x.1)&&decide (x.1<(h.1.length:Int))&&decide (x.2.length<=100)&&A9S x.2&&x.2.all λa=>decide (0<=a.1)&&decide (a.1<(h.2.length:Int))&&decide (0<=a.2)&&decide (a.2<(f.length:Int))
theorem Pw {h:AG} {f:List AE} (g:vfB h f=true):VF h f:=by
 unfold vfB at g;simp only[AT,By,If,SJ]at g;obtain⟨⟨⟨⟨h1,m⟩,d⟩,l⟩,c⟩:=g;refine⟨⟨by omega,λx b=>⟨by have:=(c x b).1.1.2;omega,λa ha=>?_⟩⟩,h1,λx b=>?_,λx b=>?_,λx b a ha=>?_,l,λi n o=>?_⟩
 .have:=(c x b).2 a ha;exact⟨this.1.2,this.2⟩
 .exact(c x b).1.1.1
 .exact A0C (c x b).1.2
 .exact((c x b).2 a ha).1.1
 unfold roB at d;rw[If]at d;have:=d i.toNat (QJ.2 (by omega));rw[QO,SJ]at this;rcases this with e|e
 .omega
 obtain⟨j,k,e⟩:=QC.1 e;obtain⟨a,ha,e⟩:=QC.1 e;have k:=QJ.1 k;refine⟨(j:Int),by omega,by omega,a,by rw[AO,P0];exact ha,?_⟩;have e:a.2=(i.toNat:Int):=by simpa using e
 omega
def Jk:AG:=([(⟨#[116,111,112]⟩,[1048575],[],[]),(⟨#[115,105,103,110]⟩,[265226],[0],[(1,5),(12,18)]),(⟨#[99,97,116]⟩,[3082],[1],[(0,4),(1,5),(12,18)]),(⟨#[105,110,100,101,120]⟩,[480],[0],[]),(⟨#[97,103,114]⟩,[139265],[0],[]),(⟨#[108,105,115,116]⟩,[4612],[0],[]),(⟨#[99,111,110,115]⟩,[4],[5],[(3,0),(11,5)]),(⟨#[100,101,116]⟩,[8],[2],[(0,4),(1,5),(12,18)]),(⟨#[100,108,105,115,116]⟩,[16],[0],[(7,5),(8,5)]),(⟨#[101,110,116,105,116,121]⟩,[32],[3],[]),(⟨#[101,118,101,110,116]⟩,[64],[3],[]),(⟨#[104,97,110,100,108,101]⟩,[128],[3],[]),(⟨#[110]⟩,[1024],[2],[(0,4),(1,5),(12,18)]),(⟨#[110,112]⟩,[2048],[2],[(0,4),(1,5),(12,18)]),(⟨#[110,117,108,108]⟩,[4096],[5],[]),(⟨#[112,108]⟩,[8192],[4],[]),(⟨#[113,101,113]⟩,[16384],[0],[(4,11),(9,11)]),(⟨#[114,101,108]⟩,[32768],[0],[(6,11)]),(⟨#[115,101,109]⟩,[65536],[0],[(2,8),(5,3),(10,8),(13,11)]),(⟨#[115,103]⟩,[131072],[4],[])],[(⟨#[65,71,82]⟩,2),(⟨#[65,82,71,83]⟩,1),(⟨#[67,79,78,83]⟩,18),(⟨#[70,73,82,83,84]⟩,6),(⟨#[72,73,71,72]⟩,16),(⟨#[73,78,68,69,88]⟩,18),(⟨#[76,65,66,69,76]⟩,17),(⟨#[76,65,83,84]⟩,8),(⟨#[76,73,83,84]⟩,8),(⟨#[76,79,87]⟩,16),(⟨#[82,69,76,83]⟩,18),(⟨#[82,69,83,84]⟩,6),(⟨#[83,69,77]⟩,1),(⟨#[84,79,80]⟩,18)])
def sR:List AE:=[(13,[(0,1),(1,2)]),(4,[]),(6,[(3,3),(11,4)]),(7,[(0,1)]),(6,[(3,5),(11,6)]),(12,[(0,1)]),(14,[])]
def nT:List AE:=[(7,[(0,1)]),(19,[])]
def exN:List AE:=[(12,[])]
def exM:List AE:=[(13,[(0,1)]),(4,[])]
def exW:List AE:=[(13,[(0,1)]),(19,[])]
def exF:List AE:=[(13,[(0,1),(1,2)]),(19,[]),(6,[(3,3),(11,4)]),(7,[(0,1)]),(6,[(3,5),(11,6)]),(12,[(0,1)]),(14,[])]
instance baDecK:DecidableEq ByteArray:=λa b =>
 if h:a.data.toList=b.data.toList then isTrue (by
  cases a
  cases b
  exact bY ByteArray.mk (Array.toList_inj.1 h))
 else isFalse λe=>h (by rw[e])
theorem A9U:((Hq SD).1:List (ByteArray×List Int×List Int×List (Int×Int)))=Jk.1:=by decide +kernel
theorem A9V:((Hq SD).2:List (ByteArray×Int))=Jk.2:=by decide +kernel
theorem sS:Hq SD=Jk:=AGw A9U A9V
theorem Tj:cK Jk:=by rw[<-sS];exact ABD _
theorem A0D:Zd Jk:=by rw[<-sS];exact Y9 _
theorem nQ:VF Jk sR:=Pw (by decide +kernel)
theorem A6n:VF Jk nT:=Pw (by decide +kernel)
theorem AEU:VF Jk exN:=Pw (by decide +kernel)
theorem AAh:VF Jk exF:=Pw (by decide +kernel)
theorem AAi:Bn Jk 2 sR=0:=by decide +kernel
theorem AEV:Bn Jk 1 sR=13:=by decide +kernel
theorem AEW {h:AG} (hh:cK h) {a b u:List AE} {r:List AE×Bool} (va:VF h a) (e:VF h b) (d:a.length+b.length<=10000) (h1:sQ h a b=some (u,true)) (c:G0 h u=r):Hj h a b=r:=by
 unfold Hj;rw[c6 hh.hu va e d h1,BY rfl];exact c
theorem AEX {h:AG} (hh:cK h) {a b:List AE} (va:VF h a) (d:VF h b) (c:a.length+b.length<=10000) (h1:sQ h a b=some ([],false)):Hj h a b=([],false):=by
 unfold Hj;rw[c6 hh.hu va d c h1,An (by simp)]
theorem AAj:GA Jk 0=[1,3]:=by decide +kernel
theorem AAk:GA Jk 1=[1,11,3]:=by decide +kernel
theorem ABF:VF Jk (Ak [1,3] nT):=Pw (by decide +kernel)
theorem ABG:VF Jk (Ak [1,11,3] exN):=Pw (by decide +kernel)
theorem ABH:VF Jk (Ak [1,11,3] nT):=Pw (by decide +kernel)
theorem AAl:Hj Jk sR (Ak [1,3] nT)=(exF,true):=AEW Tj (u:=exF) nQ ABF (by decide) (by decide +kernel) (by decide +kernel)
theorem AEY:Hj Jk exF (Ak [1,11,3] exN)=(exF,true):=AEW Tj (u:=exF) AAh ABG (by decide) (by decide +kernel) (by decide +kernel)
theorem AEZ:Hj Jk exF (Ak [1,11,3] nT)=([],false):=AEX Tj AAh ABH (by decide) (by decide +kernel)
theorem AF0:Gb exF (A7 Jk)=exW:=by decide +kernel
theorem AF1:Gb sR (A7 Jk)=exM:=by decide +kernel
theorem A6o:Y0 Jk 2 sR:=A0y (λ_=>nQ) AAi
theorem AF2:B8 Jk 2 sR [nT,exN]=(exW,true):=by
 have h1:CL Jk (GA Jk) 0 sR [nT,exN]=(exF,true):=by
  unfold CL;rw[AAj,AAl,BY rfl];unfold CL;rw[AAk,AEY,BY rfl];rfl
 unfold B8;rw[An (by decide),h1,BY rfl,AF0]
theorem AF3:B8 Jk 2 sR [nT,nT]=([],false):=by
 have h1:CL Jk (GA Jk) 0 sR [nT,nT]=([],false):=by
  unfold CL;rw[AAj,AAl,BY rfl];unfold CL;rw[AAk,AEZ,An (by simp)]
 unfold B8;rw[An (by decide),h1,An (by simp)]
theorem AF4:B8 Jk 2 sR [nT]=([],false):=BY (by decide)
theorem ABI:RA Jk 2 sR [nT,exN]:=⟨Tj,A0D,nQ,by decide,A6o,λx a=>by
 rcases DO.1 a with rfl|a
 .exact⟨A6n,by decide⟩
 rw[QL.1 a];exact⟨AEU,by decide⟩,by decide⟩
theorem ABJ:RA Jk 2 sR [nT,nT]:=⟨Tj,A0D,nQ,by decide,A6o,λx a=>by
 rcases DO.1 a with rfl|a
 .exact⟨A6n,by decide⟩
 rw[QL.1 a];exact⟨A6n,by decide⟩,by decide⟩
section
attribute [local go_sem] KZ KX
def c7:AZ:={ ins:=[FJ],pre:=λ_=>True,out:=λ(d,_)=>[.p ED (Hq d)] }
theorem iC:Ab Tryz.prog 17 c7:=by
 refine fK [0,2,3,4,5,9,16] Tryz.func17 Tryz.ntmps17 (AF p5 (AF Xf AH)) ?_;rintro w0 O0 ⟨d,u⟩ a - -;simp only[c7,AM];repeat'(first|exact trivial|apply eS rfl|apply AB|refine rX a ?_ ?_|refine rC ?_ ?_<;>intro b<;>try(cases b;done))
 .have h1:Hq d=(Aw d).1:=by unfold Hq;rw[BY ⟨by exact eV,b⟩]
  exact fI a [.cell 2 31] (by rw[h1];exact eR)
 .have h1:Hq d=(Aw C0).1:=by unfold Hq;rw[An (λh=>b h.2)]
  exact fI a [.cell 2 31] (by rw[h1];exact eR)
 have h1:Hq d=(Aw C0).1:=by
  unfold Hq;rw[An];intro h;have:=h.1;exact eV
 exact fI a [.cell 2 31] (by rw[h1];exact eR)
end
section
attribute [local go_sem] SE c7 WT cO bB Pv SC Lo J4 cs1 cs2 cs3 cs4 cs5
def c8:AZ:={ ins:=[],pre:=λ_=>True,out:=λ_=>[.p .bool true] }
attribute [local go_sem] c8
theorem A0E:Ab Tryz.prog 19 c8:=by
 refine fKP [0,1,2,3,4,5,6,7,9,11] [15,16,21,22,25,26,29,30,33,34,38,42,43,47,50,51,55,58,59,63,72,80,89] [] Tryz.func19 Tryz.ntmps19 (AF sO (AF iC (AF A2N (AF OH (AF A8L (AF Y6 (AF A9M (AF cU (AF lB AH))))))))) ?_;rintro w0 O0 u a - -;simp only[c8,AM];have c:=sS;have h14:=Tj;have s:=AF2;have t:=AF3;have v:=AF4;have w:=ABI;have x:=ABJ;have c1:=AEV;have c2:=AAi;have p:=AF1;have y:=nQ;have i:H0 Jk ⟨#[110,112]⟩=13:=by decide +kernel
 have j:H0 Jk ⟨#[97,103,114]⟩=4:=by decide +kernel
 have k:H0 Jk ⟨#[99,111,110,115]⟩=6:=by decide +kernel
 have l:H0 Jk ⟨#[100,101,116]⟩=7:=by decide +kernel
 have m:H0 Jk ⟨#[110]⟩=12:=by decide +kernel
 have n:H0 Jk ⟨#[110,117,108,108]⟩=14:=by decide +kernel
 have o:H0 Jk ⟨#[115,103]⟩=19:=by decide +kernel
 have d:G8 Jk [⟨#[65,71,82]⟩,⟨#[65,82,71,83]⟩] [1,2] 2=[(0,1),(1,2)]:=by decide +kernel
 have e:G8 Jk [⟨#[70,73,82,83,84]⟩,⟨#[82,69,83,84]⟩] [3,4] 2=[(3,3),(11,4)]:=by decide +kernel
 have f:G8 Jk [⟨#[65,71,82]⟩] [1] 1=[(0,1)]:=by decide +kernel
 have g:G8 Jk [⟨#[70,73,82,83,84]⟩,⟨#[82,69,83,84]⟩] [5,6] 2=[(3,5),(11,6)]:=by decide +kernel
 have p0:G8 Jk [] [] 0=[]:=rfl;have D:sR=[(13,[(0,1),(1,2)]),(4,[]),(6,[(3,3),(11,4)]),(7,[(0,1)]),(6,[(3,5),(11,6)]),(12,[(0,1)]),(14,[])]:=rfl;have A:nT=[(7,[(0,1)]),(19,[])]:=rfl;have C:exN=[(12,[])]:=rfl;have B:exM=[(13,[(0,1)]),(4,[])]:=rfl;have E:exW=[(13,[(0,1)]),(19,[])]:=rfl;have F:E1 sR=true:=by decide +kernel
 have r:=Th h14 F;simp only[D,A,C,B,E]at s t v w x c1 c2 p y r;generalize Jk=h at *;have b:(h.1,h.2)=h:=rfl;repeat'(first|exact trivial|apply eS rfl|apply AB|refine rP a ?_ ?_|fail)
 simp only[c];refine rT 1 a ?_ ?_
 .first|trivial|exact⟨by decide,by decide⟩|trace_state
 simp only[c,b,i,j,k,l,m,n,o,p0,d,e,f,g];apply eS rfl;refine rT 1 a ?_ ?_
 .first|trivial|exact⟨by decide,by decide⟩|trace_state
 simp only[c,b,i,j,k,l,m,n,o,p0,d,e,f,g];apply eS rfl;refine rT 1 a ?_ ?_
 .first|trivial|exact⟨by decide,by decide⟩|trace_state
 simp only[c,b,i,j,k,l,m,n,o,p0,d,e,f,g];apply eS rfl;refine rT 1 a ?_ ?_
 .first|trivial|exact⟨by decide,by decide⟩|trace_state
 simp only[c,b,i,j,k,l,m,n,o,p0,d,e,f,g];repeat'(first|exact trivial|apply eS rfl|apply AB|refine rP a ?_ ?_|fail)
 refine CQ drawsAny a 13 [([0,1,2,3,4,5,6,7,8,9,11],12)] [10] (by kernel_rfl) (MF ?_ ?_)
 .simp only[c,b,i,j,k,l,m,n,o,p0,d,e,f,g];exact λ_=>w
 simp only[c,b,i,j,k,l,m,n,o,p0,d,e,f,g];refine OL a [] ?_ ?_
 .trivial
 refine Ss a ?_ ?_ ?_
 .trivial
 .simp only[c,b,i,j,k,l,m,n,o,p0,d,e,f,g]
 simp only[s];apply eS rfl;refine rP a ?_ ?_
 .simp only[c,b,i,j,k,l,m,n,o,p0,d,e,f,g];exact λq=>absurd q (by decide)
 simp only[c,b,i,j,k,l,m,n,o,p0,d,e,f,g];simp only[v];apply eS rfl;refine rP a ?_ ?_
 .simp only[c,b,i,j,k,l,m,n,o,p0,d,e,f,g];exact λ_=>x
 simp only[c,b,i,j,k,l,m,n,o,p0,d,e,f,g];simp only[t];repeat'(first|exact trivial|apply eS rfl|apply AB|refine rX a ?_ ?_|refine rC ?_ ?_<;>intro z<;>try(cases z;done))
 .simp only[b,c2,p];exact⟨r,λ_=>⟨by decide,by decide⟩,λ_=>⟨h14.hu,y⟩,λ_=>⟨⟨by decide,by decide⟩,by decide,by decide⟩,λ_=>r⟩
 simp only[b,c1,c2,p,HC];exact fI a [.tmp 0]
end
section
attribute [local go_sem] Pu A2J bA cs4 cs5 tW AAQ ne_eq not_false_eq_true
end
section
attribute [local go_sem] Pu A2J Lo Tg A6b Pv cs4 cs5
end
section
attribute [local go_sem] c7 Ld c8 SC iA Pv J4
theorem A6p {h:AG} (hh:cK h) {ar:Int} {f:List AE} (a:E1 f=true) (c:Bn h ar f=0):VF h f/\f.length<=12/\Y0 h ar f:=by
 obtain⟨-,-,-,b⟩:=Th hh a;have ok:=A0y (λe=>b (Jj e)) c;exact⟨b (Jj ok.chk),(HV a).1,ok⟩
theorem A6q {h:AG} (hh:cK h) (c:Zd h) {ar:Int} {f:List AE} {A B:List (List AE)} (b:J6 h ar f A B=true):RA h ar f A/\RA h ar f B:=by
 unfold J6 at b;simp only[AT,By,If,SJ]at b;obtain⟨⟨⟨⟨v1,i⟩,j⟩,v4⟩,k⟩:=b;obtain⟨d,e,g⟩:=A6p hh v1 i;have key:∀x∈A++B,VF h x/\x.length<=12:=λx a=>by
  have:=k x a;unfold okK at this;rw[AT]at this;exact Yo hh.b1 hh.b2 this.1
 exact⟨⟨hh,c,d,e,g,λx a=>key x (SI _ a),j⟩,⟨hh,c,d,e,g,λx a=>key x (AA3 _ a),v4⟩⟩
end
section
attribute [local go_sem] c7 Ld c8 SC Tg Lo J4
end
section
attribute [local go_sem] c7 c8 iA Pv A5n Jb Nz Lo Tg Pq
def sT:AZ:={ ins:=[T40],pre:=λ_=>True,out:=λ_=>[.p .bool true] }
attribute [local go_sem] sT
theorem A6r:Ab Tryz.prog 7 sT:=by
 refine fK [0,1,2,3,4,5,6,7,8,24,30,45,57] Tryz.func7 Tryz.ntmps7 (AF iC (AF nN (AF A0E (AF Y6 (AF A06 AH))))) ?_;rintro w0 O0 ⟨⟨d,⟨nm,ar,f⟩,A,B⟩,u⟩ c - -;simp only[sT,AM];have hh:=ABD d;have o:=Y9 d;have n:=λr=>A6q (A:=A) (B:=B) (ar:=ar) (f:=f) hh o r;generalize l:Hq d=h at *;have m:(h.1,h.2)=h:=rfl;repeat'(first|exact trivial|apply eS rfl|apply AB|refine rX c ?_ ?_|refine rC ?_ ?_<;>intro a<;>try(cases a;done))
 all_goals try simp only[l]at *
 .exact hh
 .exact fI c [.tmp 2]
 obtain⟨c1,c2⟩:=a;obtain⟨rA,rB⟩:=n c1;have c2:((A.length:Int) != (B.length:Int))=false:=c2;have g:A.length=B.length:=by
  have:=bne_eq_false_iff_eq.1 c2;omega
 refine AI (ι:={k:Nat//k<=A.length/\∀i,i<k->MA h (A.getD i []) (B.getD i [])=true}) (λk=>⟨[(1,.bp 1 [] 0),(3,.bp 3 [] 0),(4,.p (.int .i64) (k.1:Int))],[(3,.box 31 true [.p RB h.1,.p Sv h.2]),(1,.box 40 true [.p FJ d,.p T27 (nm,ar,f),.p T38 A,.p T38 B])]⟩) (λk=>A.length-k.1) ⟨0,IS _,λi hi=>by omega⟩ (AC [(3,.nm 3),(1,.nm 1)] rfl rfl ?_ ?_) (λk=>?_)
 .first|exact eN|refine eM ?_
 .first|exact eN|refine eM ?_
 obtain⟨k,hk,j⟩:=k;have v:=rA.la;simp only;repeat'(first|exact trivial|apply eS rfl|apply AB|refine rX c ?_ ?_|refine rC ?_ ?_<;>intro a<;>try(cases a;done))
 .have e:k<A.length:=IN.1 a;have va:=(rA.va _ (AD A [] e)).1;have b:=(rB.va _ (AD B [] (g▸e))).1;exact⟨a,IN.2 (g▸e),va.good,va.pos,b.good,b.pos,va.ty,b.ty⟩
 .exact fI c [.tmp 2]
 .omega
 .have e:k<A.length:=IN.1 (by assumption);refine⟨⟨k+1,e,λi hi=>?_⟩,by simp only;omega,AC [(3,.nm 3),(1,.nm 1)] rfl rfl ?_ ?_⟩
  .rcases AFC.1 hi with q|q
   .exact j i q
   rw[q];exact a
  .first|exact eN|refine eM ?_
  first|exact eN|refine eM ?_
 .exact λ_=>rB
 .exact fI c [.tmp 2]
 .exact λ_=>rA
 .have b:=(E6 rB a).vf;exact λq=>⟨(E6 rA q).vf.good,(E6 rA q).vf.pos,b.good,b.pos,(E6 rA q).vf.ty,b.ty⟩
 have w:A.length<=k:=P6.1 (by assumption);obtain⟨s,t⟩:=sJ rA rB g (λi hi=>j i (by omega)) a;exact fI c [.tmp 2] (by simp only[s,t,m];exact eR)
def sU:AZ:={ ins:=[T40],pre:=λ_=>True,out:=λ_=>[.p .bool true] }
attribute [local go_sem] sU
theorem A6s:Ab Tryz.prog 8 sU:=by
 refine fK [0,1,2,3,4,5,6,7,8,10,17,29,65,70,97] Tryz.func8 Tryz.ntmps8 (AF iC (AF nN (AF A0E (AF Y6 (AF A06 (AF Nw (AF bP (AF cU (AF A6f (AF m8 AH)))))))))) ?_;rintro w0 O0 ⟨⟨d,⟨nm,ar,f⟩,A,B⟩,u⟩ b - -;simp only[sU,AM];have hh:=ABD d;have n:=Y9 d;have g:=λC=>(A6q (A:=A) (B:=B) (ar:=ar) (f:=f) hh n C).1;generalize v:Hq d=h at *;have x:(h.1,h.2)=h:=rfl;repeat'(first|exact trivial|apply eS rfl|apply AB|refine rX b ?_ ?_|refine rC ?_ ?_<;>intro a<;>try(cases a;done))
 all_goals try simp only[v]at *
 .exact hh
 .exact fI b [.tmp 2]
 .exact λ_=>g a
 .have E:(B8 h ar f A).1=[]:=sI a;exact fI b [.tmp 2] (by rw[show (B8 (h.1,h.2) ar f A).1=[] from E];exact eR)
 .have r:=g (by assumption);have q:=E6 r a;have o:=A5Y hh.hu q.vf;have m:f.length<=10000:=QB r.lf (by decide);have j:=WN r.vf.pf m (A7 h);exact⟨λ_=>o.1,λ_=>⟨hh.ft,o⟩,λ_=>⟨hh.hu,r.vf,m⟩,λ_=>⟨j.good,j.pos,q.vf.good,q.vf.pos,j.ty,q.vf.ty⟩⟩
 .have r:=g (by assumption);have c:(B8 h ar f A).2=true:=by assumption
  have q:=E6 r c;rcases a with ((e|e)|e)|e
  .exact absurd (r.res c).1 e
  .exact absurd q.chk.1 e
  .exact absurd q.chk.2 e
  have e:MA h (Gb f (A7 h)) (B8 h ar f A).1=false:=e;rw[q.sub]at e;cases e
 have r:=g (by assumption);have c:(B8 h ar f A).2=true:=by assumption
 have q:=E6 r c;have I:=(r.res c).1;clear a;refine AI (ι:={k:Nat//k<=A.length}) (λk=>⟨[(1,.bp 1 [] 0),(3,.bp 3 [] 0),(6,.p (.int .i64) (k.1:Int))],[(3,.box 31 true [.p RB h.1,.p Sv h.2]),(1,.box 40 true [.p FJ d,.p T27 (nm,ar,f),.p T38 A,.p T38 B])]⟩) (λk=>A.length-k.1) ⟨0,IS _⟩ (AC [(3,.nm 3),(1,.nm 1)] rfl rfl ?_ ?_) (λk=>?_)
 .first|exact eN|refine eM ?_
 .first|exact eN|refine eM ?_
 obtain⟨k,hk⟩:=k;have G:=r.la;simp only;repeat'(first|exact trivial|apply eS rfl|apply AB|refine rP b ?_ ?_|fail)
 refine rC (λa=>?_) λa=>?_
 .have i:k<A.length:=IN.1 a;have l:((k:Nat):Int)<ar:=by omega
  have w:Y5 h ar f (k:Int)=(Pt f (GA h k),(CR f 0 (GA h k)).2):=BY ⟨To _,l⟩;obtain⟨s,⟨t,F⟩,-⟩:=A9D hh n r.vf r.ok l;have y:=(q.kid k i).2;have D:=r.va _ (AD A [] i);have H:=r.lf;repeat'(first|exact trivial|apply eS rfl|apply AB|refine rP b ?_ ?_|fail)
  .exact λ_ _=>⟨hh.hu,r.vf,r.ok.arb.2⟩
  simp only[x,w];have z:(HU h/\VF h (Pt f (GA h k))/\VF h (A.getD k [])/\(Pt f (GA h k)).length+(A.getD k []).length<=10000):=⟨hh.hu,t,D.1,by omega⟩;refine CQ drawsAny b 13 [([0,1,2,3,4,5,6,7,8,9,11],12)] [10] (by kernel_rfl) (MF ?_ ?_)
  .exact⟨a,z⟩
  refine OL b [] ?_ ?_
  .trivial
  refine Ss b ?_ ?_ ?_
  .trivial
  .trivial
  repeat'(first|exact trivial|apply eS rfl|apply AB|refine rX b ?_ ?_|refine rC ?_ ?_<;>intro a<;>try(cases a;done))
  .rcases a with e|e
   .have e:(CR f 0 (GA h k)).2=false:=e;rw[s]at e;cases e
   have e:(Dz h (Pt f (GA h k)) (A.getD k [])).2=false:=e;rw[y]at e;cases e
  .omega
  refine⟨⟨k+1,i⟩,by simp only;omega,AC [(3,.nm 3),(1,.nm 1)] rfl rfl ?_ ?_⟩
  .first|exact eN|refine eM ?_
  first|exact eN|refine eM ?_
 repeat'(first|exact trivial|apply eS rfl|apply AB|refine rX b ?_ ?_|refine rC ?_ ?_<;>intro a<;>try(cases a;done))
 exact fI b [.tmp 2]
end
end Go.Proofs.YtapkhdkbkodbjaaGreat.Fw
