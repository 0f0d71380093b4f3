/- Contracts of the program's and the reference's functions, and the plain laws of what they compute: U4 U5 U6 U7 U8 U9 U10 U11 U12 N8 N9 V1 V2 V4 V5 V6 V9 V10 T19 T20 T22 T24 W6 T26 U14 W7 T27 T21 T23 T25 U13 V3 SN V11 V7 V8 T28 U17 H4 V14 T17 T18 L21 T30 W10 J1 I1 H2 H3 J2 V15 V16 J3 I2 I5 T29 K1. -/
import Derived.Test.YtapkhdkbkodbjaaGreatIYB
import Derived.Test.YtapkhdkbkodbjaaGreatIZI
import Derived.Test.YtapkhdkbkodbjaaGreatIYA
import Derived.Laws.Strings
set_option linter.unusedVariables false
set_option linter.unusedSimpArgs false
namespace Go.Proofs.YtapkhdkbkodbjaaGreat.Fw
open Go
attribute [local irreducible] Ev
attribute [local go_sem] i9 AM List.toList_toArray B1 evG evK ZN E7 LC HK GM JJ Tq OW DS Dd NS Cj DK frz nV HE Db BB GE Bj AV.frz AV.frzs AV.drp AV.drps AV.names AV.namess aq HG Lq Kt Uu Jl Bk Bt KA El JB Em JD JC JE WV QV Hd Kv GG Ee WW SV qUn KB JF MM Fk D7 Jo Kw Eo Uv Dn Ep FW SW JG OU Fv OT QW SX MN Jp Kx Eq D8 Hl EA II Dp FX Dq Er GI Cj Cv QT SU Ow G9 Jn Jm Ku QZ Tn OV MR MP K0 Tp MQ LA dB Qb Qa AV.trn AV.trns FN DR Obj.trn KP jQ D9 Et Ef Es Cl FY Ap lk Hr HF ID bin nU ZQ nX Tl zf1 zfs pfs AV.cells CO J8 QU Kz QY Cf OP Ty.cell1 JA FO D6 Ge Lp FM Ks ML SR Fu Hc OI Us WU MK Kq c9 iH Tk OQ DJ J9 RV.flat Ty.flat Ty.size St.add upd del Bl Value.oneCell' MC Ty.dflt I9 Qs IR Q2 List.take_succ_cons List.take_zero List.length_cons jH jI Q1 KM Mf H7 KN A3t GN Nf Ng Nh Ni Sh Si Nj JO Wm Option.map_some Option.map_none Option.bind_some Option.getD_some Option.getD_none Option.isNone_none Option.isNone_some Bool.and_true Bool.true_and Bool.and_false Bool.false_and Bool.not_true Bool.not_false if_true if_false List.length_cons List.length_nil and_true true_and and_self List.all_cons List.all_nil List.append_nil List.nil_append List.cons_append List.getElem?_cons_zero List.getElem?_cons_succ List.getElem?_nil List.map_cons List.map_nil List.set_cons_zero List.set_cons_succ List.isEmpty_nil List.isEmpty_cons decide_true decide_false beq_self_eq_true bne_self_eq_false Nat.zero_add Nat.add_zero Nat.sub_zero Int.toNat_natCast Int.toNat_zero Int.toNat_one List.take_length List.length_append List.length_singleton true_or or_true or_self false_or or_false Ty.agg.injEq Ty.slice.injEq Ty.prod.injEq Ty.int.injEq Option.some.injEq beq_iff_eq Lx evMG evMQ opM IU Mc B9 KK He Qv KI IT JP LK Lw PI Oa PJ Uy Md Qw Qx KJ Ad Al Op.operands Call.operands List.filterMap_cons List.filterMap_nil List.append_eq Bool.cond_false_right Bool.cond_true_left cond_true cond_false implies_true decide_eq_true_eq beq_true beq_false Bool.or_true Bool.or_false Bool.true_or Bool.false_or Option.isSome_some Array.empty_append List.append_toArray GF NT FZ IE dA QX GH Gm Gl JH IG Ky MO ZR nW IC inB LB GJ HA KC Aq jJ List.drop_zero Df IV eB CZ LO CX AV.fgt AV.fgts Obj.fgt A1 Aj Ad DV Iz BS HL List.any_cons List.any_nil oT jK eC jL Mi Sn qs List.flatMap_cons List.flatMap_nil List.cons_append tn eF KQ List.take_succ_cons List.drop_succ_cons eJ Hf BV tR Nn CG CY Ag Fc LJ Bv Fb EC IP JN Gr IQ
attribute [local go_sem] ty1 ty2 ty3 ty4 ty5 ty9 A7j A7k A7l A7m A7n A7o A7p A7q A7r A7s A7t A7u A7v A7w A7x A7y A7z A7A A7B A7C A7D A7E A7F A7G A7H A7I A7J A7K A7L A7M A7N A7O A7P A7Q A7R A7S A7T A7U A7V A7W A7X A7Y A7Z A80 A81 A82 A83 A84 A85 A86 A87 A88 A89 A8a A8b A8c A8d A8e A8f A8g A8h A8i A8j A8k A8l A8m A8n A8o A8p A8q A8r tZ t8 t9 uA uB uC uD uE uF uG uH uI uJ uK uL uM uN uP uQ uR uS uT uU uV uW uX uY uZ u3 u4 u5 u6 u7 u9 vA vB vC vD vE vF vG vH vI vJ vK vL vM vN vO vP vQ vS vT vU vV vW vY vZ v6 v7 v8 v9 wA wB wC wD wF wG wH wI wJ wK wL wM wN wP wQ wR wS wT wU wV wW wX wY wZ w4 w5 w6 w7 w8 w9 xA xB xC xD xE xF xG xH xI xJ xK xL xM xN xO xP xQ xR xS xT xU xV xW xX xY xZ x5 x6 x7 x8 x9 yA yB yC yD yE yF yG yH yI yJ yK yL yM yN yO yP yQ yR yS yT yU yV yW yX yY yZ y3 y4 y5 y6 y7 y8 y9 zA zB zC zD zE zF zG zH zI zJ
set_option maxRecDepth 100000
set_option maxHeartbeats 4000000
section
attribute [local go_sem] z1
def B5:List (Int×Int)->List (Int×Int)->List (Int×Int)×List (Int×Int)
 | [],y=>(y,[])
 | a :: x,[]=>(a :: x,[])
 | a :: x,b :: y =>
  if a.1<b.1 then (a :: (B5 x (b :: y)).1,(B5 x (b :: y)).2)
  else if b.1<a.1 then (b :: (B5 (a :: x) y).1,(B5 (a :: x) y).2)
  else (a :: (B5 x y).1,(a.2,b.2) :: (B5 x y).2)
termination_by x y=>x.length+y.length
structure rH (xs ys:List (Int×Int)) (W0:List (Int×Int)) (s:(List (Int×Int)×List (Int×Int))×(List (Int×Int)×List (Int×Int)×Nat)):Prop where
 hi:s.2.2.2<=s.2.2.1.length
 both:s.2.1++(B5 s.1.1 s.1.2).1=(B5 xs ys).1
 wait:s.2.2.1.take s.2.2.2++(B5 s.1.1 s.1.2).2=W0++(B5 xs ys).2
 len:s.2.1.length+s.1.1.length+s.1.2.length<=xs.length+ys.length
 num:s.2.2.2+s.1.1.length<=W0.length+xs.length
theorem AEI {x y:List (Int×Int)} (h0:0<x.length) (h:y.length=0\/(x.getD 0 (0,0)).1<(y.getD 0 (0,0)).1):B5 x y=(x.getD 0 (0,0) :: (B5 (x.drop 1) y).1,(B5 (x.drop 1) y).2):=by
 cases x with
 | nil=>simp at h0
 | cons a x =>
  cases y with
  | nil =>
   simp only[oR,SP];cases x<;>simp[B5]
  | cons b y =>
   have h:a.1<b.1:=by simpa using h
   simp only[oR,SP];rw[B5,BY h];rfl
theorem AEJ {x y:List (Int×Int)} (h0:0<y.length) (h:x.length=0\/(y.getD 0 (0,0)).1<(x.getD 0 (0,0)).1):B5 x y=(y.getD 0 (0,0) :: (B5 x (y.drop 1)).1,(B5 x (y.drop 1)).2):=by
 cases y with
 | nil=>simp at h0
 | cons b y =>
  cases x with
  | nil=>simp[B5]
  | cons a x =>
   have h:b.1<a.1:=by simpa using h
   simp only[oR,SP];rw[B5,An (by omega),BY h];rfl
theorem AB8 {x y:List (Int×Int)} (h0:0<x.length) (h1:0<y.length) (h:(x.getD 0 (0,0)).1=(y.getD 0 (0,0)).1):B5 x y=(x.getD 0 (0,0) :: (B5 (x.drop 1) (y.drop 1)).1,((x.getD 0 (0,0)).2,(y.getD 0 (0,0)).2) :: (B5 (x.drop 1) (y.drop 1)).2):=by
 cases x with
 | nil=>simp at h0
 | cons a x =>
  cases y with
  | nil=>simp at h1
  | cons b y =>
   have h:a.1=b.1:=by simpa using h
   simp only[oR,SP];rw[B5,An (by omega),An (by omega)];rfl
section
variable {xs ys W0 x y bo V:List (Int×Int)} {k:Nat}
theorem AB9 (h:rH xs ys W0 ((x,y),bo,V,k)) (h0:0<x.length) (f:y.length=0\/(x.getD 0 (0,0)).1<(y.getD 0 (0,0)).1):rH xs ys W0 ((x.drop 1,y),bo++[x.getD 0 (0,0)],V,k):=by
 have e:=AEI h0 f;obtain⟨h1,a,b,c,d⟩:=h;simp only at h1 a b c d;rw[e]at a b;exact⟨h1,by rw[QK];exact a,b,by simp only[IF,Pz,SM];omega,by simp only[SM];omega⟩
theorem ABa (h:rH xs ys W0 ((x,y),bo,V,k)) (h0:0<y.length) (f:x.length=0\/(y.getD 0 (0,0)).1<(x.getD 0 (0,0)).1):rH xs ys W0 ((x,y.drop 1),bo++[y.getD 0 (0,0)],V,k):=by
 have e:=AEJ h0 f;obtain⟨h1,a,b,d,c⟩:=h;simp only at h1 a b d c;rw[e]at a b;exact⟨h1,by rw[QK];exact a,b,by simp only[IF,Pz,SM];omega,c⟩
theorem A9d (h:rH xs ys W0 ((x,y),bo,V,k)) (h0:0<x.length) (h1:0<y.length) (g:(x.getD 0 (0,0)).1=(y.getD 0 (0,0)).1):rH xs ys W0 ((x.drop 1,y.drop 1),bo++[x.getD 0 (0,0)],V.take k++[((x.getD 0 (0,0)).2,(y.getD 0 (0,0)).2)],k+1):=by
 have e:=AB8 h0 h1 g;obtain⟨c,a,b,d,f⟩:=h;simp only at c a b d f;rw[e]at a b;have i:(V.take k++[((x.getD 0 (0,0)).2,(y.getD 0 (0,0)).2)]).length=k+1:=by simp only[IF,Pz,OS];omega
 exact⟨by simp only[i];omega,by rw[QK];exact a,by simp only;rw[As (by omega),QK];exact b,by simp only[IF,Pz,SM];omega,by simp only[SM];omega⟩
end
def mgO (h:AG) (p ty:List Int) (ar:List (List (Int×Int))) (W:List (Int×Int)) (hi:Nat):List (Nat×Obj) :=
 [(1,.box 111 true [.p ED h,.sr 2 T3 0 p.length,.sr 3 T3 0 ty.length,.sr 4 DM 0 ar.length]),(2,.arr 3 T3 p),(3,.arr 3 T3 ty),(4,.arr 91 DM ar),(5,.box 108 false [.bp 1 [] 0]),(6,.box 173 false [.sr 7 Su 0 hi]),(7,.arr 172 Su W)]
theorem A5t (h:AG) (hh:h.1.length<=100000) (H:∀x∈h.1,x.2.1.length<=100000) (p ty:List Int) (ar:List (List (Int×Int))) (W:List (Int×Int)) (hi:Nat) (I:hi<=W.length) (O:hi<=100000000000) {a b:Int} (m:0<=a) (M:a<(p.length:Int)) (o:0<=b) (b1:b<(p.length:Int)) (U:ty.length=p.length) (N:ar.length=p.length)
  (ta:0<=ty.getD a.toNat 0/\ty.getD a.toNat 0<(h.1.length:Int)) (tb:0<=ty.getD b.toNat 0/\ty.getD b.toNat 0<(h.1.length:Int)) (P:(ar.getD a.toNat []).length<=10000000) (Q:(ar.getD b.toNat []).length<=10000000) :
  BK Tryz.prog 134 [.p T3 a,.p T3 b,.bp 5 [] 0,.bp 6 [] 0] (mgO h p ty ar W hi) [1,5,6]
  (λres A=>((Bq h (ty.getD a.toNat 0) (ty.getD b.toNat 0)).2=false/\res=.p .bool false/\A=mgO h p ty ar W hi) \/
   ((Bq h (ty.getD a.toNat 0) (ty.getD b.toNat 0)).2=true/\res=.p .bool true/\∃n q,q<=n.length/\n.take q=W.take hi++(B5 (ar.getD a.toNat []) (ar.getD b.toNat [])).2 /\
    A=mgO h (p.set b.toNat a) (ty.set a.toNat (Bq h (ty.getD a.toNat 0) (ty.getD b.toNat 0)).1) (ar.set a.toNat (B5 (ar.getD a.toNat []) (ar.getD b.toNat [])).1) n q)):=by
 refine LQ [0,1,2,3,6,7,8,9,10,11,35,71,94,122] [] [] Tryz.func134 Tryz.ntmps134 (AF z2 AH) ?_;intro w0 K O0 ρ0 d R S;have u:a<(ty.length:Int):=by omega
 have C:b<(ty.length:Int):=by omega
 have r:a<(ar.length:Int):=by omega
 have B:b<(ar.length:Int):=by omega
 simp only[mgO,Aq];repeat'(first|exact trivial|apply eS rfl|refine rX d ?_ ?_|refine rC ?_ ?_<;>intro c<;>try(cases c;done))
 .refine⟨⟨m,u⟩,⟨o,C⟩,ta,tb,hh,H⟩
 .refine Ev.ent (σ':=⟨[(6,.p .bool false)],mgO h p ty ar W hi⟩) ?_ (AC [(1,.nm 1),(2,.nm 2),(3,.nm 3),(4,.nm 4),(5,.nm 5),(6,.nm 6),(7,.nm 7)] rfl rfl ?_ ?_)
  .exact fM d [.tmp 6] (.p .bool false) eT (.inl ⟨c,rfl,rfl⟩)
  .unfold mgO;exact eN
  exact eN
 .exact⟨o,b1⟩
 .exact⟨m,u⟩
 .exact⟨⟨m,r⟩,o,B⟩
 generalize T:(Bq h (ty.getD a.toNat 0) (ty.getD b.toNat 0)).1=t at *;generalize X:ar.getD a.toNat []=xs at *;generalize Y:ar.getD b.toNat []=ys at *;refine AI (ι:={s:(List (Int×Int)×List (Int×Int))×(List (Int×Int)×List (Int×Int)×Nat)//rH xs ys (W.take hi) s}) (λs=>⟨[(0,.p T3 a),(1,.p T3 b),(2,.bp 5 [] 0),(3,.bp 6 [] 0),(9,.p DM s.1.1.1),(10,.p DM s.1.1.2),(11,.sr 11 AW 0 s.1.2.1.length)],[(1,.box 111 true [.p ED h,.sr 2 T3 0 p.length,.sr 3 T3 0 ty.length,.sr 4 DM 0 ar.length]),(2,.arr 3 T3 (p.set b.toNat a)),(3,.arr 3 T3 (ty.set a.toNat t)),(4,.arr 91 DM ar),(5,.box 108 false [.bp 1 [] 0]),(6,.box 173 false [.sr 7 Su 0 s.1.2.2.2]),(7,.arr 172 Su s.1.2.2.1),(11,.arr 106 AW s.1.2.1)]⟩) (λs=>s.1.1.1.length+s.1.1.2.length) ⟨((xs,ys),([],W,hi)),I,rfl,rfl,by simp,by simp only[OS];omega⟩ (eW [(1,.nm 1),(2,.nm 2),(3,.nm 3),(4,.nm 4),(5,.nm 5),(6,.nm 6),(7,.nm 7),(11,.nil)]) (λs=>?_)
 obtain⟨⟨⟨x,y⟩,bo,V,k⟩,i⟩:=s;have J:=i.len;have L:=i.num;have w:=i.hi;simp only[OS]at J L w ⊢;repeat'(first|exact trivial|apply eS rfl|refine rX d ?_ ?_|refine rC ?_ ?_<;>intro c<;>try(cases c;done))
 .refine⟨λh=>?_,λh=>?_⟩
  .rw[AT,By]at h;exact h.2
  rw[AT,Px,VX]at h;have E:=h.1;have l:y.length≠0:=λe=>E (by rw[e];rfl);exact IN.2 (AAb l)
 .have f:0<x.length:=by
   rcases c with c|c
   .omega
   exact IN.1 c.1
  have F:y.length=0\/(x.getD 0 (0,0)).1<(y.getD 0 (0,0)).1:=by
   rcases c with c|c
   .exact .inl (AGi c)
   exact .inr c.2
  refine CQ drawsAny d 9 [([0,1,2,3,4],5),([],8)] [6,7] (by kernel_rfl) (MF ?_ ?_)
  .exact⟨IN.2 f,P6.2 f⟩
  refine OL d [11] ?_ ?_
  .simp only[AQ];omega
  refine MF ?_ ?_
  .exact P6.2 f
  refine OL d [] ?_ ?_
  .trivial
  refine Ss d ?_ ?_ ?_
  .exact P6.2 f
  .trivial
  repeat'(first|apply eS rfl|apply AB)
  exact⟨⟨((x.drop 1,y),bo++[x.getD 0 (0,0)],V,k),AB9 i f F⟩,by simp only[SM];omega,eW [(1,.nm 1),(2,.nm 2),(3,.nm 3),(4,.nm 4),(5,.nm 5),(6,.nm 6),(7,.nm 7),(11,.nm 11)]⟩
 .have l:y.length≠0:=λe=>c.1 (by rw[e];rfl);have D:0<y.length:=AAb l;refine⟨λh=>IN.2 D,λh=>?_⟩
  rw[Px,VX]at h;have l:x.length≠0:=λe=>h (by rw[e];rfl);exact IN.2 (AAb l)
 .have g:0<y.length:=AAb λe=>(by assumption:¬_/\_).1 (by rw[e];rfl);have j:x.length=0\/(y.getD 0 (0,0)).1<(x.getD 0 (0,0)).1:=by
   rcases c with c|c
   .exact .inl (AGi c)
   exact .inr c
  refine CQ drawsAny d 9 [([0,1,2,3,4],5),([],8)] [6,7] (by kernel_rfl) (MF ?_ ?_)
  .exact⟨IN.2 g,P6.2 g⟩
  refine OL d [11] ?_ ?_
  .simp only[AQ];omega
  refine MF ?_ ?_
  .exact P6.2 g
  refine OL d [] ?_ ?_
  .trivial
  refine Ss d ?_ ?_ ?_
  .exact P6.2 g
  .trivial
  repeat'(first|apply eS rfl|apply AB)
  exact⟨⟨((x,y.drop 1),bo++[y.getD 0 (0,0)],V,k),ABa i g j⟩,by simp only[SM];omega,eW [(1,.nm 1),(2,.nm 2),(3,.nm 3),(4,.nm 4),(5,.nm 5),(6,.nm 6),(7,.nm 7),(11,.nm 11)]⟩
 .rename_i j;have f:0<x.length:=AAb λe=>c.1 (by rw[e];rfl);have g:0<y.length:=AAb λe=>j.1 (by rw[e];rfl);refine⟨IN.2 f,IN.2 g,?_⟩;simp only[AQ];omega
 .rename_i j;have f:0<x.length:=AAb λe=>c.1 (by rw[e];rfl);have g:0<y.length:=AAb λe=>j.1 (by rw[e];rfl);have G:(x.getD 0 (0,0)).1=(y.getD 0 (0,0)).1:=Int.le_antisymm c.2 (j.2 (IN.2 f));refine CQ drawsAny d 12 [([0,1,2,3,4],5),([],10),([6,7],11)] [8,9] (by kernel_rfl) (MF ?_ ?_)
  .exact⟨IN.2 f,P6.2 f,P6.2 g⟩
  refine OL d [11] ?_ ?_
  .simp only[AQ];omega
  refine MF ?_ ?_
  .exact⟨P6.2 f,P6.2 g⟩
  refine OL d [] ?_ ?_
  .trivial
  refine MF ?_ ?_
  .exact⟨P6.2 f,P6.2 g⟩
  refine OL d [] ?_ ?_
  .trivial
  refine Ss d ?_ ?_ ?_
  .exact P6.2 g
  .trivial
  repeat'(first|apply eS rfl|apply AB)
  exact⟨⟨((x.drop 1,y.drop 1),bo++[x.getD 0 (0,0)],V.take k++[((x.getD 0 (0,0)).2,(y.getD 0 (0,0)).2)],k+1),A9d i f g G⟩,by simp only[SM];omega,eW [(1,.nm 1),(2,.nm 2),(3,.nm 3),(4,.nm 4),(5,.nm 5),(6,.nm 6),(7,.nm 7),(11,.nm 11)]⟩
 .exact⟨m,r⟩
 have f:x=[]:=QI (by omega);have g:y=[]:=QI (by omega);subst f g;have v:=i.both;have z:=i.wait;simp only[B5,QQ]at v z;refine Ev.ent (σ':=⟨[(6,.p .bool true)],mgO h (p.set b.toNat a) (ty.set a.toNat t) (ar.set a.toNat bo) V k⟩) ?_ (AC [(1,.nm 1),(2,.nm 2),(3,.nm 3),(4,.nm 4),(5,.nm 5),(6,.nm 6),(7,.nm 7)] rfl rfl ?_ ?_)
 .exact fM d [.tmp 6] (.p .bool true) eT (.inr ⟨by assumption,rfl,V,k,w,z,by rw[v];rfl⟩)
 .unfold mgO;simp only[SL];exact eN
 exact eN
end
theorem Li {h:AG} (hk:GB h) {a b c:Int} (d:0<=a) (e:a<(h.1.length:Int)) (f:0<=b) (b1:b<(h.1.length:Int)) (c0:0<=c) (c1:c<(h.1.length:Int)) (h1:A2 h a b=true) (g:A2 h b c=true):A2 h a c=true :=
 (B4 hk d e c0 c1).2 λi hi=>(B4 hk d e f b1).1 h1 i ((B4 hk f b1 c0 c1).1 g i hi)
theorem Rs:∀ {x y:List (Int×Int)} {a:Int×Int},a∈x->a∈(B5 x y).1
 | [],_,_,h=>by cases h
 | b :: x,[],a,h=>by simpa[B5] using h
 | b :: x,c :: y,a,h=>by
  rw[B5];split
  .rcases DO.1 h with rfl|h
   .simp
   exact NO _ (Rs h)
  split
  .exact NO _ (Rs h)
  rcases DO.1 h with rfl|h
  .simp
  exact NO _ (Rs h)
termination_by x y=>x.length+y.length
theorem OB:∀ {x y:List (Int×Int)} {a:Int×Int},a∈y->a∈(B5 x y).1\/∃t,(a.1,t)∈(B5 x y).1/\(t,a.2)∈(B5 x y).2
 | [],y,a,h=>by
  left;simpa[B5] using h
 | b :: x,[],a,h=>by cases h
 | b :: x,c :: y,a,h=>by
  rw[B5];split
  .rcases OB (x:=x) h with g|⟨t,d,e⟩
   .exact .inl (NO _ g)
   exact .inr ⟨t,NO _ d,e⟩
  split
  .rcases DO.1 h with rfl|h
   .left;simp
   rcases OB (x:=b :: x) h with g|⟨t,d,e⟩
   .exact .inl (NO _ g)
   exact .inr ⟨t,NO _ d,e⟩
  rcases DO.1 h with rfl|h
  .right;exact⟨b.2,by rw[show a.1=b.1 by omega];simp,by simp⟩
  rcases OB (x:=x) h with g|⟨t,d,e⟩
  .exact .inl (NO _ g)
  exact .inr ⟨t,NO _ d,NO _ e⟩
termination_by x y=>x.length+y.length
theorem Jh:∀ {x y:List (Int×Int)} {a:Int×Int},a∈(B5 x y).1->a∈x\/a∈y
 | [],y,a,h=>by
  right;simpa[B5] using h
 | b :: x,[],a,h=>by
  left;simpa[B5] using h
 | b :: x,c :: y,a,h=>by
  rw[B5]at h;split at h
  .rcases DO.1 h with rfl|h
   .left;simp
   rcases Jh h with g|g
   .exact .inl (NO _ g)
   exact .inr g
  split at h
  .rcases DO.1 h with rfl|h
   .right;simp
   rcases Jh h with g|g
   .exact .inl g
   exact .inr (NO _ g)
  rcases DO.1 h with rfl|h
  .left;simp
  rcases Jh h with g|g
  .exact .inl (NO _ g)
  exact .inr (NO _ g)
termination_by x y=>x.length+y.length
theorem Ru:∀ {x y:List (Int×Int)} {q:Int×Int},q∈(B5 x y).2->∃e,(e,q.1)∈x/\(e,q.2)∈y
 | [],y,q,h=>by simp[B5]at h
 | b :: x,[],q,h=>by simp[B5]at h
 | b :: x,c :: y,q,h=>by
  rw[B5]at h;split at h
  .obtain⟨e,h1,a⟩:=Ru h;exact⟨e,NO _ h1,a⟩
  split at h
  .obtain⟨e,h1,a⟩:=Ru h;exact⟨e,h1,NO _ a⟩
  rcases DO.1 h with rfl|h
  .exact⟨b.1,by simp,by rw[show b.1=c.1 by omega];simp⟩
  obtain⟨e,h1,a⟩:=Ru h;exact⟨e,NO _ h1,NO _ a⟩
termination_by x y=>x.length+y.length
theorem Rv:∀ {x y:List (Int×Int)},(B5 x y).2.length<=x.length
 | [],y=>by simp[B5]
 | b :: x,[]=>by simp[B5]
 | b :: x,c :: y=>by
  rw[B5];split
  .have:=Rv (x:=x) (y:=c :: y);simp only[Of];omega
  split
  .exact Rv (x:=b :: x) (y:=y)
  have:=Rv (x:=x) (y:=y);simp only[Of];omega
termination_by x y=>x.length+y.length
abbrev MJ (l:List (Int×Int)):Prop:=l.Pairwise (λa b=>a.1<b.1)
theorem WF:∀ {x y:List (Int×Int)},MJ x->MJ y->MJ (B5 x y).1
 | [],y,_,h=>by simpa[B5] using h
 | b :: x,[],h,_=>by simpa[B5] using h
 | b :: x,c :: y,i,j=>by
  have d:=SK.1 i;have e:=SK.1 j;rw[B5];split
  .rename_i f;refine SK.2 ⟨λa ha=>?_,WF d.2 j⟩;rcases Jh ha with g|g
   .exact d.1 a g
   rcases DO.1 g with rfl|g
   .exact f
   have:=e.1 a g;omega
  split
  .rename_i f;refine SK.2 ⟨λa ha=>?_,WF i e.2⟩;rcases Jh ha with g|g
   .rcases DO.1 g with rfl|g
    .exact f
    have:=d.1 a g;omega
   exact e.1 a g
  refine SK.2 ⟨λa ha=>?_,WF d.2 e.2⟩;rcases Jh ha with g|g
  .exact d.1 a g
  have:=e.1 a g;omega
termination_by x y=>x.length+y.length
theorem A9e {p:List Int} {o:Int->Nat} (hp:Fo p o) {a b:Int} (j:0<=a) (c:0<=b) (b1:b<(p.length:Int)) (ha:Ea p a=a) (k:Ea p b=b) (f:a≠b) {x r:Int} (d:0<=x) (q:x<(p.length:Int)) (h:Rt p x r):Rt (p.set b.toNat a) x (if r=b then a else r):=by
 have l:Rt (p.set b.toNat a) a a:=.base (by rw[DH c b1 a j,An f];exact ha);induction h with
 | @base n hn =>
  split
  .rename_i e;rw[e];exact .step (by rw[DH c b1 b c,BY rfl];exact f) (by rw[DH c b1 b c,BY rfl];exact l)
  rename_i e;exact .base (by rw[DH c b1 n d,An e];exact hn)
 | @step n r hn _ m =>
  have g:n≠b:=λe=>hn (e▸k);have i:=hp.rng n d q;exact .step (by rw[DH c b1 n d,An g];exact hn) (by rw[DH c b1 n d,An g];exact m i.1 i.2)
theorem A9f {p:List Int} {c:Int->Nat} (hp:Fo p c) {a b:Int} (h:0<=a) (i:a<(p.length:Int)) (d:0<=b) (b1:b<(p.length:Int)) (ha:Ea p a=a) (l:Ea p b=b) (k:a≠b):∃o,Fo (p.set b.toNat a) o:=by
 classical
 refine⟨λx=>if Rt p x b then c x+c a+1 else c x,λn n0 n1=>?_,λn n0 n1 hn=>?_⟩
 .rw[SL]at n1 ⊢;rw[DH d b1 n n0];split
  .exact⟨h,i⟩
  exact hp.rng n n0 n1
 rw[SL]at n1;rw[DH d b1 n n0]at hn ⊢;by_cases e:n=b
 .subst e;rw[BY rfl];have h1:¬Rt p a n:=λg=>k (g.det (.base ha)).symm;rw[An h1,BY (.base l)];omega
 rw[An e]at hn ⊢;have m:=hp.dec n n0 n1 hn;have f:Rt p n b↔Rt p (Ea p n) b:=by
  constructor
  .intro g;cases g with
   | base g=>exact absurd g hn
   | step _ g=>exact g
  exact λg=>.step hn g
 by_cases g:Rt p n b
 .rw[BY g,BY (f.1 g)];omega
 rw[An g,An (λj=>g (f.2 j))];exact m
inductive EG (n:Nat) (p:List Int) (W:List (Int×Int)):Int->Int->Prop
 | cls {x y r:Int} (x0:0<=x) (x1:x<(n:Int)) (y0:0<=y) (y1:y<(n:Int)) (h:Rt p x r) (g:Rt p y r):EG n p W x y
 | wt {x y:Int} (h:(x,y)∈W):EG n p W x y
 | symm {x y:Int} (h:EG n p W x y):EG n p W y x
 | trans {x y z:Int} (h:EG n p W x y) (g:EG n p W y z):EG n p W x z
theorem EG.mono {n:Nat} {p q:List Int} {W V:List (Int×Int)} (h1:∀x y r,0<=x->x<(n:Int)->0<=y->y<(n:Int)->Rt p x r->Rt p y r->EG n q V x y) (a:∀x y,(x,y)∈W->EG n q V x y) {x y:Int} (h:EG n p W x y):EG n q V x y:=by
 induction h with
 | cls e f i j h g=>exact h1 _ _ _ e f i j h g
 | wt h=>exact a _ _ h
 | symm _ b=>exact .symm b
 | trans _ _ c d=>exact .trans c d
structure Uh (h:AG) (N:List AE) (P:List (Int×Int)) (X:List AE) (v:Int->Int):Prop where
 rng:∀x,0<=x->x<(N.length:Int)->0<=v x/\v x<(X.length:Int)
 ty:∀x,0<=x->x<(N.length:Int)->A2 h (N.getD x.toNat (0,[])).1 (X.getD (v x).toNat (0,[])).1=true
 arc:∀x,0<=x->x<(N.length:Int)->∀a∈AO N x,Bz (AO X (v x)) a.1=v a.2
 eq:∀q∈P,v q.1=v q.2
structure JX (h:AG) (X:List AE) (v:Int->Int) (n:Nat) (p ty:List Int) (ar:List (List (Int×Int))) (W:List (Int×Int)):Prop where
 cls:∀x r,0<=x->x<(n:Int)->Rt p x r->v x=v r
 wt:∀w∈W,v w.1=v w.2
 ty:∀r,0<=r->r<(n:Int)->Ea p r=r->A2 h (ty.getD r.toNat 0) (X.getD (v r).toNat (0,[])).1=true
 arc:∀r,0<=r->r<(n:Int)->Ea p r=r->∀a∈ar.getD r.toNat [],Bz (AO X (v r)) a.1=v a.2
def DE (N:List AE):List Int:=N.flatMap λx=>x.2.map (·.1)
structure JI (h:AG) (N:List AE) (P:List (Int×Int)) (p ty:List Int) (ar:List (List (Int×Int))) (W:List (Int×Int)):Prop where
 nty:Cn h N
 fo:∃rk,Fo p rk
 lp:p.length=N.length
 lt:ty.length=N.length
 la:ar.length=N.length
 wr:∀w∈W,(0<=w.1/\w.1<(N.length:Int))/\(0<=w.2/\w.2<(N.length:Int))
 tyr:∀x,0<=x->x<(N.length:Int)->0<=ty.getD x.toNat 0/\ty.getD x.toNat 0<(h.1.length:Int)
 arr:∀k,∀a∈ar.getD k [],(0<=a.2/\a.2<(N.length:Int))/\a.1∈DE N
 srt:∀k,MJ (ar.getD k [])
 sp:∀q∈P,EG N.length p W q.1 q.2
 st:∀x r,0<=x->x<(N.length:Int)->Rt p x r->A2 h (N.getD x.toNat (0,[])).1 (ty.getD r.toNat 0)=true
 sa:∀x r,0<=x->x<(N.length:Int)->Rt p x r->∀a∈AO N x,∃t,(a.1,t)∈ar.getD r.toNat []/\EG N.length p W a.2 t
 co:∀X v,Cn h X->Uh h N P X v->JX h X v N.length p ty ar W
theorem GY {p:List Int} {a:Int->Nat} (hp:Fo p a) {x r:Int} (c:0<=x) (d:x<(p.length:Int)) (h:Rt p x r):0<=r/\r<(p.length:Int):=by
 obtain⟨s,hs,b,s1⟩:=hp.root c d;rw[h.det hs];exact⟨b,s1⟩
theorem TQ {p q:List Int} (h:E3 p q) {r:Int} (a:0<=r) (b:r<(p.length:Int)):Ea p r=r↔Ea q r=r :=
 ⟨λe=>((h.2 r r a b).1 (.base e)).root,λe=>((h.2 r r a b).2 (.base e)).root⟩
theorem A9g {h:AG} {N:List AE} {P:List (Int×Int)} {p q ty:List Int} {ar:List (List (Int×Int))} {W:List (Int×Int)} (hs:E3 p q) (j:∃z,Fo q z) (u:JI h N P p ty ar W):JI h N P q ty ar W:=by
 obtain⟨nty,fo,lp,lt,la,wr,tyr,arr,srt,sp,st,sa,co⟩:=u;have i:∀x r,0<=x->x<(N.length:Int)->(Rt p x r↔Rt q x r):=λx r b c=>hs.2 x r b (by rw[lp];exact c);have s:∀ {x y},EG N.length p W x y->EG N.length q W x y:=λ{x y} g=>g.mono (λx y r b c k l h1 o=>.cls b c k l ((i x r b c).1 h1) ((i y r k l).1 o)) (λ_ _ h=>.wt h);refine⟨nty,j,by rw[<-hs.1];exact lp,lt,la,wr,tyr,arr,srt,λq j=>s (sp q j),λx r b c d=>st x r b c ((i x r b c).2 d),λx r b c d a ha=>?_,λX v t w=>?_⟩
 .grind
 obtain⟨c1,c2,m,n⟩:=co X v t w;exact⟨λx r b c d=>c1 x r b c ((i x r b c).2 d),c2,λr e f d=>m r e f ((TQ hs e (by rw[lp];exact f)).2 d),λr e f d=>n r e f ((TQ hs e (by rw[lp];exact f)).2 d)⟩
section
variable {h:AG} {N:List AE} {P:List (Int×Int)} {p ty:List Int} {ar:List (List (Int×Int))} {W:List (Int×Int)} {s t a b:Int}
theorem gE (n:JI h N P p ty ar (W++[(s,t)])) (hs:Rt p s a) (u:Rt p t a):JI h N P p ty ar W:=by
 obtain⟨nty,fo,lp,lt,la,wr,tyr,arr,srt,sp,st,sa,co⟩:=n;have b:=wr (s,t) (by simp);have l:∀ {x y},EG N.length p (W++[(s,t)]) x y->EG N.length p W x y:=λ{x y} g=>g.mono (λx y r d f A B h1 k=>.cls d f A B h1 k) (λx y c=>by
  rcases OF.1 c with c|c
  .exact .wt c
  have e:(x,y)=(s,t):=by simpa using c
  cases e;exact .cls b.1.1 b.1.2 b.2.1 b.2.2 hs u)
 refine⟨nty,fo,lp,lt,la,λw b=>wr w (SI _ b),tyr,arr,srt,λq o=>l (sp q o),st,λx r d f C a ha=>?_,λX v m z=>?_⟩
 .grind
 obtain⟨c1,c2,i,j⟩:=co X v m z;exact⟨c1,λw b=>c2 w (SI _ b),i,j⟩
theorem WG (hk:GB h) (c:JI h N P p ty ar (W++[(s,t)])) (hs:Rt p s a) (g:Rt p t b) {X:List AE} {v:Int->Int} (o:Cn h X) (q:Uh h N P X v) :
  v a=v b/\(Bq h (ty.getD a.toNat 0) (ty.getD b.toNat 0)).2=true/\A2 h (Bq h (ty.getD a.toNat 0) (ty.getD b.toNat 0)).1 (X.getD (v a).toNat (0,[])).1=true:=by
 obtain⟨D,fo⟩:=c.fo;obtain⟨⟨i,s1⟩,j,l⟩:=c.wr (s,t) (by simp);simp only at i s1 j l;have d:=GY fo i (by rw[c.lp];exact s1) hs;have f:=GY fo j (by rw[c.lp];exact l) g;rw[c.lp]at d f;obtain⟨c1,c2,m,B⟩:=c.co X v o q;have u:=c1 s a i s1 hs;have w:=c1 t b j l g;have x:v s=v t:=c2 (s,t) (by simp);have e:v a=v b:=by rw[<-u,<-w,x]
 have y:=m a d.1 d.2 hs.root;have n:=m b f.1 f.2 g.root;rw[<-e]at n;have C:=q.rng a d.1 d.2;have r:=o _ (AD X (0,[]) (k:=(v a).toNat) (by omega));have ta:=c.tyr a d.1 d.2;have tb:=c.tyr b f.1 f.2;obtain⟨z,A⟩:=(M5 hk ta.1 ta.2 tb.1 tb.2).2 _ r.1 r.2 y n;exact⟨e,z,A⟩
theorem bW {α:Type} {l:List α} {d v:α} {a r:Int} (b:0<=a) (c:a<(l.length:Int)) (e:0<=r):(l.set a.toNat v).getD r.toNat d=if r=a then v else l.getD r.toNat d:=by grind
theorem YI (hk:GB h) (ae:JI h N P p ty ar (W++[(s,t)])) (hs:Rt p s a) (L:Rt p t b) (Y:a≠b) (al:(Bq h (ty.getD a.toNat 0) (ty.getD b.toNat 0)).2=true) :
  JI h N P (p.set b.toNat a) (ty.set a.toNat (Bq h (ty.getD a.toNat 0) (ty.getD b.toNat 0)).1) (ar.set a.toNat (B5 (ar.getD a.toNat []) (ar.getD b.toNat [])).1) (W++(B5 (ar.getD a.toNat []) (ar.getD b.toNat [])).2):=by
 have am:=λX v J M=>WG (X:=X) (v:=v) hk ae hs L J M;obtain⟨nty,⟨bb,fo⟩,lp,lt,la,wr,tyr,arr,srt,sp,st,sa,co⟩:=ae;obtain⟨⟨Q,s1⟩,R,S⟩:=wr (s,t) (by simp);simp only at Q s1 R S;have n:=GY fo Q (by rw[lp];exact s1) hs;have A:=GY fo R (by rw[lp];exact S) L;have ha:=hs.root;have Z:=L.root;have F:=λ{x r:Int} (c:0<=x) (i:x<(N.length:Int)) (O:Rt p x r)=>A9e fo n.1 A.1 A.2 ha Z Y c (by rw[lp];exact i) O;have aa:∀ {x r:Int},0<=x->x<(N.length:Int)->Rt (p.set b.toNat a) x r->∃j,Rt p x j/\r=if j=b then a else j:=λ{x r} c i O=>by
  obtain⟨j,h1,-,-⟩:=fo.root c (by rw[lp];exact i);exact⟨j,h1,O.det (F c i h1)⟩
 have ta:=tyr a n.1 (by rw[<-lp];exact n.2);have tb:=tyr b A.1 (by rw[<-lp];exact A.2);obtain⟨ax,ay,az,ba⟩:=(M5 hk ta.1 ta.2 tb.1 tb.2).1 al;generalize aq:(Bq h (ty.getD a.toNat 0) (ty.getD b.toNat 0)).1=m at *;generalize ag:ar.getD a.toNat []=xs at *;generalize ah:ar.getD b.toNat []=ys at *;have ao:EG N.length (p.set b.toNat a) (W++(B5 xs ys).2) s t:=by
  have h1:=F Q s1 hs;have I:=F R S L;rw[An Y]at h1;rw[BY rfl]at I;exact .cls Q s1 R S h1 I
 have E:∀ {x y},EG N.length p (W++[(s,t)]) x y->EG N.length (p.set b.toNat a) (W++(B5 xs ys).2) x y:=λ{x y} g=>g.mono (λx y r c i aj ak h1 I=>.cls c i aj ak (F c i h1) (F aj ak I)) (λx y G=>by
  rcases OF.1 G with G|G
  .exact .wt (SI _ G)
  have e:(x,y)=(s,t):=by simpa using G
  cases e;exact ao)
 have av:=λ{r:Int} (D:0<=r)=>bW (l:=ty) (d:=0) (v:=m) n.1 (by rw[lt,<-lp];exact n.2) D;have K:=λ{r:Int} (D:0<=r)=>bW (l:=ar) (d:=[]) (v:=(B5 xs ys).1) n.1 (by rw[la,<-lp];exact n.2) D;refine⟨nty,A9f fo n.1 n.2 A.1 A.2 ha Z Y,by rw[SL];exact lp,by rw[SL];exact lt,by rw[SL];exact la,λw o=>?_,λx c i=>?_,λk y C=>?_,λk=>?_,λq an=>E (sp q an),λx r c i z=>?_,λx r c i z y C=>?_,λX v J M=>?_⟩
 .rcases OF.1 o with o|o
  .exact wr w (SI _ o)
  grind [Ru]
 .grind
 .have h1:=K (r:=(k:Int)) (by omega);rw[P0]at h1;rw[h1]at C;split at C
  .grind [Jh]
  exact arr _ _ C
 .have h1:=K (r:=(k:Int)) (by omega);rw[P0]at h1;rw[h1];split
  .grind [WF]
  exact srt k
 .obtain⟨j,h1,rfl⟩:=aa c i z;have O:=nty _ (AD N (0,[]) (k:=x.toNat) (by omega));have af:=GY fo c (by rw[lp];exact i) h1;by_cases e:j=b
  .grind [Li]
  grind [Li]
 .obtain⟨j,h1,rfl⟩:=aa c i z;have af:=GY fo c (by rw[lp];exact i) h1;obtain⟨u,H,T⟩:=sa x j c i h1 y C;by_cases e:j=b
  .rw[BY e,K n.1,BY rfl];rw[e,ah]at H;rcases OB (x:=xs) H with g|⟨w,U,V⟩
   .exact⟨u,g,E T⟩
   exact⟨w,U,.trans (E T) (.symm (.wt (AA3 _ V)))⟩
  rw[An e,K af.1];split
  .rename_i B;rw[B,ag]at H;exact⟨u,Rs H,E T⟩
  exact⟨u,H,E T⟩
 obtain⟨c1,c2,ap,ab⟩:=co X v J M;obtain⟨e,-,aw⟩:=am X v J M;have au:∀r,0<=r->r<(N.length:Int)->Ea (p.set b.toNat a) r=r->r≠b/\Ea p r=r:=λr D ai z=>by grind [DH]
 refine⟨λx r c i z=>?_,λw o=>?_,λr D ai z=>?_,λr D ai z y C=>?_⟩
 .obtain⟨j,h1,rfl⟩:=aa c i z;have:=c1 x j c i h1;split
  .rename_i B;rw[this,B,e]
  exact this
 .rcases OF.1 o with o|o
  .exact c2 w (SI _ o)
  obtain⟨f,ad,B⟩:=Ru o;rw[<-ag]at ad;rw[<-ah]at B;have U:=ab a n.1 (by rw[<-lp];exact n.2) ha _ ad;have V:=ab b A.1 (by rw[<-lp];exact A.2) Z _ B;rw[<-U,<-V,e]
 .grind
 grind [Jh]
end
theorem mK {l:List Nat} {f g:Nat->Bool} {b:Nat} (hn:l.Nodup) (c:b∈l) (h1:f b=true) (d:g b=false) (h:∀x∈l,x≠b->g x=f x):(l.filter g).length+1=(l.filter f).length:=by
 induction l with
 | nil=>cases c
 | cons x l m =>
  obtain⟨k,j⟩:=TO.1 hn;by_cases e:x=b
  .subst e;have:l.filter g=l.filter f:=List.filter_congr λy a=>h y (by simp[a]) (λe=>k (e▸a));rw[VL,VL,An (by rw[d];simp),BY h1,this];rfl
  have i:b∈l:=by
   rcases DO.1 c with g|g
   .exact absurd g.symm e
   exact g
  have n:=m j i (λy a=>h y (by simp[a]));rw[VL,VL,h x (by simp) e];split
  .simp only[Of];omega
  exact n
def nR (p:List Int):Nat:=((List.range p.length).filter λk=>p.getD k 0==(k:Int)).length
theorem AEK (p:List Int):nR p<=p.length:=by
 have:=VI (λk=>p.getD k 0==(k:Int)) (List.range p.length);rw[AFq]at this;exact this
theorem A07 {p q:List Int} (h:E3 p q):nR q=nR p:=by
 unfold nR;rw[<-h.1];refine bY List.length (List.filter_congr λk hk=>?_);have a:=QJ.1 hk;have:=TQ h (r:=(k:Int)) (by omega) (by omega);unfold Ea at this;rw[P0]at this;rw[ABC,SJ,SJ];exact this.symm
theorem A08 {p:List Int} {a b:Int} (d:0<=b) (b1:b<(p.length:Int)) (c:Ea p b=b) (e:a≠b):nR (p.set b.toNat a)+1=nR p:=by
 unfold nR;rw[SL];refine mK (b:=b.toNat) List.nodup_range (QJ.2 (by omega)) ?_ ?_ λx _ f=>?_
 .rw[SJ];unfold Ea at c;omega
 .rw[Zb _ _ _ (by omega),VX];omega
 rw[getD_set_ne _ _ _ (by omega)]
theorem TR {α:Type} [DecidableEq α]:∀ {l l':List α},l.Nodup->(∀x∈l,x∈l')->l.length<=l'.length
 | [],_,_,_=>by simp
 | x :: l,l',hn,h=>by
  obtain⟨d,c⟩:=TO.1 hn;have a:=h x (by simp);have:=TR (l:=l) (l':=l'.erase x) c (λy b=>(AFV (λe:y=x=>d (by rw[<-e];exact b))).2 (h y (by simp[b])));rw[List.length_erase_of_mem a]at this;have:=AFG a;simp only[Of];omega
theorem gF {l:List (Int×Int)} (h:MJ l) {S:List Int} (hs:∀a∈l,a.1∈S):l.length<=S.length:=by
 have hn:(l.map (·.1)).Nodup:=by
  unfold List.Nodup;rw[VV];exact h.imp λg=>by omega
 have:=TR hn (l':=S) (λx b=>by
  obtain⟨a,ha,rfl⟩:=Do.1 b;exact hs a ha)
 rwa [Py]at this
theorem YJ {h:AG} {N:List AE} {P:List (Int×Int)} {p ty:List Int} {ar:List (List (Int×Int))} (t:JI h N P p ty ar []) {a b:Int} (ha:0<=a/\a<(N.length:Int)) (s:0<=b/\b<(N.length:Int)):JI h N (P++[(a,b)]) p ty ar [(a,b)]:=by
 obtain⟨nty,fo,lp,lt,la,wr,tyr,arr,srt,sp,st,sa,co⟩:=t;have l:∀ {x y},EG N.length p [] x y->EG N.length p [(a,b)] x y:=λ{x y} g=>g.mono (λx y r j k C D h1 f=>.cls j k C D h1 f) (λx y A=>by cases A);refine⟨nty,fo,lp,lt,la,λw i=>?_,tyr,arr,srt,λq c=>?_,st,λx r j k z y B=>?_,λX v o d=>?_⟩
 .have e:w=(a,b):=by simpa using i
  subst e;exact⟨ha,s⟩
 .rcases OF.1 c with c|c
  .exact l (sp q c)
  have e:q=(a,b):=by simpa using c
  subst e;exact .wt (by simp)
 .obtain⟨u,h1,f⟩:=sa x r j k z y B;exact⟨u,h1,l f⟩
 obtain⟨c1,c2,m,n⟩:=co X v o ⟨d.rng,d.ty,d.arc,λq c=>d.eq q (SI _ c)⟩;refine⟨c1,λw i=>?_,m,n⟩;have e:w=(a,b):=by simpa using i
 subst e;exact d.eq _ (by simp)
def clJ (h:AG) (p ty:List Int) (ar:List (List (Int×Int))):List (Nat×Obj):=[(101,.box 111 true [.p ED h,.sr 102 T3 0 p.length,.sr 103 T3 0 ty.length,.sr 104 DM 0 ar.length]),(102,.arr 3 T3 p),(103,.arr 3 T3 ty),(104,.arr 91 DM ar)]
theorem A9h (h:AG) (hk:GB h) {N:List AE} {P:List (Int×Int)} {p ty:List Int} {ar:List (List (Int×Int))} (Y:JI h N P p ty ar []) {a b:Int} (ha:0<=a/\a<(N.length:Int)) (ah:0<=b/\b<(N.length:Int)) (af:N.length<=10000) (hF:(DE N).length<=1000000) :
  BK Tryz.prog 86 [.bp 101 [] 0,.p T3 a,.p T3 b] (clJ h p ty ar) [101]
  (λres M=>(res=.p .bool true/\∃B H u,M=clJ h B H u/\JI h N (P++[(a,b)]) B H u [])\/(res=.p .bool false/\(∃B H u,M=clJ h B H u)/\∀X v,Cn h X->¬Uh h N (P++[(a,b)]) X v)):=by
 refine LQ [0,1,2,3,6,7,8,9,10,11,19,48] [] [] Tryz.func86 Tryz.ntmps86 AH ?_;intro w0 K O0 ρ0 f ba bb;have hh:h.1.length<=100000:=QB hk.2 (by omega);have ai:∀x∈h.1,x.2.1.length<=100000:=λx av=>QB (hk.1.wid x.2.1 (Do.2 ⟨x,av,rfl⟩)) (by omega);have aj:=YJ Y ha ah;generalize az:P++[(a,b)]=Q at *;have ay:N.length*((DE N).length+1)<=10000*1000001:=Nat.mul_le_mul af (by omega);simp only[clJ,Aq];repeat'(first|exact trivial|apply eS rfl|refine rX f ?_ ?_)
 refine AI (ι:={s:(List Int×List Int×List (List (Int×Int)))×(List (Int×Int)×Nat)//JI h N Q s.1.1 s.1.2.1 s.1.2.2 (s.2.1.take s.2.2)/\s.2.2<=s.2.1.length/\nR s.1.1*((DE N).length+1)+s.2.2<=N.length*((DE N).length+1)+1}) (λs=>⟨[(3,.bp 3 [] 0),(7,.bp 7 [] 0),(8,.clo 134 [3,7])],[(101,.box 111 true [.p ED h,.sr 102 T3 0 s.1.1.1.length,.sr 103 T3 0 s.1.1.2.1.length,.sr 104 DM 0 s.1.1.2.2.length]),(102,.arr 3 T3 s.1.1.1),(103,.arr 3 T3 s.1.1.2.1),(104,.arr 91 DM s.1.1.2.2),(3,.box 108 false [.bp 101 [] 0]),(7,.box 173 false [.sr 15 Su 0 s.1.2.2]),(15,.arr 172 Su s.1.2.1)]⟩) (λs=>nR s.1.1.1*((DE N).length+1)+s.1.2.2) ⟨((p,ty,ar),([(a,b)],1)),aj,by simp,by have:=QP ((DE N).length+1) (AEK p);rw[Y.lp]at this;simp only;omega⟩ (eW [(101,.nm 101),(102,.nm 102),(103,.nm 103),(104,.nm 104),(3,.nm 3),(7,.nm 7),(15,.nm 15)]) (λs=>?_)
 obtain⟨⟨⟨q,d,aq⟩,V,k⟩,l,ak,ae⟩:=s;simp only at l ak ae ⊢;repeat'(first|exact trivial|apply eS rfl|refine rX f ?_ ?_|refine rC ?_ ?_<;>intro j<;>try(cases j;done))
 .exact eV
 .exact eV
 .have Z:0<k:=IN.1 j;have al:((k:Int)-1).toNat=k-1:=by omega
  have U:=Au V (0,0) (k:=k-1) (by omega);rw[show k-1+1=k by omega]at U;rw[al];generalize bd:V.getD (k-1) (0,0)=st at *;obtain⟨s,t⟩:=st;rw[U]at l;obtain⟨⟨D,s1⟩,F,G⟩:=l.wr (s,t) (by simp);simp only at D s1 F G;obtain⟨O,fo⟩:=l.fo;have C:=l.lp;refine CQ drawsAny f 8 [([0,1,2],3),([4,5,6],7)] [] (by kernel_rfl) (MF ?_ ?_)
  .trivial
  refine mxC f (gD h d aq O fo D (by rw[C];exact s1)) [(1,.nm 101),(2,.nm 102),(3,.nm 103),(4,.nm 104)] [102,103,104] ?_ ?_ ?_
  .exact eN
  .simp only[bV];exact eN
  rintro _ _ ⟨ab,c,rfl,rfl,ad,E,aw⟩;refine⟨[(101,.nm 1),(102,.nm 2),(103,.nm 3),(104,.nm 4)],.p T3 c,[(101,.box 111 true [.p ED h,.sr 102 T3 0 ab.length,.sr 103 T3 0 d.length,.sr 104 DM 0 aq.length]),(102,.arr 3 T3 ab),(103,.arr 3 T3 d),(104,.arr 91 DM aq)],rfl,rfl,?_,?_,rfl,rfl,rfl,?_⟩
  .simp only[bV];exact eN
  .exact eN
  refine MF ?_ ?_
  .trivial
  refine mxC f (gD h d aq O ad F (by rw[<-E.1,C];exact G)) [(1,.nm 101),(2,.nm 102),(3,.nm 103),(4,.nm 104)] [102,103,104] ?_ ?_ ?_
  .exact eN
  .simp only[bV];exact eN
  rintro _ _ ⟨g,e,rfl,rfl,J,S,ax⟩;refine⟨[(101,.nm 1),(102,.nm 2),(103,.nm 3),(104,.nm 4)],.p T3 e,[(101,.box 111 true [.p ED h,.sr 102 T3 0 g.length,.sr 103 T3 0 d.length,.sr 104 DM 0 aq.length]),(102,.arr 3 T3 g),(103,.arr 3 T3 d),(104,.arr 91 DM aq)],rfl,rfl,?_,?_,rfl,rfl,rfl,?_⟩
  .simp only[bV];exact eN
  .exact eN
  refine Ss f ?_ ?_ ?_
  .trivial
  .trivial
  repeat' apply eS rfl
  have i:=A9g (E.trans S) ⟨O,J⟩ l;have R:=E.trans S;have A:=(R.2 s c D (by rw[C];exact s1)).1 aw;have o:=(S.2 t e F (by rw[<-E.1,C];exact G)).1 ax;have n:=i.lp;have w:=GY J D (by rw[n];exact s1) A;have m:=GY J F (by rw[n];exact G) o;refine evP f 4 ?_ ?_
  .trivial
  by_cases z:c=e
  .subst z;rw[show (c != c)=false from bne_self_eq_false c];refine rL f ?_ ?_
   .trivial
   repeat'(first|apply eS rfl|apply AB|refine rC ?_ ?_<;>intro j<;>try(cases j;done))
   have y:=gE i A o;have hn:=A07 R;exact⟨⟨((g,d,aq),V,k-1),y,by simp only;omega,by simp only;rw[hn];omega⟩,by simp only;rw[hn];omega,eW [(101,.nm 101),(102,.nm 102),(103,.nm 103),(104,.nm 104),(3,.nm 3),(7,.nm 7),(15,.nm 15)]⟩
  rw[show (c != e)=true by simpa using z];refine rN 3 f ?_ ?_
  .trivial
  have L:=λr:Int=>gF (i.srt r.toNat) (λa ha=>(i.arr r.toNat a ha).2);refine clG f (A5t h hh ai g d aq V (k-1) (by omega) (by omega) w.1 w.2 m.1 m.2 (by rw[i.lt,n]) (by rw[i.la,n]) (i.tyr c w.1 (by rw[<-n];exact w.2)) (i.tyr e m.1 (by rw[<-n];exact m.2)) (QB (L c) (by omega)) (QB (L e) (by omega))) [(1,.nm 101),(2,.nm 102),(3,.nm 103),(4,.nm 104),(5,.nm 3),(6,.nm 7),(7,.nm 15)] [102,103,104,15] ?_ ?_ ?_
  .exact eN
  .simp only[mgO];exact eN
  rintro res M (⟨I,rfl,rfl⟩|⟨I,rfl,T,W,ap,aa,rfl⟩)
  .refine⟨[(101,.nm 1),(102,.nm 2),(103,.nm 3),(104,.nm 4),(3,.nm 5),(7,.nm 6),(15,.nm 7)],.p .bool false,[(101,.box 111 true [.p ED h,.sr 102 T3 0 g.length,.sr 103 T3 0 d.length,.sr 104 DM 0 aq.length]),(102,.arr 3 T3 g),(103,.arr 3 T3 d),(104,.arr 91 DM aq),(3,.box 108 false [.bp 101 [] 0]),(7,.box 173 false [.sr 15 Su 0 (k-1)]),(15,.arr 172 Su V)],rfl,rfl,?_,?_,rfl,rfl,?_⟩
   .simp only[mgO];exact eN
   .exact eN
   refine rL f ?_ ?_
   .trivial
   repeat'(first|exact trivial|apply eS rfl|refine rX f ?_ ?_|refine rC ?_ ?_<;>intro j<;>try(cases j;done))
   refine Ev.ent (σ':=⟨[(6,.p .bool false)],clJ h g d aq⟩) ?_ (AC [(101,.nm 101),(102,.nm 102),(103,.nm 103),(104,.nm 104)] rfl rfl ?_ ?_)
   .exact fM f [.tmp 6] (.p .bool false) eT (.inr ⟨rfl,⟨g,d,aq,rfl⟩,λX v ag ao=>by
     have:=(WG hk i A o ag ao).2.1;rw[I]at this;cases this⟩)
   .unfold clJ;exact eN
   exact eN
  refine⟨[(101,.nm 1),(102,.nm 2),(103,.nm 3),(104,.nm 4),(3,.nm 5),(7,.nm 6),(15,.nm 7)],.p .bool true,[(101,.box 111 true [.p ED h,.sr 102 T3 0 (g.set e.toNat c).length,.sr 103 T3 0 (d.set c.toNat (Bq h (d.getD c.toNat 0) (d.getD e.toNat 0)).1).length,.sr 104 DM 0 (aq.set c.toNat (B5 (aq.getD c.toNat []) (aq.getD e.toNat [])).1).length]),(102,.arr 3 T3 (g.set e.toNat c)),(103,.arr 3 T3 (d.set c.toNat (Bq h (d.getD c.toNat 0) (d.getD e.toNat 0)).1)),(104,.arr 91 DM (aq.set c.toNat (B5 (aq.getD c.toNat []) (aq.getD e.toNat [])).1)),(3,.box 108 false [.bp 101 [] 0]),(7,.box 173 false [.sr 15 Su 0 W]),(15,.arr 172 Su T)],rfl,rfl,?_,?_,rfl,rfl,?_⟩
  .simp only[mgO];exact eN
  .exact eN
  refine rL f ?_ ?_
  .trivial
  repeat'(first|apply eS rfl|apply AB|refine rC ?_ ?_<;>intro j<;>try(cases j;done))
  have y:=YI hk i A o z I;rw[<-aa]at y;have hn:=A07 R;have an:=A08 (a:=c) m.1 m.2 o.root z;have bc:(B5 (aq.getD c.toNat []) (aq.getD e.toNat [])).2.length<=(DE N).length:=QB Rv (L c);have au:=bY List.length aa;rw[IF,OS,OS]at au;have am:nR g*((DE N).length+1)=nR (g.set e.toNat c)*((DE N).length+1)+((DE N).length+1):=by rw[<-an,AFK,Nat.one_mul]
  rw[hn]at am;exact⟨⟨((g.set e.toNat c,d.set c.toNat (Bq h (d.getD c.toNat 0) (d.getD e.toNat 0)).1,aq.set c.toNat (B5 (aq.getD c.toNat []) (aq.getD e.toNat [])).1),T,W),y,ap,by simp only;omega⟩,by simp only;omega,eW [(101,.nm 101),(102,.nm 102),(103,.nm 103),(104,.nm 104),(3,.nm 3),(7,.nm 7),(15,.nm 15)]⟩
 have Z:k=0:=by
  have:=P6.1 j;omega
 subst Z;rw[ZH]at l;refine Ev.ent (σ':=⟨[(6,.p .bool true)],clJ h q d aq⟩) ?_ (AC [(101,.nm 101),(102,.nm 102),(103,.nm 103),(104,.nm 104)] rfl rfl ?_ ?_)
 .exact fM f [.tmp 6] (.p .bool true) eT (.inl ⟨rfl,q,d,aq,rfl,l⟩)
 .unfold clJ;exact eN
 exact eN
open Classical in
noncomputable def Ek (p:List Int) (x:Int):Int:=if h:∃r,Rt p x r then h.choose else x
theorem gG {p:List Int} {x r:Int} (h:Rt p x r):Ek p x=r:=by
 unfold Ek;rw[dif_pos ⟨r,h⟩];exact(Exists.choose_spec (p:=λr=>Rt p x r) ⟨r,h⟩).det h
theorem Pm {p:List Int} {a:Int->Nat} (hp:Fo p a) {x:Int} (b:0<=x) (c:x<(p.length:Int)):Rt p x (Ek p x):=by
 obtain⟨r,h,-,-⟩:=hp.root b c;rw[gG h];exact h
noncomputable def quo (p ty:List Int) (ar:List (List (Int×Int))):List AE:=(List.range p.length).map λk=>(ty.getD k 0,(ar.getD k []).map λa=>(a.1,Ek p a.2))
theorem FG (p ty:List Int) (ar:List (List (Int×Int))):(quo p ty ar).length=p.length:=by simp[quo]
theorem OC {p ty:List Int} {ar:List (List (Int×Int))} {n:Int} (n0:0<=n) (n1:n<(p.length:Int)):(quo p ty ar).getD n.toNat (0,[])=(ty.getD n.toNat 0,(ar.getD n.toNat []).map λa=>(a.1,Ek p a.2)):=by
 unfold quo;rw[AS,VJ,oN (by omega)];rfl
def Lj (len:Nat) (o:List Int):List Int:=(List.range len).map λ(k:Nat)=>if (k:Int)∈o then ((o.idxOf (k:Int):Nat):Int) else -1
theorem YK (len:Nat) (o:List Int):(Lj len o).length=len:=by simp[Lj]
theorem YL {len:Nat} {o:List Int} {n:Int} (n0:0<=n) (n1:n<(len:Int)):(Lj len o).getD n.toNat 0=if n∈o then (o.idxOf n:Int) else -1:=by
 unfold Lj;rw[AS,VJ,oN (by omega)];simp only[ABM,AFR];rw[show ((n.toNat:Nat):Int)=n by omega]
theorem YM {o:List Int} {n:Int} (h:n∉o):(o++[n]).idxOf n=o.length:=by
 rw[AFL,An h];simp
theorem bX {o t:List Int} {n:Int} (h:n∈o):(o++t).idxOf n=o.idxOf n:=by
 rw[AFL,BY h]
theorem A5u {len:Nat} {o:List Int} {n:Int} (n0:0<=n) (n1:n<(len:Int)) (h:n∉o):(Lj len o).set n.toNat (o.length:Int)=Lj len (o++[n]):=by
 apply SH
 .simp[Lj]
 intro i h1 c;rw[AGo];simp only[Lj,AAn,AAe];by_cases e:n.toNat=i
 .rw[BY e];have b:(i:Int)=n:=by omega
  rw[b,BY (by simp),YM h]
 rw[An e];have b:(i:Int)≠n:=by omega
 by_cases a:(i:Int)∈o
 .rw[BY a,BY (by simp[a]),bX a]
 rw[An a,An (by simp[a,b])]
theorem YN {o t:List Int} {x:Int} (h:x∈o):Bh (o++t) x=Bh o x:=by
 unfold Bh;rw[BY (SI _ h),BY h,bX h]
theorem Rw {f:List AE} (hf:AR f) (k:Nat):∀(l:List (Int×Int)) (t:List Int),(∀a∈l,0<=a.2/\a.2<(f.length:Int))->Kp f t->f.length-t.length<=k ->
  (∀a∈l,a.2∈l.foldl (Ac f k) t)/\∀x∈l.foldl (Ac f k) t,x∈t\/∀a∈(f.getD x.toNat (0,[])).2,a.2∈l.foldl (Ac f k) t:=by
 intro l;induction l with
 | nil=>exact λt _ _ _=>⟨λa ha=>(by cases ha),λx c=>.inl c⟩
 | cons a l u =>
  intro t j m o;simp only[ON];have p:Kp f (Ac f k t a)/\t <+: Ac f k t a/\a.2∈Ac f k t a/\∀x∈Ac f k t a,x∈t\/∀b∈(f.getD x.toNat (0,[])).2,b.2∈Ac f k t a:=by
   unfold Ac;split
   .rename_i hn;exact⟨m,Vd _,hn,λx c=>.inl c⟩
   rename_i hn;have q:=j a (by simp);obtain⟨e,g⟩:=EL hf k t a.2 m q.1 q.2 hn;obtain⟨h,i⟩:=Ir hf k t a.2 m q.1 q.2 hn o;exact⟨e,g,h,i⟩
  obtain⟨e,g,h,i⟩:=p;have v:=g.length_le;obtain⟨r,s⟩:=u (Ac f k t a) (λb d=>j b (by simp[d])) e (by omega);obtain⟨_,n⟩:=E2 (EL hf k) l (Ac f k t a) (λb d=>j b (by simp[d])) e;refine⟨λb d=>?_,λx c=>?_⟩
  .rcases DO.1 d with rfl|d
   .exact n.subset h
   exact r b d
  rcases s x c with c|c
  .rcases i x c with c|c
   .exact .inl c
   exact .inr λb d=>n.subset (c b d)
  exact .inr c
def Hi (f:List AE) (o a:List Int):List AE:=(a.drop o.length).map (DD f a)
theorem A2h {f:List AE} {o t:List Int} {x:Int} (h:∀a∈(f.getD x.toNat (0,[])).2,a.2∈o):DD f (o++t) x=DD f o x:=by
 unfold DD;refine bY _ (QE λa ha=>?_);unfold I0;rw[YN (h a ha)]
theorem A5v {f:List AE} {c b d:List Int} (g:c <+: b) (i:b <+: d) (j:∀x∈b,x∈c\/∀a∈(f.getD x.toNat (0,[])).2,a.2∈b) (hn:b.Nodup):Hi f c b++Hi f b d=Hi f c d:=by
 obtain⟨t,rfl⟩:=g;obtain⟨s,rfl⟩:=i;unfold Hi;rw[AFf,AFf,QK,AFf,<-QK,VO]
 congr 1
 refine QE λx e=>?_;refine(A2h λa ha=>?_).symm;rcases j x (AA3 _ e) with h|h
 .exact absurd rfl ((f8.1 hn).2.2 x h x e)
 exact h a ha
theorem bZ (f:List AE) (o:List Int):Hi f o o=[]:=by
 unfold Hi;rw[AFe];rfl
theorem TS {α β:Type} (f:α->β) {l:List α} (d:α) (e:β) {i:Nat} (h:i<l.length):(l.map f).getD i e=f (l.getD i d):=by
 simp[AS,At h]
structure AEL (Q:List AE) (o1:List Int) (L:List (Int×Int)) (j:Nat) (oo:Nat->List Int):Prop where
 zero:oo 0=o1
 succ:∀i,i<L.length->oo (i+1)=Ac Q j (oo i) (0,(L.getD i (0,0)).2)
 dok:∀i,Kp Q (oo i)
 pre:∀i,o1 <+: oo i
 nxt:∀i,oo i <+: oo (i+1)
 tgt:∀i,∀a∈L.take i,a.2∈oo i
 cls:∀i,∀x∈oo i,x∈o1\/∀a∈(Q.getD x.toNat (0,[])).2,a.2∈oo i
 last:oo L.length=L.foldl (Ac Q j) o1
theorem A9i {Q:List AE} (c:AR Q) {b:List Int} {L:List (Int×Int)} {j:Nat} (g:∀a∈L,0<=a.2/\a.2<(Q.length:Int)) (h1:Kp Q b) (k:Q.length-b.length<=j):AEL Q b L j (λi=>(L.take i).foldl (Ac Q j) b):=by
 have f:=λi=>λa (ha:a∈L.take i)=>g a (VM ha);have hs:∀i,i<L.length->(L.take (i+1)).foldl (Ac Q j) b=Ac Q j ((L.take i).foldl (Ac Q j) b) (0,(L.getD i (0,0)).2):=λi hi=>Nv (Ac Q j) L (0,0) b hi;have d:=λi=>E2 (EL c j) (L.take i) b (f i) h1;refine⟨rfl,hs,λi=>(d i).1,λi=>(d i).2,λi=>?_,λi=>(Rw c j _ b (f i) h1 k).1,λi=>(Rw c j _ b (f i) h1 k).2,by simp only[QD]⟩;by_cases h:i<L.length
 .show _ <+: (L.take (i+1)).foldl (Ac Q j) b;rw[hs i h];have l:=g _ (AD L (0,0) h);exact(E2 (EL c j) [(0,(L.getD i (0,0)).2)] _ (λa ha=>by
   have e:a=(0,(L.getD i (0,0)).2):=by simpa using ha
   subst e;exact l) (d i).1).2
 show (L.take i).foldl (Ac Q j) b <+: (L.take (i+1)).foldl (Ac Q j) b;rw[As (by omega),As (by omega)];exact Vd _
theorem A9j {α:Type} (l:List α) (x y:α) (t:List α) {k:Nat} (hk:k=l.length):(l++[x]++t).set k y=l++y :: t:=by
 subst hk;rw[QK,AEv _ _ (by omega),tO];rfl
theorem A2i {Q:List AE} {o a:List Int} {n:Int} (h:o++[n] <+: a):Hi Q o a=DD Q a n :: Hi Q (o++[n]) a:=by
 obtain⟨t,rfl⟩:=h;unfold Hi;rw[AFf,QK,AFf];rfl
def uO (h:AG) (p ty:List Int) (ar:List (List (Int×Int))) (M:List Int) (out:List AE):List (Nat×Obj):=[(101,.box 111 true [.p ED h,.sr 102 T3 0 p.length,.sr 103 T3 0 ty.length,.sr 104 DM 0 ar.length]),(102,.arr 3 T3 p),(103,.arr 3 T3 ty),(104,.arr 91 DM ar),(105,.box 108 false [.bp 101 [] 0]),(106,.box 61 false [.sr 107 T3 0 M.length]),(107,.arr 3 T3 M),(108,.box 25 true [.sr 109 Mn 0 out.length]),(109,.arr 93 Mn out),(110,.box 174 false [.clo 137 [105,106,108,110]])]
def ABb (h:AG) (p0 ty:List Int) (ar:List (List (Int×Int))) (k:Nat):Prop:=∀(p o:List Int) (out:List AE) (n:Int),(∃b,Fo p b)->E3 p0 p->Kp (quo p0 ty ar) o->out.length=o.length->0<=n->n<(p0.length:Int)->p0.length-o.length<=k ->
 BK Tryz.prog 137 [.p T3 n,.bp 105 [] 0,.bp 106 [] 0,.bp 108 [] 0,.bp 110 [] 0] (uO h p ty ar (Lj p0.length o) out) [101,105,106,108,110]
  (λres c=>∃a,(∃b,Fo a b)/\E3 p0 a/\res=.p T3 (Bh (Ac (quo p0 ty ar) k o (0,Ek p0 n)) (Ek p0 n))/\c=uO h a ty ar (Lj p0.length (Ac (quo p0 ty ar) k o (0,Ek p0 n))) (out++Hi (quo p0 ty ar) o (Ac (quo p0 ty ar) k o (0,Ek p0 n))))
theorem mL (h:AG) {p0 ty:List Int} {ar:List (List (Int×Int))} (ai:∃m,Fo p0 m) (v:AR (quo p0 ty ar)) (aw:ty.length=p0.length) (ae:ar.length=p0.length) (ag:∀k,∀a∈ar.getD k [],0<=a.2/\a.2<(p0.length:Int)) (k:Nat) (ay:∀j,k=j+1->ABb h p0 ty ar j):ABb h p0 ty ar k:=by
 intro p o out n aj F O y n0 n1 hk;obtain⟨m,fo⟩:=aj;obtain⟨bj,L⟩:=ai;have U:=Pm L n0 n1;have d:=GY L n0 n1 U;have hp:=v.1;rw[FG]at hp;have C:=YK p0.length o;generalize bd:Ek p0 n=b at *;refine LQ [0,1,2,3,4,6,7,8,10,18,49,50,51,52] [] [] Tryz.func137 Tryz.ntmps137 AH ?_;intro w0 K O0 ρ0 f be bf;simp only[uO,Aq];repeat'(first|exact trivial|apply eS rfl|refine rX f ?_ ?_)
 refine cP 2 f ?_ ?_
 .trivial
 refine rM f (gD h ty ar m fo n0 (by rw[<-F.1];exact n1)) [(1,.nm 101),(2,.nm 102),(3,.nm 103),(4,.nm 104)] [102,103,104] ?_ ?_ ?_
 .exact eN
 .simp only[bV];exact eN
 rintro _ _ ⟨u,bi,rfl,rfl,M,bc,ba⟩;have aa:=F.trans bc;have e:=((F.2 n b n0 n1).1 U).det ba;subst e;refine⟨[(101,.nm 1),(102,.nm 2),(103,.nm 3),(104,.nm 4)],.p T3 b,[(101,.box 111 true [.p ED h,.sr 102 T3 0 u.length,.sr 103 T3 0 ty.length,.sr 104 DM 0 ar.length]),(102,.arr 3 T3 u),(103,.arr 3 T3 ty),(104,.arr 91 DM ar)],rfl,rfl,?_,?_,rfl,rfl,?_⟩
 .simp only[bV];exact eN
 .exact eN
 refine rL f ?_ ?_
 .trivial
 repeat'(first|exact trivial|apply eS rfl|refine rX f ?_ ?_|refine rC ?_ ?_<;>intro l<;>try(cases l;done))
 .exact⟨d.1,by rw[C];exact d.2⟩
 .exact⟨d.1,by rw[C];exact d.2⟩
 .rw[YL d.1 d.2]at l;have B:b∈o:=GO λe=>by rw[An e]at l;omega
  have W:Ac (quo p0 ty ar) k o (0,b)=o:=BY B;have A:Bh o b=(Lj p0.length o).getD b.toNat 0:=by
   rw[YL d.1 d.2,BY B];unfold Bh;rw[BY B]
  refine Ev.ent (σ':=⟨[(6,.p T3 (Bh o b))],uO h u ty ar (Lj p0.length o) out⟩) ?_ (AC [(101,.nm 101),(102,.nm 102),(103,.nm 103),(104,.nm 104),(105,.nm 105),(106,.nm 106),(107,.nm 107),(108,.nm 108),(109,.nm 109),(110,.nm 110)] rfl rfl ?_ ?_)
  .refine fM f [.tmp 6] (.p T3 (Bh o b)) eT ⟨u,⟨m,M⟩,aa,by rw[W],?_⟩;rw[W,bZ,QQ];rfl
  .unfold uO;exact eN
  refine eM ?_;exact A.symm
 .exact⟨d.1,by rw[C];exact d.2⟩
 .refine⟨⟨d.1,by rw[aw];exact d.2⟩,?_⟩;have:=O.len;rw[FG]at this;simp only[AQ];omega
 .exact⟨d.1,by rw[ae];exact d.2⟩
 rw[YL d.1 d.2]at l;have w:b∉o:=λe=>by rw[BY e]at l;omega
 have N:=O.snoc d.1 (by rw[FG];exact d.2) w;have an:=N.len;rw[FG,IF,Pz]at an;obtain⟨j,rfl⟩:∃j,k=j+1:=⟨k-1,by omega⟩;have am:=ay j rfl;have x:=OC (p:=p0) (ty:=ty) (ar:=ar) d.1 d.2;have ax:=λa (ha:a∈ar.getD b.toNat [])=>ag b.toNat a ha;have bg:(ar.getD b.toNat []).length<=100000:=by
  have:=(v.2 _ (AD (quo p0 ty ar) (0,[]) (k:=b.toNat) (by rw[FG];omega))).1;rw[x,Py]at this;exact this
 have ad:∀a∈((ar.getD b.toNat []).map λa=>(a.1,Ek p0 a.2)),0<=a.2/\a.2<((quo p0 ty ar).length:Int):=λa ha=>by
  refine Ah v (n:=b) ?_;rw[x];exact ha
 obtain⟨c,g⟩:∃c,AEL (quo p0 ty ar) (o++[b]) ((ar.getD b.toNat []).map λa=>(a.1,Ek p0 a.2)) j c:=⟨_,A9i v (j:=j) ad N (by rw[FG,IF,Pz];omega)⟩;have G:Ac (quo p0 ty ar) (j+1) o (0,b)=((ar.getD b.toNat []).map λa=>(a.1,Ek p0 a.2)).foldl (Ac (quo p0 ty ar) j) (o++[b]):=by
  unfold Ac;rw[An w];show Co (quo p0 ty ar) (j+1) o b=_;rw[CN,x];rfl
 rw[<-g.last,Py]at G;have ap:=λ(i:Nat) (hi:i<(ar.getD b.toNat []).length)=>show (((ar.getD b.toNat []).map λa=>(a.1,Ek p0 a.2)).getD i (0,0))=(((ar.getD b.toNat []).getD i (0,0)).1,Ek p0 ((ar.getD b.toNat []).getD i (0,0)).2) by
  exact TS (λa:Int×Int=>(a.1,Ek p0 a.2)) (0,0) (0,0) hi
 rw[y,A5u d.1 d.2 w];generalize bh:ar.getD b.toNat []=xs at *;refine AI (ι:={s:Nat×List Int//s.1<=xs.length/\(∃m,Fo s.2 m)/\E3 p0 s.2}) (λs=>⟨[(0,.p T3 b),(1,.bp 105 [] 0),(2,.bp 106 [] 0),(3,.bp 108 [] 0),(4,.bp 110 [] 0),(7,.p (.int .i64) (o.length:Int)),(8,.sr 64 AW 0 ((xs.take s.1.1).map λa=>(a.1,Bh (c s.1.1) (Ek p0 a.2))).length),(49,.p DM xs),(50,.p (.int .i64) (xs.length:Int)),(51,.p (.int .i64) (s.1.1:Int))],uO h s.1.2 ty ar (Lj p0.length (c s.1.1)) (out++[(ty.getD b.toNat 0,[])]++Hi (quo p0 ty ar) (o++[b]) (c s.1.1))++[(64,.arr 106 AW ((xs.take s.1.1).map λa=>(a.1,Bh (c s.1.1) (Ek p0 a.2))))]⟩) (λs=>xs.length-s.1.1) ⟨(0,u),IS _,⟨m,M⟩,aa⟩ (AC [(101,.nm 101),(102,.nm 102),(103,.nm 103),(104,.nm 104),(105,.nm 105),(106,.nm 106),(107,.nm 107),(108,.nm 108),(109,.nm 109),(110,.nm 110),(64,.nil)] rfl rfl ?_ ?_) (λs=>?_)
 .unfold uO;simp only[g.zero,bZ,QQ];refine eM ?_;exact⟨by rw[YK,YK],y.symm⟩
 .exact eN
 obtain⟨⟨i,q⟩,hi,⟨Z,P⟩,V⟩:=s;have E:=g.pre i;have z:=g.dok i;have au:=E.length_le;have ah:=z.len;rw[IF,Pz]at au;rw[FG]at ah;have R:(out++[(ty.getD b.toNat 0,[])]++Hi (quo p0 ty ar) (o++[b]) (c i)).length=(c i).length:=by
  unfold Hi;simp only[IF,Pz,Py,SM];omega
 have S:out.length+1+(Hi (quo p0 ty ar) (o++[b]) (c i)).length=(c i).length:=by
  rw[<-R,IF,IF,Pz]
 simp only[uO];repeat'(first|exact trivial|apply eS rfl|refine rX f ?_ ?_|refine rC ?_ ?_<;>intro l<;>try(cases l;done))
 .exact l
 .have r:i<xs.length:=IN.1 l;have Y:=ax _ (AD xs (0,0) r);have X:=g.succ i (by rw[Py];exact r);rw[ap i r]at X;have af:=A5v E (g.nxt i) (g.cls i) z.nd;have av:=g.pre (i+1);have T:out.length+1+(Hi (quo p0 ty ar) (o++[b]) (c (i+1))).length=(c (i+1)).length:=by
   have h1:=av.length_le;rw[IF,Pz]at h1;unfold Hi;simp only[IF,Pz,Py,SM];omega
  have J:((xs.take i).map λa=>(a.1,Bh (c i) (Ek p0 a.2)))++[((xs.getD i (0,0)).1,Bh (c (i+1)) (Ek p0 (xs.getD i (0,0)).2))]=(xs.take (i+1)).map λa=>(a.1,Bh (c (i+1)) (Ek p0 a.2)):=by
   rw[EZ _ xs (0,0) r]
   congr 1
   refine QE λa ha=>?_;obtain⟨t,H⟩:=g.nxt i;rw[<-H,YN (g.tgt i (a.1,Ek p0 a.2) (by rw[<-List.map_take];exact Do.2 ⟨a,ha,rfl⟩))]
  rw[S];refine CQ drawsAny f 10 [([3,4,5],6),([1,2],7),([],8),([0],9)] [] (by kernel_rfl) (MF ?_ ?_)
  .trivial
  refine mxC f (am q (c i) (out++[(ty.getD b.toNat 0,[])]++Hi (quo p0 ty ar) (o++[b]) (c i)) (xs.getD i (0,0)).2 ⟨Z,P⟩ V z R Y.1 Y.2 (by omega)) [(101,.nm 101),(102,.nm 102),(103,.nm 103),(104,.nm 104),(105,.nm 105),(106,.nm 106),(107,.nm 107),(108,.nm 108),(109,.nm 109),(110,.nm 110)] [102,103,104,107,109] ?_ ?_ ?_
  .exact eN
  .simp only[uO];refine eM ?_;exact S.symm
  rintro _ _ ⟨I,⟨az,ab⟩,bb,rfl,rfl⟩;rw[<-X,QK _ _ (Hi _ (c i) _),af];refine⟨[(101,.nm 101),(102,.nm 102),(103,.nm 103),(104,.nm 104),(105,.nm 105),(106,.nm 106),(107,.nm 107),(108,.nm 108),(109,.nm 109),(110,.nm 110)],.p T3 (Bh (c (i+1)) (Ek p0 (xs.getD i (0,0)).2)),[(101,.box 111 true [.p ED h,.sr 102 T3 0 I.length,.sr 103 T3 0 ty.length,.sr 104 DM 0 ar.length]),(102,.arr 3 T3 I),(103,.arr 3 T3 ty),(104,.arr 91 DM ar),(105,.box 108 false [.bp 101 [] 0]),(106,.box 61 false [.sr 107 T3 0 (Lj p0.length (c (i+1))).length]),(107,.arr 3 T3 (Lj p0.length (c (i+1)))),(108,.box 25 true [.sr 109 Mn 0 (c (i+1)).length]),(109,.arr 93 Mn (out++[(ty.getD b.toNat 0,[])]++Hi (quo p0 ty ar) (o++[b]) (c (i+1)))),(110,.box 174 false [.clo 137 [105,106,108,110]])],rfl,rfl,?_,?_,rfl,rfl,rfl,?_⟩
  .simp only[uO];refine eM ?_;exact T
  .exact eN
  refine MF ?_ ?_
  .trivial
  refine OL f [] ?_ ?_
  .trivial
  refine MF ?_ ?_
  .trivial
  refine OL f [] ?_ ?_
  .trivial
  refine MF ?_ ?_
  .trivial
  refine OL f [64] ?_ ?_
  .rw[Py,OS];simp only[AQ];omega
  refine Ss f ?_ ?_ ?_
  .trivial
  .trivial
  repeat'(first|apply eS rfl|apply AB|refine rX f ?_ ?_)
  .exact eV
  refine⟨⟨(i+1,I),r,⟨az,ab⟩,bb⟩,by simp only;omega,AC [(101,.nm 101),(102,.nm 102),(103,.nm 103),(104,.nm 104),(105,.nm 105),(106,.nm 106),(107,.nm 107),(108,.nm 108),(109,.nm 109),(110,.nm 110),(64,.nm 64)] rfl rfl ?_ ?_⟩
  .simp only[uO,<-J];refine eM ?_;exact T.symm
  simp only[<-J];exact eN
 .exact IN.2 (by omega)
 have al:i=xs.length:=by
  have:=P6.1 l;omega
 subst al;obtain⟨t,H⟩:=E;have A:Bh (c xs.length) b=(o.length:Int):=by
  rw[<-H,YN (by simp)];unfold Bh;rw[BY (by simp),YM w]
 have aq:DD (quo p0 ty ar) (c xs.length) b=(ty.getD b.toNat 0,xs.map λa=>(a.1,Bh (c xs.length) (Ek p0 a.2))):=by
  unfold DD;rw[x];simp only[Va];rfl
 have ak:(out++[(ty.getD b.toNat 0,([]:List (Int×Int)))]++Hi (quo p0 ty ar) (o++[b]) (c xs.length)).getD o.length (0,[])=(ty.getD b.toNat 0,[]):=by
  rw[<-y];simp[AS]
 have D:=A2i (Q:=quo p0 ty ar) (g.pre xs.length);rw[aq]at D;rw[QD,ak,A9j out _ _ _ y.symm,<-D];have ao:out.length+1+(Hi (quo p0 ty ar) (o++[b]) (c xs.length)).length=(out++Hi (quo p0 ty ar) o (c xs.length)).length:=by
  rw[D];simp only[IF,Of];omega
 rw[ao];refine Ev.ent (σ':=⟨[(6,.p T3 (Bh (c xs.length) b))],uO h q ty ar (Lj p0.length (c xs.length)) (out++Hi (quo p0 ty ar) o (c xs.length))⟩) ?_ (AC [(101,.nm 101),(102,.nm 102),(103,.nm 103),(104,.nm 104),(105,.nm 105),(106,.nm 106),(107,.nm 107),(108,.nm 108),(109,.nm 109),(110,.nm 110)] rfl rfl ?_ ?_)
 .exact fM f [.tmp 6] (.p T3 (Bh (c xs.length) b)) eT ⟨q,⟨Z,P⟩,V,by rw[G],by rw[G];rfl⟩
 .unfold uO;exact eN
 refine eM ?_;exact A.symm
theorem A5w (h:AG) {p0 ty:List Int} {ar:List (List (Int×Int))} (f:∃i,Fo p0 i) (b:AR (quo p0 ty ar)) (g:ty.length=p0.length) (c:ar.length=p0.length) (d:∀k,∀a∈ar.getD k [],0<=a.2/\a.2<(p0.length:Int)):∀k,ABb h p0 ty ar k
 | 0=>mL h f b g c d 0 (λj e=>by cases e)
 | k+1=>mL h f b g c d (k+1) (λj e=>by cases e;exact A5w h f b g c d k)
theorem A5x (len:Nat):Lj len []=List.replicate len (-1):=by
 unfold Lj;apply SH
 .simp
 intro i h1 a;simp
theorem A5y {α:Type} (x y:α) {n i:Nat} (h:i<n):(List.replicate i x++List.replicate (n-i) y).set i x=List.replicate (i+1) x++List.replicate (n-(i+1)) y:=by
 obtain⟨m,a⟩:∃m,n-i=m+1:=⟨n-i-1,by omega⟩;have b:n-(i+1)=m:=by omega
 rw[a,b,AEv _ _ (by simp),AFO,tO,AFA,AFE,AFU,QK];rfl
theorem A5z (h:AG) {p ty:List Int} {ar:List (List (Int×Int))} (g:∃y,Fo p y) (f:AR (quo p ty ar)) (t:ty.length=p.length) (m:ar.length=p.length) (n:∀k,∀a∈ar.getD k [],0<=a.2/\a.2<(p.length:Int)) {r:Int} (v:0<=r) (w:r<(p.length:Int)) :
  BK Tryz.prog 87 [.bp 101 [] 0,.p T3 r] (clJ h p ty ar) [101]
  (λres _=>res=.p DZ (AL (quo p ty ar) (Ek p r))):=by
 have d:=A5w h g f t m n p.length p [] [] r g (E3.refl p) ⟨by simp,λx u=>by cases u⟩ rfl v w (by simp);have o:Hi (quo p ty ar) [] (Ac (quo p ty ar) p.length [] (0,Ek p r))=AL (quo p ty ar) (Ek p r):=by
  have e:Ac (quo p ty ar) p.length [] (0,Ek p r)=Co (quo p ty ar) p.length [] (Ek p r):=An (by simp);rw[e];unfold Hi AL;rw[FG];rfl
 rw[ABz,o,A5x]at d;have s:=f.1;rw[FG]at s;generalize AL (quo p ty ar) (Ek p r)=G at *;generalize Bh _ _=z at d;generalize Lj _ _=M at d;refine LQ [0,1,2,4,5,6,7,8,16,17,18] [] [] Tryz.func87 Tryz.ntmps87 AH ?_;intro w0 K O0 ρ0 b B C;simp only[clJ,Aq];repeat'(first|exact trivial|apply eS rfl|refine rX b ?_ ?_)
 .simp only[AQ];omega
 refine AI (ι:={i:Nat//i<=p.length}) (λi=>⟨[(0,.bp 101 [] 0),(1,.p T3 r),(2,.bp 2 [] 0),(4,.bp 4 [] 0),(5,.bp 5 [] 0),(16,.p (.int .i64) (p.length:Int)),(17,.p (.int .i64) (i.1:Int))],[(5,.box 61 false [.sr 14 T3 0 p.length]),(14,.arr 3 T3 (List.replicate i.1 (-1)++List.replicate (p.length-i.1) 0)),(4,.box 25 true [.raw (.slice none 0 0)]),(2,.box 108 false [.bp 101 [] 0]),(101,.box 111 true [.p ED h,.sr 102 T3 0 p.length,.sr 103 T3 0 ty.length,.sr 104 DM 0 ar.length]),(102,.arr 3 T3 p),(103,.arr 3 T3 ty),(104,.arr 91 DM ar)]⟩) (λi=>p.length-i.1) ⟨0,by omega⟩ (AC [(5,.nm 5),(14,.nm 14),(4,.nm 4),(2,.nm 2),(101,.nm 101),(102,.nm 102),(103,.nm 103),(104,.nm 104)] rfl rfl ?_ ?_) (λi=>?_)
 .refine eM ?_;rfl
 .exact eN
 obtain⟨i,hi⟩:=i;simp only;repeat'(first|exact trivial|apply eS rfl|apply AB|refine rX b ?_ ?_|refine rC ?_ ?_<;>intro c<;>try(cases c;done))
 .exact c
 .exact eV
 .have j:i<p.length:=IN.1 c;refine⟨⟨i+1,j⟩,by simp only;omega,AC [(5,.nm 5),(14,.nm 14),(4,.nm 4),(2,.nm 2),(101,.nm 101),(102,.nm 102),(103,.nm 103),(104,.nm 104)] rfl rfl ?_ ?_⟩
  .refine eM ?_;exact A5y _ _ j
  exact eN
 have q:i=p.length:=by
  have:=P6.1 c;omega
 subst q;rw[tO,List.replicate_zero,QQ];refine cP 2 b ?_ ?_
 .trivial
 refine rM b (d) [(101,.nm 101),(102,.nm 102),(103,.nm 103),(104,.nm 104),(105,.nm 2),(106,.nm 5),(107,.nm 14),(108,.nm 7),(109,.nil),(110,.nm 8)] [102,103,104,14] ?_ ?_ ?_
 .exact eN
 .simp only[uO];refine eM ?_;exact AFO.symm
 rintro _ _ ⟨l,A,D,rfl,rfl⟩;refine⟨[(101,.nm 101),(102,.nm 102),(103,.nm 103),(104,.nm 104),(2,.nm 105),(5,.nm 106),(14,.nm 107),(7,.nm 108),(120,.nm 109),(8,.nm 110)],.p T3 z,[(101,.box 111 true [.p ED h,.sr 102 T3 0 l.length,.sr 103 T3 0 ty.length,.sr 104 DM 0 ar.length]),(102,.arr 3 T3 l),(103,.arr 3 T3 ty),(104,.arr 91 DM ar),(2,.box 108 false [.bp 101 [] 0]),(5,.box 61 false [.sr 14 T3 0 M.length]),(14,.arr 3 T3 M),(7,.box 25 true [.sr 120 Mn 0 G.length]),(120,.arr 93 Mn G),(8,.box 174 false [.clo 137 [2,5,7,8]])],rfl,rfl,?_,?_,rfl,rfl,CV ?_⟩
 .simp only[uO];exact eN
 .exact eN
 refine Fe [120] ?_;repeat'(first|exact trivial|apply eS rfl|refine rX b ?_ ?_)
 exact fM b [.cell 4 25] (.p DZ G) eT rfl
structure AEM (f:List AE) (r:Int) (o:List Int):Prop where
 ok:Kp f o
 zero:o.getD 0 0=r/\0<o.length
 cl:∀n∈o,∀a∈AO f n,a.2∈o
theorem FH {f:List AE} (hf:AR f) {r:Int} (b:0<=r) (c:r<(f.length:Int)):AEM f r (Co f f.length [] r):=by
 have h1:=EL hf f.length [] r (GV f) b c (by simp);have d:=Ir hf f.length [] r (GV f) b c (by simp) (by simp);have e:[r] <+: Co f f.length [] r:=by
  obtain⟨k,hk⟩:∃k,f.length=k+1:=⟨f.length-1,by omega⟩;rw[hk,CN];exact(E2 (EL hf k) _ _ (λa ha=>Ah hf ha) ((GV f).snoc b c (by simp))).2
 refine⟨h1.1,?_,λn hn a ha=>?_⟩
 .obtain⟨t,g⟩:=e;rw[<-g];exact⟨rfl,by simp⟩
 rcases d.2 n hn with h|h
 .cases h
 exact h a ha
theorem GZ {f:List AE} {r:Int} {i:Nat} (hi:i<(Co f f.length [] r).length):(AL f r).getD i (0,[])=DD f (Co f f.length [] r) ((Co f f.length [] r).getD i 0):=by
 unfold AL;simp[AS,hi]
theorem Fi (f:List AE) (r:Int):(AL f r).length=(Co f f.length [] r).length:=by simp[AL]
def Ci (f g:List AE):List AE:=f++g.map λx=>(x.1,A4 f.length x.2)
theorem FI (f g:List AE):(Ci f g).length=f.length+g.length:=by simp[Ci]
theorem Pn {f g:List AE} {x:Int} (a:0<=x) (b:x<(f.length:Int)):(Ci f g).getD x.toNat (0,[])=f.getD x.toNat (0,[]):=by
 unfold Ci;rw[AS,AS,QN (by omega)]
theorem NH {f g:List AE} {y:Int} (a:0<=y) (b:y<(g.length:Int)):(Ci f g).getD ((f.length:Int)+y).toNat (0,[])=((g.getD y.toNat (0,[])).1,A4 f.length (g.getD y.toNat (0,[])).2):=by
 unfold Ci;have e:((f.length:Int)+y).toNat=f.length+y.toNat:=by omega
 rw[e,AS,QR (by omega),AFD];rw[<-AS];exact TS (λx:AE=>(x.1,A4 f.length x.2)) (0,[]) (0,[]) (by omega)
theorem A0a {n:Nat} {p:List Int} {x y:Int} (h:EG n p [] x y):Ek p x=Ek p y:=by
 induction h with
 | cls _ _ _ _ h g=>rw[gG h,gG g]
 | wt h=>cases h
 | symm _ a=>exact a.symm
 | trans _ _ b c=>exact b.trans c
noncomputable abbrev TT (p ty:List Int) (ar:List (List (Int×Int))):List Int:=Co (quo p ty ar) (quo p ty ar).length [] (Ek p 0)
structure AAa (h:AG) (N:List AE) (P:List (Int×Int)) (U:List AE) (v:Int->Int):Prop where
 good:AR U
 pos:0<U.length
 str:∀x∈U,MJ x.2
 feat:∀x∈U,∀a∈x.2,a.1∈DE N
 ty:Cn h U
 ro:RO U
 zero:v 0=0
 proj:Uh h N P U v
 least:∀X w,Cn h X->Uh h N P X w->w 0=0->∃m,IB h U X m
 len:U.length<=N.length
section
variable {h:AG} {N:List AE} {P:List (Int×Int)} {p ty:List Int} {ar:List (List (Int×Int))}
theorem TV (a:JI h N P p ty ar []) (b:AR (quo p ty ar)) (c:0<N.length):AEM (quo p ty ar) (Ek p 0) (TT p ty ar):=by
 obtain⟨d,fo⟩:=a.fo;have lp:=a.lp;have:=GY fo (x:=0) (by omega) (by omega) (Pm fo (by omega) (by omega));exact FH b this.1 (by rw[FG];exact this.2)
theorem YO (d:JI h N P p ty ar []) (c:AR (quo p ty ar)) (b:0<N.length):Ek p 0∈TT p ty ar:=by
 have a:=TV d c b;have:=AD (TT p ty ar) 0 a.zero.2;rw[a.zero.1]at this;exact this
theorem A5A (a:JI h N P p ty ar []) {x y:Int} (b:(x,y)∈P) (c:Ek p x∈TT p ty ar):Ek p y∈TT p ty ar:=by
 rw[<-A0a (a.sp (x,y) b)];exact c
theorem rI (b:JI h N P p ty ar []) (f:AR (quo p ty ar)) (e:0<N.length) {x:Int} (c:0<=x) (k:x<(N.length:Int)) (j:Ek p x∈TT p ty ar) {a:Int×Int} (ha:a∈AO N x):Ek p a.2∈TT p ty ar:=by
 obtain⟨l,fo⟩:=b.fo;have lp:=b.lp;obtain⟨t,i,g⟩:=b.sa x _ c k (Pm fo c (by omega)) a ha;rw[A0a g];have d:=GY fo c (by omega) (Pm fo c (by omega));refine(TV b f e).cl _ j (a.1,Ek p t) ?_;rw[AO,OC d.1 d.2];exact Do.2 ⟨(a.1,t),i,rfl⟩
def A2j (N:List AE) (k:Nat) (g:List AE):Prop:=∀i:Int,0<=i->i<(g.length:Int)->(k:Int)+i<(N.length:Int)/\N.getD ((k:Int)+i).toNat (0,[])=((g.getD i.toNat (0,[])).1,A4 k (g.getD i.toNat (0,[])).2)
theorem YP (m:JI h N P p ty ar []) (f:AR (quo p ty ar)) (e:0<N.length) {k:Nat} {g:List AE} (l:A2j N k g) (r:RO g) (hk:Ek p (k:Int)∈TT p ty ar):∀(n:Nat) (i:Int),i.toNat<=n->0<=i->i<(g.length:Int)->Ek p ((k:Int)+i)∈TT p ty ar:=by
 intro n;induction n with
 | zero =>
  intro i hn o c;have:i=0:=by omega
  subst this;rw[AFo];exact hk
 | succ n q =>
  intro i hn o c;by_cases hi:i=0
  .subst hi;rw[AFo];exact hk
  obtain⟨j,d,s,a,ha,rfl⟩:=r i (by omega) c;have b:=l j d (by omega);have:=rI m f e (x:=(k:Int)+j) (by omega) b.1 (q j (by omega) d (by omega)) (a:=(a.1,a.2+(k:Int))) (by
   rw[AO,b.2];exact Do.2 ⟨a,ha,rfl⟩)
  rw[AGt];exact this
end
theorem mM {h:AG} {N:List AE} {P:List (Int×Int)} {f:List AE} {v:Int->Int} (e:Uh h N P f v) {k:Nat} {g:List AE} (d:A2j N k g) (j:v (k:Int)=0):IB h g f λi=>v ((k:Int)+i):=by
 refine⟨by show v ((k:Int)+0)=0;rw[AFo];exact j,λi b c=>?_,λi b c=>?_,λi b c a ha=>?_⟩
 .exact e.rng _ (by omega) (d i b c).1
 .have:=e.ty _ (by omega) (d i b c).1;rw[(d i b c).2]at this;exact this
 have:=e.arc _ (by omega) (d i b c).1 (a.1,a.2+(k:Int)) (by
  rw[AO,(d i b c).2];exact Do.2 ⟨a,ha,rfl⟩)
 rw[AGt (k:Int) a.2];exact this
theorem Lk {h:AG} {g X:List AE} {m:Int->Int} (a:IB h g X m):Uh h g [] X m:=⟨a.rng,a.ty,a.arc,λq b=>by cases b⟩
theorem YQ {h:AG} {f g X:List AE} (hf:AR f) (m:AR g) {v w:Int->Int} (h1:Uh h f [] X v) (i:Uh h g [] X w):Uh h (Ci f g) [] X (λx=>if x<(f.length:Int) then v x else w (x-(f.length:Int))):=by
 have j:=FI f g;refine⟨λx d e=>?_,λx d e=>?_,λx d e a ha=>?_,λq n=>by cases n⟩
 .rw[j]at e;show _/\_;try simp only
  split
  .exact h1.rng x d (by assumption)
  exact i.rng _ (by omega) (by omega)
 .rw[j]at e;try simp only
  by_cases c:x<(f.length:Int)
  .rw[BY c,Pn d c];exact h1.ty x d c
  rw[An c];have:=NH (f:=f) (g:=g) (y:=x-(f.length:Int)) (by omega) (by omega);rw[show (f.length:Int)+(x-(f.length:Int))=x by omega]at this;rw[this];exact i.ty _ (by omega) (by omega)
 rw[j]at e;try simp only
 by_cases c:x<(f.length:Int)
 .rw[BY c];rw[AO,Pn d c]at ha;have l:=Ah hf ha;rw[BY l.2];exact h1.arc x d c a ha
 rw[An c];have:=NH (f:=f) (g:=g) (y:=x-(f.length:Int)) (by omega) (by omega);rw[show (f.length:Int)+(x-(f.length:Int))=x by omega]at this;rw[AO,this]at ha;obtain⟨b,k,rfl⟩:=Do.1 ha;have l:=Ah m k;rw[An (by simp only;omega)];try simp only
 rw[show b.2+(f.length:Int)-(f.length:Int)=b.2 by omega];exact i.arc _ (by omega) (by omega) b k
theorem rJ {h:AG} {N X:List AE} {P:List (Int×Int)} {v:Int->Int} (h1:Uh h N [] X v) (a:∀q∈P,v q.1=v q.2):Uh h N P X v:=⟨h1.rng,h1.ty,h1.arc,a⟩
theorem b4 {N f g:List AE} {k:Nat} (h:A2j f k N):A2j (Ci f g) k N:=by
 intro i a b;have:=h i a b;rw[FI,Pn (by omega) this.1];exact⟨by omega,this.2⟩
theorem b5 {f:List AE}:A2j f 0 f:=by
 intro i c b;rw[show ((0:Nat):Int)+i=i by omega];refine⟨b,?_⟩;have:A4 0 (f.getD i.toNat (0,[])).2=(f.getD i.toNat (0,[])).2:=by
  unfold A4;rw[QE (g:=id) (λa _=>by show (a.1,a.2+((0:Nat):Int))=a;rw[Int.natCast_zero,AFo]),AGv]
 rw[this]
theorem YR {f g:List AE}:A2j (Ci f g) f.length g:=by
 intro i a b;rw[FI,NH a b];exact⟨by omega,rfl⟩
set_option maxHeartbeats 1000000 in
theorem ABc {h:AG} {N:List AE} {P:List (Int×Int)} {p ty:List Int} {ar:List (List (Int×Int))} (L:JI h N P p ty ar []) (E:AR (quo p ty ar)) (O:0<N.length) (H:∀x,0<=x->x<(N.length:Int)->Ek p x∈TT p ty ar) :
  AAa h N P (AL (quo p ty ar) (Ek p 0)) (λx=>Bh (TT p ty ar) (Ek p x)):=by
 have s:=TV L E O
 have af:=YO L E O
 obtain⟨nty,⟨av,fo⟩,lp,lt,la,wr,tyr,arr,srt,sp,st,sa,co⟩:=L
 have aj:=FG p ty ar
 have w:=λ{x:Int} (C:0<=x) (D:x<(N.length:Int))=>Pm fo C (by rw[lp];exact D)
 have J:=λ{x:Int} (C:0<=x) (D:x<(N.length:Int))=>GY fo C (by rw[lp];exact D) (w C D)
 have K:=Fi (quo p ty ar) (Ek p 0)
 have aa:=λi=>GZ (f:=quo p ty ar) (r:=Ek p 0) (i:=i)
 have M:∀x:Int,0<=x->x<(N.length:Int)->AO (quo p ty ar) x=(ar.getD x.toNat []).map λa=>(a.1,Ek p a.2):=λx C D=>by
  rw[AO,OC C (by rw[lp];exact D)]
 have u:∀x∈TT p ty ar,(0<=x/\x<(N.length:Int))/\Ea p x=x:=by
  have ag:Iso (quo p ty ar) (quo p ty ar) id (λx=>(0<=x/\x<(N.length:Int))/\Ea p x=x):=by
   refine⟨λi _=>by simp,λi hi a ha=>?_,λi j _ _ e=>e⟩
   rw[M i hi.1.1 hi.1.2]at ha
   obtain⟨b,m,rfl⟩:=List.mem_map.1 ha
   have c:=(arr _ b m).1
   have:=J c.1 c.2
   rw[lp]at this
   exact⟨this,(w c.1 c.2).root⟩
  have R:=J (x:=0) (by omega) (by omega)
  rw[lp]at R
  exact(Rq ag _ [] _ (λx d=>by cases d) ⟨R,(w (x:=0) (by omega) (by omega)).root⟩).2
 have ah:=λ(q:Nat)=>Rr E (quo p ty ar).length [] (Ek p 0) (GV _) (J (x:=0) (by omega) (by omega)).1 (by rw[aj];exact(J (x:=0) (by omega) (by omega)).2) (by simp) q
 unfold TT at s af H u ⊢
 generalize ao:AL (quo p ty ar) (Ek p 0)=F at *
 generalize aq:Co (quo p ty ar) (quo p ty ar).length [] (Ek p 0)=o at *
 have z:∀i:Int,0<=i->i<(o.length:Int)->o.getD i.toNat 0∈o/\Bh o (o.getD i.toNat 0)=i:=λi g l=>by
  refine⟨AD o 0 (by omega),?_⟩
  rw[Fh s.ok.nd (by omega)]
  omega
 have A:∀x∈o,F.getD (Bh o x).toNat (0,[])=(ty.getD x.toNat 0,(ar.getD x.toNat []).map λa=>(a.1,Bh o (Ek p a.2))):=λx d=>by
  have am:=Cc d
  have c:=(u x d).1
  rw[aa _ (by omega),am.2.2]
  unfold DD
  rw[OC c.1 (by rw[lp];exact c.2),List.map_map]
  rfl
 have Q:∀x∈o,∀a∈ar.getD x.toNat [],Ek p a.2∈o:=λx d a ha=>by
  have c:=(u x d).1
  exact s.cl x d (a.1,Ek p a.2) (by rw[M x c.1 c.2];exact List.mem_map.2 ⟨a,ha,rfl⟩)
 have S:∀k,MJ ((ar.getD k []).map λa=>(a.1,Bh o (Ek p a.2))):=λk=>by
  unfold MJ
  rw[List.pairwise_map]
  exact srt k
 have G:∀x∈F,∃y∈o,x=(ty.getD y.toNat 0,(ar.getD y.toNat []).map λa=>(a.1,Bh o (Ek p a.2))):=λx d=>by
  obtain⟨i,hi,rfl⟩:=CM (0,[]) d
  have h1:=z (i:Int) (by omega) (by omega)
  refine⟨_,h1.1,?_⟩
  rw[<-A _ h1.1,h1.2]
  rw[Int.toNat_natCast]
 have ae:Bh o (Ek p 0)=0:=by
  have:=Fh s.ok.nd s.zero.2
  rw[s.zero.1]at this
  exact this
 have ap:=s.ok.len
 have an:=E.1
 refine⟨⟨by omega,λx d=>?_⟩,by rw[K];exact s.zero.2,λx d=>?_,λx d a ha=>?_,λx d=>?_,λi g l=>?_,ae,⟨λi g l=>?_,λi g l=>?_,λi g l a ha=>?_,λq ai=>?_⟩,λX v ab T al=>?_,by omega⟩
 .obtain⟨y,B,rfl⟩:=G x d
  have c:=(u y B).1
  refine⟨?_,λa ha=>?_⟩
  .have:=(E.2 _ (AD (quo p ty ar) (0,[]) (k:=y.toNat) (by omega))).1
   rw[OC c.1 (by rw[lp];exact c.2),List.length_map]at this
   simp only[List.length_map]
   exact this
  obtain⟨b,m,rfl⟩:=List.mem_map.1 ha
  have:=Cc (Q y B b m)
  rw[K]
  exact⟨this.1,this.2.1⟩
 .obtain⟨y,B,rfl⟩:=G x d
  exact S _
 .obtain⟨y,B,rfl⟩:=G x d
  obtain⟨b,m,rfl⟩:=List.mem_map.1 ha
  exact(arr _ b m).2
 .obtain⟨y,B,rfl⟩:=G x d
  have c:=(u y B).1
  exact tyr y c.1 c.2
 . -- in order
  obtain⟨j,au,a,ha,e⟩:=ah i.toNat (by simp only[List.length_nil];omega) (by omega)
  have h1:=z (j:Int) (by omega) (by omega)
  have W:=z i (by omega) (by omega)
  rw[Int.toNat_natCast]at h1
  have c:=(u _ h1.1).1
  rw[M _ c.1 c.2]at ha
  obtain⟨b,m,rfl⟩:=List.mem_map.1 ha
  refine⟨(j:Int),by omega,by omega,(b.1,Bh o (Ek p b.2)),?_,?_⟩
  .have:=A _ h1.1
   rw[h1.2]at this
   rw[AO,this]
   exact List.mem_map.2 ⟨b,m,rfl⟩
  show Bh o (Ek p b.2)=i
  simp only at e
  rw[e,W.2]
 .have:=Cc (H i g l)
  rw[K]
  exact⟨this.1,this.2.1⟩
 .show A2 h _ (F.getD (Bh o (Ek p i)).toNat (0,[])).1=true
  rw[A _ (H i g l)]
  exact st i _ g l (w g l)
 .obtain⟨t,ak,ad⟩:=sa i _ g l (w g l) a ha
  have e:=A0a ad
  show Bz (AO F (Bh o (Ek p i))) a.1=Bh o (Ek p a.2)
  rw[e,AO,A _ (H i g l)]
  exact Dy (S _) (a:=(a.1,Bh o (Ek p t))) (List.mem_map.2 ⟨(a.1,t),ak,rfl⟩)
 .show Bh o (Ek p q.1)=Bh o (Ek p q.2)
  rw[A0a (sp q ai)]
 obtain⟨c1,c2,U,V⟩:=co X v ab T
 refine⟨λi=>v (o.getD i.toNat 0),?_,λi g l=>?_,λi g l=>?_,λi g l a ha=>?_⟩
 .show v (o.getD 0 0)=0
  rw[s.zero.1,<-c1 0 _ (by omega) (by omega) (w (by omega) (by omega))]
  exact al
 .have n:=z i g (by omega)
  have c:=(u _ n.1).1
  exact T.rng _ c.1 c.2
 .have n:=z i g (by omega)
  have c:=u _ n.1
  have hn:=A _ n.1
  rw[n.2]at hn
  rw[hn]
  exact U _ c.1.1 c.1.2 c.2
 have n:=z i g (by omega)
 have c:=u _ n.1
 have hn:=A _ n.1
 rw[n.2]at hn
 rw[AO,hn]at ha
 obtain⟨b,m,rfl⟩:=List.mem_map.1 ha
 have Y:=V _ c.1.1 c.1.2 c.2 b m
 have I:=(arr _ b m).1
 have Z:=Cc (Q _ n.1 b m)
 simp only
 rw[Z.2.2,<-c1 b.2 _ I.1 I.2 (w I.1 I.2)]
 exact Y
structure VF (h:AG) (f:List AE):Prop where
 good:AR f
 pos:0<f.length
 ty:Cn h f
 str:∀x∈f,MJ x.2
 ft:∀x∈f,∀a∈x.2,0<=a.1/\a.1<(h.2.length:Int)
 can:AL f 0=f
 ro:RO f
structure HU (h:AG):Prop where
 ok:GB h
 inj:ME h
 ft:h.2.length<=64
def mN (U:List AE):Prop:=(Co U U.length [] 0).length=U.length/\∀k,(hk:k<(Co U U.length [] 0).length)->(Co U U.length [] 0)[k]=(k:Int)
theorem gH {Q:List AE} (m:AR Q) {r:Int} (L:0<=r) (M:r<(Q.length:Int)):AR (AL Q r)/\mN (AL Q r):=by
 have d:=FH m L M;have D:=Fi Q r;have C:=λi=>GZ (f:=Q) (r:=r) (i:=i);generalize O:AL Q r=c at *;generalize H:Co Q Q.length [] r=o at *;have R:=d.ok.len;have N:=m.1;have g:∀i:Int,0<=i->i<(o.length:Int)->o.getD i.toNat 0∈o/\Bh o (o.getD i.toNat 0)=i:=λi J K=>by
  refine⟨AD o 0 (by omega),?_⟩;rw[Fh d.ok.nd (by omega)];omega
 have p:∀i:Int,0<=i->i<(o.length:Int)->AO c i=(AO Q (o.getD i.toNat 0)).map (I0 o):=λi J K=>by
  rw[AO,C i.toNat (by omega)];rfl
 have F:Iso c Q (λi=>o.getD i.toNat 0) (λi=>0<=i/\i<(o.length:Int)):=by
  refine⟨λi hi=>?_,λi hi a ha=>?_,λi j hi B e=>?_⟩
  .rw[p i hi.1 hi.2,Va];have:∀a∈AO Q (o.getD i.toNat 0),((λa:Int×Int=>(a.1,o.getD a.2.toNat 0))∘I0 o) a=a:=λa ha=>by
    show (a.1,o.getD (Bh o a.2).toNat 0)=a;rw[(Cc (d.cl _ (g i hi.1 hi.2).1 a ha)).2.2]
   rw[QE this,List.map_id']
  .rw[p i hi.1 hi.2]at ha;obtain⟨b,q,rfl⟩:=Do.1 ha;have:=Cc (d.cl _ (g i hi.1 hi.2).1 b q);exact⟨this.1,this.2.1⟩
  have h1:=(g i hi.1 hi.2).2;have h:=(g j B.1 B.2).2;have e:o.getD i.toNat 0=o.getD j.toNat 0:=e;rw[<-h1,<-h,e]
 have h0:(0:Int)<(o.length:Int):=by have:=d.zero.2;omega
 have v:AR c:=by
  refine⟨by omega,λx u=>?_⟩;obtain⟨i,hi,rfl⟩:=CM (0,[]) u;have h1:=p (i:Int) (by omega) (by omega);rw[AO,P0]at h1;rw[h1];have t:=g (i:Int) (by omega) (by omega);rw[P0]at t;have S:=d.ok.rng _ t.1;refine⟨?_,λa ha=>?_⟩
  .rw[Py];exact(m.2 _ (AD Q (0,[]) (k:=(o.getD i 0).toNat) (by omega))).1
  obtain⟨b,q,rfl⟩:=Do.1 ha;have:=Cc (d.cl _ t.1 b q);rw[D];exact⟨this.1,this.2.1⟩
 have s:=Rq F Q.length [] 0 (λx u=>by cases u) ⟨by omega,h0⟩;have I:o.getD (0:Int).toNat 0=r:=d.zero.1;rw[AFN,I,H]at s;have A:=Rp v (n:=0) (by omega) (by omega) (Q.length-c.length);rw[show c.length+(Q.length-c.length)=Q.length by omega]at A;rw[A]at s;unfold mN;refine⟨v,?_⟩;generalize Co c c.length [] 0=l at *;obtain⟨y,E⟩:=s;have P:l.length=o.length:=by
  have:=bY List.length y;rw[Py]at this;exact this.symm
 have G:∀k,(hk:k<l.length)->l[k]=(k:Int):=λk hk=>by
  have w:=E l[k] (VR hk);have h1:=(g l[k] w.1 w.2).2;have h:=(g (k:Int) (by omega) (by omega)).2;have e:o.getD k 0=o.getD (l[k]).toNat 0:=by
   exact(bY (λz:List Int=>z.getD k 0) y).trans (by simp[AS,hk])
  rw[P0,e]at h;rw[<-h1,h]
 exact⟨by omega,G⟩
theorem YS {b:List AE} (g:AR b) (k:mN b):AL b 0=b:=by
 unfold AL;obtain⟨q,c⟩:=k;generalize Co b b.length [] 0=l at *;have o:l.Nodup:=by
  unfold List.Nodup;rw[QG];intro i j hi n p e;rw[c i hi,c j n]at e;omega
 have m:∀x,0<=x->x<(l.length:Int)->Bh l x=x:=λx r s=>by
  have:=Fh o (i:=x.toNat) (by omega);have e:l.getD x.toNat 0=x:=by
   rw[AS,At (by omega)];show l[x.toNat]=x;rw[c _ (by omega)];omega
  rw[e]at this;rw[this];omega
 apply SH
 .rw[Py];omega
 intro i h1 d;rw[AAn,c i (by simpa using h1)];have f:b.getD (i:Int).toNat (0,[])=b[i]:=by simp[AS,d]
 unfold DD;rw[f];have:∀a∈b[i].2,I0 l a=a:=λa ha=>by
  have h:=(g.2 _ (VR d)).2 a ha;unfold I0;rw[m a.2 h.1 (by omega)]
 rw[QE this,List.map_id']
theorem mO {Q:List AE} (a:AR Q) {r:Int} (b:0<=r) (c:r<(Q.length:Int)):AL (AL Q r) 0=AL Q r :=
 YS (gH a b c).1 (gH a b c).2
theorem YT {h:AG} {a X:List AE} (g:RO a) {m f:Int->Int} (h1:IB h a X m) (b:IB h a X f):∀(k:Nat) (i:Int),i.toNat<=k->0<=i->i<(a.length:Int)->m i=f i:=by
 intro k;induction k with
 | zero =>
  intro i hk l e;have:i=0:=by omega
  subst this;rw[h1.zero,b.zero]
 | succ k n =>
  intro i hk l e;by_cases hi:i=0
  .subst hi;rw[h1.zero,b.zero]
  obtain⟨j,c,o,x,d,rfl⟩:=g i (by omega) e;rw[<-h1.arc j c (by omega) x d,<-b.arc j c (by omega) x d,n j (by omega) c (by omega)]
theorem Ki {h:AG} (hk:GB h) {a b c:List AE} (w:AR a) (ta:Cn h a) (tb:Cn h b) (A:Cn h c) {m n:Int->Int} (h1:IB h a b m) (j:IB h b c n):IB h a c λi=>n (m i):=by
 refine⟨by show n (m 0)=0;rw[h1.zero,j.zero],λi f g=>?_,λi f g=>?_,λi f g x p=>?_⟩
 .have:=h1.rng i f g;exact j.rng _ this.1 this.2
 .have d:=h1.rng i f g;have B:=j.rng _ d.1 d.2;have r:=ta _ (AD a (0,[]) (k:=i.toNat) (by omega));have s:=tb _ (AD b (0,[]) (k:=(m i).toNat) (by omega));have t:=A _ (AD c (0,[]) (k:=(n (m i)).toNat) (by omega));exact Li hk r.1 r.2 s.1 s.2 t.1 t.2 (h1.ty i f g) (j.ty _ d.1 d.2)
 have d:=h1.rng i f g;have q:=Ah w p;have o:=h1.arc i f g x p;obtain⟨y,z,u,v⟩:=EV (l:=AO b (m i)) (e:=x.1) (by rw[o];exact(h1.rng _ q.1 q.2).1);have:=j.arc (m i) d.1 d.2 y z;rw[u,v,o]at this;exact this
theorem FU {a:List AE} (hs:∀x∈a,MJ x.2) (n:Int):MJ (AO a n):=by
 unfold AO;by_cases h:n.toNat<a.length
 .exact hs _ (AD a (0,[]) h)
 rw[AS,QH (by omega)];exact .nil
theorem gI {h:AG} {a:List AE} (hs:∀x∈a,MJ x.2):IB h a a id :=
 ⟨rfl,λi c d=>⟨c,d⟩,λi _ _=>Kg h _,λi _ _ x b=>Dy (FU hs i) b⟩
theorem A0b:∀ {l m:List (Int×Int)},MJ l->MJ m->(∀x,x∈l↔x∈m)->l=m
 | [],[],_,_,_=>rfl
 | [],b :: m,_,_,h=>by have:=(h b).2 (by simp);cases this
 | a :: l,[],_,_,h=>by have:=(h a).1 (by simp);cases this
 | a :: l,b :: m,h1,i,h=>by
  obtain⟨f,g⟩:=SK.1 h1;obtain⟨b1,b2⟩:=SK.1 i;have e:a=b:=by
   rcases DO.1 ((h a).1 (by simp)) with e|e
   .exact e
   rcases DO.1 ((h b).2 (by simp)) with d|d
   .exact d.symm
   have:=f b d;have:=b1 a e;omega
  subst e;refine bY _ (A0b g b2 λx=>⟨λc=>?_,λc=>?_⟩)
  .rcases DO.1 ((h x).1 (by simp[c])) with e|e
   .subst e;have:=f x c;omega
   exact e
  rcases DO.1 ((h x).2 (by simp[c])) with e|e
  .subst e;have:=b1 x c;omega
  exact e
theorem AEN {h:AG} (hu:HU h) {c V:List AE} (b:VF h c) (d:VF h V) {m p:Int->Int} (h1:IB h c V m) (n:IB h V c p):c=V:=by
 have key:∀ {c V:List AE},VF h c->VF h V->∀ {m p:Int->Int},IB h c V m->IB h V c p->c.length<=V.length->c=V:=by
  clear b d h1 n;intro c V b d m p h1 n L;have c1:=Ki hu.ok b.good b.ty d.ty b.ty h1 n;have c2:=Ki hu.ok d.good d.ty b.ty d.ty n h1;have u:∀i,0<=i->i<(c.length:Int)->p (m i)=i:=λi s t=>YT b.ro c1 (gI b.str) i.toNat i (Is _) s t;have I:∀i,0<=i->i<(V.length:Int)->m (p i)=i:=λi s t=>YT d.ro c2 (gI d.str) i.toNat i (Is _) s t;have D:∀ {A B:List AE} {f:Int->Int},AR A->IB h A B f->∀i,0<=i->i<(A.length:Int)->∀x∈AO A i,(x.1,f x.2)∈AO B (f i):=λ{A B f} J hf i s t x o=>by
   have r:=Ah J o;have F:=hf.arc i s t x o;obtain⟨y,C,w,v⟩:=EV (l:=AO B (f i)) (e:=x.1) (by rw[F];exact(hf.rng _ r.1 r.2).1);rw[<-w,<-F,<-v];exact C
  have K:Iso c V m (λi=>0<=i/\i<(c.length:Int)):=by
   refine⟨λi hi=>?_,λi hi a ha=>Ah b.good ha,λi j hi E e=>?_⟩
   .have q:=h1.rng i hi.1 hi.2;refine A0b (FU d.str _) ?_ λx=>⟨λo=>?_,λo=>?_⟩
    .unfold MJ;rw[VV];exact FU b.str i
    .have g:=D d.good n (m i) q.1 q.2 x o;rw[u i hi.1 hi.2]at g;refine Do.2 ⟨_,g,?_⟩;have r:=Ah d.good o;show (x.1,m (p x.2))=x;rw[I x.2 r.1 r.2]
    obtain⟨y,C,rfl⟩:=Do.1 o;exact D b.good h1 i hi.1 hi.2 y C
   rw[<-u i hi.1 hi.2,<-u j E.1 E.2,e]
  have M:=b.pos;have:=Zc K b.good ⟨by omega,by omega⟩ h1.zero b.pos L λi hi=>by
   have q:=h1.rng i hi.1 hi.2;have w:=h1.ty i hi.1 hi.2;have v:=n.ty (m i) q.1 q.2;rw[u i hi.1 hi.2]at v;have G:=b.ty _ (AD c (0,[]) (k:=i.toNat) (by omega));have H:=d.ty _ (AD V (0,[]) (k:=(m i).toNat) (by omega));exact hu.inj _ _ H.1 H.2 G.1 G.2 v w
  rw[d.can,b.can]at this;exact this.symm
 rcases Nat.le_total c.length V.length with z|z
 .exact key b d h1 n z
 exact(key d b n h1 z).symm
structure YU (h:AG) (a b U:List AE):Prop where
 vf:VF h U
 left:∃m,IB h a U m
 right:∃m,IB h b U m
 least:∀X,Cn h X->∀m1,IB h a X m1->∀m2,IB h b X m2->∃m,IB h U X m
 len:U.length<=a.length+b.length
theorem A9k {h:AG} (hu:HU h) {a b d V:List AE} (h1:YU h a b d) (c:YU h a b V):d=V:=by
 obtain⟨l,e⟩:=c.left;obtain⟨n,f⟩:=c.right;obtain⟨o,g⟩:=h1.left;obtain⟨p,i⟩:=h1.right;obtain⟨m,j⟩:=h1.least V c.vf.ty l e n f;obtain⟨q,k⟩:=c.least d h1.vf.ty o g p i;exact AEN hu h1.vf c.vf j k
open Classical in
noncomputable def Dz (h:AG) (a b:List AE):List AE×Bool:=if H:∃U,YU h a b U then (H.choose,true) else ([],false)
theorem Ui {h:AG} (hu:HU h) {a b U:List AE} (h1:YU h a b U):Dz h a b=(U,true):=by
 unfold Dz;have H:∃U,YU h a b U:=⟨U,h1⟩;rw[dif_pos H,A9k hu H.choose_spec h1]
theorem mP {h:AG} {a b:List AE} (h1:∀X,Cn h X->∀d,IB h a X d->∀e,¬IB h b X e):Dz h a b=([],false):=by
 unfold Dz;rw[dif_neg];rintro⟨f,c⟩;obtain⟨d,g⟩:=c.left;obtain⟨e,i⟩:=c.right;exact h1 f c.vf.ty d g e i
theorem Uj {h:AG} {a b:List AE} (h1:(Dz h a b).2=true):YU h a b (Dz h a b).1:=by
 unfold Dz at h1 ⊢;split at h1
 .rename_i H;rw[dif_pos H];exact H.choose_spec
 cases h1
theorem YV {f:List AE} {e:Int} (h:e∈DE f):∃x∈f,∃a∈x.2,a.1=e:=by
 unfold DE at h;obtain⟨x,c,b⟩:=List.mem_flatMap.1 h;obtain⟨a,ha,e⟩:=Do.1 b;exact⟨x,c,a,ha,e⟩
theorem ABd {h:AG} {N:List AE} {P:List (Int×Int)} {p ty:List Int} {ar:List (List (Int×Int))} (d:JI h N P p ty ar []) (g:AR (quo p ty ar)) (m:0<N.length) (j:∀x∈N,∀a∈x.2,0<=a.1/\a.1<(h.2.length:Int)) {v:Int->Int} (c:AAa h N P (AL (quo p ty ar) (Ek p 0)) v):VF h (AL (quo p ty ar) (Ek p 0)):=by
 have f:0<=Ek p 0/\Ek p 0<((quo p ty ar).length:Int):=by
  obtain⟨n,fo⟩:=d.fo;have:=d.lp;have:=GY fo (x:=0) (by omega) (by omega) (Pm fo (by omega) (by omega));rw[FG];exact this
 refine⟨c.good,c.pos,c.ty,c.str,λx k a ha=>?_,mO g f.1 f.2,c.ro⟩;obtain⟨y,l,b,i,e⟩:=YV (c.feat x k a ha);rw[<-e];exact j y l b i
theorem A2k {h:AG} {f g:List AE} (hf:VF h f) (e:VF h g):∀x∈Ci f g,∀a∈x.2,0<=a.1/\a.1<(h.2.length:Int):=by
 intro x c;unfold Ci at c;rcases OF.1 c with c|c
 .exact hf.ft x c
 obtain⟨y,i,rfl⟩:=Do.1 c;intro a ha;obtain⟨b,d,rfl⟩:=Do.1 ha;exact e.ft y i b d
theorem gJ {h:AG} {f g:List AE} (hf:VF h f) (i:VF h g) {p ty:List Int} {ar:List (List (Int×Int))} (b:JI h (Ci f g) [(0,(f.length:Int))] p ty ar []) (d:AR (quo p ty ar)):YU h f g (AL (quo p ty ar) (Ek p 0)):=by
 have v:=hf.pos;have u:=FI f g;have c:0<(Ci f g).length:=by omega
 have h0:=YO b d c;have l:=YP b d c (b4 (g:=g) b5) hf.ro h0;have n:=YP b d c (YR (f:=f)) i.ro (A5A b (by simp) h0);have a:=ABc b d c λx t w=>by
  by_cases o:x<(f.length:Int)
  .have:=l x.toNat x (Is _) t o
   rwa [show ((0:Nat):Int)+x=x by omega]at this
  have:=n _ (x-(f.length:Int)) (Is _) (by omega) (by omega)
  rwa [show (f.length:Int)+(x-(f.length:Int))=x by omega]at this
 refine⟨ABd b d c (A2k hf i) a,⟨_,mM a.proj (b4 (g:=g) b5) a.zero⟩,⟨_,mM a.proj (YR (f:=f)) (by rw[<-a.proj.eq (0,(f.length:Int)) (by simp)];exact a.zero)⟩,λX k r h1 s j=>?_,by have:=a.len;omega⟩;refine a.least X _ k (rJ (YQ hf.good i.good (Lk h1) (Lk j)) λq m=>?_) ?_
 .have e:q=(0,(f.length:Int)):=by simpa using m
  subst e;try simp only
  rw[BY (by omega),An (by omega),AGs,h1.zero,j.zero]
 show (if (0:Int)<(f.length:Int) then r 0 else s (0-(f.length:Int)))=0;rw[BY (by omega)];exact h1.zero
theorem b6 {h:AG} {f g:List AE} (hf:VF h f) (c:VF h g) (d:∀X v,Cn h X->¬Uh h (Ci f g) [(0,(f.length:Int))] X v):Dz h f g=([],false):=by
 have j:=hf.pos;refine mP λX b k h1 l a=>d X _ b (rJ (YQ hf.good c.good (Lk h1) (Lk a)) λq i=>?_);have e:q=(0,(f.length:Int)):=by simpa using i
 subst e;try simp only
 rw[BY (by omega),An (by omega),AGs,h1.zero,a.zero]
theorem mQ (l:List (Int×Int)):A4 0 l=l:=by
 unfold A4;rw[QE (g:=id) (λa _=>by show (a.1,a.2+((0:Nat):Int))=a;rw[Int.natCast_zero,AFo]),AGv]
theorem A2l (a b:Nat):Ct 0 a++Ct a b=Ct 0 (a+b):=by
 unfold Ct;rw[List.range_add,VO,Va]
 congr 1
 refine QE λi _=>?_;show ((a+i:Nat):Int)=((0+(a+i):Nat):Int);rw[iN]
theorem A2m {n k:Nat} (h:k<n):(Ct 0 n).getD k 0=(k:Int):=by
 unfold Ct;rw[AS,VJ,oN h];show ((0+k:Nat):Int)=k;rw[iN]
theorem NI {n:Nat} {x:Int} (a:0<=x) (b:x<(n:Int)):Ea (Ct 0 n) x=x:=by
 unfold Ea;rw[A2m (by omega)];omega
def NJ (N:List AE):List Int:=N.map (·.1)
def Uk (N:List AE):List (List (Int×Int)):=N.map (·.2)
theorem Po (N:List AE) (k:Nat):(NJ N).getD k 0=(N.getD k (0,[])).1:=by
 unfold NJ;rw[AS,VJ,AS];cases N[k]?<;>rfl
theorem OD (N:List AE) (k:Nat):(Uk N).getD k []=(N.getD k (0,[])).2:=by
 unfold Uk;rw[AS,VJ,AS];cases N[k]?<;>rfl
theorem rK (f g:List AE):DQ f f.length++DQ g g.length=NJ (Ci f g):=by
 unfold DQ NJ Ci;rw[QD,QD,VO,Va];rfl
theorem A2n (f g:List AE):F7 0 f f.length++F7 f.length g g.length=Uk (Ci f g):=by
 unfold F7 Uk Ci;rw[QD,QD,VO,Va]
 congr 1
 exact QE λx _=>mQ x.2
theorem gK {n:Nat} {x r:Int} (a:0<=x) (b:x<(n:Int)) (h:Rt (Ct 0 n) x r):r=x:=h.det (.base (NI a b))
theorem gL {h:AG} {N:List AE} (l:AR N) (m:Cn h N) (hs:∀x∈N,MJ x.2):JI h N [] (Ct 0 N.length) (NJ N) (Uk N) []:=by
 have f:(Ct 0 N.length).length=N.length:=Kh 0 N.length;refine⟨m,⟨λ_=>0,λn n0 n1=>?_,λn n0 n1 hn=>?_⟩,f,by simp[NJ],by simp[Uk],λw g=>(by cases g),λx c d=>?_,λk a ha=>?_,λk=>?_,λq p=>(by cases p),λx r c d e=>?_,λx r c d e a ha=>?_,λX v s o=>?_⟩
 .rw[f]at n1 ⊢;rw[NI n0 n1];exact⟨n0,n1⟩
 .rw[f]at n1;exact absurd (NI n0 n1) hn
 .rw[Po];exact m _ (AD N (0,[]) (by omega))
 .rw[OD]at ha;refine⟨Iw l k a ha,?_⟩;by_cases hk:k<N.length
  .exact List.mem_flatMap.2 ⟨_,AD N (0,[]) hk,Do.2 ⟨a,ha,rfl⟩⟩
  rw[AS,QH (by omega)]at ha;cases ha
 .rw[OD];have:=FU hs (k:Int)
  rwa [AO,P0]at this
 .rw[gK c d e,Po];exact Kg h _
 .rw[gK c d e,OD];have b:=Ah l ha;exact⟨a.2,ha,.cls b.1 b.2 b.1 b.2 (.base (NI b.1 b.2)) (.base (NI b.1 b.2))⟩
 refine⟨λx r c d e=>by rw[gK c d e],λw g=>(by cases g),λr i j _=>?_,λr i j _ a ha=>?_⟩
 .rw[Po];exact o.ty r i j
 rw[OD]at ha;exact o.arc r i j a ha
theorem Pp {f g:List AE} (hf:AR f) (d:AR g) (j:f.length+g.length<=100000):AR (Ci f g):=by
 have i:=FI f g;refine⟨by omega,λx c=>?_⟩;unfold Ci at c;rcases OF.1 c with c|c
 .refine⟨(hf.2 x c).1,λa ha=>?_⟩;have:=(hf.2 x c).2 a ha;omega
 obtain⟨y,e,rfl⟩:=Do.1 c;refine⟨by simp only[A4,Py];exact(d.2 y e).1,λa ha=>?_⟩;obtain⟨b,h,rfl⟩:=Do.1 ha;have:=(d.2 y e).2 b h;simp only;omega
theorem OE {f g:List AE} (hf:∀x∈f,MJ x.2) (b:∀x∈g,MJ x.2):∀x∈Ci f g,MJ x.2:=by
 intro x a;unfold Ci at a;rcases OF.1 a with a|a
 .exact hf x a
 obtain⟨y,c,rfl⟩:=Do.1 a;unfold MJ A4;rw[VV];exact b y c
theorem YW {h:AG} {f g:List AE} (hf:Cn h f) (b:Cn h g):Cn h (Ci f g):=by
 intro x a;unfold Ci at a;rcases OF.1 a with a|a
 .exact hf x a
 obtain⟨y,c,rfl⟩:=Do.1 a;exact b y c
def A2o (N:List AE):Prop:=∀x∈N,∀a∈x.2,0<=a.1/\a.1<64
theorem YX {f g:List AE} (hf:A2o f) (e:A2o g):A2o (Ci f g):=by
 intro x c;unfold Ci at c;rcases OF.1 c with c|c
 .exact hf x c
 obtain⟨y,h,rfl⟩:=Do.1 c;intro a ha;obtain⟨b,d,rfl⟩:=Do.1 ha;exact e y h b d
theorem gM {l:List (Int×Int)} (h:MJ l) (hf:∀a∈l,0<=a.1/\a.1<64):l.length<=64:=by
 have:=gF h (S:=(List.range 64).map λ(i:Nat)=>(i:Int)) (λa ha=>Do.2 ⟨a.1.toNat,QJ.2 (by have:=hf a ha;omega),by have:=hf a ha;omega⟩)
 rwa [Py,AFq]at this
theorem rO {N:List AE} (h:∀x∈N,x.2.length<=64):(DE N).length<=64*N.length:=by
 induction N with
 | nil=>simp[DE]
 | cons x N b =>
  have h1:=h x (by simp);have c:=b λy a=>h y (by simp[a]);have e:DE (x :: N)=x.2.map (·.1)++DE N:=rfl;rw[e,IF,Py,Of];omega
theorem A2p {N:List AE} (h:A2o N) {e:Int} (b:e∈DE N):0<=e/\e<64:=by
 obtain⟨x,c,a,ha,rfl⟩:=YV b;exact h x c a ha
theorem YY {h:AG} {N:List AE} {P:List (Int×Int)} {p ty:List Int} {ar:List (List (Int×Int))} (c:JI h N P p ty ar []) (k:N.length<=100000) (hf:A2o N):AR (quo p ty ar):=by
 have g:=FG p ty ar;obtain⟨l,fo⟩:=c.fo;have lp:=c.lp;refine⟨by omega,λx j=>?_⟩;obtain⟨i,hi,rfl⟩:=CM (0,[]) j;have e:=OC (p:=p) (ty:=ty) (ar:=ar) (n:=(i:Int)) (by omega) (by omega);rw[P0]at e;rw[e];refine⟨?_,λa ha=>?_⟩
 .simp only[Py];have:=gM (c.srt i) (λa ha=>A2p hf (c.arr i a ha).2);omega
 obtain⟨b,f,rfl⟩:=Do.1 ha;have d:=(c.arr i b f).1;have:=GY fo (x:=b.2) d.1 (by omega) (Pm fo d.1 (by omega));rw[g];exact this
theorem VF.ft64 {h:AG} {f:List AE} (b:VF h f) (hu:HU h):A2o f:=λx c a ha=>by
 have h1:=b.ft x c a ha;have d:=hu.ft;omega
def AEO (d:List AJ) (o:List ByteArray) (i:Nat):Prop:=∀j,j<i->∀x∈d,Aa x.2.1 (o.getD j ByteArray.empty)=true->Aa o x.1=true
theorem A5B {c:ByteArray} {o:List ByteArray} {x:AJ} (h:Aa x.2.1 c=true):Aa (Ff c o x) x.1=true:=by grind [Ff,PW,Cz]
theorem b7 {c:ByteArray} {x:AJ} (h:Aa x.2.1 c=true):∀ {l:List AJ} {o:List ByteArray},x∈l->Aa (l.foldl (Ff c) o) x.1=true
 | [],_,a=>by cases a
 | y :: l,o,a=>by
  rw[ON];rcases DO.1 a with rfl|a
  .grind [KU,Nt,A5B]
  exact b7 h a
theorem YZ {d:List AJ}:∀ {n i:Nat} {o:List ByteArray},e9 d o->d.length<=n+i->AEO d o i->i<=o.length->∃m,AEO d (Cq d n i o) m/\(Cq d n i o).length<=m
 | 0,i,o,ha,f,a,hi=>⟨i,a,by
  have:=ha.len;show o.length<=i;omega⟩
 | n+1,i,o,ha,f,a,hi=>by
  unfold Cq;split
  .rename_i q;obtain⟨c,k⟩:=XR (o.getD i ByteArray.empty) (l:=d) (o:=o) (λ_ h=>h) ha;refine YZ c (by omega) (λj p x b hs=>?_) (by omega);rw[S1 _ (by omega)]at hs;by_cases e:j=i
   .subst e;exact b7 hs b
   exact KU (λz g=>Nt g) (a j (by omega) x b hs)
  exact⟨i,a,by omega⟩
theorem TW {α:Type} {p:α->Bool}:∀ {l:List α},l.countP p=1->∀x∈l,p x=true->∀y∈l,p y=true->x=y
 | [],h,x,a,_,_,_,_=>by cases a
 | z :: l,h,x,a,d,y,b,e=>by
  rw[AC2]at h;by_cases c:p z=true
  .rw[BY c]at h;grind
  rw[An c]at h;have a:x∈l:=by grind
  have b:y∈l:=by grind
  exact TW (by omega) x a d y b e
theorem Ya (s:ByteArray):∀(l:List AJ) (k:Nat),0<=Cy s k l->∃x∈l,AY x.1 s=true
 | [],k,h=>by
  simp only[Cy]at h;omega
 | y :: l,k,h=>by
  simp only[Cy]at h;split at h
  .rename_i e;exact⟨y,by simp,e⟩
  obtain⟨x,a,e⟩:=Ya s l (k+1) h;exact⟨x,by simp[a],e⟩
theorem rQ {d:List AJ} (t:A8 d=0):∃r∈d,∀x∈d,Aa (Cr d r.1) x.1=true:=by
 obtain⟨hs,I,h1,hn,l⟩:=A0 t;have C:0<d.countP λx=>x.2.1.length==0:=by grind [Ic]
 obtain⟨r,c,q⟩:=List.countP_pos_iff.1 C;refine⟨r,c,?_⟩;have D:=Dg c;have u:e9 d [r.1]:=⟨λs hs=>by
  have:s=r.1:=by simpa using hs
  rw[this];exact D,by simp⟩
 obtain⟨m,B,J⟩:=YZ (d:=d) (n:=d.length) (i:=0) u (by omega) (λj A=>by omega) (by omega);have p:r.1∈Cq d d.length 0 [r.1]:=LY (by simp);have v:Cr d r.1=KT (Cq d d.length 0 [r.1]):=by unfold Cr;rw[An (by omega)]
 rw[v];generalize Cq d d.length 0 [r.1]=o at *;have key:∀(k:Nat) (x:AJ),x∈d->Gg d x.1<=k->Aa o x.1=true:=by
  intro k;induction k with
  | zero =>
   intro x a hk;by_cases g:x.2.1.length=0
   .have e:=TW h1 x a (by simpa using g) r c q;rw[e];exact F4 p
   obtain⟨s,b⟩:∃s,s∈x.2.1:=AFT (by omega);have:=LX hn l a (F4 b);omega
  | succ k H =>
   intro x a hk;by_cases g:x.2.1.length=0
   .have e:=TW h1 x a (by simpa using g) r c q;rw[e];exact F4 p
   obtain⟨s,b⟩:∃s,s∈x.2.1:=AFT (by omega);have E:=LX hn l a (F4 b);obtain⟨y,G,e⟩:=Ya s d 0 (hs x a s b);rw[<-Ii d e]at E;obtain⟨z,h,f⟩:=QC.1 (H y G (by omega));obtain⟨j,A,rfl⟩:=CM ByteArray.empty h;refine B j (by omega) x a ?_;exact QC.2 ⟨s,b,EF (BZ f e)⟩
 intro x a;obtain⟨z,h,e⟩:=QC.1 (key _ x a (Is _));obtain⟨w,F,f⟩:=QC.1 (RS (o:=[]) h);exact QC.2 ⟨w,F,BZ f e⟩
abbrev cnt (c:List Int):Nat:=(IZ c).length
theorem A5C {w:Int} (a:U64 w) {r:Nat} (d:r<64):A4d w (r:Int)=w.toNat.testBit r:=by
 have h0:=a.1;have h1:=a.2;have b:w.toNat / 2 ^ r<=w.toNat:=Nat.div_le_self _ _;have e:ZP .u64 w (r:Int)=((w.toNat / 2 ^ r:Nat):Int):=by
  unfold ZP;have c:min ((r:Int)).toNat IntKind.u64.bits=r:=by
   show min ((r:Int)).toNat 64=r;omega
  grind
 unfold A4d;rw[Nat.testBit_eq_decide_div_mod_eq,e];generalize w.toNat / 2 ^ r=z at *;rw[Ig ⟨by omega,by omega⟩ ⟨by decide,by decide⟩,P0,show (1:Int).toNat=1 from rfl,Nat.and_one_is_mod,ABC,SJ,By];omega
theorem WH {b:List Int} (d:Ih b) (i:Nat):VA b (i:Int)=BH b i:=by
 have a:Int.tdiv (i:Int) 64=((i / 64:Nat):Int):=by rw[VU (by omega)];omega
 have c:Int.tmod (i:Int) 64=((i % 64:Nat):Int):=by rw[ABQ (by omega)];omega
 unfold VA BH;rw[a,c,P0];by_cases hk:i / 64<b.length
 .rw[An (by rw[QO,By,By];omega),A5C (BL d _) (by omega)]
 rw[BY (by rw[QO,By,By];omega),HX hk];simp
theorem mR (c:List Int):(IZ c).Nodup:=by
 unfold IZ Oe List.Nodup;rw[VV];refine List.Pairwise.imp (λh e=>h ?_) (List.Pairwise.filter _ List.nodup_range);exact AGi e
theorem b8 {c:List Int} (b:Ih c) {x:Int}:x∈IZ c↔∃i:Nat,x=(i:Int)/\BH c i=true:=by
 unfold IZ Oe;rw[Do];constructor
 .grind [WH]
 rintro⟨i,rfl,a⟩;refine⟨i,VW.2 ⟨QJ.2 ?_,by rw[WH b];exact a⟩,rfl⟩;refine GO λd=>?_;unfold BH at a;rw[HX (by omega)]at a;simp at a
theorem ABe {a b:List Int} (ha:Ih a) (d:Ih b) (h:∀i,BH a i=true->BH b i=true) (e:cnt b<=cnt a) (i:Nat) (hi:BH b i=true):BH a i=true:=by
 refine GO λhn=>?_;have c:(i:Int)∉IZ a:=λf=>by grind [b8]
 have:=TR (l:=(i:Int) :: IZ a) (l':=IZ b) (TO.2 ⟨c,mR a⟩) λx c=>by grind [b8]
 grind
theorem Yb (x:AU) (out:List AU):∀n,(F5 x out n=0->n=0\/GP x (out.getD 0 c0)=true)/\∀k,F5 x out n=k+1->GP x (out.getD k c0)=false
 | 0=>⟨λ_=>.inl rfl,λk h=>by simp[F5]at h⟩
 | n+1=>by
  obtain⟨h1,a⟩:=Yb x out n;grind [F5]
theorem mS {a b:AU} (h:GP a b=true):cnt b.2<=cnt a.2:=by
 unfold GP at h;grind
theorem gN {a b:AU} (h:GP a b=false):cnt a.2<=cnt b.2:=by
 unfold GP at h;grind
def HM (out:List AU):Prop:=∀y∈out,cnt y.2<=cnt (out.getD 0 c0).2
theorem A9l {out:List AU} (h:HM out) (x:AU):HM (fH out x):=by
 obtain⟨s1,s2⟩:=Yb x out out.length;have c:=kQ x out out.length;intro y a;rw[kU]at a;unfold fH;cases hk:F5 x out out.length with
 | zero =>
  rw[ZH,SP,ABz];have e:([x]++out).getD 0 c0=x:=rfl;rw[e];rcases a with rfl|a
  .exact Is _
  have h1:=h y a;rcases s1 hk with e|e
  .grind
  exact QB h1 (mS e)
 | succ k =>
  have b:=gN (s2 k hk);rw[hk]at c;have e:(out.take (k+1)++[x]++out.drop (k+1)).getD 0 c0=out.getD 0 c0:=by grind
  rw[e];rcases a with rfl|a
  .exact QB b (h _ (BG (by omega)))
  exact h y a
theorem mT {d:List AJ}:∀ {l:List (List Int)} {o:List AU},HM o->HM (l.foldl (S6 d) o)
 | [],_,h=>h
 | b :: l,o,h=>by
  rw[ON];exact mT (A9l h _)
def In (n:Nat) (c:List Int):Prop:=Ih c/\∀i,BH c i=true->i<n
theorem ABf (n:Nat):In n []:=⟨λx a=>(by cases a),λi hi=>by unfold BH at hi;simp at hi⟩
theorem ABg {n:Nat} {a b:List Int} (ha:In n a) (c:In n b):In n (Ej a b) :=
 ⟨Rg ha.1 c.1,λi hi=>by
  rw[Rf ha.1 c.1,AT]at hi;exact ha.2 i hi.1⟩
theorem A9m {n:Nat} {l:List (List Int)} (h:∀c∈l,In n c) (k:Nat):In n (l.getD k []):=by grind [BG,TD,ABf]
theorem A9n {n:Nat} {l:List (List Int)} (h:∀c∈l,In n c) (i k:Nat):∀c∈Gw l i k,In n c:=by grind [Gw,Ej,ABg,A9m]
theorem A0c {q i:Nat}:∀ {n k:Nat} {l:List (List Int)},(∀c∈l,In q c)->∀c∈Gx i n k l,In q c
 | 0,_,_,h=>h
 | n+1,k,l,h=>by
  unfold Gx;split
  .exact A0c (A9n h i k)
  exact h
theorem gP {q:Nat}:∀ {n i:Nat} {l:List (List Int)},(∀c∈l,In q c)->∀c∈Ie n i l,In q c
 | 0,_,_,h=>h
 | n+1,i,l,h=>by
  unfold Ie;split
  .exact gP (A0c h)
  exact h
def Zd (h:AG):Prop:=∀t,0<=t->t<(h.1.length:Int)->A2 h 0 t=true
theorem NK (d:List AJ):Zd (Aw d).1:=by
 have hk:=Jd d;unfold Aw at hk ⊢;split
 .intro t h0 h1;simp at h1;omega
 rename_i g;rw[An g]at hk;have g:(BD d).2=0:=GO g;have A:Az d=0:=by grind [BD]
 obtain⟨L,-,-⟩:=CH A;obtain⟨j,P,-⟩:=Ba L;obtain⟨-,z,-,hn,O⟩:=A0 j;have G:=EE d d.length;rw[QD]at G;have k:(AP d).length<=4096:=by omega
 obtain⟨r,H,N⟩:=rQ j;have a:∀c∈Ax (AX d),In (AP d).length c:=gP λc f=>by
  obtain⟨s,hs,rfl⟩:=Do.1 f;exact⟨(CA (d:=d) k s 0).2.1,λi hi=>((CA (d:=d) k s i).1.1 hi).1⟩
 obtain⟨s,hs,M⟩:=QC.1 (Pc H);have I:s=r.1:=by grind [Dh,RQ]
 subst I;have n:E0 d (AP d) r.1∈Ax (AX d):=by
  have hp:AX d <+: Ax (AX d):=Rd 257 0 (AX d);exact hp.subset (Do.2 ⟨_,hs,rfl⟩)
 have l:∀i,i<(AP d).length->BH (E0 d (AP d) r.1) i=true:=λi hi=>by grind [CA,Dh,BG]
 have B:HM (AN d):=mT λy K=>by cases K
 have q:=Di.2 ⟨_,n,rfl⟩;have u:0<(AN d).length:=AFG q;have p:=B _ q;obtain⟨b,m,h⟩:=Di.1 (BG (d:=c0) u);rw[h]at p;have E:=ABe (a b m).1 (a _ n).1 (λi hi=>l i ((a b m).2 i hi)) p;have D:Bd (Bw d) 0=b:=by
  show ((Eg (AN d) _ _).getD 0 Ub).2.1=b;have:(Eg (AN d) (BD d).1 (AN d).length).getD 0 Ub=(((AN d).getD 0 c0).1,((AN d).getD 0 c0).2,aP (AN d) ((0:Nat):Int),(BD d).1.getD 0 []):=by
   unfold Eg;rw[AS,VJ,oN u];rfl
  rw[this,h]
 have Q:(Bw d).1.length=(AN d).length:=KY _ _ _;intro t v w;refine(B4 hk (by omega) (by show (0:Int)<((Bw d).1.length:Int);omega) v w).2 λi hi=>?_;show BH (Bd (Bw d) 0) i=true;rw[D];refine E i (l i ?_);have C:=Ca v w;have F:Bd (Bw d) t∈Ax (AX d):=by
  have e:((Bw d).1.map λt=>t.2.1)=(AN d).map λx=>x.2:=by
   show ((Eg _ _ _).map λt=>t.2.1)=_;unfold Eg;rw[Va];apply SH
   .simp
   intro i h1 z;simp[AS,show i<(AN d).length by simpa using h1]
  have o:Bd (Bw d) t∈(Bw d).1.map λt=>t.2.1:=C;rw[e]at o;obtain⟨x,J,ex⟩:=Do.1 o;obtain⟨c,f,rfl⟩:=Di.1 J;rw[<-ex];exact f
 exact(a _ F).2 i hi
theorem Yc (d:List AJ):Nd ((Aw d).1.1.map λt=>t.2.1):=by
 unfold Aw;split
 .exact⟨.nil,λc h=>(by cases h)⟩
 rename_i a;have a:(BD d).2=0:=GO a;have g:Az d=0:=by
  unfold BD at a;split at a
  .rename_i h;exact absurd a h
  rename_i h;exact GO h
 obtain⟨m,-,-⟩:=CH g;obtain⟨f,o,-⟩:=Ba m;have hf:Nd (Ax (AX d)):=V0 (TE f);have e:((Bw d).1.map λt=>t.2.1)=(AN d).map λx=>x.2:=by
  show ((Eg _ _ _).map λt=>t.2.1)=_;unfold Eg;rw[Va];apply SH
  .simp
  intro i h1 n;simp[AS,show i<(AN d).length by simpa using h1]
 show Nd ((Bw d).1.map λt=>t.2.1);rw[e];refine⟨M7 (by simpa using hf.nd),λc k=>?_⟩;obtain⟨x,l,rfl⟩:=Do.1 k;obtain⟨b,j,rfl⟩:=Di.1 l;exact hf.nrm b j
def Ze (l:List (Int×Int)) (e:Int):Int×Bool:=match l with
 | []=>(0,false)
 | a :: r=>if a.1=e then (a.2,true) else Ze r e
structure CI (n:Nat) (o:List Int) (ar:List (List (Int×Int))) (W:List (Int×Int)):Prop where
 lo:o.length=n
 la:ar.length=n
 rep:∀k:Nat,k<n->0<=o.getD k 0/\o.getD k 0<=(k:Int)/\o.getD (o.getD k 0).toNat 0=o.getD k 0
 wr:∀w∈W,(0<=w.1/\w.1<(n:Int))/\(0<=w.2/\w.2<(n:Int))
 ta:∀k,∀a∈ar.getD k [],0<=a.2/\a.2<(n:Int)
theorem CI.rng {n:Nat} {o:List Int} {ar:List (List (Int×Int))} {W:List (Int×Int)} (h:CI n o ar W) {x:Int} (c:0<=x) (d:x<(n:Int)):0<=o.getD x.toNat 0/\o.getD x.toNat 0<(n:Int)/\o.getD (o.getD x.toNat 0).toNat 0=o.getD x.toNat 0:=by
 obtain⟨h1,b,a⟩:=h.rep x.toNat (by omega);exact⟨h1,by omega,a⟩
section
variable {n:Nat} {o:List Int} {ar:List (List (Int×Int))} {W:List (Int×Int)} {x y:Int}
end
section
attribute [local go_sem] XP A4g
def Yd:AZ:={ ins:=[DZ,T3,T3],pre:=λ(f,n,_,_)=>(0:Int)<=n/\n<(List.length f:Int),out:=λ(f,n,e,_)=>[.p T3 (Ze (List.getD (f:List AE) (Int.toNat n) (0,[])).2 e).1,.p .bool (Ze (List.getD (f:List AE) (Int.toNat n) (0,[])).2 e).2],lend:=true }
attribute [local go_sem] Yd
theorem A5D:Ab Tryz.prog 125 Yd:=by
 refine fK [0,1,2,3,6,7,8,9,19,28] Tryz.func125 Tryz.ntmps125 AH ?_;rintro w0 O0 ⟨f,n,e,u⟩ b ⟨⟨m,hf⟩,-⟩ hn;simp only[Yd,AM];repeat'(first|exact trivial|apply eS rfl|refine rX b ?_ ?_)
 .exact hn
 have i:List.length (List.getD (f:List AE) (Int.toNat n) (0,[])).2<=AQ:=by
  have h1:Int.toNat n<List.length f:=(AFQ hn.1).2 hn.2;have:=hf _ (AD (f:List AE) (0,[]) h1);exact this.2.1
 simp only[AQ]at i;generalize (List.getD (f:List AE) (Int.toNat n) (0,[])).2=l at *;refine AI (ι:={k:Nat//k<=l.length/\Ze (l.drop k) e=Ze l e}) (λk=>⟨[(2,.p T3 e),(8,.p DM l),(9,.p (.int .i64) (k.1:Int))],[]⟩) (λk=>l.length-k.1) ⟨0,by simp⟩ (eW []) (λk=>?_)
 obtain⟨k,hk,a⟩:=k;have j:k<l.length->l.drop k=l.getD k (0,0) :: l.drop (k+1):=λh=>by
  rw[OR h,AS,At h];rfl
 have g:k<l.length->(if (l.getD k (0,0)).1=e then ((l.getD k (0,0)).2,true) else Ze (l.drop (k+1)) e)=Ze l e:=λh=>by
  rw[j h]at a;exact a
 repeat'(first|exact trivial|apply eS rfl|apply AB|refine rX b ?_ ?_|refine rC ?_ ?_<;>intro c<;>try(cases c;done))
 .exact eV
 .exact eV
 .have d:k<l.length:=by exact eV
  have a:=g d;rw[BY c]at a;exact fI b [.tmp 6,.tmp 7] (by rw[<-a];exact eR)
 .exact eV
 .have d:k<l.length:=by exact eV
  have a:=g d;rw[An c]at a;exact⟨⟨k+1,by omega,a⟩,by simp only;omega,eW []⟩
 have hk:l.drop k=[]:=B0 (by exact eV);rw[hk]at a;have a:(0,false)=Ze l e:=a;exact fI b [.tmp 6,.tmp 7] (by rw[<-a];exact eR)
def AAc (b:List Int):List HT->Nat->Int×Bool
 | [],_=>(0,false)
 | t :: r,k=>if t.2.1=b then ((k:Int),true) else AAc b r (k+1)
def A5E (h:AG) (a b:Int):Int×Bool:=AAc (Ej (Bd h a) (Bd h b)) h.1 0
end
section
def AEP (h:AG) (l:List AE) (c:List Int):Nat->Option (List Int)
 | 0=>some (List.replicate l.length 0)
 | i+1=>match AEP h l c i with
  | none=>none
  | some o=>if (A5E h (o.getD (c.getD i 0).toNat 0) (l.getD i (0,[])).1).2=true then some (o.set (c.getD i 0).toNat (A5E h (o.getD (c.getD i 0).toNat 0) (l.getD i (0,[])).1).1) else none
def A5F (h:AG) (l:List AE) (c:List Int):List Int×Bool:=match AEP h l c l.length with
 | none=>([],false)
 | some o=>((List.range l.length).map λ(k:Nat)=>o.getD (c.getD k 0).toNat 0,true)
def AFv (n:Nat) (c:List Int):Prop:=c.length=n/\∀k:Nat,k<n->0<=c.getD k 0/\c.getD k 0<=(k:Int)/\c.getD (c.getD k 0).toNat 0=c.getD k 0
def A5G:AZ:={ ins:=[ED,Ex,F2],pre:=λ(h,l,c,_)=>AFv (List.length l) c/\Cn h l/\0<List.length (h:AG).1/\List.length l<=100000/\(∀x∈(h:AG).1,x.2.1.length<=100000),out:=λ(h,l,c,_)=>[.p F2 (A5F h l c).1,.p .bool (A5F h l c).2] }
attribute [local go_sem] A5G
end
section
attribute [local go_sem] Yd bA
attribute [local go_sem] tW AAQ ne_eq not_false_eq_true
end
inductive EQ (n:Nat) (o:List Int) (W:List (Int×Int)):Int->Int->Prop
 | cls {x y:Int} (x0:0<=x) (x1:x<(n:Int)) (y0:0<=y) (y1:y<(n:Int)) (h:o.getD x.toNat 0=o.getD y.toNat 0):EQ n o W x y
 | wt {x y:Int} (h:(x,y)∈W):EQ n o W x y
 | symm {x y:Int} (h:EQ n o W x y):EQ n o W y x
 | trans {x y z:Int} (h:EQ n o W x y) (g:EQ n o W y z):EQ n o W x z
theorem EQ.mono {n:Nat} {o b:List Int} {W a:List (Int×Int)} (h1:∀x y,0<=x->x<(n:Int)->0<=y->y<(n:Int)->o.getD x.toNat 0=o.getD y.toNat 0->EQ n b a x y) (c:∀x y,(x,y)∈W->EQ n b a x y) {x y:Int} (h:EQ n o W x y):EQ n b a x y:=by
 induction h with
 | cls g i j k h=>exact h1 _ _ g i j k h
 | wt h=>exact c _ _ h
 | symm _ d=>exact .symm d
 | trans _ _ e f=>exact .trans e f
theorem EQ.nil {n:Nat} {o:List Int} {x y:Int} (h:EQ n o [] x y):o.getD x.toNat 0=o.getD y.toNat 0:=by
 induction h with
 | cls _ _ _ _ h=>exact h
 | wt h=>cases h
 | symm _ a=>exact a.symm
 | trans _ _ b c=>exact b.trans c
section
variable {h:AG} {N:List AE} {P:List (Int×Int)} {o:List Int} {ar:List (List (Int×Int))} {W:List (Int×Int)} {w:Int×Int}
end
def ABh (h:AG):Prop:=∀t∈h.1,Nrm t.2.1
section
variable {h:AG} {N:List AE} {c:List Int}
end
section
variable {d:List AJ}
theorem Kj (d:List AJ):((Bw d).1.map λt=>t.2.1)=(AN d).map λx=>x.2:=by
 show ((Eg _ _ _).map λt=>t.2.1)=_;unfold Eg;rw[Va];apply SH
 .simp
 intro i h1 a;simp[AS,show i<(AN d).length by simpa using h1]
theorem gQ (d:List AJ):(Bw d).1.length=(AN d).length:=KY _ _ _
theorem A5H (d:List AJ) {k:Nat} (hk:k<(AN d).length):(Bw d).1.getD k Ub=(((AN d).getD k c0).1,((AN d).getD k c0).2,aP (AN d) (k:Int),(BD d).1.getD k []):=by
 unfold Bw Eg;simp[AS,hk]
theorem OG (d:List AJ) {t:Int} (a:0<=t) (b:t<((AN d).length:Int)):Bd (Bw d) t=((AN d).getD t.toNat c0).2:=by
 unfold Bd;rw[A5H d (by omega)]
theorem mU (a:Az d=0):(BD d).2=0/\(BD d).1=KW d (AN d) (BP d) (AN d).length:=by
 unfold BD;rw[An (by rw[a];simp)];exact⟨rfl,rfl⟩
theorem WI (a:Az d=0):(Aw d).1=Bw d:=by
 unfold Aw;rw[An (by rw[(mU a).1];simp)]
theorem AAd (b:Az d=0):GB (Bw d)/\Nd ((Bw d).1.map λt=>t.2.1):=by
 have h1:=Jd d;have a:=Yc d;rw[WI b]at h1 a;exact⟨h1,a⟩
theorem Ye (a:Az d=0):(Bw d).2=(BP d).map (RZ d):=by
 unfold Bw EY;rw[An (by rw[a];simp)]
theorem A5I (a:Az d=0) {t:Int} (b:0<=t) (c:t<((AN d).length:Int)):fU (Bw d) t=VC d (AN d) (BP d) t.toNat (BP d).length:=by
 unfold fU;rw[A5H d (by omega)];show (BD d).1.getD t.toNat []=_;rw[(mU a).2];unfold KW;simp[AS,show t.toNat<(AN d).length by omega]
theorem rR (a:Az d=0):A8 d=0/\(CB d).1=AN d/\La d=0/\(∀s∈BP d,(Dj d s).2=true)/\Il d (AN d) (BP d) (AN d).length=false:=by
 obtain⟨b,-,f⟩:=CH a;obtain⟨e,-,c⟩:=Ba b;refine⟨e,c,f,?_,?_⟩
 .unfold Az at a;split at a
  .rename_i h;exact absurd b h
  split at a
  .cases a
  split at a
  .rename_i h;exact absurd a h
  split at a
  .cases a
  rename_i h;exact If.1 (by simpa using h)
 unfold Az at a;split at a
 .rename_i h;exact absurd b h
 split at a
 .cases a
 split at a
 .rename_i h;exact absurd a h
 split at a
 .cases a
 split at a
 .cases a
 rename_i h;rw[c]at h;simpa using h
def Cd (l:List (List Int)) (c:List Int):Prop:=c=[]\/c∈l
theorem A5J {l:List (List Int)} (hk:Jc l) {c:List Int} (h:Cd l c):Ih c:=by
 rcases h with rfl|h
 .exact λx a=>by cases a
 exact hk.wds c h
theorem ABi {l:List (List Int)} (hk:Jc l) (hn:Nd l) {a b:List Int} (ha:Cd l a) (j:b∈l):Cd l (Ej a b):=by
 have f:=A5J hk ha;have g:=hk.wds b j;have m:Nrm (Ej a b):=by unfold Ej;exact Pj _
 have k:=λi=>Rf f g i;by_cases hi:∃i,BH a i=true/\BH b i=true
 .rcases ha with rfl|ha
  .obtain⟨i,h1,-⟩:=hi;unfold BH at h1;simp at h1
  obtain⟨t,d,e⟩:=hk.meet a ha b j hi;right;rw[qI (Rg f g) (hk.wds t d) m (hn.nrm t d) λi=>by rw[k,e]];exact d
 left;refine GO λn=>?_;unfold Ej at n;have o:Ih (Ej a b):=Rg f g;have:∃i,BH (Ej a b) i=true:=by
  have c:=m;rcases c with c|c
  .exact absurd (QI c) n
  exact lF o c
 obtain⟨i,h⟩:=this;rw[k,AT]at h;exact hi ⟨i,h⟩
def UsD (d:List AJ) (t:Int) (s:ByteArray) (x:AJ):Prop:=(DN x s).2=true/\A2 (Bw d) (BO (AN d) x.1) t=true
def vcD (d:List AJ) (s:ByteArray) (x:AJ):List Int:=((AN d).getD (BO (AN d) (DN x s).1).toNat c0).2
theorem WJ (hn:pW d (AN d)) {x:AJ} (a:x∈d):0<=BO (AN d) x.1/\BO (AN d) x.1<((AN d).length:Int):=⟨hn.1 x a,Ik _ _⟩
theorem A5K (hn:pW d (AN d)) {x:AJ} (b:x∈d) {s:ByteArray} (a:(DN x s).2=true):0<=BO (AN d) (DN x s).1/\BO (AN d) (DN x s).1<((AN d).length:Int):=⟨hn.value b a,Ik _ _⟩
theorem A0d (d:List AJ) {k:Int} (a:0<=k) (b:k<((AN d).length:Int)):((AN d).getD k.toNat c0).2∈(AN d).map λx=>x.2:=Do.2 ⟨_,BG (by omega),rfl⟩
theorem A2q (hk:GB (Bw d)) {a t:Int} (b:0<=a) (g:a<((AN d).length:Int)) (c:0<=t) (h:t<((AN d).length:Int)):Ly (AN d) a t=A2 (Bw d) a t:=by
 have j:=gQ d;have e:a<((Bw d).1.length:Int):=by omega
 have f:t<((Bw d).1.length:Int):=by omega
 have i:=hk.1.wds _ (Ca b e);have wt:=hk.1.wds _ (Ca c f);rw[ABC];unfold Ly;rw[<-OG d b g,<-OG d c h,Fs wt i];exact(B4 hk b e c f).symm
theorem gR (hk:GB (Bw d)) (h:Nd ((Bw d).1.map λt=>t.2.1)) (hn:pW d (AN d)) {t:Int} (p:0<=t) (q:t<((AN d).length:Int)) (s:ByteArray):∀(r:List AJ) (o:List Int×Bool),(∀x∈r,x∈d)->Cd ((AN d).map λx=>x.2) o.1 ->
  Cd ((AN d).map λx=>x.2) (r.foldl (KV (AN d) t s) o).1/\((r.foldl (KV (AN d) t s) o).2=true↔o.2=true\/∃x∈r,UsD d t s x)/\∀i,BH (r.foldl (KV (AN d) t s) o).1 i=true↔BH o.1 i=true/\∀x∈r,UsD d t s x->BH (vcD d s x) i=true
 | [],o,_,g=>⟨g,by simp,λi=>by simp⟩
 | x :: r,o,n,g=>by
  rw[Kj]at h;have m:Jc ((AN d).map λx=>x.2):=by have:=hk.1;rwa [Kj]at this
  have w:=n x (by simp);obtain⟨n0,n1⟩:=WJ hn w;have u:=A2q hk n0 n1 p q;rw[ON];by_cases hu:UsD d t s x
  .obtain⟨v0,v1⟩:=A5K hn w hu.1;have e:KV (AN d) t s o x=(Ej o.1 (vcD d s x),true):=by
    unfold KV;rw[An]
    .rfl
    rw[hu.1,u,hu.2];simp
   have v:vcD d s x∈(AN d).map λx=>x.2:=A0d d v0 v1;obtain⟨h1,k,l⟩:=gR hk (by rw[Kj];exact h) hn p q s r (KV (AN d) t s o x) (λy f=>n y (by simp[f])) (by rw[e];exact ABi m h g v);refine⟨h1,?_,λi=>?_⟩
   .rw[k,e];exact⟨λ_=>.inr ⟨x,by simp,hu⟩,λ_=>.inl rfl⟩
   rw[l,e];simp only;rw[Rf (A5J m g) (m.wds _ v),AT];constructor
   .rintro⟨⟨a,b⟩,c⟩;refine⟨a,λy f j=>?_⟩;rcases DO.1 f with rfl|f
    .exact b
    exact c y f j
   rintro⟨a,b⟩;exact⟨⟨a,b x (by simp) hu⟩,λy f=>b y (by simp[f])⟩
  have e:KV (AN d) t s o x=o:=by
   unfold KV;rw[BY];rw[u];unfold UsD at hu;cases h1:(DN x s).2 with
   | false=>simp
   | true =>
    rw[h1]at hu;have:A2 (Bw d) (BO (AN d) x.1) t=false:=by simpa using hu
    rw[this];simp
  obtain⟨h1,k,l⟩:=gR hk (by rw[Kj];exact h) hn p q s r (KV (AN d) t s o x) (λy f=>n y (by simp[f])) (by rw[e];exact g);refine⟨h1,?_,λi=>?_⟩
  .rw[k,e];constructor
   .rintro (a|⟨y,f,a⟩)
    .exact .inl a
    exact .inr ⟨y,by simp[f],a⟩
   rintro (a|⟨y,f,a⟩)
   .exact .inl a
   rcases DO.1 f with rfl|f
   .exact absurd a hu
   exact .inr ⟨y,f,a⟩
  rw[l,e];constructor
  .rintro⟨a,b⟩;refine⟨a,λy f j=>?_⟩;rcases DO.1 f with rfl|f
   .exact absurd j hu
   exact b y f j
  rintro⟨a,b⟩;exact⟨a,λy f=>b y (by simp[f])⟩
theorem Yf {b:List Int}:∀ {l:List AU} {k:Nat},(∃x∈l,x.2=b)->∃j:Nat,j<l.length/\RJ b k l=((k+j:Nat):Int)/\(l.getD j c0).2=b
 | [],k,⟨x,a,_⟩=>by cases a
 | y :: l,k,⟨x,a,e⟩=>by
  unfold RJ;by_cases h:Hn y.2 b=true
  .rw[BY h];exact⟨0,by simp,rfl,by simpa[Hn] using h⟩
  rw[An h];rcases DO.1 a with rfl|a
  .exact absurd (by simpa[Hn] using e) h
  obtain⟨j,h1,c,d⟩:=Yf (k:=k+1) ⟨x,a,e⟩;exact⟨j+1,by simp only[Of];omega,by rw[c];congr 1;omega,by simpa using d⟩
theorem rS {b:List Int} (h:Nrm b):BN b=b:=by
 unfold BN;have:Cm b b.length=b.length:=by
  rcases h with h|h
  .rw[h];rfl
  cases e:b.length with
  | zero=>rfl
  | succ m =>
   rw[e]at h;show (if b.getD m 0=0 then Cm b m else m+1)=m+1;rw[An (by simpa using h)]
 rw[this,QD]
theorem Rx (b:Az d=0) {t:Int} (z:0<=t) (J:t<((AN d).length:Int)) {s:ByteArray} (hs:s∈BP d) :
  ((Fq d (AN d) t s).2=true↔∃x∈d,UsD d t s x)/\((Fq d (AN d) t s).2=true->(0<=Hg (AN d) (Fq d (AN d) t s).1/\Hg (AN d) (Fq d (AN d) t s).1<((AN d).length:Int)) /\
   ∀i,BH (Bd (Bw d) (Hg (AN d) (Fq d (AN d) t s).1)) i=true↔∀x∈d,UsD d t s x->BH (vcD d s x) i=true):=by
 obtain⟨n,-,D,-,u⟩:=rR b;obtain⟨hk,p⟩:=AAd b;have hn:=RY n D;have L:=zW n;have r:=NK d;rw[WI b]at r;have K:Jc ((AN d).map λx=>x.2):=by have:=hk.1;rwa [Kj]at this
 have q:=p;rw[Kj]at q;have A:=A0d d (ABP 0) (by omega:(0:Int)<((AN d).length:Int));obtain⟨g,a,m⟩:=gR hk p hn z J s d (((AN d).getD 0 c0).2,false) (λx f=>f) (.inr A);have e:Fq d (AN d) t s=d.foldl (KV (AN d) t s) (((AN d).getD 0 c0).2,false):=rfl;rw[<-e]at g a m;refine⟨by rw[a];simp,λhu=>?_⟩;have E:(Fq d (AN d) t s).1≠[]:=by
  intro G;have h1:Lc d (AN d) t.toNat s=true:=by
   unfold Lc;rw[ZL z,hu,G];rfl
  have B:Il d (AN d) (BP d) (AN d).length=true:=by
   unfold Il;refine QC.2 ⟨t.toNat,QJ.2 (by omega),?_⟩;unfold fN;exact QC.2 ⟨s,hs,h1⟩
  rw[B]at u;cases u
 have o:(Fq d (AN d) t s).1∈(AN d).map λx=>x.2:=g.resolve_left E;obtain⟨x,f,ex⟩:=Do.1 o;obtain⟨j,M,H,I⟩:=Yf (l:=AN d) (k:=0) ⟨x,f,ex⟩;have hf:Hg (AN d) (Fq d (AN d) t s).1=(j:Int):=by
  unfold Hg;rw[rS (q.nrm _ o),H];simp
 rw[hf];refine⟨⟨To _,by omega⟩,λi=>?_⟩;rw[OG d (To _) (by omega),P0,I,m];constructor
 .exact λh=>h.2
 intro h;refine⟨?_,h⟩;obtain⟨y,v,w⟩:=(a.1 hu).resolve_left (by simp);obtain⟨v0,v1⟩:=A5K hn v w.1;have C:=h y v w;have c:=gQ d;have F:=r _ v0 (by rw[c];exact v1);have:=(B4 hk (ABP 0) (by rw[c];omega) v0 (by rw[c];exact v1)).1 F i;unfold Tb2 at this;rw[OG d (ABP 0) (by omega),OG d v0 v1]at this;exact this C
theorem TX {s:ByteArray}:∀ {r:List AJ} {o:List ByteArray} {y:ByteArray},y∈r.foldl (Ho s) o->y∈o\/∃x∈r,x.1=y/\(DN x s).2=true
 | [],_,_,h=>.inl h
 | x :: r,o,y,h=>by
  rw[ON]at h;rcases TX h with h|⟨z,b,h⟩
  .unfold Ho at h;split at h
   .rename_i a;rcases HQ h with h|h
    .exact .inl h
    exact .inr ⟨x,by simp,h.symm,a⟩
   exact .inl h
  exact .inr ⟨z,by simp[b],h⟩
theorem Yg {s:ByteArray} (h:(Dj d s).2=true):∃x∈d,x.1=(Dj d s).1/\(DN x s).2=true:=by
 unfold Dj at h ⊢;split
 .rename_i h1;have a:(A6 d (Fm d s)).getD 0 ByteArray.empty∈A6 d (Fm d s):=BG (by omega);exact(TX (Hv a)).resolve_left (by simp)
 rename_i h1;rw[An h1]at h;cases h
theorem rU (d:List AJ):iE (Aw d).1:=by
 by_cases a:Az d=0
 .rw[WI a];obtain⟨j,-,l,m,-⟩:=rR a;have hn:=RY j l;have g:=gQ d;refine⟨λx b=>?_,λt f p hp=>?_⟩
  .rw[Ye a]at b;obtain⟨s,hs,rfl⟩:=Do.1 b;obtain⟨y,n,e,-⟩:=Yg (m s hs);rw[g];show 0<=BO (AN d) (Dj d s).1/\BO (AN d) (Dj d s).1<((AN d).length:Int);rw[<-e];exact WJ hn n
  obtain⟨k,hk,e⟩:=CM Ub f;rw[g]at hk ⊢;have c:=A5I a (t:=(k:Int)) (To _) (by omega);unfold fU at c;rw[P0,e]at c;rw[c]at hp;unfold VC at hp;obtain⟨i,hi,rfl⟩:=Do.1 hp;obtain⟨h1,h⟩:=VW.1 hi;have h1:=QJ.1 h1;exact((Rx a (t:=(k:Int)) (To _) (by omega) (BG h1)).2 h).1
 have:(Aw d).1=([],[]):=by
  unfold Aw BD;rw[BY a,BY a]
 rw[this];exact⟨λx b=>(by cases b),λt f=>(by cases f)⟩
end
structure HAp (h:AG):Prop where
 iff:∀t f,0<=t->t<(h.1.length:Int)->0<=f->f<(h.2.length:Int)->((Br h t f).2=true↔A2 h (L6 h f) t=true)
 mono:∀t t' f,0<=t->t<(h.1.length:Int)->0<=t'->t'<(h.1.length:Int)->0<=f->f<(h.2.length:Int)->A2 h t t'=true->(Br h t f).2=true->A2 h (Br h t f).1 (Br h t' f).1=true
def WK (h:AG) (m:Nat) (u:List Int):Prop:=u.length=m/\∀t∈u,0<=t/\t<(h.1.length:Int)
theorem WK.get {h:AG} {m:Nat} {u:List Int} (hu:WK h m u) {n:Nat} (n1:n<m):0<=u.getD n 0/\u.getD n 0<(h.1.length:Int):=by
 have a:n<u.length:=by rw[hu.1];exact n1
 rw[AS,At a];exact hu.2 _ (VR a)
theorem OO.tyl {h:AG} {m:Nat} {s:Ed} (hs:OO h m s):WK h m s.1:=⟨hs.len,hs.ty⟩
def ST (h:AG) (m:Nat) (u v:List Int):Prop:=∀i,i<m->A2 h (u.getD i 0) (v.getD i 0)=true
def rV (h:AG) (u:List Int) (n:Int) (l:List (Int×Int)):Prop:=∀a∈l,(Br h (u.getD n.toNat 0) a.1).2=true/\A2 h (Br h (u.getD n.toNat 0) a.1).1 (u.getD a.2.toNat 0)=true
def WTy (h:AG) (f:List AE) (u:List Int):Prop:=∀i,i<f.length->rV h u (i:Int) (f.getD i (0,[])).2
theorem ST.refl {h:AG} (hk:GB h) {m:Nat} {u:List Int} (hu:WK h m u):ST h m u u:=λi hi=>WB hk (hu.get hi).1 (hu.get hi).2
theorem ST.trans {h:AG} (hk:GB h) {m:Nat} {u v w:List Int} (hu:WK h m u) (a:WK h m v) (b:WK h m w) (h1:ST h m u v) (c:ST h m v w):ST h m u w:=λi hi =>
 Hx hk (hu.get hi).1 (hu.get hi).2 (a.get hi).1 (a.get hi).2 (b.get hi).1 (b.get hi).2 (h1 i hi) (c i hi)
theorem ST.anti {h:AG} (hi:ME h) {m:Nat} {u v:List Int} (hu:WK h m u) (b:WK h m v) (h1:ST h m u v) (d:ST h m v u):u=v:=by
 refine SH (by rw[hu.1,b.1]) λi c e=>?_;have a:i<m:=by rw[<-hu.1];exact c
 have:=hi _ _ (hu.get a).1 (hu.get a).2 (b.get a).1 (b.get a).2 (h1 i a) (d i a)
 rwa [AS,At c,AS,At e]at this
structure Stp (h:AG) (m:Nat) (s s':Ed):Prop where
 up:ST h m s.1 s'.1
 pre:s.2 <+: s'.2
 ch:∀k:Nat,k<m->s'.1.getD k 0=s.1.getD k 0\/(k:Int)∈s'.2.drop s.2.length
theorem Stp.refl {h:AG} (hk:GB h) {m:Nat} {s:Ed} (hs:OO h m s):Stp h m s s:=⟨ST.refl hk hs.tyl,Vd _,λ_ _=>.inl rfl⟩
theorem TY {l l':List Int} (hp:l <+: l') {n:Nat} {x:Int} (h:x∈l.drop n):x∈l'.drop n:=by
 obtain⟨r,rfl⟩:=hp;rw[AGp];exact SI _ h
theorem Ry {l:List Int} {a b:Nat} (c:a<=b) {x:Int} (h:x∈l.drop b):x∈l.drop a:=by
 have:l.drop b=(l.drop a).drop (b-a):=by rw[AFw];congr 1;omega
 rw[this]at h;exact ABK h
theorem Stp.trans {h:AG} (hk:GB h) {m:Nat} {a b c:Ed} (ha:OO h m a) (i:OO h m b) (j:OO h m c) (h1:Stp h m a b) (d:Stp h m b c):Stp h m a c:=by
 refine⟨h1.up.trans hk ha.tyl i.tyl j.tyl d.up,h1.pre.trans d.pre,λk g=>?_⟩;rcases d.ch k g with f|f
 .rcases h1.ch k g with e|e
  .exact .inl (f.trans e)
  exact .inr (TY d.pre e)
 exact .inr (Ry h1.pre.length_le f)
theorem TZ {h:AG} (hk:GB h) (hi:ME h) {m:Nat} {s c:Ed} (hs:OO h m s) {n t:Int} (n0:0<=n) (n1:n<(m:Int)) (f:0<=t) (g:t<(h.1.length:Int)) (e:DP h s n t=some c) :
  Stp h m s c/\A2 h t (c.1.getD n.toNat 0)=true:=by
 have r:=(FE hk hi hs n0 n1 f g e).1;obtain⟨i,j⟩:=hs.get n0 n1;unfold DP at e;split at e
 .rename_i o;obtain⟨u,w,q,d⟩:=(M5 hk i j f g).1 o;generalize (Bq h (s.1.getD n.toNat 0) t).1=v at *;injection e with e
  split at e
  .rename_i p;subst e;exact⟨Stp.refl hk hs,by rw[<-p];exact d⟩
  subst e;have l:n.toNat<s.1.length:=by rw[hs.len];omega
  have a:∀k:Nat,(s.1.set n.toNat v).getD k 0=if k=n.toNat then v else s.1.getD k 0:=λk=>OA _ _ _ l k
  refine⟨⟨λk b=>?_,AG6 _ _,λk b=>?_⟩,?_⟩
  .simp only;rw[a];split
   .rename_i e;rw[e];exact q
   exact WB hk (hs.tyl.get b).1 (hs.tyl.get b).2
  .simp only;rw[a];split
   .rename_i e;right;rw[AGp,tO,SP];exact AA3 _ (by simp;omega)
   exact .inl rfl
  simp only;rw[a,BY rfl];exact d
 cases e
theorem b9 {h:AG} (hk:GB h) (hi:ME h) {m:Nat} {s:Ed} (hs:OO h m s) {n t:Int} (n0:0<=n) (n1:n<(m:Int)) (p:0<=t) (q:t<(h.1.length:Int)) {u:List Int} (hu:WK h m u) (a:ST h m s.1 u) (j:A2 h t (u.getD n.toNat 0)=true) :
  ∃c,DP h s n t=some c/\ST h m c.1 u:=by
 obtain⟨d,f⟩:=hs.get n0 n1;have b:n.toNat<m:=by omega
 obtain⟨r,v⟩:=hu.get b;obtain⟨l,o⟩:=(M5 hk d f p q).2 _ r v (a _ b) j;unfold DP;rw[BY l];refine⟨_,rfl,?_⟩;split
 .exact a
 intro k g;have i:n.toNat<s.1.length:=by rw[hs.len];omega
 simp only;rw[OA _ _ _ i k];split
 .rename_i e;rw[e];exact o
 exact a k g
section
variable {h:AG} (hk:GB h) (hi:ME h) (hf:iE h) (hap:HAp h) {m:Nat} {n:Int} (n0:0<=n) (n1:n<(m:Int))
include hk hi hf n0 n1
theorem gS:∀ {l:List (Int×Int)} {s c:Ed},(∀a∈l,L8 h m a)->OO h m s->NA h n l s=some c->Stp h m s c/\∀a∈l,A2 h (L6 h a.1) (c.1.getD n.toNat 0)=true
 | [],s,c,_,hs,e=>by
  injection e with e
  subst e;exact⟨Stp.refl hk hs,λa ha=>by cases ha⟩
 | a :: l,s,c,o,hs,e=>by
  unfold NA at e;cases g:DP h s n (L6 h a.1) with
  | none=>rw[g]at e;cases e
  | some s1 =>
   rw[g]at e;obtain⟨⟨r,t⟩,-⟩:=o a (by simp);obtain⟨j,k⟩:=NB hf r t;obtain⟨d,-,-⟩:=FE hk hi hs n0 n1 j k g;obtain⟨v,w⟩:=TZ hk hi hs n0 n1 j k g;have p:∀b∈l,L8 h m b:=λb f=>o b (NO _ f);have e:NA h n l s1=some c:=e;obtain⟨q,u⟩:=gS p d e;have i:=(Rn hk hi hf n0 n1 p d e).1;refine⟨v.trans hk hs d i q,λb f=>?_⟩;rcases DO.1 f with rfl|f
   .exact Hx hk j k (d.get n0 n1).1 (d.get n0 n1).2 (i.get n0 n1).1 (i.get n0 n1).2 w (q.up _ (by omega))
   exact u b f
theorem A0f:∀ {l:List (Int×Int)} {s c:Ed},(∀a∈l,L8 h m a)->OO h m s->OM h n l s=some c->Stp h m s c/\(n∈c.2.drop s.2.length\/(c.1.getD n.toNat 0=s.1.getD n.toNat 0/\∀a∈l,(Br h (s.1.getD n.toNat 0) a.1).2=true/\A2 h (Br h (s.1.getD n.toNat 0) a.1).1 (c.1.getD a.2.toNat 0)=true))
 | [],s,c,_,hs,e=>by
  injection e with e
  subst e;exact⟨Stp.refl hk hs,.inr ⟨rfl,λa ha=>by cases ha⟩⟩
 | a :: l,s,c,t,hs,e=>by
  unfold OM at e;split at e
  .rename_i v;obtain⟨w,x⟩:=hs.get n0 n1;obtain⟨o,p⟩:=HZ hf w x v;cases j:DP h s a.2 (Br h (s.1.getD n.toNat 0) a.1).1 with
   | none=>rw[j]at e;cases e
   | some s1 =>
    rw[j]at e;obtain⟨-,d,b1⟩:=t a (by simp);obtain⟨g,-,-⟩:=FE hk hi hs d b1 o p j;obtain⟨r,A⟩:=TZ hk hi hs d b1 o p j;have u:∀b∈l,L8 h m b:=λb f=>t b (NO _ f);have e:OM h n l s1=some c:=e;obtain⟨q,i⟩:=A0f u g e;have k:=(WC hk hi hf n0 n1 u g e).1;refine⟨r.trans hk hs g k q,?_⟩;have y:((n.toNat:Nat):Int)=n:=ZL n0;rcases r.ch n.toNat (by omega) with c1|c1
    .rcases i with i|⟨i,z⟩
     .exact .inl (Ry r.pre.length_le i)
     refine .inr ⟨i.trans c1,λb f=>?_⟩;rcases DO.1 f with rfl|f
     .exact⟨v,Hx hk o p (g.get d b1).1 (g.get d b1).2 (k.get d b1).1 (k.get d b1).2 A (q.up _ (by omega))⟩
     have:=z b f
     rwa [c1]at this
    rw[y]at c1;exact .inl (TY q.pre c1)
  cases e
include hap
theorem A0g {u:List Int} (hu:WK h m u):∀ {l:List (Int×Int)} {s:Ed},(∀a∈l,L8 h m a)->OO h m s->ST h m s.1 u->(∀a∈l,(Br h (u.getD n.toNat 0) a.1).2=true)->∃c,NA h n l s=some c/\ST h m c.1 u
 | [],s,_,_,e,_=>⟨s,rfl,e⟩
 | a :: l,s,j,hs,e,k=>by
  obtain⟨⟨f,g⟩,-⟩:=j a (by simp);obtain⟨o,p⟩:=NB hf f g;obtain⟨v,w⟩:=hu.get (show n.toNat<m by omega);obtain⟨s1,i,h1⟩:=b9 hk hi hs n0 n1 o p hu e ((hap.iff _ _ v w f g).1 (k a (by simp)));obtain⟨r,-,-⟩:=FE hk hi hs n0 n1 o p i;obtain⟨c,q,t⟩:=A0g hu (λb d=>j b (NO _ d)) r h1 λb d=>k b (NO _ d);exact⟨c,by unfold NA;rw[i];exact q,t⟩
theorem A0h {u:List Int} (hu:WK h m u):∀ {l:List (Int×Int)} {s:Ed},(∀a∈l,L8 h m a)->OO h m s->ST h m s.1 u->(∀a∈l,A2 h (L6 h a.1) (s.1.getD n.toNat 0)=true)->rV h u n l->∃j,OM h n l s=some j/\ST h m j.1 u
 | [],s,_,_,f,_,_=>⟨s,rfl,f⟩
 | a :: l,s,p,hs,f,y,z=>by
  obtain⟨⟨v,w⟩,k,b1⟩:=p a (by simp);obtain⟨d,e⟩:=hs.get n0 n1;have q:n.toNat<m:=by omega
  have x:a.2.toNat<m:=by omega
  obtain⟨A,B⟩:=hu.get q;have r:=(hap.iff _ _ d e v w).2 (y a (by simp));obtain⟨g,i⟩:=HZ hf d e r;obtain⟨I,J⟩:=z a (by simp);obtain⟨v0,v1⟩:=HZ hf A B I;have E:=hap.mono _ _ a.1 d e A B v w (f _ q) r;obtain⟨s1,o,h1⟩:=b9 hk hi hs k b1 g i hu f (Hx hk g i v0 v1 (hu.get x).1 (hu.get x).2 E J);obtain⟨t,-,-⟩:=FE hk hi hs k b1 g i o;obtain⟨H,-⟩:=TZ hk hi hs k b1 g i o;obtain⟨j,C,D⟩:=A0h hu (λb c=>p b (NO _ c)) t h1 (λb c=>by
   obtain⟨⟨c0,c1⟩,-⟩:=p b (NO _ c);obtain⟨F,G⟩:=NB hf c0 c1;exact Hx hk F G d e (t.get n0 n1).1 (t.get n0 n1).2 (y b (NO _ c)) (H.up _ q)) λb c=>z b (NO _ c)
  exact⟨j,by unfold OM;rw[BY r,o];exact C,D⟩
end
section
variable {h:AG} (hk:GB h) (hi:ME h) (hf:iE h) (hap:HAp h) {f:List AE} (ha:Pl h f)
include hk hi hf hap ha
theorem A5M {n:Int} (n0:0<=n) (n1:n<(f.length:Int)) {s c:Ed} (hs:OO h f.length s) (e:L7 h f n s=some c):Stp h f.length s c/\(n∈c.2.drop s.2.length\/rV h c.1 n (f.getD n.toNat (0,[])).2):=by
 have _:=hap;have g:=NC ha n0 n1;unfold L7 at e;cases d:NA h n (f.getD n.toNat (0,[])).2 s with
 | none=>rw[d]at e;cases e
 | some s1 =>
  rw[d]at e;have i:=(Rn hk hi hf n0 n1 g hs d).1;obtain⟨j,-⟩:=gS hk hi hf n0 n1 g hs d;have e:OM h n (f.getD n.toNat (0,[])).2 s1=some c:=e;have k:=(WC hk hi hf n0 n1 g i e).1;obtain⟨l,b⟩:=A0f hk hi hf n0 n1 g i e;refine⟨j.trans hk hs i k l,?_⟩;rcases b with b|⟨b,m⟩
  .exact .inl (Ry j.pre.length_le b)
  refine .inr λa ha=>?_;rw[b];exact m a ha
theorem A5N {n:Int} (n0:0<=n) (n1:n<(f.length:Int)) {s:Ed} (hs:OO h f.length s) {u:List Int} (hu:WK h f.length u) (d:rV h u n (f.getD n.toNat (0,[])).2) (j:ST h f.length s.1 u):∃e,L7 h f n s=some e/\ST h f.length e.1 u:=by
 have b:=NC ha n0 n1;obtain⟨s1,c,h1⟩:=A0g hk hi hf hap n0 n1 hu b hs j λa ha=>(d a ha).1;have k:=(Rn hk hi hf n0 n1 b hs c).1;obtain⟨-,l⟩:=gS hk hi hf n0 n1 b hs c;obtain⟨s2,g,i⟩:=A0h hk hi hf hap n0 n1 hu b k h1 l d;exact⟨s2,by unfold L7;rw[c];exact g,i⟩
def AEQ (h:AG) (f:List AE) (i:Nat) (s:Ed):Prop:=∀n:Nat,n<f.length->rV h s.1 (n:Int) (f.getD n (0,[])).2\/(n:Int)∈s.2.drop i
theorem A9o {n:Nat} (hn:n<f.length) {s d:Ed} (hs:OO h f.length s) (i:OO h f.length d) (j:Stp h f.length s d) (p:rV h s.1 (n:Int) (f.getD n (0,[])).2):rV h d.1 (n:Int) (f.getD n (0,[])).2\/(n:Int)∈d.2.drop s.2.length:=by
 have _:=hap;have _:=hi;have o:∀a∈(f.getD n (0,[])).2,L8 h f.length a:=ha _ (AD f (0,[]) hn);rcases j.ch n hn with c|c
 .left;intro a g;obtain⟨e,k⟩:=p a g;obtain⟨-,b,b1⟩:=o a g;rw[P0]at e k ⊢;rw[c];obtain⟨l,m⟩:=hs.tyl.get hn;obtain⟨q,r⟩:=HZ hf l m e;exact⟨e,Hx hk q r (hs.get b b1).1 (hs.get b b1).2 (i.get b b1).1 (i.get b b1).2 k (j.up _ (by omega))⟩
 exact .inr c
theorem A0i:∀ {k i:Nat} {s:Ed} {ty:List Int},OO h f.length s->AEQ h f i s->wlF h f k i s=some ty->WTy h f ty/\ST h f.length s.1 ty/\WK h f.length ty
 | 0,_,_,_,_,_,e=>by cases e
 | k+1,i,s,ty,hs,hp,e=>by
  unfold wlF at e;split at e
  .rename_i d;have p:=AD s.2 (0:Int) d;obtain⟨n0,n1⟩:=hs.wt _ p;generalize hn:s.2.getD i 0=n at *;cases c:L7 h f n s with
   | none=>rw[c]at e;cases e
   | some s1 =>
    rw[c]at e;have g:=(YA hk hi hf ha n0 n1 hs c).1;obtain⟨j,b⟩:=A5M hk hi hf hap ha n0 n1 hs c;have r:AEQ h f (i+1) s1:=by
     intro m l;rcases hp m l with q|a
     .rcases A9o hk hi hf hap ha l hs g j q with h1|h1
      .exact .inl h1
      exact .inr (Ry (by omega) h1)
     have t:s.2.drop i=n :: s.2.drop (i+1):=by
      rw[OR d,<-hn,AS,At d];rfl
     rw[t]at a;rcases DO.1 a with a|a
     .rcases b with b|b
      .exact .inr (by rw[a];exact Ry (by omega) b)
      left;rw[a];have:n.toNat=m:=by omega
      rw[this]at b;exact b
     exact .inr (TY j.pre a)
    have e:wlF h f k (i+1) s1=some ty:=e;obtain⟨u,v,o⟩:=A0i g r e;exact⟨u,j.up.trans hk hs.tyl g.tyl o v,o⟩
  rename_i d;injection e with e
  subst e;refine⟨λn hn=>?_,ST.refl hk hs.tyl,hs.tyl⟩;rcases hp n hn with h1|h1
  .exact h1
  rw[B0 (by omega)]at h1;cases h1
theorem A5O {u:List Int} (hu:WK h f.length u) (d:WTy h f u):∀ {k i:Nat} {s:Ed},OO h f.length s->i<=s.2.length->bJ h s.1+s.2.length+1<=k+i->ST h f.length s.1 u->∃ty,wlF h f k i s=some ty/\ST h f.length ty u
 | 0,i,s,hs,j,l,b=>by omega
 | k+1,i,s,hs,j,l,b=>by
  unfold wlF;by_cases a:i<s.2.length
  .rw[BY a];obtain⟨n0,n1⟩:=hs.wt _ (AD s.2 (0:Int) a);have e:=d (s.2.getD i 0).toNat (by omega);rw[ZL n0]at e;obtain⟨s1,c,h1⟩:=A5N hk hi hf hap ha n0 n1 hs hu e b;obtain⟨g,m,n⟩:=YA hk hi hf ha n0 n1 hs c;rw[c];exact A5O hu d g (by omega) (by omega) h1
  rw[An a];exact⟨s.1,rfl,b⟩
theorem rW (a:∀x∈f,0<=x.1/\x.1<(h.1.length:Int)) {ty:List Int} (e:Iv h f=some ty):WTy h f ty/\ST h f.length (Bb f) ty/\WK h f.length ty:=by
 have e:wlF h f (Ol h f) 0 (Bb f,Ei f)=some ty:=e;refine A0i hk hi hf hap ha (k:=Ol h f) (i:=0) (s:=(Bb f,Ei f)) (A59 a) (λn hn=>.inr ?_) e;rw[SP];exact Do.2 ⟨n,QJ.2 hn,rfl⟩
theorem mV (b:∀x∈f,0<=x.1/\x.1<(h.1.length:Int)) {u:List Int} (hu:WK h f.length u) (c:WTy h f u) (a:ST h f.length (Bb f) u):∃ty,Iv h f=some ty/\ST h f.length ty u :=
 A5O hk hi hf hap ha hu c (k:=Ol h f) (i:=0) (s:=(Bb f,Ei f)) (A59 b) (IS _) (A5a h f) a
end
inductive Up (d:List AJ) (m:ByteArray):ByteArray->Prop
 | base {x:ByteArray}:AY m x=true->Up d m x
 | step {x s:ByteArray} {y:AJ}:y∈d->AY y.1 x=true->Aa y.2.1 s=true->Up d m s->Up d m x
section
variable {d:List AJ}
theorem Yh {m x y:ByteArray} (h:Up d m x) (e:AY x y=true):Up d m y:=by
 cases h with
 | base h=>exact .base (BZ h e)
 | step h1 a b c=>exact .step h1 (BZ a e) b c
theorem ABk {c x s:ByteArray} (h:Up d c x) {y:AJ} (f:y∈d) (e:AY y.1 c=true) (hs:Aa y.2.1 s=true):Up d s x:=by
 induction h with
 | base h=>exact .step f (BZ e h) hs (.base (Cz s))
 | step h1 a b i g=>exact .step h1 a b g
theorem Rz {a b c:ByteArray} (h1:Up d a b) (i:Up d b c):Up d a c:=by
 induction i with
 | base h=>exact Yh h1 h
 | step e f g k j=>exact .step e f g j
theorem A9p {m a x:ByteArray} (e:AY a m=true) (h:Up d m x):Up d a x:=Rz (.base e) h
theorem A9q (hn:Cp d=0) (f:d.length<=(Bm d).length) {m x:ByteArray} (h:Up d m x):AY m x=true\/Gg d m<Gg d x:=by
 induction h with
 | base h=>exact .inl h
 | step h1 c e g a =>
  right;have b:=LX hn f h1 e;rw[Ii d c]at b;rcases a with a|a
  .rw[Ii d a];exact b
  omega
theorem A5P {o:List ByteArray} {s t:ByteArray} (h:t∈KS o s):t∈o\/t=s:=by
 unfold KS at h;split at h
 .exact .inl h
 rcases OF.1 h with h|h
 .exact .inl h
 exact .inr (by simpa using h)
theorem cA:∀ {l o:List ByteArray} {t:ByteArray},t∈l.foldl KS o->t∈o\/t∈l
 | [],_,_,h=>.inl h
 | s :: l,o,t,h=>by
  rw[ON]at h;rcases cA h with h|h
  .rcases A5P h with h|h
   .exact .inl h
   exact .inr (by simp[h])
  exact .inr (by simp[h])
theorem A2r {s:ByteArray} (h:0<=Ar d s):d.getD (Ar d s).toNat d0∈d/\AY (d.getD (Ar d s).toNat d0).1 s=true:=by
 rcases DX d s with g|⟨b,c,a⟩
 .omega
 exact⟨BG (by omega),a⟩
theorem cB (hs:RE d) {x:ByteArray}:∀ {n i:Nat} {o:List ByteArray},(∀t∈o,0<=Ar d t/\Up d t x)->∀t∈Id d n i o,0<=Ar d t/\Up d t x
 | 0,_,_,b=>b
 | n+1,i,o,b=>by
  unfold Id;split
  .rename_i hi;refine cB hs λt a=>?_;rcases cA a with a|a
   .exact b t a
   obtain⟨c1,c2⟩:=b _ (BG (d:=ByteArray.empty) hi);obtain⟨c,e⟩:=A2r c1;exact⟨hs _ c t a,ABk c2 c e (F4 a)⟩
  exact b
theorem cC {l:List ByteArray} {t:ByteArray} (h:t∈KT l):t∈l:=(XY (o:=[]) h).resolve_left (by simp)
theorem A5Q (hs:RE d) {x t:ByteArray} (b:0<=Ar d x) (h:Aa (LU d x) t=true):Up d t x:=by
 obtain⟨u,hu,e⟩:=QC.1 h;unfold LU at hu;rw[An (by omega)]at hu;have:=(cB hs (x:=x) (n:=d.length) (i:=0) (o:=[x]) (λt a=>by
  have:t=x:=by simpa using a
  subst this;exact⟨b,.base (Cz _)⟩) u (cC hu)).2
 exact A9p (EF e) this
theorem cE {m:ByteArray}:∀ {n i:Nat} {o:List ByteArray},(∀t∈o,Up d m t)->∀t∈Cq d n i o,Up d m t
 | 0,_,_,a=>a
 | n+1,i,o,a=>by
  unfold Cq;split
  .rename_i hi;have f:=a _ (BG (d:=ByteArray.empty) hi);generalize o.getD i ByteArray.empty=c at *;have key:∀(l:List AJ) (o:List ByteArray),(∀y∈l,y∈d)->(∀t∈o,Up d m t)->∀t∈l.foldl (Ff c) o,Up d m t:=by
    intro l;induction l with
    | nil=>exact λo _ a=>a
    | cons y l j =>
     intro o e a;rw[ON];refine j _ (λz g=>e z (by simp[g])) λt b=>?_;unfold Ff at b;split at b
     .rename_i h;rw[AT]at h;rcases OF.1 b with b|b
      .exact a t b
      have:t=y.1:=by simpa using b
      subst this;exact .step (e y (by simp)) (Cz _) h.1 f
     exact a t b
   exact cE (key d o (λ_ h=>h) a)
  exact a
theorem Yi {m x:ByteArray} (h:Aa (Cr d m) x=true):Up d m x:=by
 obtain⟨u,hu,e⟩:=QC.1 h;unfold Cr at hu;split at hu
 .cases hu
 exact Yh (cE (m:=m) (n:=d.length) (i:=0) (o:=[m]) (λt a=>by
  have:t=m:=by simpa using a
  subst this;exact .base (Cz _)) u (cC hu)) e
theorem Yj {m x:ByteArray} (u:0<=Ar d m) (h:Up d m x):Aa (Cr d m) x=true:=by
 have q:e9 d [m]:=⟨λs hs=>by
  have:s=m:=by simpa using hs
  rw[this];exact u,by simp⟩
 obtain⟨k,v,D⟩:=YZ (d:=d) (n:=d.length) (i:=0) q (by omega) (λj t=>by omega) (by omega);have A:m∈Cq d d.length 0 [m]:=LY (by simp);have r:Cr d m=KT (Cq d d.length 0 [m]):=by unfold Cr;rw[An (by omega)]
 rw[r];generalize Cq d d.length 0 [m]=o at *;have key:Aa o x=true:=by
  induction h with
  | base h=>exact QC.2 ⟨m,A,h⟩
  | step h1 l p C B =>
   obtain⟨z,c,a⟩:=QC.1 B;obtain⟨j,t,rfl⟩:=CM ByteArray.empty c;obtain⟨s,y,f⟩:=QC.1 p;obtain⟨w,b,g⟩:=QC.1 (v j (by omega) _ h1 (QC.2 ⟨s,y,BZ f (EF a)⟩));exact QC.2 ⟨w,b,BZ g l⟩
 obtain⟨z,c,e⟩:=QC.1 key;obtain⟨w,b,a⟩:=QC.1 (RS (o:=[]) c);exact QC.2 ⟨w,b,BZ a e⟩
theorem cF:∀ {l o:List ByteArray} {x:ByteArray},Aa o x=true->Aa (l.foldl (Fg d) o) x=true
 | [],_,_,h=>h
 | s :: l,o,x,h=>by
  rw[ON];refine cF ?_;unfold Fg;split
  .exact KU (λz a=>Nu a) h
  exact h
theorem R0:∀ {l o:List ByteArray} {x:ByteArray},x∈l->0<=Ar d x->Aa (l.foldl (Fg d) o) x=true
 | s :: l,o,x,h,a=>by
  rw[ON];rcases DO.1 h with rfl|h
  .refine cF ?_;unfold Fg;rw[BY a];exact RR
  exact R0 h a
theorem Oq:∀ {l o:List ByteArray},(∀x∈o,0<=Ar d x)->∀x∈l.foldl (Fg d) o,0<=Ar d x
 | [],_,b=>b
 | s :: l,o,b=>by
  rw[ON];refine Oq λx a=>?_;unfold Fg at a;split at a
  .rcases HQ a with a|rfl
   .exact b x a
   assumption
  exact b x a
theorem ABl {l:List ByteArray} (h:z6 l) {i j:Nat} (hi:i<l.length) (a:j<l.length) (d:i≠j):AY (l.getD i ByteArray.empty) (l.getD j ByteArray.empty)=false:=by
 have c:∀k (h:k<l.length),l.getD k ByteArray.empty=l[k]:=λk h=>by rw[AS,At h];rfl
 rw[c i hi,c j a];rcases Nat.lt_or_gt_of_ne d with b|b
 .exact(QG.1 h) i j hi a b
 exact M6 ((QG.1 h) j i a hi b)
theorem R1:∀ {l o:List ByteArray},z6 o->(∀s∈l,∀x∈o,AY x s=false)->z6 l->z6 (l.foldl (Fg d) o)
 | [],_,h,_,_=>h
 | s :: l,o,h,b,f=>by
  rw[ON];have e:=SK.1 f;refine R1 ?_ (λy c x a=>?_) e.2
  .unfold Fg;split
   .exact Xz h (b s (by simp))
   exact h
  unfold Fg at a;split at a
  .rcases HQ a with a|rfl
   .exact b y (by simp[c]) x a
   exact e.1 y c
  exact b y (by simp[c]) x a
theorem A2s (hn:Cp d=0) (s:ByteArray):z6 (Fm d s):=by
 have key:∀(r:List AJ) (o:List ByteArray),z6 o->(∀y∈r,∀x∈o,AY x y.1=false)->r.Pairwise (λa b=>AY a.1 b.1=false)->z6 (r.foldl (Ho s) o):=by
  intro r;induction r with
  | nil=>exact λo h _ _=>h
  | cons y r q =>
   intro o h f hp;rw[ON];have l:=SK.1 hp;refine q _ ?_ (λz g x c=>?_) l.2
   .unfold Ho;split
    .exact Xz h (f y (by simp))
    exact h
   unfold Ho at c;split at c
   .rcases HQ c with c|rfl
    .exact f z (by simp[g]) x c
    exact l.1 z g
   exact f z (by simp[g]) x c
 refine key d [] .nil (λy _ x c=>by cases c) (QG.2 λi j hi k t=>?_);cases e:AY d[i].1 d[j].1 with
 | false=>rfl
 | true =>
  have h1:=Mx hn hi;have p:=Mx hn k;have m:d.getD i d0=d[i]:=by rw[AS,At hi];rfl
  have n:d.getD j d0=d[j]:=by rw[AS,At k];rfl
  rw[m,JW d e]at h1;rw[n]at p;omega
theorem Ta (r:A8 d=0) {l:List ByteArray} (t:z6 l) {x:ByteArray} (g:x∈l) (w:0<=Ar d x):∃m∈A6 d l,Up d m x:=by
 obtain⟨hs,C,-,hn,A⟩:=A0 r;have z:∀y∈Be d l,0<=Ar d y:=Oq λy c=>by cases c
 obtain⟨q,n,ex⟩:=QC.1 (R0 (d:=d) (o:=[]) g w);have n:q∈Be d l:=n;have v:z6 (Be d l):=R1 .nil (λs _ x g=>by cases g) t;have u:A6 d l=RH d (Be d l) (Be d l).length:=rfl;rw[u];generalize Be d l=all at *;have key:∀(k:Nat) (y:ByteArray),Gg d y<k->y∈all->Up d y x->∃m∈RH d all all.length,Up d m x:=by
  intro k;induction k with
  | zero=>exact λy h=>by omega
  | succ k B =>
   intro y D c hu;obtain⟨i,hi,rfl⟩:=CM ByteArray.empty c;by_cases a:RG d all i all.length=true
   .exact⟨_,Do.2 ⟨i,VW.2 ⟨QJ.2 hi,a⟩,rfl⟩,hu⟩
   have a:RG d all i all.length=false:=by simpa using a
   unfold RG at a;obtain⟨j,b,hf⟩:=iF.1 a;have b:=QJ.1 b;unfold zP at hf;simp only[QO,SJ,Px,not_or,Bool.not_eq_false]at hf;obtain⟨f,ha⟩:=hf;have f:j≠i:=λe=>f (by rw[e]);have p:=A5Q hs (z _ c) ha;rcases A9q hn A p with e|e
   .exact absurd e (by rw[ABl v b hi f];simp)
   exact B _ (by omega) (BG b) (Rz p hu)
 exact key _ q (AFS _) n (.base ex)
theorem Ll {s:ByteArray} (hs:s∈AP d):0<=Ar d s:=by
 obtain⟨x,a,rfl⟩:=Dh hs;exact Dg a
theorem R2 {x:AJ} (a:x∈d) (hn:Cp d=0):x.1∈AP d:=by
 obtain⟨s,hs,e⟩:=QC.1 (Pc a);obtain⟨y,b,rfl⟩:=Dh hs;rw[<-RQ hn b a e];exact hs
theorem A9r (b:A8 d=0) {m x:ByteArray} (c:0<=Ar d m) (h:Up d m x) {i:Nat} (hi:BH (E0 d (AP d) x) i=true):BH (E0 d (AP d) m) i=true:=by
 obtain⟨-,j,-,hn,k⟩:=A0 b;have e:=EE d d.length;rw[QD]at e;have a:(AP d).length<=4096:=by omega
 obtain⟨f,g⟩:=(CA (d:=d) a x i).1.1 hi;exact(CA (d:=d) a m i).1.2 ⟨f,Yj c (Rz h (Yi g))⟩
end
section
variable {d:List AJ}
def Dc (d:List AJ) (c:List Int):Prop:=Ih c/\∀i j,BH c i=true->j<(AP d).length->Up d ((AP d).getD i ByteArray.empty) ((AP d).getD j ByteArray.empty)->BH c j=true
theorem ABm:Dc d []:=⟨λx a=>(by cases a),λi j hi=>by unfold BH at hi;simp at hi⟩
theorem ABn {a b:List Int} (ha:Dc d a) (c:Dc d b):Dc d (Ej a b) :=
 ⟨Rg ha.1 c.1,λi j hi e hu=>by
  rw[Rf ha.1 c.1,AT]at hi ⊢;exact⟨ha.2 i j hi.1 e hu,c.2 i j hi.2 e hu⟩⟩
theorem A9s {l:List (List Int)} (h:∀c∈l,Dc d c) (k:Nat):Dc d (l.getD k []):=by grind [BG,TD,ABm]
theorem A9t {l:List (List Int)} (h:∀c∈l,Dc d c) (i k:Nat):∀c∈Gw l i k,Dc d c:=by grind [Gw,Ej,ABn,A9s]
theorem A0j {i:Nat}:∀ {n k:Nat} {l:List (List Int)},(∀c∈l,Dc d c)->∀c∈Gx i n k l,Dc d c
 | 0,_,_,h=>h
 | n+1,k,l,h=>by
  unfold Gx;split
  .exact A0j (A9t h i k)
  exact h
theorem A0k:∀ {n i:Nat} {l:List (List Int)},(∀c∈l,Dc d c)->∀c∈Ie n i l,Dc d c
 | 0,_,_,h=>h
 | n+1,i,l,h=>by
  unfold Ie;split
  .exact A0k (A0j h)
  exact h
theorem Ul (a:A8 d=0):(AP d).length<=4096:=by
 obtain⟨-,c,-⟩:=A0 a;have b:=EE d d.length;rw[QD]at b;omega
theorem A9u (a:A8 d=0) {s:ByteArray} (hs:0<=Ar d s):Dc d (E0 d (AP d) s):=by
 have b:=Ul a;refine⟨(CA (d:=d) b s 0).2.1,λi j hi c hu=>?_⟩;grind [CA,Yj,Rz,Yi]
theorem ABo (a:A8 d=0):∀c∈Ax (AX d),Dc d c:=A0k λc b=>by
 obtain⟨s,hs,rfl⟩:=Do.1 b;exact A9u a (Ll hs)
theorem A0l {all:List ByteArray} {codes:List (List Int)} {b:List Int} {u:ByteArray}:∀ {m i:Nat} {l:List ByteArray},zS d all codes b m i l=.inl u->∃j,i<=j/\j<i+m/\DW (codes.getD j []) b=true/\u=all.getD j ByteArray.empty
 | 0,_,_,h=>by cases h
 | m+1,i,l,h=>by
  unfold zS at h;split at h
  .grind
  obtain⟨j,e,f,a,c⟩:=A0l h;exact⟨j,by omega,by omega,a,c⟩
theorem A0m {all:List ByteArray} {codes:List (List Int)} {b:List Int} {r:List ByteArray}:∀ {m i:Nat} {l:List ByteArray},zS d all codes b m i l=.inr r->(∀j,i<=j->j<i+m->DW (codes.getD j []) b=false)/\r=l++((List.range' i m).filter λj:Nat=>VA b (j:Int)).map λj=>all.getD j ByteArray.empty
 | 0,i,l,h=>by grind [zS]
 | m+1,i,l,h=>by
  unfold zS at h;split at h
  .cases h
  rename_i f;obtain⟨c,a⟩:=A0m h;refine⟨λj h1 e=>?_,?_⟩
  .grind
  rw[a,AGm,VL];grind
theorem A0n {a b:ByteArray} {x:UInt8}:x∈(a++b).toList↔x∈a.toList\/x∈b.toList:=by
 rw[ByteArray.toList_eq,ByteArray.toList_eq,ByteArray.toList_eq];simp
theorem A2t {l:List ByteArray}:∀ {n:Nat},2<=n->(38:UInt8)∈(RT l n).toList
 | n+1,hn=>by
  rw[Pd];unfold aN;rw[BY (by omega)];rw[A0n,A0n]
  simp_all
theorem rZ (hn:Cp d=0) {s:ByteArray} (hs:s∈AP d):(38:UInt8)∉s.toList:=by
 obtain⟨x,g,rfl⟩:=Dh hs;obtain⟨j,c,e⟩:=CM d0 g;have h1:=(JY (d:=d) (r:=d) (k:=0) hn j c).2;rw[e]at h1;intro a;unfold Ey at h1;rw[AT,If]at h1;rw[ByteArray.toList_eq]at a;obtain⟨k,hk,h⟩:=Vb.1 a;have f:k<x.1.data.size:=by simpa using hk
 have:=h1.2 k (QJ.2 f);unfold chr at this;have b:x.1.data.getD k 0=38:=by simp_all
 rw[b]at this;revert this;decide
theorem A2u (h:A8 d=0) {y:AU} (V:y∈AN d) (hf:Jc (Ax (AX d))) {s:ByteArray} (hs:s∈AP d) (e:AY y.1 s=true):y.2=E0 d (AP d) s:=by
 obtain⟨ah,ab,-,hn,af⟩:=A0 h;have o:=Ul h;have L:Nd (Ax (AX d)):=V0 (TE h);have ae:(AX d).length=(AP d).length:=by simp[AX]
 have M:AX d <+: Ax (AX d):=Rd 257 0 (AX d);have U:∀ {t:ByteArray},t∈AP d->AY t s=true->t=s:=λ{t} x e=>by grind [Dh,RQ]
 have heq:∀j,j<(AP d).length->∀b∈Ax (AX d),DW ((AX d).getD j []) b=true->b=E0 d (AP d) ((AP d).getD j ByteArray.empty):=λj R b f p=>by
  have g:(AX d).getD j []∈Ax (AX d):=M.subset (BG (by omega));unfold DW at p;rw[AT,Fs (hf.wds _ g) (hf.wds b f),Fs (hf.wds b f) (hf.wds _ g)]at p;rw[<-JZ d R];refine qI (hf.wds b f) (hf.wds _ g) (L.nrm b f) (L.nrm _ g) λi=>?_;rw[ABC];exact⟨p.2 i,p.1 i⟩
 obtain⟨b,f,rfl⟩:=Di.1 V;show b=_;have e:AY (HR d (AP d) (AX d) b) s=true:=e;unfold HR at e;cases w:zS d (AP d) (AX d) b (AP d).length 0 [] with
 | inl u =>
  rw[w]at e;obtain⟨j,-,C,X,rfl⟩:=A0l w;rw[iN]at C;rw[<-U (BG C) e];exact heq j C b f X
 | inr l =>
  exfalso;rw[w]at e;have e:AY (kP (A6 d l)) s=true:=e;obtain⟨O,D⟩:=A0m w;rw[ABz]at D;have N:=hf.wds b f;have v:∀i,i<(AP d).length->BH b i=true->(AP d).getD i ByteArray.empty∈l:=λi hi ad=>by grind [WH]
  have K:∀t∈l,∃i,i<(AP d).length/\t=(AP d).getD i ByteArray.empty/\BH b i=true:=λt x=>by grind [WH]
  have T:(List.range' 0 (AP d).length).map (λj=>(AP d).getD j ByteArray.empty)=AP d:=by
   apply SH
   .simp
   intro i ai W;simp[AS,W]
  have E:z6 l:=by
   rw[D];have:=X0 hn;rw[<-T]at this;exact this.sublist (List.filter_sublist.map _)
  obtain⟨z,r⟩:=hf.some b f;have B:∀i,BH b i=true->i<(AP d).length:=by
   have:=gP (q:=(AP d).length) (n:=257) (i:=0) (l:=AX d) (λc Q=>by
    obtain⟨t,x,rfl⟩:=Do.1 Q;exact⟨(CA (d:=d) o t 0).2.1,λi hi=>((CA (d:=d) o t i).1.1 hi).1⟩) b f
   exact this.2
  have F:∀t∈l,0<=Ar d t:=λt x=>by
   obtain⟨i,hi,rfl,-⟩:=K t x;exact Ll (BG hi)
  obtain⟨m,g,-⟩:=Ta h E (v z (B z r) r) (F _ (v z (B z r) r));have ag:0<(A6 d l).length:=AFG g;have S:kP (A6 d l)=RT (A6 d l) (A6 d l).length:=rfl;rw[S]at e;by_cases h1:(A6 d l).length=1
  .obtain⟨k,H,rfl,P⟩:=K m (Hv g);have G:DW ((AX d).getD k []) b=true:=by
    have J:(AX d).getD k []∈Ax (AX d):=M.subset (BG (by omega));unfold DW;rw[AT,Fs (hf.wds _ J) N,Fs N (hf.wds _ J),JZ d H];refine⟨λi hi=>?_,λi hi=>?_⟩
    .obtain⟨Z,aa⟩:=(CA (d:=d) o _ i).1.1 hi;exact(ABo h b f).2 k i P Z (Yi aa)
    have A:=B i hi;obtain⟨Y,I,hu⟩:=Ta h E (v i A hi) (F _ (v i A hi));have:Y=(AP d).getD k ByteArray.empty:=by
     obtain⟨a,ha⟩:=nO.1 h1;rw[ha]at g I;rw[QL.1 I,QL.1 g]
    rw[this]at hu;exact(CA (d:=d) o _ i).1.2 ⟨A,Yj (Ll (BG H)) hu⟩
   rw[O k (IS _) (by omega)]at G;cases G
  grind [A2t,A6,H8,rZ]
theorem cH (s:ByteArray):∀(l:List AU) (k:Nat),0<=Mu s k l->∃j,j<l.length/\Mu s k l=((k+j:Nat):Int)/\AY (l.getD j c0).1 s=true
 | [],k,h=>by simp only[Mu]at h;omega
 | x :: l,k,h=>by
  simp only[Mu]at h ⊢;split
  .grind
  rename_i e;rw[An e]at h;obtain⟨j,c,a,b⟩:=cH s l (k+1) h;exact⟨j+1,by simp only[Of];omega,by rw[a];congr 1;omega,by simpa using b⟩
theorem A5R (a:A8 d=0) (hf:Jc (Ax (AX d))) {s:ByteArray} (hs:s∈AP d):((AN d).getD (BO (AN d) s).toNat c0).2=E0 d (AP d) s:=by
 have h0:0<=BO (AN d) s:=HS a (F4 hs);grind [cH,AN,BO,A2u,BG]
theorem cI {s:ByteArray} (hn:Cp d=0):∀ {r:List AJ} {o:List ByteArray} {x:AJ},(∀y∈r,y∈d)->x∈d->((∃z∈o,AY z x.1=true)\/(x∈r/\(DN x s).2=true))->∃z∈r.foldl (Ho s) o,AY z x.1=true
 | [],o,x,_,_,h=>h.resolve_right λg=>by cases g.1
 | y :: r,o,x,f,i,h=>by
  rw[ON];refine cI hn (λz c=>f z (by simp[c])) i ?_;rcases h with ⟨z,c,e⟩|⟨a,b⟩
  .grind [Ho,Nu]
  rcases DO.1 a with rfl|a
  .left;unfold Ho;rw[BY b];exact QC.1 (RR (l:=o) (s:=x.1))
  exact .inr ⟨a,b⟩
theorem cJ (f:Int):∀(a b:List (Int×Int)),EU f (a++b)=if (EU f a).2=true then EU f a else EU f b
 | [],_=>rfl
 | x :: a,b=>by
  have h1:EU f (x :: a++b)=if x.1=f then (x.2,true) else EU f (a++b):=rfl
  have c:EU f (x :: a)=if x.1=f then (x.2,true) else EU f a:=rfl
  rw[h1,c];split
  .rfl
  exact cJ f a b
theorem A0o (l:List AU) (fs:List ByteArray) (t:Nat) (f:Int):∀n,EU f (VC d l fs t n)=if 0<=f/\f<(n:Int)/\(Fq d l (t:Int) (fs.getD f.toNat ByteArray.empty)).2=true then (Hg l (Fq d l (t:Int) (fs.getD f.toNat ByteArray.empty)).1,true) else (0,false)
 | 0=>by
  rw[An (by omega)];rfl
 | n+1=>by
  rw[aV,cJ,A0o l fs t f n];grind [Fq,EU]
theorem Yk (c:Az d=0) {t f:Int} (e:0<=t) (g:t<((AN d).length:Int)) (a:0<=f) (b:f<((BP d).length:Int)):Br (Bw d) t f=if (Fq d (AN d) t ((BP d).getD f.toNat ByteArray.empty)).2=true then (Hg (AN d) (Fq d (AN d) t ((BP d).getD f.toNat ByteArray.empty)).1,true) else (0,false):=by
 unfold Br;grind [A5I,A0o,Fq,AN,BP]
theorem A9v (c:Az d=0) {f:Int} (a:0<=f) (b:f<((BP d).length:Int)):L6 (Bw d) f=BO (AN d) (Dj d ((BP d).getD f.toNat ByteArray.empty)).1:=by grind [L6,Ye,BP,RZ]
theorem AER (b:Az d=0):HAp (Bw d):=by
 obtain⟨j,-,T,F,-⟩:=rR b;obtain⟨u,-,-⟩:=CH b;obtain⟨-,U,-⟩:=Ba u;have al:=Xw j U;obtain⟨ao,ak,-,hn,am⟩:=A0 j;obtain⟨hk,an⟩:=AAd b;have I:=RY j T;have n:=gQ d;have hF:(Bw d).2.length=(BP d).length:=by rw[Ye b,Py]
 have E:∀s∈AP d,Bd (Bw d) (BO (AN d) s)=E0 d (AP d) s:=λs hs=>by grind [OG,HS,F4,Ik,A5R]
 refine⟨λt f g l k c=>?_,λt w f g l A ai k c X q=>?_⟩
 .rw[n]at l;rw[hF]at c;have hs:=BG (d:=ByteArray.empty) (show f.toNat<(BP d).length by omega);rw[Yk b g l k c,A9v b k c];generalize (BP d).getD f.toNat ByteArray.empty=s at *;obtain⟨v,-⟩:=Rx b g l hs;obtain⟨aj,aa,S,Y⟩:=Yg (F s hs);have hi:(if (Fq d (AN d) t s).2=true then (Hg (AN d) (Fq d (AN d) t s).1,true) else ((0:Int),false)).2=true↔(Fq d (AN d) t s).2=true:=by
   split<;>simp[*]
  rw[hi,v];constructor
  .rintro⟨x,a,Z,W⟩;have hint:=F s hs;unfold Dj at hint ⊢;split at hint
   .rename_i h1;rw[BY h1];obtain⟨ap,V⟩:=nO.1 h1;obtain⟨z,u,C⟩:=cI (d:=d) (s:=s) hn (r:=d) (o:=[]) (λy ad=>ad) a (.inr ⟨a,Z⟩);have ae:0<=Ar d z:=by rw[JW d C];exact Dg a
    obtain⟨m,p,hu⟩:=Ta j (A2s hn s) u ae;have hu:=Yh hu C;have e:(A6 d (Fm d s)).getD 0 ByteArray.empty=m:=by
     rw[V]at p ⊢;rw[QL.1 p];rfl
    rw[show ((A6 d (Fm d s)).getD 0 ByteArray.empty,true).1=m from e];obtain⟨ar,K,B,-⟩:=(TX (Hv p)).resolve_left (by simp);have H:m∈AP d:=by rw[<-B];exact R2 K hn
    have ab:=R2 a hn;obtain⟨n0,n1⟩:=WJ I a;have L:0<=BO (AN d) m:=HS j (F4 H);have aq:=Ik (AN d) m;refine Hx hk L (by omega) n0 (by omega) g (by omega) ((B4 hk L (by omega) n0 (by omega)).2 λi hi=>?_) W;unfold Tb2 at hi ⊢;rw[E x.1 ab]at hi;rw[E m H];exact A9r j (by rw[<-B];exact Dg K) hu hi
   cases hint
  intro h;rw[<-S]at h;exact⟨aj,aa,Y,h⟩
 have M:t<((AN d).length:Int):=by omega
 have N:w<((AN d).length:Int):=by omega
 rw[hF]at c;have hs:=BG (d:=ByteArray.empty) (show f.toNat<(BP d).length by omega);rw[Yk b g M k c]at q ⊢;rw[Yk b A N k c];generalize (BP d).getD f.toNat ByteArray.empty=s at *;obtain⟨v,af⟩:=Rx b g M hs;obtain⟨ag,ah⟩:=Rx b A N hs;have hi:(Fq d (AN d) t s).2=true:=by
  split at q
  .assumption
  cases q
 have J:∀x∈d,UsD d t s x->UsD d w s x:=λx a hu=>by
  obtain⟨n0,n1⟩:=WJ I a;exact⟨hu.1,Hx hk n0 (by omega) g l A ai hu.2 X⟩
 have G:(Fq d (AN d) w s).2=true:=by
  obtain⟨x,a,hu⟩:=v.1 hi;exact ag.2 ⟨x,a,J x a hu⟩
 rw[BY hi,BY G];obtain⟨⟨O,P⟩,Q⟩:=af hi;obtain⟨⟨R,b1⟩,b2⟩:=ah G;refine(B4 hk O (by rw[n];exact P) R (by rw[n];exact b1)).2 λi D=>?_;unfold Tb2 at D ⊢;exact(Q i).2 λx a hu=>(b2 i).1 D x a (J x a hu)
theorem r7 (d:List AJ):HAp (Aw d).1:=by
 by_cases a:Az d=0
 .rw[WI a];exact AER a
 have:(Aw d).1=([],[]):=by
  unfold Aw BD;rw[BY a,BY a]
 rw[this];exact⟨λt f c b=>by simp at b;omega,λt e f c b=>by simp at b;omega⟩
end
theorem NL (d:List AJ):(Aw d).1.1.length<=256/\(Aw d).1.2.length<=64:=by
 unfold Aw;split
 .exact⟨by simp,by simp⟩
 rename_i a;have a:(BD d).2=0:=GO a;have b:Az d=0:=by
  unfold BD at a;split at a
  .rename_i h;exact absurd a h
  rename_i h;exact GO h
 obtain⟨f,c,-⟩:=CH b;obtain⟨-,e,-⟩:=Ba f;refine⟨?_,?_⟩
 .show (Eg _ _ _).length<=256;rw[KY,Ij];exact e
 show (EY d).1.length<=64;unfold EY;rw[An (by rw[b];simp)];show ((BP d).map (RZ d)).length<=64;rw[Py];exact c
theorem mW {H:AG} (q:H.1.length<=256) (r:H.2.length<=64) {f:List AE} (h:Lf H f=true):AR f/\I8 f/\0<f.length/\Cn H f/\EI f=true/\f.length<=12/\∀x∈f,∀a∈x.2,0<=a.1/\a.1<(H.2.length:Int):=by
 unfold Lf at h;rw[AT,SJ]at h;obtain⟨l,c⟩:=h;unfold BE at c;split at c
 .rename_i h1;exact absurd c h1
 rename_i h1;split at c
 .cases c
 rename_i e;split at c
 .cases c
 rename_i i;have h1:(A9 f).2=0:=GO h1;have e:f.all (Ua H)=true:=by simpa using e
 have i:DA f (A9 f).1=0:=by simpa using i
 have k:EI f=true:=by
  unfold EI;simp only[AT,SJ];refine⟨⟨l,?_⟩,h1,?_⟩
  .rw[If]at e ⊢;intro x d;have:=e x d;unfold Ua at this;rw[AT,By,If]at this;unfold ndB;rw[AT,By,If];refine⟨by omega,λa ha=>?_⟩;have:=this.2 a ha;unfold qA at this;rw[By]at this;unfold ftB;rw[By];omega
  rw[<-Jf i];exact HC f
 obtain⟨n,o,p,-⟩:=ND k;have g:CC f=0:=by
  unfold A9 at h1;split at h1
  .rename_i hh;exact hh
  exact h1
 have m:GR (f.length:Int) f=0:=by
  unfold CC at g;split at g
  .cases g
  split at g
  .cases g
  exact g
 refine⟨n,o,p,λx d=>?_,k,(HV l).1,λx d a ha=>?_⟩
 .have b:=If.1 e x d;unfold Ua at b;rw[AT,By]at b;exact⟨(Ip m x d).1,b.1⟩
 have b:=If.1 e x d;unfold Ua at b;rw[AT,If]at b;have j:=b.2 a ha;unfold qA at j;rw[By]at j;exact⟨((Ip m x d).2 a ha).1,j⟩
theorem r8 {f:List AE} (hf:AR f):DB f:=⟨hf.1,λx a=>(hf.2 x a).1⟩
structure cK (h:AG):Prop where
 ok:GB h
 inj:ME h
 ft:iE h
 nrm:ABh h
 ap:HAp h
 b1:h.1.length<=256
 b2:h.2.length<=64
theorem R3 (d:List AJ):cK (Aw d).1:=⟨Jd d,lH d,rU d,λt a=>(Yc d).nrm _ (Do.2 ⟨t,a,rfl⟩),r7 d,(NL d).1,(NL d).2⟩
theorem h14 (d:List AJ):cK (z0 d):=by
 unfold z0;split
 .exact R3 d
 exact R3 C0
theorem Tc {f:List AE} {ty:List Int} {x:AE} (b:x∈FL f ty):∃i,i<f.length/\x=(ty.getD i 0,(f.getD i (0,[])).2):=by
 obtain⟨i,hi,rfl⟩:=List.getElem_of_mem b;have a:i<f.length:=by rw[Dx]at hi;exact hi
 refine⟨i,a,?_⟩;rw[<-IA f ty a,AS,At hi];rfl
theorem Kk {α:Type} {f:List α} {i:Nat} (h:i<f.length) (d:α):f.getD i d∈f:=by
 rw[AS,At h];exact VR _
def Ga (p:List Int) (n:Nat):List AE:=(List.range n).map λ(i:Nat)=>((0:Int),[(p.getD i 0,(i:Int)+1)])
def Ak (p:List Int) (g:List AE):List AE:=Ga p p.length++g.map λx=>(x.1,A4 p.length x.2)
abbrev Ot (p:List Int):List AE:=Ak p [((0:Int),[])]
theorem mX (p:List Int) (n:Nat):Ga p (n+1)=Ga p n++[((0:Int),[(p.getD n 0,(n:Int)+1)])]:=by simp[Ga,SQ]
theorem E4 (p:List Int) (n:Nat):(Ga p n).length=n:=by simp[Ga]
theorem cL (p:List Int):(Ot p).length=p.length+1:=by simp[Ak,Ga]
theorem Yl (p:List Int) {i:Int} (a:0<=i) (b:i<(p.length:Int)):(Ot p).getD i.toNat (0,[])=(0,[(p.getD i.toNat 0,i+1)]):=by
 unfold Ot Ak;rw[AS,QN (by rw[E4];omega)];unfold Ga;rw[VJ,oN (by omega)];show ((0:Int),[(p.getD i.toNat 0,((i.toNat:Nat):Int)+1)])=_;rw[ZL a]
theorem r9 (p:List Int):(Ot p).getD p.length (0,[])=(0,[]):=by
 unfold Ot Ak;rw[AS,QR (by rw[E4];omega),E4,tO];rfl
theorem Ym (p:List Int) {i:Int} (a:0<=i) (b:i<((Ot p).length:Int)):(i<(p.length:Int)/\(Ot p).getD i.toNat (0,[])=(0,[(p.getD i.toNat 0,i+1)]))\/(i=(p.length:Int)/\(Ot p).getD i.toNat (0,[])=(0,[])):=by
 rw[cL]at b;by_cases h:i<(p.length:Int)
 .exact .inl ⟨h,Yl p a h⟩
 have e:i=(p.length:Int):=by omega
 subst e;right;rw[P0];exact⟨rfl,r9 p⟩
def FtP (h:AG) (p:List Int):Prop:=∀e∈p,0<=e/\e<(h.2.length:Int)
theorem A5S {l:List (Int×Int)} (h:MJ l) {e:Int} (c:0<=Bz l e):YH l e=Bz l e:=by
 obtain⟨a,ha,b,d⟩:=EV c;rw[<-b,f5 h ha,Dy h ha]
theorem Yn {f:List AE} (hf:AR f) (h0:0<f.length) (p:List Int):∀n,BX f 0 p=some n->0<=n/\n<(f.length:Int):=by
 induction p using Dk with
 | h0 =>
  intro n h;simp only[BX,ZE]at h;omega
 | h1 p e g =>
  intro n h;obtain⟨x,d,a,ha,c,b⟩:=TM h;rw[<-b];exact Ah hf ha
theorem A5T {f:List AE} {p:List Int} {n:Int} (h:BX f 0 p=some n) (k:Nat):∃m,BX f 0 (p.take k)=some m:=by
 cases hh:BX f 0 (p.take k) with
 | none =>
  have:=TL (p.take k) 0 (p.drop k) hh;rw[ABj,h]at this;cases this
 | some m=>exact⟨m,rfl⟩
theorem mY {h:AG} (w:Zd h) {X:List AE} (t:AR X) (C:0<X.length) (B:Cn h X) (A:∀x∈X,MJ x.2) {p:List Int} {n:Int} (l:BX X 0 p=some n):∃m,IB h (Ot p) X m/\m (p.length:Int)=n:=by
 have g:∀k,BX X 0 (p.take k)=some ((BX X 0 (p.take k)).getD 0):=λk=>by
  obtain⟨m,v⟩:=A5T l k;rw[v];rfl
 have j:=λk=>Yn t C (p.take k) _ (g k);refine⟨λi=>(BX X 0 (p.take i.toNat)).getD 0,⟨rfl,λi d f=>j i.toNat,λi d f=>?_,λi d f a ha=>?_⟩,?_⟩
 .have e:((Ot p).getD i.toNat (0,[])).1=0:=by
   rcases Ym p d f with ⟨-,c⟩|⟨-,c⟩<;>rw[c]
  rw[e];have D:=j i.toNat;have:=B _ (AD X (0,[]) (k:=((BX X 0 (p.take i.toNat)).getD 0).toNat) (by omega));exact w _ this.1 this.2
 .rcases Ym p d f with ⟨h1,c⟩|⟨-,c⟩
  .rw[AO,c]at ha;have e:a=(p.getD i.toNat 0,i+1):=by simpa using ha
   subst e;have hs:=Au p 0 (k:=i.toNat) (by omega);have o:=g (i.toNat+1);rw[hs]at o;obtain⟨x,q,b,u,r,s⟩:=TM o;have y:=g i.toNat;rw[q]at y;have z:x=(BX X 0 (p.take i.toNat)).getD 0:=by rw[q];rfl
   show Bz (AO X ((BX X 0 (p.take i.toNat)).getD 0)) (p.getD i.toNat 0)=(BX X 0 (p.take (i+1).toNat)).getD 0;rw[<-z,show (i+1).toNat=i.toNat+1 by omega,hs,<-s,<-r];exact Dy (FU A x) u
  rw[AO,c]at ha;cases ha
 show (BX X 0 (p.take ((p.length:Nat):Int).toNat)).getD 0=n;rw[P0,QD,l];rfl
theorem ABp {f:List AE} (hf:AR f) (hs:I8 f) (h0:0<f.length) (a:EI f=true):RO f:=by
 have h1:=A9c hf hs h0 (λ_ _=>true)
 rwa [q9 a λ_ _ _ _=>rfl]at h1
theorem Yo {h:AG} (j:h.1.length<=256) (k:h.2.length<=64) {f:List AE} (l:Lf h f=true):VF h f/\f.length<=12:=by
 obtain⟨a,b,c,e,d,g,i⟩:=mW j k l;exact⟨⟨a,c,e,λx m=>(Kd _).1 (b x m).1,i,Oo d,ABp a b c d⟩,g⟩
theorem VF.srt {h:AG} (hu:HU h) {f:List AE} (a:VF h f):I8 f:=λx b=>by
 have:=gM (a.str x b) (a.ft64 hu x b);exact⟨(Kd _).2 (a.str x b),by omega⟩
theorem VF.small {h:AG} {f:List AE} (a:VF h f):DB f:=r8 a.good
theorem R4 {h:AG} (a b:List AE):(∃c,YU h a b c/\Dz h a b=(c,true))\/(Dz h a b=([],false)/\∀c,¬YU h a b c):=by
 unfold Dz;by_cases H:∃c,YU h a b c
 .left;rw[dif_pos H];exact⟨_,H.choose_spec,rfl⟩
 right;rw[dif_neg H];exact⟨rfl,λc d=>H ⟨c,d⟩⟩
theorem Ix (f:List AE) (ty:List Int) (n:Nat):((FL f ty).getD n (0,[])).2=(f.getD n (0,[])).2:=by
 by_cases h:n<f.length
 .rw[IA f ty h]
 rw[AS,QH (by rw[Dx];omega),AS,QH (by omega)]
theorem mZ {f g:List AE} (h:∀n:Nat,(f.getD n (0,[])).2=(g.getD n (0,[])).2):∀(k:Nat) (o:List Int) (n:Int),Co f k o n=Co g k o n
 | 0,_,_=>rfl
 | k+1,o,n=>by
  have e:Ac f k=Ac g k:=by
   funext o a;unfold Ac;rw[mZ h k o a.2]
  rw[CN,CN,h,e]
theorem sA {f:List AE} (hf:AR f) (h0:0<f.length) (a:AL f 0=f):mN f:=by
 have:=(gH hf (r:=0) (by omega) (by omega)).2
 rwa [a]at this
theorem A5U {h:AG} {f:List AE} (b:VF h f) {ty:List Int} (k:WK h f.length ty):VF h (FL f ty):=by
 have c:=Dx f ty;have g:AR (FL f ty):=by
  refine⟨by rw[c];exact b.good.1,λx a=>?_⟩;obtain⟨i,hi,rfl⟩:=Tc a;rw[c];exact b.good.2 (f.getD i (0,[])) (Kk hi (0,[]))
 have hp:∀x∈FL f ty,∃y∈f,x.2=y.2:=λx a=>by
  obtain⟨i,hi,rfl⟩:=Tc a;exact⟨_,Kk hi (0,[]),rfl⟩
 refine⟨g,by rw[c];exact b.pos,λx a=>?_,λx a=>?_,λx a=>?_,YS g ?_,λi l m=>?_⟩
 .obtain⟨i,hi,rfl⟩:=Tc a;exact k.get hi
 .obtain⟨y,d,e⟩:=hp x a;rw[e];exact b.str y d
 .obtain⟨y,d,e⟩:=hp x a;rw[e];exact b.ft y d
 .have:=sA b.good b.pos b.can;unfold mN at this ⊢;rw[c,mZ (Ix f ty)];exact this
 obtain⟨j,n,o,x,a,e⟩:=b.ro i l (by rw[<-c];exact m);exact⟨j,n,o,x,by show x∈((FL f ty).getD j.toNat (0,[])).2;rw[Ix];exact a,e⟩
theorem EM (f:List AE) (i:Nat):(Bb f).getD i 0=(f.getD i (0,[])).1:=by
 unfold Bb;rw[AS,VJ,AS];cases f[i]?<;>rfl
theorem sB {f:List AE} {ty:List Int} (a:ty.length=f.length):Bb (FL f ty)=ty:=by
 refine SH (by simp[Bb,Dx,a]) λi b c=>?_;have:=EM (FL f ty) i;rw[IA f ty (by omega)]at this;simpa[AS,b,c] using this
theorem Um {h:AG} {f:List AE} {t:Int}:∀ {l:List (Int×Int)},FT h f t l=0↔∀a∈l,(Br h t a.1).2=true/\A2 h (Br h t a.1).1 (f.getD a.2.toNat (0,[])).1=true
 | []=>⟨λ_ a ha=>(by cases ha),λ_=>rfl⟩
 | a :: l=>by
  unfold FT;rw[List.forall_mem_cons,<-Um (l:=l)];cases h1:(Br h t a.1).2
  .simp
  cases b:A2 h (Br h t a.1).1 (f.getD a.2.toNat (0,[])).1<;>simp
theorem HD {h:AG} {f:List AE}:∀ {l:List AE},Dw h f l=0↔∀x∈l,∀a∈x.2,(Br h x.1 a.1).2=true/\A2 h (Br h x.1 a.1).1 (f.getD a.2.toNat (0,[])).1=true
 | []=>⟨λ_ a ha=>(by cases ha),λ_=>rfl⟩
 | x :: l=>by
  unfold Dw;rw[List.forall_mem_cons,<-HD (l:=l),<-Um];by_cases h1:FT h f x.1 x.2=0
  .simp[h1]
  simp[h1]
theorem WL {h:AG} {f:List AE}:Dw h f f=0↔WTy h f (Bb f):=by
 rw[HD];constructor
 .intro h1 i hi a ha;have:=h1 _ (Kk hi (0,[])) a ha
  rwa [EM,EM,P0]
 intro h1 x b a ha;obtain⟨i,hi,rfl⟩:=CM (0,[]) b;have:=h1 i hi a ha
 rwa [EM,EM,P0]at this
theorem m5 {n:Int}:∀ {l seen:List (Int×Int)},(∀a∈l,0<=a.1/\0<=a.2/\a.2<n)->(l.map (·.1)).Nodup->(∀y∈seen,∀x∈l,y.1≠x.1)->GQ n seen l=0
 | [],_,_,_,_=>rfl
 | x :: l,seen,h,hp,hs=>by
  rw[QM,TO]at hp;have h1:=h x (by simp);have d:(seen.any λy=>y.1==x.1)=false:=by
   rw[AAH];intro y b;have:=hs y b x (by simp);simpa using this
  unfold GQ;rw[An (by omega),An (by rw[d];simp)];refine m5 (λa ha=>h a (by simp[ha])) hp.2 λy b z c=>?_;rcases OF.1 b with b|b
  .exact hs y b z (by simp[c])
  rw[QL.1 b];exact λe=>hp.1 (Do.2 ⟨z,c,e.symm⟩)
theorem A5V {m:Int} {l:List (Int×Int)} (hs:(l.map (·.1)).Nodup) (h:∀a∈l,0<=a.1/\0<=a.2/\a.2<m):Gi l m=0:=m5 h hs λy b=>by cases b
theorem sC {m:Int} {l:List (Int×Int)} (hs:MJ l) (h:∀a∈l,0<=a.1/\0<=a.2/\a.2<m):Gi l m=0:=A5V (by rw[List.Nodup,VV];exact hs.imp λh e=>by omega) h
theorem m6 {m:Int}:∀ {l:List AE},(∀x∈l,0<=x.1/\Gi x.2 m=0)->GR m l=0
 | [],_=>rfl
 | x :: l,h=>by
  have:=h x (by simp);unfold GR;rw[An (by omega),An (by rw[this.2];simp)];exact m6 λy a=>h y (by simp[a])
theorem A5W {h:AG} (hu:HU h) {f:List AE} (b:VF h f) (e:f.length<=4096):A9 f=(f,0):=by
 have d:CC f=0:=by
  unfold CC;rw[An (by have:=b.pos;omega),An (by omega)];refine m6 λx c=>⟨(b.ty x c).1,sC (b.str x c) λa ha=>⟨(b.ft x c a ha).1,((b.good.2 x c).2 a ha)⟩⟩
 unfold A9;rw[BY d,It b.good (b.srt hu) (by omega) (by have:=b.pos;omega),b.can]
theorem A5X {h:AG} (hu:HU h) {f:List AE} (b:VF h f) (e:f.length<=4096):BE h f=0:=by
 have d:=A5W hu b e;have ha:f.all (Ua h)=true:=by
  rw[If];intro x c;unfold Ua;rw[AT,By,If];exact⟨(b.ty x c).2,λa ha=>by unfold qA;exact aS (b.ft x c a ha).2⟩
 unfold BE;rw[d,An (by simp),ha,An (by simp),HC];rfl
section
variable {h:AG} (hh:cK h)
include hh
theorem cK.hu:HU h:=⟨hh.ok,hh.inj,hh.b2⟩
omit hh in
theorem gT {f:List AE} (b:VF h f):Pl h f:=λx c a ha=>⟨b.ft x c a ha,(b.good.2 x c).2 a ha⟩
theorem m7 {f:List AE} (a:VF h f) {ty:List Int} (e:Iv h f=some ty):VF h (FL f ty)/\WTy h f ty/\WK h f.length ty/\IB h f (FL f ty) id:=by
 obtain⟨h1,g,d⟩:=rW hh.ok hh.inj hh.ft hh.ap (gT a) a.ty e;refine⟨A5U a d,h1,d,rfl,λi b c=>⟨b,by rw[Dx];exact c⟩,λi b c=>?_,λi b c x j=>?_⟩
 .have:=g i.toNat (by omega);rw[EM]at this;show A2 h _ ((FL f ty).getD i.toNat (0,[])).1=true
  rwa [IA f ty (by omega)]
 show Bz ((FL f ty).getD i.toNat (0,[])).2 x.1=x.2;rw[Ix];exact AB7 (a.srt hh.hu) j
theorem A0p {f g:List AE} (n:VF h f) (p:VF h g) (E:WTy h g (Bb g)) {m:Int->Int} (c:IB h f g m):∃ty,Iv h f=some ty/\IB h (FL f ty) g m:=by
 have H:=p.pos
 let u:List Int:=(List.range f.length).map λi:Nat=>(g.getD (m (i:Int)).toNat (0,[])).1
 have k:∀i:Nat,i<f.length->u.getD i 0=(g.getD (m (i:Int)).toNat (0,[])).1:=λi hi=>by
  simp[u,AS,hi]
 have q:∀i:Nat,i<f.length->(m (i:Int)).toNat<g.length/\0<=m (i:Int):=λi hi=>by
  have:=c.rng (i:Int) (by omega) (by omega);omega
 have D:WK h f.length u:=⟨by simp[u],λt C=>by
  obtain⟨i,hi,rfl⟩:=Do.1 C;exact p.ty _ (Kk (q i (QJ.1 hi)).1 (0,[]))⟩
 have F:WTy h f u:=λi hi a ha=>by
  have z:a∈AO f (i:Int):=by show a∈(f.getD (i:Int).toNat (0,[])).2;rwa [P0]
  have h1:=c.arc (i:Int) (by omega) (by omega) a z;obtain⟨s,G⟩:=(n.good.2 _ (Kk hi (0,[]))).2 a ha;have y:=c.rng a.2 s G;obtain⟨b,A,v,w⟩:=EV (l:=AO g (m (i:Int))) (e:=a.1) (by rw[h1];exact y.1);have o:=E _ (q i hi).1 b (by exact A);rw[EM,EM,v,w,h1,P0]at o;rw[P0,k i hi,k a.2.toNat (by omega),ZL s];exact o
 obtain⟨ty,e,B⟩:=mV hh.ok hh.inj hh.ft hh.ap (gT n) n.ty D F λi hi=>by
  rw[EM,k i hi];have:=c.ty (i:Int) (by omega) (by omega)
  rwa [P0]at this
 refine⟨ty,e,c.zero,λi j d=>c.rng i j (by rw[Dx]at d;exact d),λi j d=>?_,λi j d x r=>?_⟩
 .rw[Dx]at d;have:=B i.toNat (by omega);rw[k _ (by omega),ZL j]at this
  rwa [IA f ty (by omega)]
 rw[Dx]at d;exact c.arc i j d x (by rw[AO,Ix]at r;exact r)
omit hh in
theorem A2v {f:List AE} (e:Ae h f=0):WTy h f (Bb f):=by
 unfold Ae at e
 split at e
 .exact WL.1 e
 rename_i hn;exact absurd e hn
end
theorem A5Y {h:AG} (hu:HU h) {f:List AE} (a:VF h f):DB f/\Rl f:=⟨a.small,λx b=>(a.srt hu x b).2⟩
theorem Un {h:AG} {f:List AE} {ty:List Int} (e:Iv h f=some ty):G0 h f=(FL f ty,true):=by unfold G0;rw[e]
theorem Uo {h:AG} {f:List AE} (e:Iv h f=none):G0 h f=([],false):=by unfold G0;rw[e]
theorem WK.set {h:AG} {m:Nat} {u:List Int} (hu:WK h m u) {t:Int} (b:0<=t) (c:t<(h.1.length:Int)) (i:Nat):WK h m (u.set i t):=⟨by rw[SL];exact hu.1,λx a=>by
 rcases AAP a with a|rfl
 .exact hu.2 x a
 exact⟨b,c⟩⟩
theorem ST.set {h:AG} (hk:GB h) {m:Nat} {u:List Int} (hu:WK h m u) {t:Int} {i:Nat} (hi:i<m) (hs:A2 h (u.getD i 0) t=true):ST h m u (u.set i t):=λk a=>by
 rw[OA _ _ _ (by rw[hu.1];exact hi) k];split
 .rename_i e;rw[e];exact hs
 exact WB hk (hu.get a).1 (hu.get a).2
section
variable {h:AG} (hk:GB h) (hn:ABh h) (hi:ME h) (hf:iE h) (hap:HAp h) {m:Nat}
include hk hn hi hf hap
end
section
variable {h:AG} (hk:GB h) (hn:ABh h) (hi:ME h) (hf:iE h) (hap:HAp h) {f:List AE} (ha:Pl h f)
include hk hn hi hf hap ha
end
section
attribute [local go_sem] Oi
end
section
open Go
end
section
noncomputable def Pq:AZ:={ ins:=[ED,DZ,DZ],pre:=λ(h,a,b,_)=>HU h/\VF h a/\VF h b/\List.length a+List.length b<=10000,out:=λ(h,a,b,_)=>[.p DZ (Dz h a b).1,.p .bool (Dz h a b).2] }
attribute [local go_sem] Pq
theorem m8:Ab Tryz.prog 35 Pq:=by
 refine fK [0,1,2,3,4,5,6,7,8,25] Tryz.func35 Tryz.ntmps35 AH ?_;rintro w0 O0 ⟨h,a,b,u⟩ c-⟨hu,va,e,G⟩;simp only[Pq,AM];repeat'(first|exact trivial|apply eS rfl|refine rX c ?_ ?_)
 refine cP 3 c ?_ ?_
 .trivial
 refine rM c (A5r h [] [] [] a va.good (by simp) rfl rfl) [(1,.nm 11),(2,.nil),(3,.nil),(4,.nil)] [] ?_ ?_ ?_
 .exact eN
 .simp only[bV];exact eN
 rintro _ _ ⟨rfl,rfl⟩;refine⟨[(11,.nm 1),(102,.nm 2),(103,.nm 3),(104,.nm 4)],.raw (.tuple #[]),[(11,.box 111 true [.p ED h,.sr 102 T3 0 (Ct 0 a.length).length,.sr 103 T3 0 (DQ a a.length).length,.sr 104 DM 0 (F7 0 a a.length).length]),(102,.arr 3 T3 (Ct 0 a.length)),(103,.arr 3 T3 (DQ a a.length)),(104,.arr 91 DM (F7 0 a a.length))],rfl,rfl,?_,?_,rfl,rfl,CV ?_⟩
 .simp only[bV];exact eN
 .exact eN
 have la:(Ct 0 a.length).length=a.length:=Kh 0 a.length;have lt:(DQ a a.length).length=a.length:=by unfold DQ;rw[Py,QD]
 have J:(F7 0 a a.length).length=a.length:=by unfold F7;rw[Py,QD]
 repeat' apply eS rfl
 refine cP 3 c ?_ ?_
 .trivial
 refine rM c (A5r h (Ct 0 a.length) (DQ a a.length) (F7 0 a a.length) b e.good (by omega) (by omega) (by omega)) [(1,.nm 11),(2,.nm 102),(3,.nm 103),(4,.nm 104)] [102,103,104] ?_ ?_ ?_
 .exact eN
 .simp only[bV];exact eN
 rintro _ _ ⟨rfl,rfl⟩;rw[la,A2l,rK,A2n];rw[show a.length+b.length=(Ci a b).length from (FI a b).symm];have F:=FI a b;have w:=Pp va.good e.good (by omega);have z:=gL w (YW va.ty e.ty) (OE va.str e.str);have o:=YX (va.ft64 hu) (e.ft64 hu);have I:=rO (N:=Ci a b) λx l=>gM (OE va.str e.str x l) (o x l);have hap:=va.pos;have H:=e.pos;have C:=λp ty ar y j=>gJ va e (p:=p) (ty:=ty) (ar:=ar) y j;have A:=b6 va e;generalize Ct 0 (Ci a b).length=p0 at *;generalize NJ (Ci a b)=s at *;generalize Uk (Ci a b)=q at *;refine⟨[(11,.nm 1),(102,.nm 2),(103,.nm 3),(104,.nm 4)],.raw (.tuple #[]),[(11,.box 111 true [.p ED h,.sr 102 T3 0 p0.length,.sr 103 T3 0 s.length,.sr 104 DM 0 q.length]),(102,.arr 3 T3 p0),(103,.arr 3 T3 s),(104,.arr 91 DM q)],rfl,rfl,?_,?_,rfl,rfl,CV ?_⟩
 .simp only[bV];exact eN
 .exact eN
 repeat' apply eS rfl
 refine cP 4 c ?_ ?_
 .trivial
 refine rM c (A9h h hu.ok z (a:=0) (b:=(a.length:Int)) (by omega) (by omega) (by omega) (by omega)) [(101,.nm 11),(102,.nm 102),(103,.nm 103),(104,.nm 104)] [102,103,104] ?_ ?_ ?_
 .exact eN
 .simp only[clJ];exact eN
 rintro res E (⟨rfl,f,i,g,rfl,d⟩|⟨rfl,⟨f,i,g,rfl⟩,B⟩)
 .have j:=YY d (by omega) o;have n:=Ui hu (C f i g d j);refine⟨[(11,.nm 101),(102,.nm 102),(103,.nm 103),(104,.nm 104)],.p .bool true,[(11,.box 111 true [.p ED h,.sr 102 T3 0 f.length,.sr 103 T3 0 i.length,.sr 104 DM 0 g.length]),(102,.arr 3 T3 f),(103,.arr 3 T3 i),(104,.arr 91 DM g)],rfl,rfl,?_,?_,rfl,rfl,?_⟩
  .simp only[clJ];exact eN
  .exact eN
  refine rL c ?_ ?_
  .trivial
  repeat'(first|apply eS rfl|refine rC ?_ ?_<;>intro m<;>try(cases m;done))
  refine cP 1 c ?_ ?_
  .trivial
  refine rM c (A5z h d.fo j (by rw[d.lt,d.lp]) (by rw[d.la,d.lp]) (λk x l=>by rw[d.lp];exact(d.arr k x l).1) (r:=0) (by omega) (by rw[d.lp];omega)) [(101,.nm 11),(102,.nm 102),(103,.nm 103),(104,.nm 104)] [11,102,103,104] ?_ ?_ ?_
  .exact eN
  .simp only[clJ];exact eN
  rintro _ E rfl;refine⟨[],.p DZ (AL (quo f i g) (Ek f 0)),[],rfl,rfl,?_,?_,rfl,rfl,?_⟩
  .exact eN
  .exact eN
  refine rL c ?_ ?_
  .trivial
  repeat' apply eS rfl
  exact fI c [.cell 6 25,.tmp 7] (by rw[n];exact eR)
 have n:=A (λX v t D=>B X v t D);refine⟨[(11,.nm 101),(102,.nm 102),(103,.nm 103),(104,.nm 104)],.p .bool false,[(11,.box 111 true [.p ED h,.sr 102 T3 0 f.length,.sr 103 T3 0 i.length,.sr 104 DM 0 g.length]),(102,.arr 3 T3 f),(103,.arr 3 T3 i),(104,.arr 91 DM g)],rfl,rfl,?_,?_,rfl,rfl,?_⟩
 .simp only[clJ];exact eN
 .exact eN
 refine rL c ?_ ?_
 .trivial
 repeat'(first|exact trivial|apply eS rfl|refine rX c ?_ ?_|refine rC ?_ ?_<;>intro m<;>try(cases m;done))
 exact fI c [.cell 6 25,.tmp 7] (by rw[n];exact eR)
end
section
open Go
end
section
open Go
end
section
variable {h:AG} {N:List AE} {P:List (Int×Int)} {c p:List Int} {g:List AE}
end
section
variable {h:AG} {a b:List AE}
end
section
open Go
end
section
attribute [local go_sem] A5G
end
section
attribute [local go_sem] Pq TK
theorem ABq {h:AG} (hh:cK h) {f:List AE} (a:VF h f):AB3 h f:=⟨hh.ok,hh.inj,hh.ft,QB hh.b2 (by decide),a.good,gT a,a.ty⟩
noncomputable def Hj (h:AG) (a b:List AE):List AE×Bool:=if (Dz h a b).2=true then G0 h (Dz h a b).1 else ([],false)
end
theorem A5Z {h:AG} (hk:GB h) {N:List AE} {P:List (Int×Int)}:∀(k:Nat) (p ty:List Int) (ar:List (List (Int×Int))) (W:List (Int×Int)),JI h N P p ty ar W->nR p*((DE N).length+1)+W.length<=k ->
  (∃E G o,JI h N P E G o [])\/(∀X v,Cn h X->¬Uh h N P X v):=by
 intro k;induction k with
 | zero =>
  intro p ty ar W c g;have:W=[]:=QI (by omega);subst this;exact .inl ⟨p,ty,ar,c⟩
 | succ k l =>
  intro p ty ar W c g;cases j:W.getLast? with
  | none =>
   have:W=[]:=List.getLast?_eq_none_iff.1 j;subst this;exact .inl ⟨p,ty,ar,c⟩
  | some w =>
   have r:W=W.dropLast++[w]:=by
    obtain⟨K,e⟩:=List.getLast?_eq_some_iff.1 j;rw[e];simp
   obtain⟨s,t⟩:=w;rw[r]at c g;rw[IF,Pz]at g;generalize W.dropLast=V at *;obtain⟨⟨m,s1⟩,n,F⟩:=c.wr (s,t) (by simp);simp only at m s1 n F;obtain⟨M,fo⟩:=c.fo;have lp:=c.lp;obtain⟨a,ha,H,I⟩:=fo.root m (by omega);obtain⟨b,d,q,b1⟩:=fo.root n (by omega);by_cases f:a=b
   .subst f;exact l p ty ar V (gE c ha d) (by omega)
   cases i:(Bq h (ty.getD a.toNat 0) (ty.getD b.toNat 0)).2 with
   | false =>
    right;intro X v u C;have:=(WG hk c ha d u C).2.1;rw[i]at this;cases this
   | true =>
    have z:=YI hk c ha d f i;refine l _ _ _ _ z ?_;have B:=A08 (a:=a) q b1 d.root f;have A:=gF (c.srt a.toNat) (λx D=>(c.arr a.toNat x D).2);have L:=QB (Rv (x:=ar.getD a.toNat []) (y:=ar.getD b.toNat [])) A;have J:nR p*((DE N).length+1)=nR (p.set b.toNat a)*((DE N).length+1)+((DE N).length+1):=by rw[<-B,AFK,Nat.one_mul]
    rw[IF];omega
theorem cM {h:AG} (hk:GB h) {N:List AE}:∀(R P:List (Int×Int)) (p ty:List Int) (ar:List (List (Int×Int))),(∀q∈R,(0<=q.1/\q.1<(N.length:Int))/\(0<=q.2/\q.2<(N.length:Int)))->JI h N P p ty ar [] ->
  (∃l r g,JI h N (P++R) l r g [])\/(∀X v,Cn h X->¬Uh h N (P++R) X v)
 | [],P,p,ty,ar,f,e=>.inl ⟨p,ty,ar,by rw[QQ];exact e⟩
 | q :: R,P,p,ty,ar,f,e=>by
  obtain⟨a,b⟩:=q;have c:=f (a,b) (by simp);have i:P++(a,b) :: R=P++[(a,b)]++R:=by simp
  rw[i];rcases A5Z hk _ _ _ _ _ (YJ e c.1 c.2) (Is _) with ⟨m,o,n,h1⟩|k
  .exact cM hk R (P++[(a,b)]) m o n (λq c=>f q (by simp[c])) h1
  exact .inr λX v j d=>k X v j ⟨d.rng,d.ty,d.arc,λq c=>d.eq q (SI _ c)⟩
theorem A0q {h:AG} (hu:HU h) {a b X:List AE} (va:VF h a) (c:VF h b) (l:a.length+b.length<=100000) (j:Cn h X) {n o:Int->Int} (h1:IB h a X n) (f:IB h b X o):∃i,YU h a b i:=by
 have r:=FI a b;have hap:=va.pos;have s:=c.pos;have k:=Pp va.good c.good l;rcases cM hu.ok (N:=Ci a b) [(0,(a.length:Int))] [] _ _ _ (λq d=>by
  have e:q=(0,(a.length:Int)):=by simpa using d
  subst e;simp only;omega) (gL k (YW va.ty c.ty) (OE va.str c.str)) with ⟨p,ty,ar,g⟩|m
 .exact⟨_,gJ va c g (YY g (by omega) (YX (va.ft64 hu) (c.ft64 hu)))⟩
 exfalso;refine m X _ j (rJ (YQ va.good c.good (Lk h1) (Lk f)) λq d=>?_);have e:q=(0,(a.length:Int)):=by simpa using d
 subst e;try simp only
 rw[BY (by omega),An (by omega),AGs,h1.zero,f.zero]
section
attribute [local go_sem] Pq KZ cs1 cs3
end
section
attribute [local go_sem] bB
end
instance baDec:DecidableEq ByteArray:=λa b =>
 if h:a.data.toList=b.data.toList then isTrue (by
  cases a
  cases b
  exact bY ByteArray.mk (Array.toList_inj.1 h))
 else isFalse λe=>h (by rw[e])
section
attribute [local go_sem] TK Nz bB J4
end
section
attribute [local go_sem] J4
end
abbrev Wt (h:AG) (f:List AE):Prop:=VF h f/\WTy h f (Bb f)
def sD (h:AG) (l:List (List AE)) (X:List AE):Prop:=∀x∈l,∃m,IB h x X m
structure TU (h:AG) (l:List (List AE)) (U:List AE):Prop where
 wt:Wt h U
 hom:sD h l U
 least:∀X,Wt h X->sD h l X->∃m,IB h U X m
def NM (h:AG) (l:List (List AE)) (r:List AE×Bool):Prop:=(r.2=true/\TU h l r.1)\/(r=([],false)/\∀X,Wt h X->¬sD h l X)
theorem NM.congr {h:AG} {l l':List (List AE)} {r:List AE×Bool} (H:NM h l r) (d:∀X,Wt h X->(sD h l X↔sD h l' X)):NM h l' r:=by
 rcases H with ⟨h1,a⟩|⟨h1,a⟩
 .exact .inl ⟨h1,a.wt,(d _ a.wt).1 a.hom,λX b c=>a.least X b ((d X b).2 c)⟩
 exact .inr ⟨h1,λX b c=>a X b ((d X b).2 c)⟩
theorem A60 {h:AG} (hk:GB h) {l:List (List AE)} (c:∀x∈l,VF h x) {a X:List AE} (d:VF h a) (e:VF h X) (f:sD h l a) {m:Int->Int} (g:IB h a X m):sD h l X:=λx b=>by
 obtain⟨k,q⟩:=f x b;exact⟨_,Ki hk (c x b).good (c x b).ty d.ty e.ty q g⟩
theorem Hz {h:AG} {x X:List AE}:sD h [x] X↔∃m,IB h x X m:=by simp[sD]
theorem Yp {h:AG} {x X:List AE} {l:List (List AE)}:sD h (x :: l) X↔(∃m,IB h x X m)/\sD h l X:=by simp[sD]
section
variable {h:AG} (hh:cK h)
include hh
theorem ABr {f:List AE} (c:VF h f) {ty:List Int} (e:Iv h f=some ty):Wt h (FL f ty):=by
 obtain⟨h1,a,b,-⟩:=m7 hh c e;refine⟨h1,?_⟩;rw[sB b.1];intro i hi;rw[Ix];exact a i (by rw[<-Dx f ty];exact hi)
theorem A9w {f:List AE} (c:VF h f):NM h [f] (G0 h f):=by
 cases e:Iv h f with
 | some ty =>
  rw[Un e];refine .inl ⟨rfl,ABr hh c e,Hz.2 ⟨_,(m7 hh c e).2.2.2⟩,λX b d=>?_⟩;obtain⟨m,g⟩:=Hz.1 d;obtain⟨i,a,q⟩:=A0p hh c b.1 b.2 g;rw[e]at a;cases a;exact⟨m,q⟩
 | none =>
  rw[Uo e];refine .inr ⟨rfl,λX b d=>?_⟩;obtain⟨m,g⟩:=Hz.1 d;obtain⟨i,a,q⟩:=A0p hh c b.1 b.2 g;rw[e]at a;cases a
theorem A0r {a b:List AE} (va:VF h a) (k:VF h b) (q:a.length+b.length<=10000):NM h [a,b] (Hj h a b):=by
 unfold Hj;rcases R4 (h:=h) a b with ⟨l,c,e⟩|⟨e,p⟩
 .rw[e,BY rfl];refine(A9w hh c.vf).congr λX g=>?_;rw[Hz,Yp,Hz];constructor
  .rintro⟨m,o⟩;obtain⟨i,d⟩:=c.left;obtain⟨j,f⟩:=c.right;exact⟨⟨_,Ki hh.ok va.good va.ty c.vf.ty g.1.ty d o⟩,_,Ki hh.ok k.good k.ty c.vf.ty g.1.ty f o⟩
  rintro⟨⟨i,d⟩,j,f⟩;exact c.least X g.1.ty i d j f
 rw[e,An Bool.false_ne_true];refine .inr ⟨rfl,λX g n=>?_⟩;rw[Yp,Hz]at n;obtain⟨⟨i,d⟩,j,f⟩:=n;obtain⟨l,c⟩:=A0q hh.hu va k (by omega) g.1.ty d f;exact p l c
omit hh in
theorem A61 {l l':List (List AE)} (hp:∀x,x∈l↔x∈l') (X:List AE):sD h l X↔sD h l' X:=⟨λa x b=>a x ((hp x).2 b),λa x b=>a x ((hp x).1 b)⟩
omit hh in
theorem NM.perm {l l':List (List AE)} {r:List AE×Bool} (H:NM h l r) (hp:∀x,x∈l↔x∈l'):NM h l' r:=H.congr λX _=>A61 hp X
omit hh in
theorem gU {a b:List AE}:(Hj h a b).1.length<=a.length+b.length:=by
 unfold Hj
 split
 .rename_i e
  have:=(Uj e).len
  cases c:Iv h (Dz h a b).1 with
  | none=>rw[Uo c];simp
  | some ty=>rw[Un c,Dx];exact this
 simp
omit hh in
theorem NM.vf {l:List (List AE)} {r:List AE×Bool} (H:NM h l r) (e:r.2=true):TU h l r.1:=by
 rcases H with ⟨-,b⟩|⟨a,-⟩
 .exact b
 rw[a]at e;cases e
end
theorem Dm (p:List Int) (g:List AE):(Ak p g).length=p.length+g.length:=by simp[Ak,Ga]
theorem F8 {p:List Int} {g:List AE} {i:Int} (a:0<=i) (b:i<(p.length:Int)):(Ak p g).getD i.toNat (0,[])=(0,[(p.getD i.toNat 0,i+1)]):=by grind [Ak,E4,Ga]
theorem DY {p:List Int} {g:List AE} {y:Int} (a:0<=y) (b:y<(g.length:Int)):(Ak p g).getD ((p.length:Int)+y).toNat (0,[])=((g.getD y.toNat (0,[])).1,A4 p.length (g.getD y.toNat (0,[])).2):=by
 unfold Ak;have e:((p.length:Int)+y).toNat=p.length+y.toNat:=by omega
 rw[e,AS,QR (by rw[E4];omega),E4,AFD];rw[<-AS];exact TS (λx:AE=>(x.1,A4 p.length x.2)) (0,[]) (0,[]) (by omega)
theorem Lm {p:List Int} {g:List AE} {x:AE} (a:x∈Ak p g):(∃i,i<p.length/\x=(0,[(p.getD i 0,(i:Int)+1)]))\/∃y∈g,x=(y.1,A4 p.length y.2):=by
 rcases OF.1 a with h|h
 .obtain⟨i,hi,rfl⟩:=Do.1 h;exact .inl ⟨i,by simpa using hi,rfl⟩
 obtain⟨y,b,rfl⟩:=Do.1 h;exact .inr ⟨y,b,rfl⟩
theorem G2 {b:Nat} {l:List (Int×Int)} (h:MJ l):MJ (A4 b l):=by
 unfold A4 MJ;rw[VV];exact h
theorem Uq {p:List Int} {g:List AE} (hp:p.length<=1000) (c:AR g) (j:0<g.length) (k:g.length<=10000):AR (Ak p g):=by
 have d:=Dm p g;refine⟨by omega,λx h=>?_⟩;rcases Lm h with ⟨i,hi,rfl⟩|⟨y,e,rfl⟩
 .refine⟨by simp,λa ha=>?_⟩;have:a=(p.getD i 0,(i:Int)+1):=by simpa using ha
  subst this;rw[d];simp only;omega
 refine⟨by unfold A4;rw[Py];exact(c.2 y e).1,λa ha=>?_⟩;obtain⟨b,f,rfl⟩:=Do.1 ha;have:=(c.2 y e).2 b f;rw[d];simp only;omega
theorem A2w {h:AG} {f:List AE} (vf:VF h f):Co f f.length [] 0=(List.range f.length).map λ(i:Nat)=>(i:Int):=by
 have q:=vf.pos;have d:=FH vf.good (r:=0) (by omega) (by omega);have l:=Fi f 0;have c:=λi=>GZ (f:=f) (r:=0) (i:=i);rw[vf.can]at l;simp only[vf.can]at c;generalize p:Co f f.length [] 0=o at *;have m:IB h f f (λi=>o.getD i.toNat 0):=by
  refine⟨d.zero.1,λi g j=>d.ok.rng _ (AD o 0 (by omega)),λi g j=>?_,λi g j a ha=>?_⟩
  .rw[c i.toNat (by omega)];exact Kg h _
  rw[AO,c i.toNat (by omega)]at ha;obtain⟨b,e,rfl⟩:=Do.1 ha;have k:=d.cl _ (AD o 0 (by omega)) b e;show Bz (AO f (o.getD i.toNat 0)) b.1=o.getD (Bh o b.2).toNat 0;rw[(Cc k).2.2];exact Dy (FU vf.str _) e
 have hu:=YT vf.ro m (gI vf.str);apply SH
 .rw[Py,AFq];omega
 intro i h1 n;rw[AAn,AAe];have:=hu i (i:Int) (by omega) (by omega) (by omega);simp only[P0,id]at this;rw[<-this,AS,At h1];rfl
theorem A2x {f:List AE} (hf:AR f) (h:Co f f.length [] 0=(List.range f.length).map λ(i:Nat)=>(i:Int)):AL f 0=f:=by
 unfold AL;generalize q:Co f f.length [] 0=l at *;have r:l.length=f.length:=by rw[h];simp
 have b:∀k,(hk:k<l.length)->l[k]=(k:Int):=λk hk=>by subst h;simp
 clear h;have o:l.Nodup:=by
  unfold List.Nodup;rw[QG];intro i j hi n p e;rw[b i hi,b j n]at e;omega
 have m:∀x,0<=x->x<(l.length:Int)->Bh l x=x:=λx s t=>by
  have:=Fh o (i:=x.toNat) (by omega);have e:l.getD x.toNat 0=x:=by
   rw[AS,At (by omega)];show l[x.toNat]=x;rw[b _ (by omega)];omega
  rw[e]at this;rw[this];omega
 apply SH
 .rw[Py];omega
 intro i h1 c;rw[AAn,b i (by simpa using h1)];have d:f.getD (i:Int).toNat (0,[])=f[i]:=by simp[AS,c]
 unfold DD;rw[d];have:∀a∈f[i].2,I0 l a=a:=λa ha=>by
  have g:=(hf.2 _ (VR c)).2 a ha;unfold I0;rw[m a.2 g.1 (by omega)]
 rw[QE this,List.map_id']
theorem A0s {Q R:List AE} {c:Int->Int} {d:Int->Prop} (h:Iso Q R c d) {pre:List Int} (hp:∀i,d i->c i∉pre):∀(k:Nat) (t:List Int) (i:Int),(∀x∈t,d x)->d i->Co R k (pre++t.map c) (c i)=pre++(Co Q k t i).map c/\∀x∈Co Q k t i,d x
 | 0,t,i,f,hi=>⟨rfl,f⟩
 | k+1,t,i,f,hi=>by
  have key:∀(l:List (Int×Int)) (t:List Int),(∀a∈l,d a.2)->(∀x∈t,d x) ->
    (l.map λa=>(a.1,c a.2)).foldl (Ac R k) (pre++t.map c)=pre++(l.foldl (Ac Q k) t).map c/\∀x∈l.foldl (Ac Q k) t,d x:=by
   intro l;induction l with
   | nil=>intro t _ f;exact⟨rfl,f⟩
   | cons a l q =>
    intro t m f;have ha:=m a (by simp);have hs:Ac R k (pre++t.map c) (a.1,c a.2)=pre++(Ac Q k t a).map c/\∀x∈Ac Q k t a,d x:=by
     unfold Ac;by_cases j:a.2∈t
     .rw[BY j,BY (OF.2 (.inr (Do.2 ⟨_,j,rfl⟩)))];exact⟨rfl,f⟩
     have p:¬c a.2∈pre++t.map c:=by
      intro hh;rcases OF.1 hh with hh|hh
      .exact hp _ ha hh
      obtain⟨x,g,e⟩:=Do.1 hh;exact j (h.inj x a.2 (f x g) ha e▸g)
     rw[An j];simp only[An p];exact A0s h hp k t a.2 f ha
    rw[QM,ON,ON,hs.1];exact q _ (λb o=>m b (by simp[o])) hs.2
  rw[CN,CN];have e:pre++t.map c++[c i]=pre++(t++[i]).map c:=by simp
  have n:(R.getD (c i).toNat (0,[])).2=(AO Q i).map λa=>(a.1,c a.2):=h.arc i hi;rw[n,e];refine key _ _ (h.cl i hi) λx g=>?_;rcases OF.1 g with g|g
  .exact f x g
  have:x=i:=by simpa using g
  rw[this];exact hi
abbrev gV (n:Nat):List Int:=(List.range n).map λ(i:Nat)=>(i:Int)
theorem m9 {n:Nat} {x:Int} (h:x∈gV n):0<=x/\x<(n:Int):=by grind
theorem A2y (n:Nat):gV (n+1)=gV n++[(n:Int)]:=by unfold gV;rw[SQ,VO];rfl
theorem Yq {p:List Int} {g:List AE}:∀(r j:Nat) (k:Nat),j+r=p.length->Co (Ak p g) (r+k) (gV j) (j:Int)=Co (Ak p g) k (gV p.length) (p.length:Int)
 | 0,j,k,h=>by rw[show j=p.length by omega,iN]
 | r+1,j,k,h=>by
  rw[show r+1+k=(r+k)+1 by omega,CN,F8 (by omega) (by omega),P0];show Ac (Ak p g) (r+k) (gV j++[(j:Int)]) (p.getD j 0,(j:Int)+1)=_;rw[<-A2y];unfold Ac;rw[An (λa=>by have:=m9 a;simp only at this;omega)];have e:((j:Int)+1)=((j+1:Nat):Int):=by omega
  simp only[e];exact Yq r (j+1) k (by omega)
theorem A2z {h:AG} {p:List Int} {g:List AE} (b:VF h g) (hp:p.length<=1000) (l:g.length<=10000):AL (Ak p g) 0=Ak p g:=by
 have f:=b.pos;refine A2x (Uq hp b.good f l) ?_;rw[Dm];have d:=Yq (p:=p) (g:=g) p.length 0 g.length (by omega);rw[show gV 0=[] from rfl,show ((0:Nat):Int)=0 from rfl]at d;rw[d];have k:Iso g (Ak p g) (λi=>(p.length:Int)+i) (λi=>0<=i/\i<(g.length:Int)):=by
  refine⟨λi hi=>?_,λi hi a ha=>Ah b.good ha,λi j hi o e=>by have e:(p.length:Int)+i=(p.length:Int)+j:=e;omega⟩;rw[AO,DY hi.1 hi.2];show A4 p.length (AO g i)=_;unfold A4;refine QE λa _=>?_;show (a.1,a.2+(p.length:Int))=(a.1,(p.length:Int)+a.2);rw[AGt]
 have c:=(A0s k (pre:=gV p.length) (λi hi m=>by have:=m9 m;omega) g.length [] 0 (λx n=>by cases n) ⟨by omega,by omega⟩).1;rw[AFN,QQ,AFo,A2w b]at c;rw[c];rw[List.range_add,VO,Va,Va];refine bY _ (QE λi _=>?_);show (p.length:Int)+(i:Int)=((p.length+i:Nat):Int);omega
theorem Yr {h:AG} (h0:0<h.1.length) {p:List Int} {g:List AE} (d:VF h g) (l:FtP h p) (hp:p.length<=1000) (k:g.length<=10000):VF h (Ak p g):=by
 have n:=d.pos;have q:=Dm p g;refine⟨Uq hp d.good n k,by omega,λx c=>?_,λx c=>?_,λx c a ha=>?_,A2z d hp k,λi r s=>?_⟩
 .rcases Lm c with ⟨i,hi,rfl⟩|⟨y,f,rfl⟩
  .exact⟨by simp,by simp only;omega⟩
  exact d.ty y f
 .rcases Lm c with ⟨i,hi,rfl⟩|⟨y,f,rfl⟩
  .exact AFF _ _
  exact G2 (d.str y f)
 .rcases Lm c with ⟨i,hi,rfl⟩|⟨y,f,rfl⟩
  .have:a=(p.getD i 0,(i:Int)+1):=by simpa using ha
   rw[this];exact l _ (BG hi)
  obtain⟨b,m,rfl⟩:=Do.1 ha;exact d.ft y f b m
 by_cases hi:i<=(p.length:Int)
 .refine⟨i-1,by omega,by omega,(p.getD (i-1).toNat 0,i-1+1),?_,by simp only;omega⟩;rw[AO,F8 (by omega) (by omega)];exact QL.2 rfl
 obtain⟨j,o,t,x,c,e⟩:=d.ro (i-p.length) (by omega) (by omega);refine⟨(p.length:Int)+j,by omega,by omega,(x.1,x.2+(p.length:Int)),?_,by simp only;omega⟩;rw[AO,DY o (by omega)];exact Do.2 ⟨x,c,rfl⟩
theorem A2A {f:List AE} (hf:AR f) {r:Int} (l:0<=r) (m:r<(f.length:Int)):AR (AL f r)/\0<(AL f r).length:=by
 have c:=FH hf l m;have h:=Fi f r;have g:=λi=>GZ (f:=f) (r:=r) (i:=i);generalize p:Co f f.length [] r=o at *;have q:=c.ok.len;have n:=hf.1;have t:=c.zero.2;refine⟨⟨by omega,λx j=>?_⟩,by omega⟩;obtain⟨i,hi,rfl⟩:=CM (0,[]) j;rw[g i (by omega)];have d:o.getD i 0∈o:=AD o 0 (by omega);have s:=c.ok.rng _ d;refine⟨?_,λa ha=>?_⟩
 .show (List.map (I0 o) _).length<=_;rw[Py];exact(hf.2 _ (AD f (0,[]) (k:=(o.getD i 0).toNat) (by omega))).1
 obtain⟨b,e,rfl⟩:=Do.1 ha;have:=Cc (c.cl _ d b e);rw[h];exact⟨this.1,this.2.1⟩
theorem A9x {h:AG} {f:List AE} (hf:AR f) (b:Cn h f) {r:Int} (d:0<=r) (e:r<(f.length:Int)):Cn h (AL f r):=by
 have a:=FH hf d e;intro x c;obtain⟨n,hn,rfl⟩:=Do.1 c;have g:=a.ok.rng n hn;exact b (f.getD n.toNat (0,[])) (AD f (0,[]) (k:=n.toNat) (by omega))
theorem A62 {h:AG} {p:List Int} {g c:List AE} (w:VF h g) (D:VF h c) {m:Int->Int} (s:IB h (Ak p g) c m):BX c 0 p=some (m (p.length:Int))/\(0<=m (p.length:Int)/\m (p.length:Int)<(c.length:Int))/\MA h g (AL c (m (p.length:Int)))=true:=by
 have K:=w.pos;have Q:=Dm p g;have C:=s.rng (p.length:Int) (by omega) (by omega);have key:∀k,k<=p.length->BX c 0 (p.take k)=some (m (k:Int)):=by
  intro k;induction k with
  | zero =>
   intro _;rw[ZH];show some (0:Int)=some (m 0);rw[s.zero]
  | succ k z =>
   intro hk;have hi:=z (by omega);have hn:=F8 (p:=p) (g:=g) (i:=(k:Int)) (by omega) (by omega);have ha:=s.arc (k:Int) (by omega) (by omega) (p.getD k 0,(k:Int)+1) (by
    rw[AO,hn,P0];exact QL.2 rfl)
   have v:=s.rng ((k:Int)+1) (by omega) (by omega);rw[Au p 0 (by omega),Lg c _ 0 _ _ hi];simp only at ha;rw[A5S (FU D.str _) (by rw[ha];exact v.1),ha,An (by omega)];rfl
 have F:=key p.length (Is _);rw[QD]at F;refine⟨F,C,?_⟩;have u:=FH D.good C.1 C.2;have J:=Fi c (m (p.length:Int));have I:=λi=>GZ (f:=c) (r:=m (p.length:Int)) (i:=i);have L:=gC (h:=h) (a:=g) (b:=AL c (m (p.length:Int))) w.good K w.ro (m:=λi=>Bh (Co c c.length [] (m (p.length:Int))) (m ((p.length:Int)+i)));generalize P:Co c c.length [] (m (p.length:Int))=o at *;have y:∀(n:Nat) (i:Int),i.toNat<=n->0<=i->i<(g.length:Int)->m ((p.length:Int)+i)∈o:=by
  intro n;induction n with
  | zero =>
   intro i y q d;rw[show i=0 by omega,AFo,<-u.zero.1];exact AD o 0 u.zero.2
  | succ n z =>
   intro i y q d;by_cases O:i=0
   .exact z i (by omega) q d
   obtain⟨j,G,S,x,t,e⟩:=w.ro i (by omega) d;have M:=z j (by omega) G (by omega);have ha:=s.arc ((p.length:Int)+j) (by omega) (by omega) (x.1,x.2+(p.length:Int)) (by
    rw[AO,DY G (by omega)];exact Do.2 ⟨x,t,rfl⟩)
   simp only at ha;have v:=s.rng ((p.length:Int)+i) (by omega) (by omega);rw[show x.2+(p.length:Int)=(p.length:Int)+i by omega]at ha;obtain⟨b,B,-,A⟩:=EV (l:=AO c (m ((p.length:Int)+j))) (e:=x.1) (by rw[ha];exact v.1);rw[<-ha,<-A];exact u.cl _ M b B
 have E:∀i:Int,0<=i->i<(g.length:Int)->(AL c (m (p.length:Int))).getD (Bh o (m ((p.length:Int)+i))).toNat (0,[])=DD c o (m ((p.length:Int)+i)):=λi q d=>by
  have t:=Cc (y i.toNat i (Is _) q d);rw[I _ (by omega),t.2.2]
 refine L ⟨?_,λi q d=>?_,λi q d=>?_,λi q d x t=>?_⟩
 .show Bh o (m ((p.length:Int)+0))=0;rw[AFo];have:=Fh u.ok.nd (i:=0) u.zero.2;rw[u.zero.1]at this;exact this
 .have t:=Cc (y i.toNat i (Is _) q d);rw[J];exact⟨t.1,t.2.1⟩
 .rw[E i q d];have:=s.ty ((p.length:Int)+i) (by omega) (by omega);rw[DY q d]at this;exact this
 have R:=Ah w.good t;have ha:=s.arc ((p.length:Int)+i) (by omega) (by omega) (x.1,x.2+(p.length:Int)) (by
  rw[AO,DY q d];exact Do.2 ⟨x,t,rfl⟩)
 simp only at ha;have v:=s.rng (x.2+(p.length:Int)) (by omega) (by omega);obtain⟨b,B,H,A⟩:=EV (l:=AO c (m ((p.length:Int)+i))) (e:=x.1) (by rw[ha];exact v.1);rw[AO,E i q d];have N:MJ (DD c o (m ((p.length:Int)+i))).2:=by
  show List.Pairwise _ (List.map (I0 o) _);rw[VV];exact FU D.str _
 have:=Dy N (a:=I0 o b) (Do.2 ⟨b,B,rfl⟩);show Bz (DD c o (m ((p.length:Int)+i))).2 x.1=Bh o (m ((p.length:Int)+x.2));rw[<-H];rw[show (p.length:Int)+x.2=x.2+(p.length:Int) by omega,<-ha,<-A];exact this
structure PF (h:AG) (S:List AE):Prop where
 good:AR S
 pos:0<S.length
 ty:Cn h S
 str:∀x∈S,MJ x.2
 ft:∀x∈S,∀a∈x.2,0<=a.1/\a.1<(h.2.length:Int)
theorem VF.pf {h:AG} {f:List AE} (v:VF h f):PF h f:=⟨v.good,v.pos,v.ty,v.str,v.ft⟩
theorem Ys {S:List AE} (a:AR S) {r:Int} (c:0<=r) (d:r<(S.length:Int)):∀x∈AL S r,∃n∈Co S S.length [] r,(0<=n/\n<(S.length:Int))/\x=DD S (Co S S.length [] r) n:=λx b=>by
 obtain⟨n,hn,rfl⟩:=Do.1 b;exact⟨n,hn,(FH a c d).ok.rng n hn,rfl⟩
theorem A9y {S:List AE} (b:AR S) {r:Int} (c:0<=r) (d:r<(S.length:Int)):RO (AL S r):=by
 have k:=FH b c d;have h:=Rr b S.length [] r (GV _) c d (by simp);have p:=Fi S r;have g:=λi=>GZ (f:=S) (r:=r) (i:=i);generalize AL S r=l at *;generalize Co S S.length [] r=o at *;intro i m n;obtain⟨j,q,a,ha,e⟩:=h i.toNat (by simp only[ZM];omega) (by omega);refine⟨(j:Int),by omega,by omega,I0 o a,?_,?_⟩
 .rw[AO,P0,g j (by omega)];exact Do.2 ⟨a,ha,rfl⟩
 show Bh o a.2=i;rw[e,Fh k.ok.nd (by omega)];omega
theorem Td {h:AG} {S:List AE} (p:PF h S) {r:Int} (c:0<=r) (d:r<(S.length:Int)):VF h (AL S r):=by
 have f:=A2A p.good c d;refine⟨f.1,f.2,A9x p.good p.ty c d,λx e=>?_,λx e a ha=>?_,mO p.good c d,A9y p.good c d⟩
 .obtain⟨n,-,hn,rfl⟩:=Ys p.good c d x e;show List.Pairwise _ (List.map _ _);rw[VV];exact(FU p.str n).imp λh=>h
 obtain⟨n,-,hn,rfl⟩:=Ys p.good c d x e;obtain⟨b,g,rfl⟩:=Do.1 ha;exact p.ft _ (AD S (0,[]) (by omega)) b g
theorem A63 {h:AG} {g c:List AE} (G:AR g) (K:0<g.length) (I:RO g) (B:PF h c) {v:Int->Int} (p:Uh h g [] c v):IB h g (AL c (v 0)) λi=>Bh (Co c c.length [] (v 0)) (v i):=by
 have s:=p.rng 0 (by omega) (by omega);have m:=FH B.good s.1 s.2;have L:=Fi c (v 0);have C:=λi=>GZ (f:=c) (r:=v 0) (i:=i);have cs:=(Td B s.1 s.2).str;generalize AL c (v 0)=J at *;generalize Co c c.length [] (v 0)=o at *;have q:∀(n:Nat) (i:Int),i.toNat<=n->0<=i->i<(g.length:Int)->v i∈o:=by
  intro n;induction n with
  | zero =>
   intro i q k d;rw[show i=0 by omega,<-m.zero.1];exact AD o 0 m.zero.2
  | succ n E =>
   intro i q k d;by_cases M:i=0
   .exact E i (by omega) k d
   obtain⟨j,F,N,x,t,e⟩:=I i (by omega) d;have H:=E j (by omega) F (by omega);have ha:=p.arc j F (by omega) x t;have y:=p.rng i k d;obtain⟨b,w,A,u⟩:=EV (l:=AO c (v j)) (e:=x.1) (by rw[ha,e];exact y.1);have:=m.cl _ H b w;rw[u,ha,e]at this;exact this
 refine⟨?_,λi k d=>?_,λi k d=>?_,λi k d x t=>?_⟩
 .have:=Fh m.ok.nd m.zero.2;rw[m.zero.1]at this;exact this
 .have:=Cc (q _ i (Is _) k d);try simp only
  omega
 .have z:=Cc (q _ i (Is _) k d);try simp only
  rw[C _ (by omega)];show A2 h _ (c.getD (o.getD (Bh o (v i)).toNat 0).toNat (0,[])).1=true;rw[z.2.2];exact p.ty i k d
 have z:=Cc (q _ i (Is _) k d);have ha:=p.arc i k d x t;have D:=Ah G t;have y:=p.rng x.2 D.1 D.2;obtain⟨b,w,A,u⟩:=EV (l:=AO c (v i)) (e:=x.1) (by rw[ha];exact y.1);try simp only
 rw[<-ha,<-u,<-A];refine Dy (a:=I0 o b) (FU cs _) ?_;rw[AO,C _ (by omega),z.2.2];exact Do.2 ⟨b,w,rfl⟩
theorem nA {h:AG} {f:List AE} (hf:PF h f) {r:Int} (l:0<=r) (m:r<(f.length:Int)):Uh h (AL f r) [] f (λi=>(Co f f.length [] r).getD i.toNat 0)/\(Co f f.length [] r).getD 0 0=r:=by
 have a:=FH hf.good l m;have p:=Fi f r;have d:=λi=>GZ (f:=f) (r:=r) (i:=i);generalize AL f r=n at *;generalize Co f f.length [] r=o at *;refine⟨⟨λi g j=>a.ok.rng _ (AD o 0 (by omega)),λi g j=>?_,λi g j x e=>?_,λq k=>by cases k⟩,a.zero.1⟩
 .rw[d _ (by omega)];exact Kg h _
 rw[AO,d _ (by omega)]at e;obtain⟨b,c,rfl⟩:=Do.1 e;show Bz _ b.1=o.getD (Bh o b.2).toNat 0;rw[(Cc (a.cl _ (AD o 0 (by omega)) b c)).2.2];exact Dy (FU hf.str _) c
theorem sE {h:AG} {f:List AE} (a:Cn h f) {i:Int} (b:0<=i) (c:i<(f.length:Int)):0<=(f.getD i.toNat (0,[])).1/\(f.getD i.toNat (0,[])).1<(h.1.length:Int):=a _ (AD f (0,[]) (by omega))
theorem A64 {h:AG} (hk:GB h) {a b c:List AE} (u:AR a) (ta:Cn h a) (tb:Cn h b) (C:Cn h c) {v w:Int->Int} (h1:Uh h a [] b v) (j:Uh h b [] c w):Uh h a [] c λi=>w (v i):=by
 refine⟨λi f g=>?_,λi f g=>?_,λi f g x m=>?_,λq z=>by cases z⟩
 .have:=h1.rng i f g;exact j.rng _ this.1 this.2
 .have d:=h1.rng i f g;have r:=j.rng _ d.1 d.2;have n:=sE ta f g;have o:=sE tb d.1 d.2;have p:=sE C r.1 r.2;exact Li hk n.1 n.2 o.1 o.2 p.1 p.2 (h1.ty i f g) (j.ty _ d.1 d.2)
 have d:=h1.rng i f g;have k:=Ah u m;have B:=h1.rng x.2 k.1 k.2;have ha:=h1.arc i f g x m;obtain⟨y,A,s,t⟩:=EV (l:=AO b (v i)) (e:=x.1) (by rw[ha];exact B.1);have:=j.arc _ d.1 d.2 y A;rw[s,t,ha]at this;exact this
theorem A0t {h:AG} (hk:GB h) {f b:List AE} (hf:PF h f) (c:PF h b) {m:Int->Int} (g:Uh h f [] b m) {n:Int} (n0:0<=n) (n1:n<(f.length:Int)):∃k,IB h (AL f n) (AL b (m n)) k:=by
 obtain⟨h1,e⟩:=nA hf n0 n1;have a:=Td hf n0 n1;have:=A63 a.good a.pos a.ro c (A64 hk a.good a.ty hf.ty c.ty h1 g);have d:(Co f f.length [] n).getD (0:Int).toNat 0=n:=e;simp only[d]at this;exact⟨_,this⟩
theorem Yt {Q R:List AE} {b:Int->Int} {c:Int->Prop} (h:Iso Q R b c) (l:AR Q) {r:Int} (k:c r) (s:0<=r) (t:r<(Q.length:Int)) (u:Q.length<=R.length)
  (m:∀i,c i->(R.getD (b i).toNat (0,[])).1=(Q.getD i.toNat (0,[])).1):AL R (b r)=AL Q r:=by
 have f:Co R R.length [] (b r)=(Co Q Q.length [] r).map b/\∀x∈Co Q Q.length [] r,c x:=by
  have h1:=Rq h R.length [] r (λx p=>by cases p) k;have g:=Rp l (n:=r) s t (R.length-Q.length);rw[show Q.length+(R.length-Q.length)=R.length by omega]at g;rw[g]at h1;exact h1
 unfold AL;rw[f.1];generalize Co Q Q.length [] r=o at *;rw[Va];refine QE λi hi=>?_;have d:=f.2 i hi;show DD R (o.map b) (b i)=DD Q o i;unfold DD;have j:(R.getD (b i).toNat (0,[])).2=(AO Q i).map λa=>(a.1,b a.2):=h.arc i d;rw[m i d,j,Va];refine bY _ (QE λa ha=>?_);show (a.1,Bh (o.map b) (b a.2))=(a.1,Bh o a.2);rw[mE λy q e=>h.inj y a.2 (f.2 y q) (h.cl i d a ha) e]
def Ou (f:List AE) (e:Int):List (Int×Int):=(f.getD 0 (0,[])).2.filter λa=>a.1 != e
def Kl (f:List AE) (e:Int):List AE:=((f.getD 0 (0,[])).1,A4 1 (Ou f e)) :: f.map λx=>(x.1,A4 1 x.2)
def Gb (f:List AE) (e:Int):List AE:=AL (Kl f e) 0
def NN (f:List AE) (e:Int):List AE:=f++[((f.getD 0 (0,[])).1,Ou f e)]
theorem F9 (f:List AE) (e:Int):(Kl f e).length=f.length+1:=by simp[Kl]
theorem WM {f:List AE} {e i:Int} (c:0<=i) (d:i<(f.length:Int)):(Kl f e).getD (i+1).toNat (0,[])=((f.getD i.toNat (0,[])).1,A4 1 (f.getD i.toNat (0,[])).2):=by
 have a:(i+1).toNat=i.toNat+1:=by omega
 have b:i.toNat<f.length:=by omega
 rw[a];simp[Kl,AS,b]
theorem Km {f:List AE} {e:Int} {a:Int×Int} (h:a∈Ou f e):a∈AO f 0:=(VW.1 h).1
theorem DF {b:Nat} {l:List (Int×Int)} {a:Int×Int}:a∈A4 b l↔∃x∈l,a=(x.1,x.2+(b:Int)):=by
 unfold A4;rw[Do];exact⟨λ⟨x,h1,c⟩=>⟨x,h1,c.symm⟩,λ⟨x,h1,c⟩=>⟨x,h1,c.symm⟩⟩
theorem Yu {f:List AE} (hs:∀x∈f,MJ x.2) (e:Int):MJ (Ou f e):=(FU hs 0).filter _
theorem Iy {h:AG} {f:List AE} (v:PF h f) (p:f.length<=10000) (e:Int):PF h (Kl f e):=by
 have hp:=v.pos;have h0:f.getD 0 (0,[])∈f:=AD f (0,[]) hp;have k:∀x∈Kl f e,x=((f.getD 0 (0,[])).1,A4 1 (Ou f e))\/∃y∈f,x=(y.1,A4 1 y.2):=λx c=>by
  rcases DO.1 c with rfl|c
  .exact .inl rfl
  obtain⟨y,d,rfl⟩:=Do.1 c;exact .inr ⟨y,d,rfl⟩
 have o:=F9 f e;have j:∀x∈Kl f e,∃y∈f,x.1=y.1/\x.2.length<=y.2.length/\∀a∈x.2,∃b∈y.2,a=(b.1,b.2+1):=λx c=>by
  rcases k x c with rfl|⟨y,d,rfl⟩
  .refine⟨_,h0,rfl,?_,λa ha=>?_⟩
   .show (List.map _ _).length<=_;rw[Py];exact VI _ _
   obtain⟨b,g,rfl⟩:=DF.1 ha;exact⟨b,Km g,rfl⟩
  refine⟨y,d,rfl,?_,λa ha=>?_⟩
  .show (List.map _ _).length<=_;rw[Py];exact Is _
  obtain⟨b,g,rfl⟩:=DF.1 ha;exact⟨b,g,rfl⟩
 refine⟨⟨by omega,λx c=>?_⟩,by omega,λx c=>?_,λx c=>?_,λx c a ha=>?_⟩
 .obtain⟨y,d,-,n,i⟩:=j x c;have m:=v.good.2 y d;refine⟨by omega,λa ha=>?_⟩;obtain⟨b,g,rfl⟩:=i a ha;have:=m.2 b g;try simp only
  omega
 .obtain⟨y,d,l,-,-⟩:=j x c;rw[l];exact v.ty y d
 .rcases k x c with rfl|⟨y,d,rfl⟩
  .exact G2 (Yu v.str e)
  exact G2 (v.str y d)
 obtain⟨y,d,-,-,i⟩:=j x c;obtain⟨b,g,rfl⟩:=i a ha;exact v.ft y d b g
theorem WN {h:AG} {f:List AE} (v:PF h f) (a:f.length<=10000) (e:Int):VF h (Gb f e):=Td (Iy v a e) (ABP _) (by rw[F9];omega)
theorem A65 {h:AG} {f:List AE} (v:PF h f) (a:f.length<=10000) (e:Int):(Gb f e).length<=f.length+1:=by
 have h1:=Fi (Kl f e) 0;have c:=F9 f e;have b:=(FH (Iy v a e).good (r:=0) (by omega) (by omega)).ok.len;unfold Gb;omega
theorem ABs {h:AG} {f:List AE} (v:PF h f) (k:f.length<=10000) (e:Int):AL (NN f e) (f.length:Int)=Gb f e:=by
 have n:=F9 f e;have hp:=v.pos;have g:=λi b c=>WM (f:=f) (e:=e) (i:=i) b c;have hn:(NN f e).getD f.length (0,[])=((f.getD 0 (0,[])).1,Ou f e):=by simp[NN,AS]
 have hi:∀i:Int,0<=i->i<(f.length:Int)->(NN f e).getD i.toNat (0,[])=f.getD i.toNat (0,[]):=λi b c=>by
  have:i.toNat<f.length:=by omega
  simp[NN,AS,QN this]
 have m:∀l:List (Int×Int),(∀a∈l,0<=a.2)->l=(A4 1 l).map λa=>(a.1,if a.2=0 then (f.length:Int) else a.2-1):=λl h1=>by
  unfold A4;rw[Va];refine(AGv l).symm.trans (QE λa ha=>?_);have:=h1 a ha;show a=(a.1,if a.2+((1:Nat):Int)=0 then _ else a.2+((1:Nat):Int)-1);rw[An (by omega)];exact AGw rfl (by simp only;omega)
 have o:Iso (Kl f e) (NN f e) (λi=>if i=0 then (f.length:Int) else i-1) (λi=>0<=i/\i<(f.length:Int)+1):=by
  refine⟨λi ⟨b,c⟩=>?_,λi ⟨b,c⟩ a ha=>?_,λi j ⟨b,c⟩ ⟨p,q⟩ d=>?_⟩
  .by_cases h0:i=0
   .subst h0;simp only[ZD];rw[AO,P0,hn];exact m _ λa ha=>(Ah v.good (Km ha)).1
   simp only[An h0];rw[AO,hi _ (by omega) (by omega),AO,show i=(i-1)+1 by omega,g _ (by omega) (by omega),show i-1+1-1=i-1 by omega];exact m _ λa ha=>(Ah v.good ha).1
  .have:=Ah (Iy v k e).good ha;omega
  try simp only at d
  split at d<;>split at d<;>omega
 have:=Yt o (Iy v k e).good (r:=0) ⟨by omega,by omega⟩ (by omega) (by omega) (by rw[n];simp[NN]) λi ⟨b,c⟩=>by
  by_cases h0:i=0
  .subst h0;simp only[ZD];rw[P0,hn];rfl
  simp only[An h0];rw[hi _ (by omega) (by omega),show i=(i-1)+1 by omega,g _ (by omega) (by omega),show i-1+1-1=i-1 by omega]
 simp only[ZD]at this;exact this
theorem A2B {h:AG} {f g:List AE} (vf:PF h f) (w:PF h g) {m:Int->Int} (c:IB h f g m) (e:Int):Uh h (Kl f e) [] (Kl g e) λi=>if i=0 then 0 else m (i-1)+1:=by
 have C:=F9 f e;have D:=F9 g e;have E:=vf.pos;have s:=λi j k=>WM (f:=f) (e:=e) (i:=i) j k;have t:=λi j k=>WM (f:=g) (e:=e) (i:=i) j k;have u:∀n,0<=n->n<(f.length:Int)->∀a∈AO f n,(a.1,m a.2)∈AO g (m n):=by
  intro n n0 n1 a ha;have h1:=c.arc n n0 n1 a ha;have d:=Ah vf.good ha;obtain⟨b,z,y,r⟩:=EV (l:=AO g (m n)) (e:=a.1) (by rw[h1];exact(c.rng _ d.1 d.2).1);rw[h1]at r;rw[<-y,<-r];exact z
 have v:=c.ty 0 (by omega) (by omega);rw[c.zero]at v;refine⟨λi j k=>?_,λi j k=>?_,λi j k x p=>?_,λq B=>by cases B⟩
 .try simp only
  split
  .omega
  have:=c.rng (i-1) (by omega) (by omega);omega
 .try simp only
  by_cases h0:i=0
  .subst h0;rw[BY rfl];exact v
  have d:=c.rng (i-1) (by omega) (by omega);rw[An h0,t _ d.1 d.2];have:=c.ty (i-1) (by omega) (by omega);rw[<-show (i-1)+1=i by omega,s _ (by omega) (by omega),show i-1+1-1=i-1 by omega];exact this
 try simp only
 by_cases h0:i=0
 .subst h0;rw[BY rfl];obtain⟨a,ha,rfl⟩:=DF.1 (show x∈A4 1 (Ou f e) from p);have d:=Ah vf.good (Km ha);have o:=u 0 (by omega) (by omega) a (Km ha);rw[c.zero]at o;have A:(a.1,m a.2)∈Ou g e:=VW.2 ⟨o,(VW.1 ha).2⟩;try simp only
  rw[An (by omega),show a.2+((1:Nat):Int)-1=a.2 by omega];exact Dy (a:=(a.1,m a.2+((1:Nat):Int))) (G2 (Yu w.str e)) (DF.2 ⟨_,A,rfl⟩)
 have d:=c.rng (i-1) (by omega) (by omega);rw[An h0];rw[AO,<-show (i-1)+1=i by omega,s _ (by omega) (by omega)]at p;obtain⟨a,ha,rfl⟩:=DF.1 p;have F:=Ah vf.good ha;have o:=u (i-1) (by omega) (by omega) a ha;try simp only
 rw[An (by omega),show a.2+((1:Nat):Int)-1=a.2 by omega,AO,t _ d.1 d.2];exact Dy (a:=(a.1,m a.2+((1:Nat):Int))) (G2 (FU w.str _)) (DF.2 ⟨_,o,rfl⟩)
theorem nB {h:AG} (hk:GB h) {f g:List AE} (vf:PF h f) (a:PF h g) (lf:f.length<=10000) (c:g.length<=10000) {m:Int->Int} (b:IB h f g m) (e:Int):∃k,IB h (Gb f e) (Gb g e) k:=by
 have:=A0t hk (Iy vf lf e) (Iy a c e) (A2B vf a b e) (n:=0) (by omega) (by rw[F9];omega);simp only[ZD]at this;exact this
theorem ABt {h:AG} {S:List AE} (d:AR S) {r:Int} (e:0<=r) (f:r<(S.length:Int)) (i:∀x∈S,∀a∈x.2,(Br h x.1 a.1).2=true/\A2 h (Br h x.1 a.1).1 (S.getD a.2.toNat (0,[])).1=true):WTy h (AL S r) (Bb (AL S r)):=by
 rw[<-WL,HD];intro x j a ha;obtain⟨n,hn,m,rfl⟩:=Ys d e f x j;obtain⟨b,c,rfl⟩:=Do.1 ha;have g:=FH d e f;have l:=Cc (g.cl n hn b c);have h1:=i _ (AD S (0,[]) (k:=n.toNat) (by omega)) b c;refine⟨h1.1,?_⟩;show A2 h _ ((AL S r).getD (Bh (Co S S.length [] r) b.2).toNat (0,[])).1=true;rw[GZ (by omega),l.2.2];exact h1.2
theorem A9z {h:AG} {f:List AE} (w:Wt h f) (i:f.length<=10000) (e:Int):Wt h (Gb f e):=by
 refine⟨WN w.1.pf i e,ABt (Iy w.1.pf i e).good (ABP _) (by rw[F9];omega) ?_⟩;have k:=w.2;rw[<-WL,HD]at k;have key:∀y∈f,∀a∈y.2,(Br h y.1 a.1).2=true/\A2 h (Br h y.1 a.1).1 ((Kl f e).getD (a.2+1).toNat (0,[])).1=true:=λy c a ha=>by
  have:=k y c a ha;have j:=(w.1.good.2 y c).2 a ha;rw[WM j.1 j.2];exact this
 intro x g a ha;rcases DO.1 g with rfl|g
 .obtain⟨b,d,rfl⟩:=DF.1 ha;exact key _ (AD f (0,[]) w.1.pos) b (Km d)
 obtain⟨y,c,rfl⟩:=Do.1 g;obtain⟨b,d,rfl⟩:=DF.1 ha;exact key y c b d
def tyG (s:ByteArray):Nat->List HT->Int
 | _,[]=>-1
 | k,x :: l=>if AY x.1 s=true then (k:Int) else tyG s (k+1) l
def H0 (h:AG) (s:ByteArray):Int:=tyG s 0 h.1
def ftG (s:ByteArray):Nat->List aU->Int
 | _,[]=>-1
 | k,x :: l=>if AY x.1 s=true then (k:Int) else ftG s (k+1) l
def ZO (h:AG) (s:ByteArray):Int:=ftG s 0 h.2
theorem A0v (s:ByteArray):∀(l:List HT) (k:Nat),tyG s k l=-1\/((k:Int)<=tyG s k l/\tyG s k l<((k+l.length:Nat):Int))
 | [],_=>.inl rfl
 | x :: l,k=>by
  unfold tyG;split
  .exact .inr ⟨ABP _,by simp only[Of];omega⟩
  have:=A0v s l (k+1);simp only[Of];omega
theorem A0w (s:ByteArray):∀(l:List aU) (k:Nat),ftG s k l=-1\/((k:Int)<=ftG s k l/\ftG s k l<((k+l.length:Nat):Int))
 | [],_=>.inl rfl
 | x :: l,k=>by
  unfold ftG;split
  .exact .inr ⟨ABP _,by simp only[Of];omega⟩
  have:=A0w s l (k+1);simp only[Of];omega
theorem Ha (h:AG) (s:ByteArray):-1<=H0 h s/\H0 h s<(h.1.length:Int):=by
 have:=A0v s h.1 0;unfold H0;omega
theorem gW (h:AG) (s:ByteArray):-1<=ZO h s/\ZO h s<(h.2.length:Int):=by
 have:=A0w s h.2 0;unfold ZO;omega
structure LW where
 list:Int
 cons:Int
 null:Int
 dlist:Int
 first:Int
 rest:Int
 head:Int
 last:Int
def sb (l:List UInt8):ByteArray:=⟨l.toArray⟩
def BI (h:AG):LW:=⟨H0 h (sb [108,105,115,116]),H0 h (sb [99,111,110,115]),H0 h (sb [110,117,108,108]),H0 h (sb [100,108,105,115,116]),ZO h (sb [70,73,82,83,84]),ZO h (sb [82,69,83,84]),ZO h (sb [76,73,83,84]),ZO h (sb [76,65,83,84])⟩
def Pr (h:AG):Bool:=decide (0<=(BI h).list/\0<=(BI h).cons/\0<=(BI h).null/\0<=(BI h).dlist/\0<=(BI h).first/\0<=(BI h).rest/\0<=(BI h).head/\0<=(BI h).last)&&A2 h (BI h).list (BI h).cons&&A2 h (BI h).list (BI h).null
def R5 (w:LW) (row:List (Int×Int)):Bool:=decide (Bz row w.first<0)&&decide (Bz row w.rest<0)
def Ur (w:LW) (row:List (Int×Int)):Bool:=decide (0<=Bz row w.first)&&decide (0<=Bz row w.rest)
def VG (h:AG) (w:LW) (x:AE):Bool:=A2 h w.null x.1&&R5 w x.2
def MB (h:AG) (w:LW) (x:AE):Bool:=A2 h w.cons x.1&&Ur w x.2
def Ov (h:AG) (w:LW) (x:AE):Bool:=A2 h x.1 w.cons&&R5 w x.2
def BQ (h:AG) (w:LW) (x:AE):Int:=if VG h w x=true then 1 else if MB h w x=true then 2 else if Ov h w x=true then 3 else 0
def R6 (h:AG) (w:LW) (f:List AE):Nat->List Int->List Int->Int->List Int×Bool×Int
 | 0,_,_,_=>([],false,6)
 | k+1,a,out,n=>if n∈a then ([],false,6) else
  if BQ h w (f.getD n.toNat (0,[]))=1 then (out,true,0) else if BQ h w (f.getD n.toNat (0,[]))=3 then (out,false,0) else if BQ h w (f.getD n.toNat (0,[]))=0 then ([],false,13)
  else R6 h w f k (a++[n]) (out++[Bz (f.getD n.toNat (0,[])).2 w.first]) (Bz (f.getD n.toNat (0,[])).2 w.rest)
def Am (h:AG) (f:List AE) (n:Int):List Int×Bool×Int:=if Pr h=true then R6 h (BI h) f (f.length+1) [] [] n else ([],false,5)
theorem cN {h:AG} {w:LW} {x:AE} (e:BQ h w x=2):0<=Bz x.2 w.first/\0<=Bz x.2 w.rest:=by
 unfold BQ at e;split at e
 .cases e
 split at e
 .rename_i a;unfold MB Ur at a;simp only[AT,By]at a;exact a.2
 split at e<;>cases e
theorem nC {h:AG} (e:Pr h=true):(0<=(BI h).first/\0<=(BI h).rest)/\0<=(BI h).cons/\0<=(BI h).null/\0<=(BI h).list/\0<=(BI h).dlist/\0<=(BI h).head/\0<=(BI h).last:=by
 unfold Pr at e;rw[AT,AT,By]at e;obtain⟨⟨⟨h1,a,b,c,d,f,g,i⟩,-⟩,-⟩:=e;exact⟨⟨d,f⟩,a,b,h1,c,g,i⟩
def shN (b:Nat) (g:List AE) (i:Nat):List AE:=(g.take i).map λx:AE=>(x.1,A4 b x.2)
theorem A66 (b:Nat) (g:List AE) {i:Nat} (h:i<g.length):shN b g (i+1)=shN b g i++[((g.getD i (0,[])).1,A4 b (g.getD i (0,[])).2)]:=by
 unfold shN;rw[Au g (0,[]) h,VO];rfl
theorem A9A (b:Nat) (g:List AE):shN b g g.length=g.map λx:AE=>(x.1,A4 b x.2):=by
 unfold shN;rw[QD]
theorem A9B (b:Nat) (g:List AE) {i:Nat} (h:i<=g.length):(shN b g i).length=i:=by
 unfold shN;rw[Py,OS];omega
def sF:AZ:={ ins:=[F2,DZ],pre:=λ(p,g,_)=>List.length p<=1000/\AR g,out:=λ(p,g,_)=>[.p DZ (Ak p g)] }
theorem A67:Ab Tryz.prog 141 sF:=by
 refine fKP [0,1,3,4,5,6,7,9,10,12,13,14,15,16,33,34,35,36,43,44,45,46] [26] [] Tryz.func141 Tryz.ntmps141 AH ?_;rintro w0 O0 ⟨p,g,u⟩ e-⟨hp,f⟩;have I:=f.1;simp only[sF,AM];repeat'(first|exact trivial|apply eS rfl|apply AB|refine rX e ?_ ?_|refine rC ?_ ?_<;>intro b<;>try(cases b;done))
 refine AI (ι:={k:Nat//k<=p.length}) (λk=>⟨[(0,.p F2 p),(3,.bp 3 [] 0),(4,.bp 4 [] 0),(5,.bp 5 [] 0),(13,.p F2 p),(14,.p (.int .i64) (p.length:Int)),(15,.p (.int .i64) (k.1:Int))],[(3,.box 25 true [.p Ex g]),(4,.box 25 true [.raw (.slice none 0 0)]),(5,.box 25 true [.sr 29 Mn 0 (Ga p k.1).length]),(29,.arr 93 Mn (Ga p k.1))]⟩) (λk=>p.length-k.1) ⟨0,IS _⟩ (AC [(3,.nm 3),(4,.nm 4),(5,.nm 5),(29,.nil)] rfl rfl ?_ ?_) (λk=>?_)
 .first|exact eN|refine eM ?_
  exact⟨rfl,rfl⟩
 .first|exact eN|refine eM ?_
 obtain⟨k,hk⟩:=k;have B:=E4 p k;repeat'(first|exact trivial|apply eS rfl|apply AB|refine rX e ?_ ?_|refine rC ?_ ?_<;>intro b<;>try(cases b;done))
 .exact b
 .have n:k<p.length:=IN.1 b;refine⟨⟨by omega,by omega⟩,?_⟩;rw[B];simp only[AQ];omega
 .omega
 .have n:k<p.length:=IN.1 b;have hs:=mX p k;refine⟨⟨k+1,n⟩,by simp only;omega,AC [(3,.nm 3),(4,.nm 4),(5,.nm 5),(29,.nm 29)] rfl rfl ?_ ?_⟩
  .simp only[hs];first|exact eN|refine eM ?_
  first|exact eN|refine eM ?_
 have D:k=p.length:=by
  have:=P6.1 b;omega
 subst D;obtain⟨t,m⟩:∃c,Ga p p.length=c:=⟨_,rfl⟩;have A:=E4 p p.length;have s:t++g.map (λx:AE=>(x.1,A4 p.length x.2))=Ak p g:=by rw[<-m];rfl
 generalize Ga p p.length=ch at *;subst m;refine AI (ι:={i:Nat//i<=g.length}) (λi=>⟨[(0,.p F2 p),(3,.bp 3 [] 0),(4,.bp 4 [] 0),(5,.bp 5 [] 0),(33,.p Ex g),(34,.p (.int .i64) (g.length:Int)),(35,.p (.int .i64) (i.1:Int))],[(3,.box 25 true [.p Ex g]),(4,.box 25 true [.raw (.slice none 0 0)]),(5,.box 25 true [.sr 29 Mn 0 (ch++shN p.length g i.1).length]),(29,.arr 93 Mn (ch++shN p.length g i.1))]⟩) (λi=>g.length-i.1) ⟨0,IS _⟩ (AC [(3,.nm 3),(4,.nm 4),(5,.nm 5),(29,.nm 29)] rfl rfl ?_ ?_) (λi=>?_)
 .have v:ch++shN p.length g 0=ch:=by simp[shN]
  simp only[v];first|exact eN|refine eM ?_
 .first|exact eN|refine eM ?_
 obtain⟨i,hi⟩:=i;have E:=A9B p.length g hi;have r:=λh:i<g.length=>A66 p.length g h;simp only;generalize o:shN p.length g i=os at *;repeat'(first|exact trivial|apply eS rfl|apply AB|refine rX e ?_ ?_|refine rC ?_ ?_<;>intro b<;>try(cases b;done))
 .exact b
 .have l:i<g.length:=IN.1 b;have q:=Iw f i;have G:(g.getD i (0,[])).2.length<=100000:=(f.2 _ (AD g (0,[]) l)).1;generalize L:g.getD i (0,[])=x at *;obtain⟨H,xs⟩:=x;simp only at q G r ⊢;refine AI (ι:={j:Nat//j<=xs.length}) (λj=>⟨[(0,.p F2 p),(3,.bp 3 [] 0),(4,.bp 4 [] 0),(5,.bp 5 [] 0),(10,.bp 10 [] 0),(33,.p Ex g),(34,.p (.int .i64) (g.length:Int)),(35,.p (.int .i64) (i:Int)),(43,.p DM xs),(44,.p (.int .i64) (xs.length:Int)),(45,.p (.int .i64) (j.1:Int))],[(3,.box 25 true [.p Ex g]),(4,.box 25 true [.raw (.slice none 0 0)]),(5,.box 25 true [.sr 29 Mn 0 (ch++os).length]),(29,.arr 93 Mn (ch++os)),(10,.box 93 true [.p T3 H,.sr 60 AW 0 (A4 p.length (xs.take j.1)).length]),(60,.arr 106 AW (A4 p.length (xs.take j.1)))]⟩) (λj=>xs.length-j.1) ⟨0,IS _⟩ (AC [(3,.nm 3),(4,.nm 4),(5,.nm 5),(29,.nm 29),(10,.nm 10),(60,.nil)] rfl rfl ?_ ?_) (λj=>?_)
  .first|exact eN|refine eM ?_
   exact⟨rfl,rfl⟩
  .first|exact eN|refine eM ?_
  obtain⟨j,J⟩:=j;have w:(A4 p.length (xs.take j)).length=j:=by unfold A4;rw[Py,OS];omega
  have y:=λh:j<xs.length=>EZ (λa:Int×Int=>(a.1,a.2+(p.length:Int))) xs (0,0) h;simp only;repeat'(first|exact trivial|apply eS rfl|apply AB|refine rX e ?_ ?_|refine rC ?_ ?_<;>intro b<;>try(cases b;done))
  .exact b
  .have d:j<xs.length:=IN.1 b;have K:=q _ (AD xs (0,0) d);refine⟨⟨by omega,by omega⟩,?_⟩;rw[w];simp only[AQ];omega
  .omega
  .have d:j<xs.length:=IN.1 b;have z:A4 p.length (xs.take (j+1))=A4 p.length (xs.take j)++[((xs.getD j (0,0)).1,(xs.getD j (0,0)).2+(p.length:Int))]:=y d;refine⟨⟨j+1,d⟩,by simp only;omega,AC [(3,.nm 3),(4,.nm 4),(5,.nm 5),(29,.nm 29),(10,.nm 10),(60,.nm 60)] rfl rfl ?_ ?_⟩
   .simp only[z];first|exact eN|refine eM ?_
   first|exact eN|refine eM ?_
  .rw[A,E];simp only[AQ];omega
  .omega
  have d:xs.take j=xs:=As (P6.1 b);have F:=r l;rw[d];refine⟨⟨i+1,l⟩,by simp only;omega,AC [(3,.nm 3),(4,.nm 4),(5,.nm 5),(29,.nm 29)] rfl rfl ?_ ?_⟩
  .simp only[F,<-QK];first|exact eN|refine eM ?_
  first|exact eN|refine eM ?_
 have C:i=g.length:=by
  have:=P6.1 b;omega
 subst C;rw[A9A]at o;rw[o]at s;exact fI e [.cell 4 25] (by rw[<-s];exact eR)
def E5 (l:List (Int×Int)) (e:Int):Int×Bool:=match l with
 | []=>(0,false)
 | a :: l=>if a.1=e then (a.2,true) else E5 l e
theorem Yv (e:Int) (l:List (Int×Int)) {k:Nat} (h:k<l.length):E5 (l.drop k) e=if (l.getD k (0,0)).1=e then ((l.getD k (0,0)).2,true) else E5 (l.drop (k+1)) e:=by
 rw[OR h];have e:l.getD k (0,0)=l[k]:=by simp[AS,h]
 rw[e];rfl
def A68:AZ:={ ins:=[DZ,T3,T3],pre:=λ(f,n,_,_)=>DB f/\0<=n/\n<(List.length f:Int),out:=λ(f,n,e,_)=>[.p T3 (E5 (List.getD f n.toNat (0,[])).2 e).1,.p .bool (E5 (List.getD f n.toNat (0,[])).2 e).2] }
theorem A9C:Ab Tryz.prog 123 A68:=by
 refine fK [0,1,2,3,6,7,9,15,16,17,18,24] Tryz.func123 Tryz.ntmps123 AH ?_;rintro w0 O0 ⟨f,n,e,u⟩ c-⟨hf,h0,h1⟩;simp only[A68,AM];repeat'(first|exact trivial|apply eS rfl|apply AB|refine rX c ?_ ?_|refine rC ?_ ?_<;>intro a<;>try(cases a;done))
 .exact⟨h0,h1⟩
 generalize g:(f.getD n.toNat (0,[])).2=xs at *;have i:xs.length<=100000:=by
  rw[<-g];have hn:n.toNat<f.length:=by
   have h0:(0:Int)<=n:=h0;have h1:(n:Int)<(List.length f:Int):=h1;exact(AFQ h0).2 h1
  exact hf.2 _ (AD f (0,[]) hn)
 refine AI (ι:={k:Nat//k<=xs.length/\E5 xs e=E5 (xs.drop k) e}) (λk=>⟨[(2,.p T3 e),(15,.p DM xs),(16,.p (.int .i64) (xs.length:Int)),(17,.p (.int .i64) (k.1:Int))],[]⟩) (λk=>xs.length-k.1) ⟨0,IS _,rfl⟩ (AC [] rfl rfl ?_ ?_) (λk=>?_)
 .first|exact eN|refine eM ?_
 .first|exact eN|refine eM ?_
 obtain⟨k,hk,d⟩:=k;repeat'(first|exact trivial|apply eS rfl|apply AB|refine rX c ?_ ?_|refine rC ?_ ?_<;>intro a<;>try(cases a;done))
 .exact a
 .have b:k<xs.length:=IN.1 (by assumption);have h:=Yv e xs b;rw[BY a]at h;rw[d,h];exact fI c [.tmp 6,.tmp 7]
 .omega
 .have b:k<xs.length:=IN.1 (by assumption);have h:=Yv e xs b;rw[An a]at h;refine⟨⟨k+1,b,d.trans h⟩,by simp only;omega,AC [] rfl rfl ?_ ?_⟩
  .first|exact eN|refine eM ?_
  first|exact eN|refine eM ?_
 have b:xs.drop k=[]:=B0 (P6.1 a);rw[b]at d;rw[d];exact fI c [.tmp 6,.tmp 7] (by first|exact eR|refine UO ?_;exact⟨rfl,rfl⟩)
section
attribute [local go_sem] A68
def CR (f:List AE):Int->List Int->Int×Bool
 | n,[]=>(n,true)
 | n,e :: p=>if (E5 (AO f n) e).2=true then CR f (E5 (AO f n) e).1 p else (0,false)
theorem Kn {p:List Int} {k:Nat} (h:k<p.length):p.drop k=p.getD k 0 :: p.drop (k+1):=by
 rw[OR h];simp[AS,h]
theorem Yw {l:List (Int×Int)} {e:Int} (h:(E5 l e).2=true):∃a∈l,a.1=e/\a.2=(E5 l e).1:=by
 induction l with
 | nil=>simp[E5]at h
 | cons a l g =>
  simp only[E5]at h ⊢;split
  .rename_i c;exact⟨a,by simp,c,rfl⟩
  rename_i c;rw[An c]at h;obtain⟨b,f,h1,d⟩:=g h;exact⟨b,by simp[f],h1,d⟩
theorem A2C {l:List (Int×Int)} (hs:MJ l) (hn:∀a∈l,0<=a.2) (e:Int):E5 l e=if YH l e<0 then (0,false) else (YH l e,true):=by
 cases h:(E5 l e).2 with
 | true =>
  obtain⟨a,ha,g,i⟩:=Yw h;have d:=f5 hs ha;rw[g]at d;have:=hn a ha;rw[An (by omega),d,i,<-h]
 | false =>
  have c:∀a∈l,a.1≠e:=by
   intro a ha g;clear hs hn;induction l with
   | nil=>cases ha
   | cons b l f =>
    simp only[E5]at h;split at h
    .cases h
    rename_i j;rcases DO.1 ha with rfl|ha
    .exact j g
    exact f h ha
  have d:YH l e=-1:=by
   unfold YH;clear hs hn h;generalize (-1:Int)=t;induction l with
   | nil=>rfl
   | cons b l f =>
    rw[ON,An (c b (by simp))];exact f (λa ha=>c a (by simp[ha]))
  have h0:(E5 l e).1=0:=by
   clear hs hn d;induction l with
   | nil=>rfl
   | cons b l f =>
    simp only[E5];rw[An (c b (by simp))];refine f ?_ (λa ha=>c a (by simp[ha]));simp only[E5]at h
    rwa [An (c b (by simp))]at h
  rw[d,BY (by decide),<-h0,<-h]
theorem R7 {f:List AE} (hf:AR f) (hs:∀x∈f,MJ x.2):∀(p:List Int) (n:Int),CR f n p=match BX f n p with|some m=>(m,true)|none=>(0,false)
 | [],n=>rfl
 | e :: p,n=>by
  have h:=A2C (FU hs n) (λa ha=>(Ah hf ha).1) e;simp only[CR,BX];rw[h];by_cases b:YH (AO f n) e<0
  .rw[BY b,BY b];rfl
  rw[An b,An b];exact R7 hf hs p _
def atS:AZ:={ ins:=[DZ,F2],pre:=λ(f,_,_)=>AR f/\0<List.length f,out:=λ(f,p,_)=>[.p T3 (CR f 0 p).1,.p .bool (CR f 0 p).2] }
attribute [local go_sem] atS
theorem AAf:Ab Tryz.prog 68 atS:=by
 refine fK [0,1,2,4,5,6,8,9,10,11,12,13,14,25] Tryz.func68 Tryz.ntmps68 (AF A9C AH) ?_;rintro w0 O0 ⟨f,p,u⟩ e ⟨-,⟨i,-⟩,-⟩ ⟨hf,h0⟩;simp only[AQ]at i;simp only[atS,AM];have j:DB f:=⟨hf.1,λx l=>(hf.2 x l).1⟩;have h0:0<f.length:=h0;repeat'(first|exact trivial|apply eS rfl|apply AB|refine rX e ?_ ?_|refine rC ?_ ?_<;>intro b<;>try(cases b;done))
 refine AI (ι:={s:Nat×Int//s.1<=p.length/\(0<=s.2/\s.2<(f.length:Int))/\CR f 0 p=CR f s.2 (p.drop s.1)}) (λs=>⟨[(2,.bp 2 [] 0),(6,.p T3 s.1.2),(11,.p F2 p),(12,.p (.int .i64) (p.length:Int)),(13,.p (.int .i64) (s.1.1:Int))],[(2,.box 25 true [.p Ex f])]⟩) (λs=>p.length-s.1.1) ⟨(0,0),IS _,⟨ABP 0,by show (0:Int)<_;omega⟩,rfl⟩ (AC [(2,.nm 2)] rfl rfl ?_ ?_) (λs=>?_)
 .first|exact eN|refine eM ?_
 .first|exact eN|refine eM ?_
 obtain⟨⟨k,n⟩,hk,hn,d⟩:=s;simp only at hk hn d ⊢;repeat'(first|exact trivial|apply eS rfl|apply AB|refine rX e ?_ ?_|refine rC ?_ ?_<;>intro b<;>try(cases b;done))
 .exact b
 .exact⟨j,hn⟩
 .have c:k<p.length:=IN.1 (by assumption);have h1:CR f 0 p=(0,false):=by
   rw[d,Kn c];simp only[CR];rw[An (by rw[b];simp)]
  exact fI e [.tmp 4,.tmp 5] (by rw[h1];exact eR)
 .omega
 .have c:k<p.length:=IN.1 (by assumption);have h1:=d;rw[Kn c]at h1;simp only[CR]at h1;rw[BY b]at h1;obtain⟨a,ha,-,h⟩:=Yw b;have g:=Ah hf ha;rw[h]at g;refine⟨⟨(k+1,(E5 (f.getD n.toNat (0,[])).2 (p.getD k 0)).1),c,g,h1⟩,by simp only;omega,AC [(2,.nm 2)] rfl rfl ?_ ?_⟩
  .first|exact eN|refine eM ?_
  first|exact eN|refine eM ?_
 have c:p.drop k=[]:=B0 (P6.1 b);rw[c]at d;exact fI e [.tmp 4,.tmp 5] (by rw[d];first|exact eR|refine UO ?_;exact⟨rfl,rfl⟩)
end
def A7 (h:AG):Int:=ZO h (sb [65,82,71,83])
def GA (h:AG) (i:Nat):List Int:=A7 h :: (List.replicate i (BI h).rest++[(BI h).first])
theorem A0x (h:AG) (i:Nat):(GA h i).length=i+2:=by simp[GA]
def G7 (pl:Nat->List Int):Nat->List (List AE)->List (List AE)
 | _,[]=>[]
 | i,k :: l=>Ak (pl i) k :: G7 pl (i+1) l
noncomputable def CL (h:AG) (pl:Nat->List Int):Nat->List AE->List (List AE)->List AE×Bool
 | _,f,[]=>(f,true)
 | i,f,k :: l=>if (Hj h f (Ak (pl i) k)).2=true then CL h pl (i+1) (Hj h f (Ak (pl i) k)).1 l else ([],false)
theorem Ps {pl:Nat->List Int} {x:List AE}:∀ {l:List (List AE)} {i:Nat},x∈G7 pl i l->∃j,j<l.length/\x=Ak (pl (i+j)) (l.getD j [])
 | k :: l,i,h=>by
  rcases DO.1 h with rfl|h
  .exact⟨0,by simp,rfl⟩
  obtain⟨j,a,rfl⟩:=Ps h;exact⟨j+1,by simpa using a,by rw[show i+(j+1)=i+1+j by omega];rfl⟩
theorem Ln {pl:Nat->List Int}:∀ {l:List (List AE)} {i j:Nat},j<l.length->Ak (pl (i+j)) (l.getD j [])∈G7 pl i l
 | k :: l,i,0,h=>ZI
 | k :: l,i,j+1,h=>by
  have:=Ln (pl:=pl) (l:=l) (i:=i+1) (j:=j) (by simpa using h);rw[show i+(j+1)=i+1+j by omega];exact NO _ this
theorem Yx {h:AG} {pl:Nat->List Int}:∀ {l:List (List AE)} {i:Nat} {f:List AE},(∀x∈G7 pl i l,x.length<=100)->(CL h pl i f l).1.length<=f.length+100*l.length
 | [],i,f,_=>Is _
 | k :: l,i,f,c=>by
  unfold CL;split
  .have h1:=gU (h:=h) (a:=f) (b:=Ak (pl i) k);have e:=c _ (ZI (a:=Ak (pl i) k) (l:=G7 pl (i+1) l));have g:=Yx (h:=h) (pl:=pl) (l:=l) (i:=i+1) (f:=(Hj h f (Ak (pl i) k)).1) λx d=>c x (NO _ d);simp only[Of];omega
  simp
section
variable {h:AG} (hh:cK h)
include hh
theorem Yy {pl:Nat->List Int}:∀(l:List (List AE)) (i:Nat) (f:List AE) (L:List (List AE)),NM h L (f,true)->(∀x∈L,VF h x)->(∀x∈G7 pl i l,VF h x/\x.length<=100)->f.length+100*l.length<=10000->NM h (L++G7 pl i l) (CL h pl i f l)
 | [],i,f,L,H,o,q,r=>by
  show NM h (L++[]) (f,true);rw[QQ];exact H
 | k :: l,i,f,L,H,o,q,r=>by
  have hu:=q _ (ZI (a:=Ak (pl i) k) (l:=G7 pl (i+1) l));have g:=H.vf rfl;simp only[Of]at r;have v:=gU (h:=h) (a:=f) (b:=Ak (pl i) k);have hs:NM h (L++[Ak (pl i) k]) (Hj h f (Ak (pl i) k)):=by
   refine(A0r hh g.wt.1 hu.1 (by have:=hu.2;show f.length+_<=10000;omega)).congr λX j=>?_;rw[Yp,Hz];constructor
   .rintro⟨⟨m,d⟩,s⟩ x t;rcases OF.1 t with c|c
    .exact A60 hh.ok o g.wt.1 j.1 g.hom d x c
    rw[QL.1 c];exact s
   intro n;exact⟨g.least X j λx d=>n x (SI _ d),n _ (AA3 _ (QL.2 rfl))⟩
  show NM h (L++Ak (pl i) k :: G7 pl (i+1) l) (CL h pl i f (k :: l));unfold CL;split
  .rename_i p;have:=Yy l (i+1) (Hj h f (Ak (pl i) k)).1 (L++[Ak (pl i) k]) (by rw[<-p];exact hs) (λx d=>by
    rcases OF.1 d with c|c
    .exact o x c
    rw[QL.1 c];exact hu.1) (λx d=>q x (NO _ d)) (by omega)
   rwa [QK,List.singleton_append]at this
  rename_i p;refine .inr ⟨rfl,λX j n=>?_⟩;rcases hs with ⟨e,-⟩|⟨-,u⟩
  .exact p e
  refine u X j λx d=>n x ?_;rcases OF.1 d with c|c
  .exact SI _ c
  exact AA3 _ (by rw[QL.1 c];exact ZI)
omit hh in
theorem A2D {f:List AE} (a:Wt h f):NM h [f] (f,true):=.inl ⟨rfl,a,Hz.2 ⟨id,gI a.1.str⟩,λ_ _ b=>Hz.1 b⟩
end
theorem sG {h:AG} (s:Zd h) {X g:List AE} (j:VF h X) (q:VF h g) {p:List Int} {n:Int} (t:BX X 0 p=some n) {v:Int->Int} (k:Uh h g [] X v) (v0:v 0=n):∃m,IB h (Ak p g) X m:=by
 obtain⟨m,c,e⟩:=mY s j.good j.pos j.ty j.str t;have C:=Dm p g;have A:=cL p;have z:=q.pos;have l:=λi b f=>F8 (p:=p) (g:=g) (i:=i) b f;have o:=λy u w=>DY (p:=p) (g:=g) (y:=y) u w;refine⟨λi=>if i<(p.length:Int) then m i else v (i-p.length),?_,λi b f=>?_,λi b f=>?_,λi b f x d=>?_⟩
 .try simp only
  split
  .exact c.zero
  have r:(p.length:Int)=0:=by omega
  rw[r]at e ⊢;rw[Int.sub_zero,v0,<-e];exact c.zero
 .try simp only
  split
  .exact c.rng i b (by omega)
  exact k.rng _ (by omega) (by omega)
 .try simp only
  split
  .rename_i hi;have:=c.ty i b (by omega);rw[Yl p b hi]at this;rw[l i b hi];exact this
  have:=k.ty (i-p.length) (by omega) (by omega);rw[show i.toNat=((p.length:Int)+(i-p.length)).toNat by omega,o _ (by omega) (by omega)];exact this
 try simp only
 split
 .rename_i hi;rw[AO,l i b hi]at d;have:=c.arc i b (by omega) x (by rw[AO,Yl p b hi];exact d);rw[this];rw[QL.1 d];try simp only
  split
  .rfl
  rw[show i+1=(p.length:Int) by omega,AGs,v0,e]
 rename_i hi;rw[AO,show i.toNat=((p.length:Int)+(i-p.length)).toNat by omega,o _ (by omega) (by omega)]at d;obtain⟨a,ha,rfl⟩:=DF.1 d;have B:=Ah q.good ha;try simp only
 rw[An (by omega),show a.2+(p.length:Int)-p.length=a.2 by omega];exact k.arc _ (by omega) (by omega) a ha
theorem A2E {h:AG} {p:List Int} {a b:List AE} (va:VF h a) (D:VF h b) {m:Int->Int} (d:IB h a b m):∃k,IB h (Ak p a) (Ak p b) k:=by
 have la:=Dm p a;have F:=Dm p b;have s:=λi c f=>F8 (p:=p) (g:=a) (i:=i) c f;have t:=λi c f=>F8 (p:=p) (g:=b) (i:=i) c f;have u:=λy q r=>DY (p:=p) (g:=a) (y:=y) q r;have v:=λy q r=>DY (p:=p) (g:=b) (y:=y) q r;have E:=va.pos;have o:=d.zero;refine⟨λi=>if i<(p.length:Int) then i else (p.length:Int)+m (i-p.length),?_,λi c f=>?_,λi c f=>?_,λi c f x n=>?_⟩
 .try simp only
  split
  .rfl
  rw[show (0:Int)-p.length=0 by omega,o];omega
 .try simp only
  split
  .omega
  have:=d.rng (i-p.length) (by omega) (by omega);omega
 .try simp only
  split
  .rename_i hi;rw[s i c hi,t i c hi];exact Kg h _
  have j:=d.rng (i-p.length) (by omega) (by omega);have:=d.ty (i-p.length) (by omega) (by omega);rw[show i.toNat=((p.length:Int)+(i-p.length)).toNat by omega,u _ (by omega) (by omega),v _ j.1 j.2];exact this
 try simp only
 split
 .rename_i hi;rw[AO,s i c hi]at n;rw[QL.1 n,AO,t i c hi];try simp only
  have:(if i+1<(p.length:Int) then i+1 else (p.length:Int)+m (i+1-p.length))=i+1:=by
   split
   .rfl
   rw[show i+1-(p.length:Int)=0 by omega,o];omega
  rw[this];exact Dy (AFF _ _) (QL.2 rfl)
 have j:=d.rng (i-p.length) (by omega) (by omega);rw[AO,show i.toNat=((p.length:Int)+(i-p.length)).toNat by omega,u _ (by omega) (by omega)]at n;obtain⟨y,A,rfl⟩:=DF.1 n;have w:=Ah va.good A;have h1:=d.arc (i-p.length) (by omega) (by omega) y A;obtain⟨z,o,B,C⟩:=EV (l:=AO b (m (i-p.length))) (e:=y.1) (by rw[h1];exact(d.rng _ w.1 w.2).1);try simp only
 rw[An (by omega),show y.2+(p.length:Int)-p.length=y.2 by omega,AO,v _ j.1 j.2,<-h1,<-C,<-B,AGt];exact Dy (a:=(z.1,z.2+(p.length:Int))) (G2 (FU D.str _)) (DF.2 ⟨z,o,rfl⟩)
theorem nD {h:AG} {f:List AE} (vf:VF h f) {n e:Int} (h0:0<=Bz (AO f n) e) (p:List Int):BX f n (e :: p)=BX f (Bz (AO f n) e) p:=by
 show (if YH (AO f n) e<0 then none else BX f (YH (AO f n) e) p)=_;rw[A5S (FU vf.str n) h0,An (by omega)]
theorem Yz {h:AG} {w:LW} {f:List AE} (vf:VF h f):∀(k:Nat) (a out:List Int) (n:Int) (l:List Int) (b:Bool),R6 h w f k a out n=(l,b,0)->∃t,l=out++t/\∀i,i<t.length->BX f n (List.replicate i w.rest++[w.first])=some (t.getD i 0)
 | 0,a,out,n,l,b,e=>by
  simp[R6]at e
 | k+1,a,out,n,l,b,e=>by
  unfold R6 at e;split at e
  .simp at e
  split at e
  .have:=bY (λx=>x.1) e;exact⟨[],by rw[QQ];exact this.symm,λi hi=>by simp at hi⟩
  split at e
  .have:=bY (λx=>x.1) e;exact⟨[],by rw[QQ];exact this.symm,λi hi=>by simp at hi⟩
  split at e
  .simp at e
  rename_i h1 d h0;have c:BQ h w (f.getD n.toNat (0,[]))=2:=by
   unfold BQ at h1 d h0 ⊢;grind
  obtain⟨c1,c2⟩:=cN c;obtain⟨t,rfl,g⟩:=Yz vf k _ _ _ _ _ e;refine⟨Bz (f.getD n.toNat (0,[])).2 w.first :: t,by simp,λi hi=>?_⟩;cases i with
  | zero=>exact nD vf c1 []
  | succ i =>
   rw[AFA,oF,nD vf c2];exact g i (by simpa using hi)
theorem nE {h:AG} {f:List AE} {n:Int} {l:List Int} {b:Bool} (e:Am h f n=(l,b,0)):Pr h=true:=by
 unfold Am at e;split at e
 .assumption
 simp at e
theorem sH {h:AG} {f:List AE} (vf:VF h f) {n:Int} {l:List Int} {b:Bool} (a:BX f 0 [A7 h]=some n) (e:Am h f n=(l,b,0)) {i:Nat} (hi:i<l.length):BX f 0 (GA h i)=some (l.getD i 0):=by
 unfold Am at e;rw[BY (nE e)]at e;obtain⟨t,rfl,d⟩:=Yz vf _ _ _ _ _ _ e;have h1:=d i hi;have a:(if YH (AO f 0) (A7 h)<0 then none else some (YH (AO f 0) (A7 h)))=some n:=a;split at a
 .cases a
 rename_i c;injection a with a
 show (if YH (AO f 0) (A7 h)<0 then none else BX f (YH (AO f 0) (A7 h)) _)=_;rw[An c,a];exact h1
theorem A69 {h:AG} (e:Pr h=true) (ha:0<=A7 h) (i:Nat):FtP h (GA h i):=by
 obtain⟨⟨h1,b⟩,-⟩:=nC e;have c:=gW h (sb [70,73,82,83,84]);have d:=gW h (sb [82,69,83,84]);have f:=gW h (sb [65,82,71,83]);intro x a;rcases DO.1 a with rfl|a
 .exact⟨ha,f.2⟩
 rcases OF.1 a with a|a
 .rw[(AG7.1 a).2];exact⟨b,d.2⟩
 rw[QL.1 a];exact⟨h1,c.2⟩
def Bn (h:AG) (ar:Int) (f:List AE):Int :=
 if ar<1\/2<ar then 2 else if Ae h f≠0 then Ae h f else if A7 h<0 then 13 else if (CR f 0 [A7 h]).2=false then 13
 else if (Am h f (CR f 0 [A7 h]).1).2.2≠0\/(Am h f (CR f 0 [A7 h]).1).2.1=false\/((Am h f (CR f 0 [A7 h]).1).1.length:Int)≠ar then 13 else 0
structure Y0 (h:AG) (ar:Int) (f:List AE):Prop where
 arb:1<=ar/\ar<=2
 chk:Ae h f=0
 args:0<=A7 h
 lw:Pr h=true
 walk:∀i:Nat,(i:Int)<ar->∃n,BX f 0 (GA h i)=some n
theorem A0y {h:AG} {ar:Int} {f:List AE} (vf:Ae h f=0->VF h f) (e:Bn h ar f=0):Y0 h ar f:=by
 unfold Bn at e;split at e
 .cases e
 rename_i h1;split at e
 .rename_i a;exact absurd e a
 rename_i a;have a:Ae h f=0:=by simpa using a
 have v:=vf a;split at e
 .cases e
 rename_i j;split at e
 .cases e
 rename_i d;split at e
 .cases e
 rename_i b;have hp:=R7 v.good v.str [A7 h] 0;cases c:BX f 0 [A7 h] with
 | none =>
  rw[c]at hp;rw[hp]at d;exact absurd rfl d
 | some n =>
  rw[c]at hp;have hp:CR f 0 [A7 h]=(n,true):=hp;rw[hp]at b;have b:(Am h f n).2.2=0/\(Am h f n).2.1=true/\((Am h f n).1.length:Int)=ar:=by
   refine⟨?_,?_,?_⟩<;>grind
  have g:Am h f n=((Am h f n).1,true,0):=AGw rfl (AGw b.2.1 b.1);exact⟨by omega,a,by omega,nE g,λi hi=>⟨_,sH v c g (by omega)⟩⟩
section
open Go
end
section
attribute [local go_sem] sF Pq atS Dl
theorem VF.h0 {h:AG} {f:List AE} (vf:VF h f):0<h.1.length:=by
 have hp:=vf.pos;have:=vf.ty _ (AD f (0,[]) (k:=0) (by omega));omega
noncomputable def A2F (h:AG) (f:List AE) (p:List Int) (g:List AE):List AE×Bool:=Dz h f (Ak p g)
noncomputable def ABu:AZ:={ ins:=[ED,DZ,F2,DZ],pre:=λ(h,f,p,g,_)=>HU h/\VF h f/\VF h g/\FtP h p/\List.length p<=20/\List.length f<=60/\List.length g<=20,out:=λ(h,f,p,g,_)=>[.p DZ (A2F h f p g).1,.p .bool (A2F h f p g).2] }
theorem ABv:Ab Tryz.prog 126 ABu:=by
 refine fK [0,1,2,3,4,5,7,8,9] Tryz.func126 Tryz.ntmps126 (AF A67 (AF m8 AH)) ?_;rintro w0 O0 ⟨⟨i,hf⟩,f,p,g,u⟩ a-⟨hu,vf,b,d,lp,lf,j⟩;have e:=Yr vf.h0 b d (by omega) (by omega);have h:=Dm p g;simp only[ABu,AM];repeat'(first|exact trivial|apply eS rfl|apply AB|refine rX a ?_ ?_|refine rC ?_ ?_<;>intro c<;>try(cases c;done))
 .exact⟨⟨by omega,b.good⟩,hu,vf,e,by omega⟩
 exact fI a [.cell 8 25,.tmp 9] (by unfold A2F;exact eR)
def Pt (f:List AE) (p:List Int):List AE:=if (CR f 0 p).2=true then AL f (CR f 0 p).1 else []
def ABw:AZ:={ ins:=[DZ,F2],pre:=λ(f,p,_)=>AR f/\I8 f/\0<List.length f/\((CR f 0 p).2=true->0<=(CR f 0 p).1/\(CR f 0 p).1<(List.length f:Int)),out:=λ(f,p,_)=>[.p DZ (Pt f p),.p .bool (CR f 0 p).2] }
theorem ABx:Ab Tryz.prog 79 ABw:=by
 refine fK [0,1,2,4,5,6,7,15] Tryz.func79 Tryz.ntmps79 (AF AAf (AF A56 AH)) ?_;rintro w0 O0 ⟨f,p,u⟩ b-⟨hf,hs,h0,c⟩;simp only[ABw,AM];repeat'(first|exact trivial|apply eS rfl|apply AB|refine rX b ?_ ?_|refine rC ?_ ?_<;>intro a<;>try(cases a;done))
 .exact⟨hf,h0⟩
 .exact fI b [.cell 4 25,.tmp 5] (by unfold Pt;rw[a,An (by simp)];exact eR)
 .exact⟨hf,hs,c a⟩
 exact fI b [.cell 4 25,.tmp 5] (by unfold Pt;rw[a,BY rfl];exact eR)
end
noncomputable def B8 (h:AG) (ar:Int) (f:List AE) (A:List (List AE)):List AE×Bool :=
 if (A.length:Int)≠ar then ([],false) else if (CL h (GA h) 0 f A).2=true then (Gb (CL h (GA h) 0 f A).1 (A7 h),true) else ([],false)
structure RA (h:AG) (ar:Int) (f:List AE) (A:List (List AE)):Prop where
 hh:cK h
 top:Zd h
 vf:VF h f
 lf:f.length<=12
 ok:Y0 h ar f
 va:∀x∈A,VF h x/\x.length<=12
 la:A.length<=3
theorem RA.wt {h:AG} {ar:Int} {f:List AE} {A:List (List AE)} (r:RA h ar f A):Wt h f:=⟨r.vf,A2v r.ok.chk⟩
theorem RA.un {h:AG} {ar:Int} {f:List AE} {A:List (List AE)} (r:RA h ar f A):∀x∈G7 (GA h) 0 A,VF h x/\x.length<=100:=λx b=>by
 obtain⟨j,a,rfl⟩:=Ps b;have hp:=A0x h (0+j);have hk:=r.va _ (AD A [] a);have c:=r.la;exact⟨Yr r.vf.h0 hk.1 (A69 r.ok.lw r.ok.args _) (by omega) (by omega),by rw[Dm];omega⟩
theorem RA.all {h:AG} {ar:Int} {f:List AE} {A:List (List AE)} (r:RA h ar f A):NM h (f :: G7 (GA h) 0 A) (CL h (GA h) 0 f A) :=
 Yy r.hh A 0 f [f] (A2D r.wt) (by simp[r.vf]) r.un (by have:=r.lf;have:=r.la;omega)
theorem RA.len {h:AG} {ar:Int} {f:List AE} {A:List (List AE)} (r:RA h ar f A):(CL h (GA h) 0 f A).1.length<=312:=by
 have:=Yx (h:=h) (pl:=GA h) (l:=A) (i:=0) (f:=f) λx a=>(r.un x a).2;have:=r.lf;have:=r.la;omega
theorem RA.res {h:AG} {ar:Int} {f:List AE} {A:List (List AE)} (r:RA h ar f A) (a:(B8 h ar f A).2=true):(A.length:Int)=ar/\TU h (f :: G7 (GA h) 0 A) (CL h (GA h) 0 f A).1/\B8 h ar f A=(Gb (CL h (GA h) 0 f A).1 (A7 h),true):=by
 unfold B8 at a ⊢;by_cases h1:(A.length:Int)≠ar
 .rw[BY h1]at a;cases a
 rw[An h1]at a ⊢;by_cases b:(CL h (GA h) 0 f A).2=true
 .rw[BY b];exact⟨by omega,r.all.vf b,rfl⟩
 rw[An b]at a;cases a
theorem sI {h:AG} {ar:Int} {f:List AE} {A:List (List AE)} (a:(B8 h ar f A).2=false):(B8 h ar f A).1=[]:=by
 unfold B8 at a ⊢;split
 .rfl
 rename_i h1;rw[An h1]at a;split
 .rename_i b;rw[BY b]at a;cases a
 rfl
theorem sJ {h:AG} {ar:Int} {f:List AE} {A B:List (List AE)} (r:RA h ar f A) (s:RA h ar f B) (E:A.length=B.length) (v:∀i,i<A.length->MA h (A.getD i []) (B.getD i [])=true) (y:(B8 h ar f B).2=true):(B8 h ar f A).2=true/\MA h (B8 h ar f A).1 (B8 h ar f B).1=true:=by
 obtain⟨D,a,t⟩:=s.res y;have hk:=r.hh.ok;have g:sD h (f :: G7 (GA h) 0 A) (CL h (GA h) 0 f B).1:=λx b=>by
  rcases DO.1 b with rfl|b
  .exact a.hom x ZI
  obtain⟨j,n,rfl⟩:=Ps b;have va:=r.va _ (AD A [] n);have e:=s.va _ (AD B [] (by omega:j<B.length));obtain⟨m,d⟩:=A5o va.1.good va.1.pos e.1.good e.1.pos (v j n);obtain⟨k,q⟩:=A2E (p:=GA h (0+j)) va.1 e.1 d;have h1:=r.un _ b;have u:=s.un _ (Ln (pl:=GA h) (l:=B) (i:=0) (j:=j) (by omega));obtain⟨F,C⟩:=a.hom _ (NO _ (Ln (pl:=GA h) (l:=B) (i:=0) (j:=j) (by omega)));exact⟨_,Ki hk h1.1.good h1.1.ty u.1.ty a.wt.1.ty q C⟩
 rcases r.all with ⟨o,c⟩|⟨-,w⟩
 .have z:B8 h ar f A=(Gb (CL h (GA h) 0 f A).1 (A7 h),true):=by
   unfold B8;rw[An (by omega),BY o]
  obtain⟨m,d⟩:=c.least _ a.wt g;have G:=r.len;have H:=s.len;obtain⟨k,q⟩:=nB hk c.wt.1.pf a.wt.1.pf (by omega) (by omega) d (A7 h);rw[z,t];have v1:=WN c.wt.1.pf (by omega) (A7 h);exact⟨rfl,gC v1.good v1.pos v1.ro q⟩
 exact(w _ a.wt g).elim
structure AFx (h:AG) (f:List AE) (A:List (List AE)) (g:List AE):Prop where
 vf:VF h g
 len:g.length<=4096
 chk:BE h g=0/\Ae h g=0
 sub:MA h (Gb f (A7 h)) g=true
 kid:∀i,i<A.length->(CR f 0 (GA h i)).2=true/\(Dz h (Pt f (GA h i)) (A.getD i [])).2=true
theorem Y2 {h:AG} {f:List AE} (vf:VF h f) {p:List Int} {n:Int} (a:BX f 0 p=some n):CR f 0 p=(n,true):=by
 rw[R7 vf.good vf.str,a]
theorem nF {h:AG} {f:List AE} (vf:VF h f) {p:List Int} {n:Int} (a:BX f 0 p=some n):Pt f p=AL f n:=by
 unfold Pt;rw[Y2 vf a,BY rfl]
theorem A0z {h:AG} {f:List AE} (vf:VF h f) {n:Int} (n0:0<=n) (n1:n<(f.length:Int)):(AL f n).length<=f.length:=by
 rw[Fi];exact(FH vf.good n0 n1).ok.len
theorem E6 {h:AG} {ar:Int} {f:List AE} {A:List (List AE)} (r:RA h ar f A) (C:(B8 h ar f A).2=true):AFx h f A (B8 h ar f A).1:=by
 obtain⟨H,a,v⟩:=r.res C;have hk:=r.hh.ok;have I:=r.len;have J:=r.lf;rw[v];generalize (CL h (GA h) 0 f A).1=u at *;have w:=A9z a.wt (by omega) (A7 h);have bl:=A65 a.wt.1.pf (by omega) (A7 h);have o:=WN r.vf.pf (by omega) (A7 h);have s:=A5X r.hh.hu w.1 (by omega);have y:=a.hom f ZI;obtain⟨m,d⟩:=y;obtain⟨k,q⟩:=nB hk r.vf.pf a.wt.1.pf (by omega) (by omega) d (A7 h);refine⟨w.1,by show (Gb u (A7 h)).length<=4096;omega,⟨s,?_⟩,gC o.good o.pos o.ro q,λi hi=>?_⟩
 .unfold Ae;rw[BY s];exact WL.2 w.2
 obtain⟨n,hn⟩:=r.ok.walk i (by omega);obtain⟨n0,n1,z⟩:=A5p r.vf.good a.wt.1.good (a.wt.1.srt r.hh.hu) d r.vf.pos _ n hn;rw[Y2 r.vf hn,nF r.vf hn];refine⟨rfl,?_⟩;have va:=r.va _ (AD A [] hi);have t:=Ln (pl:=GA h) (l:=A) (i:=0) (j:=i) hi;rw[iN]at t;obtain⟨K,D⟩:=a.hom _ (NO _ t);obtain⟨b,c,p⟩:=A62 va.1 a.wt.1 D;rw[z]at b;injection b with b
 rw[<-b]at c p;have g:=Td a.wt.1.pf c.1 c.2;have G:=Td r.vf.pf n0 n1;obtain⟨L,E⟩:=A5o va.1.good va.1.pos g.good g.pos p;obtain⟨M,F⟩:=A0t hk r.vf.pf a.wt.1.pf (Lk d) n0 n1;have:=A0z r.vf n0 n1;obtain⟨V,x⟩:=A0q r.hh.hu G va.1 (by omega) g.ty F E;rcases R4 (h:=h) (AL f n) (A.getD i []) with ⟨W,-,e⟩|⟨-,B⟩
 .rw[e]
 exact(B V x).elim
theorem A9D {h:AG} {ar:Int} {f:List AE} (hh:cK h) (b:Zd h) (vf:VF h f) (ok:Y0 h ar f) {i:Nat} (hi:(i:Int)<ar):(CR f 0 (GA h i)).2=true/\(VF h (Pt f (GA h i))/\(Pt f (GA h i)).length<=f.length)/\(∃m,IB h (Ak (GA h i) (Pt f (GA h i))) f m)/\∃m,IB h (Ak (GA h i) [((0:Int),[])]) f m:=by
 obtain⟨n,hn⟩:=ok.walk i hi;have a:=Yn vf.good vf.pos _ _ hn;rw[Y2 vf hn,nF vf hn];obtain⟨h1,e⟩:=nA vf.pf a.1 a.2;have c:=Td vf.pf a.1 a.2;obtain⟨m,d,-⟩:=mY b vf.good vf.pos vf.ty vf.str hn;exact⟨rfl,⟨c,A0z vf a.1 a.2⟩,sG b vf c hn h1 e,m,d⟩
section
theorem nG (s:ByteArray) (l:List HT) {k:Nat} (h:k<l.length):tyG s k (l.drop k)=if AY (l.getD k Ub).1 s=true then (k:Int) else tyG s (k+1) (l.drop (k+1)):=by
 rw[OR h];have e:l.getD k Ub=l[k]:=by simp[AS,h]
 rw[e];rfl
theorem nH (s:ByteArray) (l:List aU) {k:Nat} (h:k<l.length):ftG s k (l.drop k)=if AY (l.getD k (ByteArray.empty,0)).1 s=true then (k:Int) else ftG s (k+1) (l.drop (k+1)):=by
 rw[OR h];have e:l.getD k (ByteArray.empty,0)=l[k]:=by simp[AS,h]
 rw[e];rfl
def cO:AZ:={ ins:=[ED,T9],pre:=λ_=>True,out:=λ(h,s,_)=>[.p T3 (H0 h s)],lend:=true }
attribute [local go_sem] cO
theorem OH:Ab Tryz.prog 60 cO:=by
 refine fK [0,1,2,4,5,10,20] Tryz.func60 Tryz.ntmps60 AH ?_;rintro w0 O0 ⟨⟨a,hf⟩,s,u⟩ e ⟨⟨⟨g,-⟩,-⟩,-⟩ -;simp only[AQ]at g;simp only[cO,AM];repeat'(first|exact trivial|apply eS rfl|apply AB|refine rX e ?_ ?_|refine rC ?_ ?_<;>intro b<;>try(cases b;done))
 refine AI (ι:={k:Nat//k<=a.length/\tyG s k (a.drop k)=H0 (a,hf) s}) (λk=>⟨[(1,.p T9 s),(2,.bp 2 [] 0),(5,.p (.int .i64) (k.1:Int))],[(2,.box 31 true [.p RB a,.p Sv hf])]⟩) (λk=>a.length-k.1) ⟨0,IS _,rfl⟩ (eW [(2,.nm 2)]) (λk=>?_)
 obtain⟨k,hk,c⟩:=k;have f:=λh:k<a.length=>nG s a h;simp only;repeat'(first|exact trivial|apply eS rfl|apply AB|refine rX e ?_ ?_|refine rC ?_ ?_<;>intro b<;>try(cases b;done))
 .exact b
 .have d:k<a.length:=by exact eV
  rw[f d,BY b]at c;exact fI e [.tmp 4] (by rw[<-c];exact eR)
 .omega
 .have d:k<a.length:=by exact eV
  rw[f d,An (by rw[b];simp)]at c;exact⟨⟨k+1,by omega,c⟩,by simp only;omega,eW [(2,.nm 2)]⟩
 have d:a.drop k=[]:=B0 (by exact eV);rw[d]at c;exact fI e [.tmp 4] (by rw[<-c];first|exact eR|refine UO ?_;rfl)
def Pu:AZ:={ ins:=[ED,T9],pre:=λ_=>True,out:=λ(h,s,_)=>[.p T3 (ZO h s)],lend:=true }
attribute [local go_sem] Pu
theorem gX:Ab Tryz.prog 70 Pu:=by
 refine fK [0,1,2,4,5,10,20] Tryz.func70 Tryz.ntmps70 AH ?_;rintro w0 O0 ⟨⟨f,hf⟩,s,u⟩ d ⟨⟨-,g,-⟩,-⟩ -;simp only[AQ]at g;simp only[Pu,AM];repeat'(first|exact trivial|apply eS rfl|apply AB|refine rX d ?_ ?_|refine rC ?_ ?_<;>intro a<;>try(cases a;done))
 refine AI (ι:={k:Nat//k<=hf.length/\ftG s k (hf.drop k)=ZO (f,hf) s}) (λk=>⟨[(1,.p T9 s),(2,.bp 2 [] 0),(5,.p (.int .i64) (k.1:Int))],[(2,.box 31 true [.p RB f,.p Sv hf])]⟩) (λk=>hf.length-k.1) ⟨0,IS _,rfl⟩ (eW [(2,.nm 2)]) (λk=>?_)
 obtain⟨k,hk,b⟩:=k;have e:=λh:k<hf.length=>nH s hf h;simp only;repeat'(first|exact trivial|apply eS rfl|apply AB|refine rX d ?_ ?_|refine rC ?_ ?_<;>intro a<;>try(cases a;done))
 .exact a
 .have c:k<hf.length:=by exact eV
  rw[e c,BY a]at b;exact fI d [.tmp 4] (by rw[<-b];exact eR)
 .omega
 .have c:k<hf.length:=by exact eV
  rw[e c,An (by rw[a];simp)]at b;exact⟨⟨k+1,by omega,b⟩,by simp only;omega,eW [(2,.nm 2)]⟩
 have c:hf.drop k=[]:=B0 (by exact eV);rw[c]at b;exact fI d [.tmp 4] (by rw[<-b];first|exact eR|refine UO ?_;rfl)
def A6a:AZ:=Pu
attribute [local go_sem] A6a
theorem Y3:Ab Tryz.prog 67 Pu:=by
 refine fK [0,1,2,4,5,6,8,9,10,11,20] Tryz.func67 Tryz.ntmps67 AH ?_;rintro w0 O0 ⟨⟨g,hf⟩,s,u⟩ b ⟨⟨-,f,-⟩,-⟩ -;simp only[AQ]at f;simp only[Pu,AM];repeat'(first|exact trivial|apply eS rfl|apply AB|refine rX b ?_ ?_|refine rC ?_ ?_<;>intro a<;>try(cases a;done))
 refine AI (ι:={k:Nat//k<=hf.length/\ftG s k (hf.drop k)=ZO (g,hf) s}) (λk=>⟨[(1,.p T9 s),(8,.p Sv hf),(9,.p (.int .i64) (hf.length:Int)),(10,.p (.int .i64) (k.1:Int))],[]⟩) (λk=>hf.length-k.1) ⟨0,IS _,rfl⟩ (eW []) (λk=>?_)
 obtain⟨k,hk,c⟩:=k;have e:=λh:k<hf.length=>nH s hf h;simp only;repeat'(first|exact trivial|apply eS rfl|apply AB|refine rX b ?_ ?_|refine rC ?_ ?_<;>intro a<;>try(cases a;done))
 .exact a
 .refine cP 5 b ?_ ?_
  .trivial
  refine AFr (j:=.i64) b (by kernel_rfl) ?_;refine rL b ?_ ?_
  .trivial
  repeat'(first|exact trivial|apply eS rfl|apply AB|refine rX b ?_ ?_|refine rC ?_ ?_<;>intro a<;>try(cases a;done))
  .have d:k<hf.length:=by exact eV
   rw[e d,BY a]at c;exact fI b [.tmp 4] (by rw[<-c];exact eR)
  .omega
  have d:k<hf.length:=by exact eV
  rw[e d,An (by rw[a];simp)]at c;exact⟨⟨k+1,by omega,c⟩,by simp only;omega,eW []⟩
 have d:hf.drop k=[]:=B0 (by exact eV);rw[d]at c;exact fI b [.tmp 4] (by rw[<-c];first|exact eR|refine UO ?_;rfl)
theorem A9E (s:ByteArray) (t:HT):BK Tryz.prog 180 [.p o7 t,.bp 1 [] 0] [(1,.box 9 false [.p T9 s])] [1] (λres c=>res=.p .bool (AY t.1 s)/\c=[(1,.box 9 false [.p T9 s])]):=by
 refine LQ [0,1,2,3] [] [] Tryz.func180 Tryz.ntmps180 AH ?_;intro w0 K O0 ρ0 a d e;simp only[Aq];repeat'(first|exact trivial|apply eS rfl|apply AB|refine rX a ?_ ?_|refine rC ?_ ?_<;>intro b<;>try(cases b;done))
 refine Ev.ent (σ':=⟨[(3,.p .bool (AY t.1 s))],[(1,.box 9 false [.p T9 s])]⟩) ?_ (AC [(1,.nm 1)] rfl rfl ?_ ?_)
 .exact fM a [.tmp 3] (.p .bool (AY t.1 s)) eT ⟨rfl,rfl⟩
 .exact eN
 exact eN
theorem A2G (l:List HT) (s:ByteArray):BK Tryz.prog 177 [.p RB l,.clo 180 [1]] [(1,.box 9 false [.p T9 s])] [1] (λres g=>res=.p T3 (tyG s 0 l)/\g=[(1,.box 9 false [.p T9 s])]):=by
 refine LQ [0,1,4,5,7,8,9,16] [] [] Tryz.func177 Tryz.ntmps177 AH ?_;intro w0 K O0 ρ0 b e j;have i:l.length<=140737488355328:=e.1.1;simp only[Aq];repeat'(first|exact trivial|apply eS rfl|apply AB|refine rX b ?_ ?_|refine rC ?_ ?_<;>intro a<;>try(cases a;done))
 refine AI (ι:={k:Nat//k<=l.length/\tyG s k (l.drop k)=tyG s 0 l}) (λk=>⟨[(0,.p RB l),(1,.clo 180 [1]),(7,.p (.int .i64) (l.length:Int)),(8,.p (.int .i64) (k.1:Int))],[(1,.box 9 false [.p T9 s])]⟩) (λk=>l.length-k.1) ⟨0,IS _,rfl⟩ (eW [(1,.nm 1)]) (λk=>?_)
 obtain⟨k,hk,hf⟩:=k;have f:=λh:k<l.length=>nG s l h;simp only;repeat'(first|exact trivial|apply eS rfl|apply AB|refine rX b ?_ ?_|refine rC ?_ ?_<;>intro a<;>try(cases a;done))
 .have c:k<l.length:=IN.1 a;have d:=f c;refine cP 5 b ?_ ?_
  .exact a
  refine rM b (A9E s (l.getD k Ub)) [(1,.nm 1)] [] ?_ ?_ ?_
  .exact eN
  .exact eN
  rintro _ _ ⟨rfl,rfl⟩;refine⟨[(1,.nm 1)],.p .bool (AY (l.getD k Ub).1 s),[(1,.box 9 false [.p T9 s])],rfl,rfl,?_,?_,rfl,rfl,CV ?_⟩
  .exact eN
  .exact eN
  repeat'(first|exact trivial|apply eS rfl|apply AB|refine rX b ?_ ?_|refine rC ?_ ?_<;>intro a<;>try(cases a;done))
  .rw[BY a,hf]at d;refine Ev.ent (σ':=⟨[(4,.p (.int .i64) (k:Int))],[(1,.box 9 false [.p T9 s])]⟩) ?_ (AC [(1,.nm 1)] rfl rfl ?_ ?_)
   .exact fM b [.tmp 4] (.p T3 (k:Int)) eT ⟨by rw[d],rfl⟩
   .exact eN
   exact eN
  .omega
  rw[An (by rw[a];simp)]at d;exact⟨⟨k+1,c,d.symm.trans hf⟩,by simp only;omega,eW [(1,.nm 1)]⟩
 have c:l.drop k=[]:=B0 (P6.1 a);rw[c]at hf;have hf:(-1:Int)=tyG s 0 l:=hf;refine Ev.ent (σ':=⟨[(4,.p (.int .i64) (-1))],[(1,.box 9 false [.p T9 s])]⟩) ?_ (AC [(1,.nm 1)] rfl rfl ?_ ?_)
 .exact fM b [.tmp 4] (.p T3 (-1)) eT ⟨by rw[hf],rfl⟩
 .exact eN
 exact eN
def A0A:AZ:={ ins:=[ED,T9],pre:=λ_=>True,out:=λ(h,s,_)=>[.p T3 (H0 h s)],lend:=true }
attribute [local go_sem] A0A
theorem A9F:Ab Tryz.prog 138 A0A:=by
 refine fK [0,1,2,3,4] Tryz.func138 Tryz.ntmps138 AH ?_;rintro w0 O0 ⟨⟨c,hf⟩,s,u⟩ a - -;simp only[A0A,AM];refine Ev.ent (σ':=⟨[(0,.p ED (c,hf)),(1,.p T9 s)],[]⟩) ?_ (AC [] rfl rfl ?_ ?_)
 .repeat'(first|exact trivial|apply eS rfl|apply AB|refine rX a ?_ ?_|refine rC ?_ ?_<;>intro b<;>try(cases b;done))
  refine cP 3 a ?_ ?_
  .trivial
  refine rM a (A2G c s) [(1,.nm 3)] [] ?_ ?_ ?_
  .exact eN
  .exact eN
  rintro _ _ ⟨rfl,rfl⟩;refine⟨[(3,.nm 1)],.p T3 (tyG s 0 c),[(3,.box 9 false [.p T9 s])],rfl,rfl,?_,?_,rfl,rfl,?_⟩
  .exact eN
  .exact eN
  refine rL a ?_ ?_
  .trivial
  repeat'(first|exact trivial|apply eS rfl|apply AB|refine rX a ?_ ?_|refine rC ?_ ?_<;>intro b<;>try(cases b;done))
  exact fI a [.tmp 4] (by unfold H0;exact eR)
 .exact eN
 exact eN
theorem NP (h:AG):H0 h ⟨#[108,105,115,116]⟩=(BI h).list/\H0 h ⟨#[99,111,110,115]⟩=(BI h).cons/\H0 h ⟨#[110,117,108,108]⟩=(BI h).null/\H0 h ⟨#[100,108,105,115,116]⟩=(BI h).dlist/\ZO h ⟨#[70,73,82,83,84]⟩=(BI h).first/\ZO h ⟨#[82,69,83,84]⟩=(BI h).rest/\ZO h ⟨#[76,73,83,84]⟩=(BI h).head/\ZO h ⟨#[76,65,83,84]⟩=(BI h).last:=⟨rfl,rfl,rfl,rfl,rfl,rfl,rfl,rfl⟩
theorem Te (h:AG):((BI h).list<(h.1.length:Int)/\(BI h).cons<(h.1.length:Int)/\(BI h).null<(h.1.length:Int)/\(BI h).dlist<(h.1.length:Int))/\(-1<=(BI h).list/\-1<=(BI h).cons/\-1<=(BI h).null/\-1<=(BI h).dlist) :=
 ⟨⟨(Ha h _).2,(Ha h _).2,(Ha h _).2,(Ha h _).2⟩,(Ha h _).1,(Ha h _).1,(Ha h _).1,(Ha h _).1⟩
theorem Tf {α:Type} {f:List α} {n:Int} (h:0<=n/\n<(f.length:Int)):n.toNat<f.length:=by omega
end
section
attribute [local go_sem] cO Pu f3 cs4 cs5
def R8:AZ:={ ins:=[ED],pre:=λ(h,_)=>GB h,out:=λ(h,_)=>[.p .bool (Pr h)],lend:=true }
attribute [local go_sem] R8
theorem sK:Ab Tryz.prog 47 R8:=by
 refine fK [0,1,2,3,4,5,26,44] Tryz.func47 Tryz.ntmps47 (AF OH (AF gX (AF NE AH))) ?_;rintro w0 O0 ⟨⟨a,hf⟩,u⟩ d-hk;have hk:GB (a,hf):=hk;obtain⟨f,g,h,i,j,k,l,m⟩:=NP (a,hf);obtain⟨⟨r,s,t,v⟩,n,o,p,q⟩:=Te (a,hf);simp only[R8,AM];repeat'(first|exact trivial|apply eS rfl|apply AB|refine rX d ?_ ?_|refine rC ?_ ?_<;>intro e<;>try(cases e;done))
 all_goals simp only[f,g,h,i,j,k,l,m]at *
 .have c:Pr (a,hf)=false:=by
   rw[ABL];intro b;unfold Pr at b;simp only[AT,By]at b;omega
  exact fI d [.tmp 2] (by rw[c];exact eR)
 .have c:Pr (a,hf)=false:=by
   rw[ABL];intro b;unfold Pr at b;simp only[AT,By]at b;omega
  exact fI d [.tmp 2] (by rw[c];exact eR)
 .grind
 have c:Pr (a,hf)=(A2 (a,hf) (BI (a,hf)).list (BI (a,hf)).cons&&A2 (a,hf) (BI (a,hf)).list (BI (a,hf)).null):=by
  unfold Pr;rw[aS (by omega),AFX]
 exact fI d [.tmp 2] (by rw[c];exact eR)
def gY:AZ:={ ins:=[ED,DZ,T3,T9],pre:=λ(_,f,n,_)=>AR f/\(0:Int)<=n/\n<(List.length f:Int),out:=λ(h,f,n,s,_)=>[.p T3 (Bz (List.getD (f:List AE) n.toNat (0,[])).2 (ZO h s))],lend:=true }
attribute [local go_sem] gY
theorem Y4:Ab Tryz.prog 92 gY:=by
 refine fK [0,1,2,3,4,5,8,9,10,22,36] Tryz.func92 Tryz.ntmps92 (AF gX AH) ?_;rintro w0 O0 ⟨⟨l,hf⟩,f,n,s,u⟩ d-⟨g,hn⟩;have g:AR f:=g;have hn:0<=n/\n<(f.length:Int):=hn;simp only[gY,AM];repeat'(first|exact trivial|apply eS rfl|apply AB|refine rX d ?_ ?_|refine rC ?_ ?_<;>intro a<;>try(cases a;done))
 have o:=(g.2 _ (AD f (0,[]) (Tf hn))).1;generalize m:ZO (l,hf) s=e at *;generalize j:(f.getD n.toNat (0,[])).2=L at *;refine AI (ι:={k:Nat//k<=L.length/\Bz L e=Bz (L.drop k) e}) (λk=>⟨[(2,.p T3 n),(5,.bp 5 [] 0),(9,.p T3 e),(10,.p (.int .i64) (k.1:Int))],[(5,.box 25 true [.p Ex f])]⟩) (λk=>L.length-k.1) ⟨0,IS _,rfl⟩ (eW [(5,.nm 5)]) (λk=>?_)
 obtain⟨k,hk,b⟩:=k;have i:=λh:k<L.length=>TN e L h;simp only;repeat'(first|exact trivial|apply eS rfl|apply AB|refine rX d ?_ ?_|refine rC ?_ ?_<;>intro a<;>try(cases a;done))
 all_goals try rw[j]at *
 .exact hn
 .exact⟨hn,a⟩
 .exact⟨hn,by assumption⟩
 .have c:k<L.length:=by exact eV
  rw[i c,BY a]at b;exact fI d [.tmp 8] (by rw[b];exact eR)
 .omega
 .have c:k<L.length:=by exact eV
  rw[i c,An a]at b;exact⟨⟨k+1,by omega,b⟩,by simp only;omega,eW [(5,.nm 5)]⟩
 have c:L.drop k=[]:=B0 (by exact eV);rw[c]at b;exact fI d [.tmp 8] (by rw[b];first|exact eR|refine UO ?_;rfl)
def gZ:AZ:={ ins:=[ED,DZ,T3],pre:=λ(_,f,n,_)=>AR f/\(0:Int)<=n/\n<(List.length f:Int),out:=λ(h,f,n,_)=>[.p .bool (R5 (BI h) (List.getD (f:List AE) n.toNat (0,[])).2)],lend:=true }
attribute [local go_sem] gZ
theorem cQ:Ab Tryz.prog 140 gZ:=by
 refine fK [0,1,2,3,4,6] Tryz.func140 Tryz.ntmps140 (AF Y4 AH) ?_;rintro w0 O0 ⟨⟨g,hf⟩,f,n,u⟩ b-⟨a,hn⟩;have a:AR f:=a;obtain⟨h,i,j,k,d,e,l,m⟩:=NP (g,hf);simp only[gZ,AM];repeat'(first|exact trivial|apply eS rfl|apply AB|refine rX b ?_ ?_|refine rC ?_ ?_<;>intro c<;>try(cases c;done))
 all_goals simp only[d,e]at *
 .exact⟨⟨a,hn⟩,λ_=>⟨a,hn⟩⟩
 exact fI b [.tmp 6] (by unfold R5;exact eR)
def WO:AZ:={ ins:=[ED,DZ,T3],pre:=λ(h,f,n,_)=>(Pr h=true/\GB h)/\AR f/\Cn h f/\(0:Int)<=n/\n<(List.length f:Int),out:=λ(h,f,n,_)=>[.p .bool (VG h (BI h) (List.getD (f:List AE) n.toNat (0,[])))],lend:=true }
attribute [local go_sem] WO
theorem cR:Ab Tryz.prog 113 WO:=by
 refine fK [0,1,2,3,4,6] Tryz.func113 Tryz.ntmps113 (AF cQ (AF OH (AF NE AH))) ?_;rintro w0 O0 ⟨⟨a,hf⟩,f,n,u⟩ e-⟨⟨d,hk⟩,b,c,hn⟩;have d:Pr (a,hf)=true:=d;have hk:GB (a,hf):=hk;have b:AR f:=b;have c:Cn (a,hf) f:=c;obtain⟨h,i,j,k,l,m,o,p⟩:=NP (a,hf);have hn:0<=n/\n<(f.length:Int):=hn;have q:=c _ (AD f (0,[]) (Tf hn));obtain⟨-,t,s,-⟩:=nC d;obtain⟨⟨-,v1,r,-⟩,-⟩:=Te (a,hf);simp only[WO,AM];repeat'(first|exact trivial|apply eS rfl|apply AB|refine rX e ?_ ?_|refine rC ?_ ?_<;>intro g<;>try(cases g;done))
 all_goals simp only[h,i,j,k,l,m,o,p]at *
 .exact⟨⟨b,hn⟩,λ_=>hn,λ_=>⟨⟨⟨s,r⟩,q⟩,hk⟩⟩
 exact fI e [.tmp 6] (by unfold VG;rw[AGl];exact eR)
def WP:AZ:={ ins:=[ED,DZ,T3],pre:=λ(h,f,n,_)=>(Pr h=true/\GB h)/\AR f/\Cn h f/\(0:Int)<=n/\n<(List.length f:Int),out:=λ(h,f,n,_)=>[.p .bool (MB h (BI h) (List.getD (f:List AE) n.toNat (0,[])))],lend:=true }
attribute [local go_sem] WP
theorem A2H:Ab Tryz.prog 94 WP:=by
 refine fK [0,1,2,3,4,6] Tryz.func94 Tryz.ntmps94 (AF Y4 (AF OH (AF NE AH))) ?_;rintro w0 O0 ⟨⟨a,hf⟩,f,n,u⟩ e-⟨⟨d,hk⟩,b,c,hn⟩;have d:Pr (a,hf)=true:=d;have hk:GB (a,hf):=hk;have b:AR f:=b;have c:Cn (a,hf) f:=c;obtain⟨h,i,j,k,l,m,o,p⟩:=NP (a,hf);have hn:0<=n/\n<(f.length:Int):=hn;have q:=c _ (AD f (0,[]) (Tf hn));obtain⟨-,r,t,-⟩:=nC d;obtain⟨⟨-,v1,s,-⟩,-⟩:=Te (a,hf);simp only[WP,AM];repeat'(first|exact trivial|apply eS rfl|apply AB|refine rX e ?_ ?_|refine rC ?_ ?_<;>intro g<;>try(cases g;done))
 all_goals simp only[h,i,j,k,l,m,o,p]at *
 .exact⟨⟨b,hn⟩,λ_=>⟨b,hn⟩,λ_=>hn,λ_=>⟨⟨⟨r,v1⟩,q⟩,hk⟩⟩
 exact fI e [.tmp 6] (by unfold MB Ur;rw[AGl];exact eR)
def R9:AZ:={ ins:=[ED,DZ,T3],pre:=λ(h,f,n,_)=>(Pr h=true/\GB h)/\AR f/\Cn h f/\(0:Int)<=n/\n<(List.length f:Int),out:=λ(h,f,n,_)=>[.p .bool (!VG h (BI h) (List.getD (f:List AE) n.toNat (0,[]))&&Ov h (BI h) (List.getD (f:List AE) n.toNat (0,[])))],lend:=true }
attribute [local go_sem] R9
theorem sL:Ab Tryz.prog 95 R9:=by
 refine fK [0,1,2,3,4,6] Tryz.func95 Tryz.ntmps95 (AF cR (AF cQ (AF OH (AF NE AH)))) ?_;rintro w0 O0 ⟨⟨a,hf⟩,f,n,u⟩ e-⟨⟨d,hk⟩,b,c,hn⟩;have d:Pr (a,hf)=true:=d;have hk:GB (a,hf):=hk;have b:AR f:=b;have c:Cn (a,hf) f:=c;obtain⟨h,i,j,k,l,m,o,p⟩:=NP (a,hf);have hn:0<=n/\n<(f.length:Int):=hn;have q:=c _ (AD f (0,[]) (Tf hn));obtain⟨-,r,t,-⟩:=nC d;obtain⟨⟨-,v1,s,-⟩,-⟩:=Te (a,hf);simp only[R9,AM];repeat'(first|exact trivial|apply eS rfl|apply AB|refine rX e ?_ ?_|refine rC ?_ ?_<;>intro g<;>try(cases g;done))
 all_goals simp only[h,i,j,k,l,m,o,p]at *
 .exact⟨⟨⟨d,hk⟩,b,c,hn⟩,λ_=>⟨b,hn⟩,λ_=>hn,λ_=>⟨⟨q,r,v1⟩,hk⟩⟩
 exact fI e [.tmp 6] (by unfold Ov;rw[AGl (A2 _ _ _),<-Bool.and_assoc];exact eR)
def A0B:AZ:={ ins:=[F2,T3],pre:=λ_=>True,out:=λ(l,n,_)=>[.p .bool (zZ l n)],lend:=true }
attribute [local go_sem] A0B
theorem A9G:Ab Tryz.prog 93 A0B:=by
 refine fK [0,1,4,5,9,17] Tryz.func93 Tryz.ntmps93 AH ?_;rintro w0 O0 ⟨l,n,u⟩ d ⟨⟨g,-⟩,-⟩ -;simp only[AQ]at g;simp only[A0B,AM];repeat'(first|exact trivial|apply eS rfl|apply AB|refine rX d ?_ ?_|refine rC ?_ ?_<;>intro a<;>try(cases a;done))
 refine AI (ι:={k:Nat//k<=l.length/\zZ l n=zZ (l.drop k) n}) (λk=>⟨[(0,.p F2 l),(1,.p T3 n),(5,.p (.int .i64) (k.1:Int))],[]⟩) (λk=>l.length-k.1) ⟨0,IS _,rfl⟩ (eW []) (λk=>?_)
 obtain⟨k,hk,b⟩:=k;have e:k<l.length->zZ (l.drop k) n=(l.getD k 0==n||zZ (l.drop (k+1)) n):=λh=>by
  rw[Kn h];rfl
 simp only;repeat'(first|exact trivial|apply eS rfl|apply AB|refine rX d ?_ ?_|refine rC ?_ ?_<;>intro a<;>try(cases a;done))
 .exact a
 .have c:k<l.length:=by exact eV
  rw[e c,a,beq_self_eq_true,Bool.true_or]at b;exact fI d [.tmp 4] (by rw[b];exact eR)
 .omega
 .have c:k<l.length:=by exact eV
  have f:(l.getD k 0==n)=false:=VX.2 a;rw[e c,f,AGk]at b;exact⟨⟨k+1,by omega,b⟩,by simp only;omega,eW []⟩
 have c:l.drop k=[]:=B0 (by exact eV);rw[c]at b;exact fI d [.tmp 4] (by rw[b];first|exact eR|refine UO ?_;rfl)
end
section
attribute [local go_sem] ABu TK
noncomputable def A6b:AZ:={ ins:=[ED,DZ,F2,DZ],pre:=λ(h,a,p,b,_)=>(cK h/\Zd h)/\VF h a/\VF h b/\FtP h p/\List.length p<=20/\List.length a<=60/\List.length b<=20,out:=λ(h,a,p,b,_)=>[.p DZ (Hj h a (Ak p b)).1,.p .bool (Hj h a (Ak p b)).2] }
attribute [local go_sem] A6b
theorem ABy:Ab Tryz.prog 72 A6b:=by
 refine fK [0,1,2,3,4,5,7,8,9,10,11,21] Tryz.func72 Tryz.ntmps72 (AF ABv (AF A5f AH)) ?_;rintro w0 O0 ⟨h,a,p,b,u⟩ e-⟨⟨hh,j⟩,va,i,d,g⟩;have hh:cK h:=hh;have j:Zd h:=j;have va:VF h a:=va;have i:VF h b:=i;have g:p.length<=20/\a.length<=60/\b.length<=20:=g;have d:FtP h p:=d;simp only[A6b,AM];have f:(h.1,h.2)=h:=rfl;repeat'(first|exact trivial|apply eS rfl|refine rX e ?_ ?_|refine rC ?_ ?_<;>intro c<;>try(cases c;done))
 .exact⟨hh.hu,va,i,d,g⟩
 .exact fI e [.cell 8 25,.tmp 9] (by unfold Hj;rw[f]at c;unfold A2F at c;rw[c,An Bool.false_ne_true];exact eR)
 .exact ABq hh (Uj c).vf
 exact fI e [.cell 8 25,.tmp 9] (by unfold Hj;rw[f]at c;unfold A2F at c;rw[c,BY rfl,f];unfold A2F;exact eR)
end
section
attribute [local go_sem] A6a Pu Dl cs4 cs5
theorem NQ (h:AG):ZO h ⟨#[65,82,71,83]⟩=A7 h:=rfl
def g9 (h:AG) (k:Nat):List Int:=A7 h :: List.replicate k (BI h).rest
theorem A2I (h:AG) (k:Nat):g9 h (k+1)=g9 h k++[(BI h).rest]:=by
 unfold g9;rw[AFU];rfl
theorem A6c (h:AG) (k:Nat):(g9 h k).length=k+1:=by simp[g9]
theorem A9H (h:AG) (k:Nat):GA h k=g9 h k++[(BI h).first]:=rfl
def A2J:AZ:={ ins:=[ED,T3],pre:=λ(_,i,_)=>(0:Int)<=i/\(i:Int)<=100,out:=λ(h,i,_)=>[.p F2 (GA h i.toNat)] }
attribute [local go_sem] A2J
theorem A6d:Ab Tryz.prog 73 A2J:=by
 refine fKP [0,1,2,4,5,9,10,11] [15,21] [] Tryz.func73 Tryz.ntmps73 (AF Y3 AH) ?_;rintro w0 O0 ⟨h,i,u⟩ b-⟨c,d⟩;have c:(0:Int)<=(i:Int):=c;have d:(i:Int)<=100:=d;have n:(h.1,h.2)=h:=rfl;obtain⟨-,-,-,-,r,s,-,-⟩:=NP h;have q:=NQ h;simp only[A2J,AM];obtain⟨m,rfl⟩:∃m:Nat,i=(m:Int):=⟨Int.toNat i,(ZL c).symm⟩;have o:m<=100:=P6.1 d;repeat'(first|exact trivial|apply eS rfl|apply AB|refine rX b ?_ ?_|refine rC ?_ ?_<;>intro a<;>try(cases a;done))
 refine AI (ι:={k:Nat//k<=m}) (λk=>⟨[(2,.bp 2 [] 0),(5,.sr 8 T3 0 (k.1+1)),(9,.p T3 (m:Int)),(10,.p (.int .i64) (k.1:Int))],[(2,.box 31 true [.p RB h.1,.p Sv h.2]),(8,.arr 3 T3 (g9 h k.1))]⟩) (λk=>m-k.1) ⟨0,by omega⟩ (AC [(2,.nm 2),(8,.nm 8)] rfl rfl ?_ ?_) (λk=>?_)
 .first|exact eN|refine eM ?_
  rfl
 .first|exact eN|refine eM ?_
 obtain⟨k,hk⟩:=k;have f:=A6c h k;have g:=A2I h k;simp only;repeat'(first|exact trivial|apply eS rfl|apply AB|refine rX b ?_ ?_|refine rC ?_ ?_<;>intro a<;>try(cases a;done))
 .simp only[AQ];omega
 .omega
 .have e:k<m:=IN.1 a;refine⟨⟨k+1,e⟩,by simp only;omega,AC [(2,.nm 2),(8,.nm 8)] rfl rfl ?_ ?_⟩
  .first|exact eN|refine eM ?_
   rw[g,As (by omega)];rfl
  first|exact eN|refine eM ?_
 .simp only[AQ];omega
 have e:k=m:=AF7 hk (P6.1 a);subst e;refine Fe [8] ?_;have j:GA h (Int.toNat (k:Int))=List.take (k+1+1) (List.take (k+1) (g9 h k)++[ZO (h.1,h.2) ⟨#[70,73,82,83,84]⟩]):=by
  rw[P0,A9H,As (l:=g9 h k) (by omega),As (by rw[IF,f];exact Is _)];rfl
 exact fI b [.tmp 4] (by rw[j];exact eR)
theorem A6e {h:AG} (hu:HU h) {f:List AE} (v:PF h f) (l:f.length<=10000) (e:Int):AR (NN f e)/\I8 (NN f e):=by
 have h0:=AD f (0,[]) v.pos;have n:(NN f e).length=f.length+1:=by simp[NN]
 have i:∀x∈NN f e,∃y∈f,x.2.length<=y.2.length/\MJ x.2/\∀a∈x.2,a∈y.2:=λx b=>by
  rcases OF.1 b with b|b
  .exact⟨x,b,Is _,v.str x b,λa ha=>ha⟩
  rw[QL.1 b];exact⟨_,h0,VI _ _,Yu v.str e,λa ha=>Km ha⟩
 refine⟨⟨by omega,λx b=>?_⟩,λx b=>?_⟩
 .obtain⟨y,d,j,-,c⟩:=i x b;have k:=v.good.2 y d;refine⟨by omega,λa ha=>?_⟩;have:=k.2 a (c a ha);omega
 obtain⟨y,d,j,g,c⟩:=i x b;have m:=hu.ft;have:=gM g λa ha=>by
  have:=v.ft y d a (c a ha);omega
 exact⟨(Kd _).2 g,by omega⟩
def WQ:AZ:={ ins:=[DZ,T3],pre:=λ(f,_,_)=>∃h,HU h/\PF h f/\List.length f<=10000,out:=λ(f,e,_)=>[.p DZ (Gb f e)] }
attribute [local go_sem] WQ
theorem cS:Ab Tryz.prog 74 WQ:=by
 refine fKP [0,1,2,4,5,6,8,24,25,26,27,33] [37,44] [] Tryz.func74 Tryz.ntmps74 (AF A56 AH) ?_;rintro w0 O0 ⟨f,e,u⟩ d-⟨h,hu,hp,g⟩;have hp:PF h f:=hp;have g:f.length<=10000:=g;have h0:=hp.pos;simp only[WQ,AM];have v:=(hp.good.2 _ (AD f (0,[]) h0)).1;repeat'(first|exact trivial|apply eS rfl|apply AB|refine rX d ?_ ?_|refine rC ?_ ?_<;>intro b<;>try(cases b;done))
 .simp only[AQ];omega
 .exact IN.2 h0
 .exact IN.2 h0
 have q:Ou f e=(f.getD 0 (0,[])).2.filter λa=>a.1 != e:=rfl;have s:NN f e=f++[((f.getD 0 (0,[])).1,Ou f e)]:=rfl;have r:=ABs hp g e;generalize t:(f.getD 0 (0,[])).2=L at *;generalize (f.getD 0 (0,[])).1=ty at *;refine AI (ι:={k:Nat//k<=L.length}) (λk=>⟨[(1,.p T3 e),(2,.bp 2 [] 0),(4,.bp 4 [] 0),(5,.bp 5 [] 0),(6,.bp 6 [] 0),(24,.p DM L),(25,.p (.int .i64) (L.length:Int)),(26,.p (.int .i64) (k.1:Int))],[(6,.box 93 true [.p T3 ty,.sr 38 AW 0 ((L.take k.1).filter λa=>a.1 != e).length]),(38,.arr 106 AW ((L.take k.1).filter λa=>a.1 != e)),(5,.box 25 true [.sr 9 Mn 0 f.length]),(9,.arr 93 Mn f),(4,.box 25 true [.raw (.slice none 0 0)]),(2,.box 25 true [.p Ex f])]⟩) (λk=>L.length-k.1) ⟨0,by omega⟩ (AC [(6,.nm 6),(38,.nil),(5,.nm 5),(9,.nm 9),(4,.nm 4),(2,.nm 2)] rfl rfl ?_ ?_) (λk=>?_)
 .first|exact eN|refine eM ?_
  exact⟨rfl,rfl⟩
 .first|exact eN|refine eM ?_
 obtain⟨k,hk⟩:=k;have j:=λhk:k<L.length=>mA (λa:Int×Int=>a.1 != e) L hk;have o:=VI (λa:Int×Int=>a.1 != e) (L.take k);rw[OS]at o;simp only;repeat'(first|exact trivial|apply eS rfl|apply AB|refine rX d ?_ ?_|refine rC ?_ ?_<;>intro b<;>try(cases b;done))
 .exact b
 .simp only[AQ];dsimp only[Ty.den]at *;omega
 .omega
 .have c:k<L.length:=by exact eV
  have n:((L.getD k (0,0)).1 != e)=true:=AFB.2 b;refine⟨⟨k+1,c⟩,by simp only;omega,AC [(6,.nm 6),(38,.nm 38),(5,.nm 5),(9,.nm 9),(4,.nm 4),(2,.nm 2)] rfl rfl ?_ ?_⟩
  .simp only[j c,n,ZD];first|exact eN|refine eM ?_
  first|exact eN|refine eM ?_
 .omega
 .have c:k<L.length:=by exact eV
  refine⟨⟨k+1,c⟩,by simp only;omega,AC [(6,.nm 6),(38,.nm 38),(5,.nm 5),(9,.nm 9),(4,.nm 4),(2,.nm 2)] rfl rfl ?_ ?_⟩
  .simp only[j c,b,dO,AAG,QQ];first|exact eN|refine eM ?_
  first|exact eN|refine eM ?_
 .simp only[AQ];omega
 have c:L.take k=L:=As (P6.1 b);rw[c,<-q,<-s];have m:(NN f e).length=f.length+1:=by simp[NN]
 refine Fe [9] ?_;have l:(NN f e).take (f.length+1)=NN f e:=As (Nat.le_of_eq m);have i:=A6e hu hp g e;repeat'(first|exact trivial|apply eS rfl|apply AB|refine rX d ?_ ?_|refine rC ?_ ?_<;>intro b<;>try(cases b;done))
 .rw[l];exact⟨i.1,i.2,IN.2 (by rw[m];exact AFS _)⟩
 exact fI d [.cell 4 25] (by rw[l,r];exact eR)
end
end Go.Proofs.YtapkhdkbkodbjaaGreat.Fw
