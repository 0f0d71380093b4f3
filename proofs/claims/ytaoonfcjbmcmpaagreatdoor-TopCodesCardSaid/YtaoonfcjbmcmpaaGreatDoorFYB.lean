/- Contracts of functions and plain laws. -/
import Derived.Test.YtaoonfcjbmcmpaaGreatDoorFYA
import Derived.Laws.Strings
import Derived.Test.YtaoonfcjbmcmpaaGreatDoorFZJ
import Derived.Test.YtaoonfcjbmcmpaaGreatDoorFZI
set_option linter.unusedVariables false
set_option linter.unusedSimpArgs false
namespace Go.Proofs.YtaoonfcjbmcmpaaGreatDoor.Fw
attribute [local irreducible] Ev
attribute [local go_sem] Wc AP List.toList_toArray Bu evG evK SV EH JC F5 FO Hf Oq Lp Cy DA K6 CU DB frz YX EV C9 A1 FG BP AV.frz AV.frzs AV.drp AV.drps AV.names AV.namess aq F4 Jn I4 Pe H6 Bd Bj IR DW HY DX Ha HZ Hb QG MV GN I6 FI Dy QH Nq jR IT Hc J6 Eq DY H9 I7 D3 Pf DI D4 EZ Nr Hd Ln E1 Lm MW Ns J7 IA I8 D5 DZ GV Db G1 Cp Ea Cq D6 FK CU Ci K5 Np L3 Fx H8 H7 I5 MZ Om Lo KB J9 JA Oo KA JB Ub Mb Ma AV.trn AV.trns Bw Ba Obj.trn Ih Ww Da D8 Dz D7 B7 Eb Ae lk Ga F2 Gy qA YW SX YZ Ol Pd qJ AV.cellss aG qI qK AV.cells B9 EO H5 FJ MY CF Ll Ty.cell1 HX EW DV Fb IQ EU I3 J5 Lk E0 GM Le Pb QF J4 I2 UY WE Oj Gx Cv F3 RV.flat Ty.flat Ty.size St.add upd SU BS Value.oneCell' UX Ty.dflt HW Mu HB M4 List.take_succ_cons List.take_zero List.length_cons Wk Wl M3 Id KQ Gq Ie kY FP LD LE LF LG N2 N3 Fz Gg Qf Option.map_some Option.map_none Option.bind_some Option.getD_some Option.getD_none Option.isNone_none Option.isNone_some Bool.and_true Bool.true_and Bool.and_false Bool.false_and Bool.not_true Bool.not_false if_true if_false List.length_cons List.length_nil and_true true_and and_self List.all_cons List.all_nil List.append_nil List.nil_append List.cons_append List.getElem?_cons_zero List.getElem?_cons_succ List.getElem?_nil List.map_cons List.map_nil List.set_cons_zero List.set_cons_succ List.isEmpty_nil List.isEmpty_cons decide_true decide_false beq_self_eq_true bne_self_eq_false Nat.zero_add Nat.add_zero Nat.sub_zero Int.toNat_natCast Int.toNat_zero Int.toNat_one List.take_length List.length_append List.length_singleton true_or or_true or_self false_or or_false Ty.agg.injEq Ty.slice.injEq Ty.prod.injEq Ty.int.injEq Option.some.injEq beq_iff_eq J3 evMG evMQ k5 HD KN B1 Ic GQ Mx Ia HC Ho JG Jt MA Lu MB Pj KO My Mz Ib Ac Am Op.operands Call.operands List.filterMap_cons List.filterMap_nil List.append_eq Bool.cond_false_right Bool.cond_true_left cond_true cond_false implies_true decide_eq_true_eq beq_true beq_false Bool.or_true Bool.or_false Bool.true_or Bool.false_or Option.isSome_some Array.empty_append List.append_toArray FH K7 Ec Gz Ua MX UZ DJ Dn E2 Fd He G0 I9 J8 SY YY L2 p9 G2 FL Fy IU AX Wm List.drop_zero De HE U0 Dv JK CT AV.fgt AV.fgts Obj.fgt BC Az Ac Ca IG Bb F6 List.any_cons List.any_nil Y6 Wq U1 Wr KU N6 qs List.flatMap_cons List.flatMap_nil List.cons_append tn U4 Ii List.take_succ_cons List.drop_succ_cons r9 Q2 Py bI LK CZ Ct Ao Ee JF CK matchAVs C0 IE Hn Fg HA
attribute [local go_sem] ty1 ty2 ty3 ty4 ty5 ty9 sF sG sH sI sJ sK sL sM sN sO sP sQ sR sS sT sU sV sW sX sY sZ s0 s7 s8 s9 tA tB tC bQ bR bS bT bU bV bW bX bZ b4 b5 b6 b7 b8 b9 cA cB cC cE cF cG cH
set_option maxRecDepth 100000
set_option maxHeartbeats 4000000
section
variable {d:List AD}
def Dc (d:List AD) (c:List Int):Prop:=Ei c/\∀i j,A0 c i=true->j<(AG d).length->Up d ((AG d).getD i ByteArray.empty) ((AG d).getD j ByteArray.empty)->A0 c j=true
theorem yZ:Dc d []:=⟨λx a=>(by cases a),λi j hi=>by unfold A0 at hi;simp at hi⟩
theorem y3 {a b:List Int} (c:Dc d a) (e:Dc d b):Dc d (DP a b) :=
 ⟨LU c.1 e.1,λi j hi f g=>by
  rw[LT c.1 e.1,AT]at hi ⊢;exact⟨c.2 i j hi.1 f g,e.2 i j hi.2 f g⟩⟩
theorem uK {l:List (List Int)} (h:∀c∈l,Dc d c) (k:Nat):Dc d (l.getD k []):=by grind [AL,OW,yZ]
theorem uL {l:List (List Int)} (h:∀c∈l,Dc d c) (i k:Nat):∀c∈Cs l i k,Dc d c:=by grind [Cs,DP,y3,uK]
theorem dD {i:Nat}:∀ {n k:Nat} {l:List (List Int)},(∀c∈l,Dc d c)->∀c∈D2 i n k l,Dc d c
 | 0,_,_,h=>h
 | n+1,k,l,h=>by
  unfold D2;split
  .exact dD (uL h i k)
  exact h
theorem dE:∀ {n i:Nat} {l:List (List Int)},(∀c∈l,Dc d c)->∀c∈GC n i l,Dc d c
 | 0,_,_,h=>h
 | n+1,i,l,h=>by
  unfold GC;split
  .exact dE (dD h)
  exact h
theorem Kw (a:AU d=0):(AG d).length<=4096:=by
 obtain⟨-,c,-⟩:=Ab a;have b:=DC d d.length;rw[TO]at b;omega
theorem uM (a:AU d=0) {s:ByteArray} (hs:0<=AY d s):Dc d (DN d (AG d) s):=by
 have b:=Kw a;refine⟨(BQ (d:=d) b s 0).2.1,λi j hi c e=>?_⟩;grind [BQ,Xm,Rr,Rs]
theorem nL (a:AU d=0):∀c∈AO (AK d),Dc d c:=dE λc b=>by
 obtain⟨s,hs,rfl⟩:=To.1 b;exact uM a (FZ hs)
theorem Vg {all:List ByteArray} {codes:List (List Int)} {b:List Int} {u:ByteArray}:∀ {m i:Nat} {l:List ByteArray},RN d all codes b m i l=.inl u->∃j,i<=j/\j<i+m/\Cc (codes.getD j []) b=true/\u=all.getD j ByteArray.empty
 | 0,_,_,h=>by cases h
 | m+1,i,l,h=>by
  unfold RN at h;split at h
  .grind
  obtain⟨j,e,f,a,c⟩:=Vg h;exact⟨j,by omega,by omega,a,c⟩
theorem Vh {all:List ByteArray} {codes:List (List Int)} {b:List Int} {r:List ByteArray}:∀ {m i:Nat} {l:List ByteArray},RN d all codes b m i l=.inr r->(∀j,i<=j->j<i+m->Cc (codes.getD j []) b=false)/\r=l++((List.range' i m).filter λj:Nat=>Gh b (j:Int)).map λj=>all.getD j ByteArray.empty
 | 0,i,l,h=>by grind [RN]
 | m+1,i,l,h=>by
  unfold RN at h;split at h
  .cases h
  rename_i f;obtain⟨g1,a⟩:=Vh h;refine⟨λj c e=>?_,?_⟩
  .grind
  rw[a,ACa,AAa];grind
theorem dF {a b:ByteArray} {x:UInt8}:x∈(a++b).toList↔x∈a.toList\/x∈b.toList:=by
 rw[ByteArray.toList_eq,ByteArray.toList_eq,ByteArray.toList_eq];simp
theorem gQ {l:List ByteArray}:∀ {n:Nat},2<=n->(38:UInt8)∈(Io l n).toList
 | n+1,a=>by
  rw[JV];unfold RO;rw[At oa];rw[dF,dF]
  simp_all
theorem Rt (i:A5 d=0) {s:ByteArray} (hs:s∈AG d):(38:UInt8)∉s.toList:=by
 obtain⟨x,l,rfl⟩:=CY hs;obtain⟨j,f,e⟩:=BJ d0 l;have a:=(Hx (d:=d) (r:=d) (k:=0) i j f).2;rw[e]at a;intro b;unfold Bc at a;rw[AT,IS]at a;rw[ByteArray.toList_eq]at b;obtain⟨k,g,m⟩:=AAN.1 b;have h:k<x.1.data.size:=by simpa using g
 have:=a.2 k (gO.2 h);unfold ZL at this;have c:x.1.data.getD k 0=38:=by simp_all
 rw[c]at this;revert this;decide
theorem OZ (k:AU d=0) {y:AI} (Y:y∈AE d) (g:FY (AO (AK d))) {s:ByteArray} (hs:s∈AG d) (e:AM y.1 s=true):y.2=DN d (AG d) s:=by
 obtain⟨ak,af,-,V,ai⟩:=Ab k;have p:=Kw k;have L:Nd (AO (AK d)):=NR (Ir k);have ah:(AK d).length=(AG d).length:=by simp[AK]
 have M:AK d <+: AO (AK d):=Kr 257 0 (AK d);have X:∀ {t:ByteArray},t∈AG d->AM t s=true->t=s:=λ{t} z e=>by grind [CY,FT]
 have heq:∀j,j<(AG d).length->∀b∈AO (AK d),Cc ((AK d).getD j []) b=true->b=DN d (AG d) ((AG d).getD j ByteArray.empty):=λj T b f r=>by
  have h:(AK d).getD j []∈AO (AK d):=M.subset (AL oa);unfold Cc at r;rw[AT,EC (g.wds _ h) (g.wds b f),EC (g.wds b f) (g.wds _ h)]at r;rw[<-Hy d T];refine MR (g.wds b f) (g.wds _ h) (L.nrm b f) (L.nrm _ h) λi=>?_;rw[AAo];exact⟨r.2 i,r.1 i⟩
 obtain⟨b,f,rfl⟩:=CE.1 Y;show b=_;have e:AM (CH d (AG d) (AK d) b) s=true:=e;unfold CH at e;cases x:RN d (AG d) (AK d) b (AG d).length 0 [] with
 | inl u =>
  rw[x]at e;obtain⟨j,-,C,aa,rfl⟩:=Vg x;rw[AAO]at C;rw[<-X (AL C) e];exact heq j C b f aa
 | inr l =>
  exfalso;rw[x]at e;have e:AM (Im (Ag d l)) s=true:=e;obtain⟨g1,D⟩:=Vh x;rw[AAK]at D;have O:=g.wds b f;have w:∀i,i<(AG d).length->A0 b i=true->(AG d).getD i ByteArray.empty∈l:=λi hi ag=>by grind [JZ]
  have K:∀t∈l,∃i,i<(AG d).length/\t=(AG d).getD i ByteArray.empty/\A0 b i=true:=λt z=>by grind [JZ]
  have W:(List.range' 0 (AG d).length).map (λj=>(AG d).getD j ByteArray.empty)=AG d:=by
   apply AAx
   .simp
   intro i al Z;simp[AS,Z]
  have E:Xb l:=by
   rw[D];have:=MS V;rw[<-W]at this;exact this.sublist (AAT.map _)
  obtain⟨i0,v⟩:=g.some b f;have B:∀i,A0 b i=true->i<(AG d).length:=by
   have:=P6 (q:=(AG d).length) (n:=257) (i:=0) (l:=AK d) (λc S=>by
    obtain⟨t,z,rfl⟩:=To.1 S;exact⟨(BQ (d:=d) p t 0).2.1,λi hi=>((BQ (d:=d) p t i).1.1 hi).1⟩) b f
   exact this.2
  have F:∀t∈l,0<=AY d t:=λt z=>by
   obtain⟨i,hi,rfl,-⟩:=K t z;exact FZ (AL hi)
  obtain⟨m,h,-⟩:=Iu k E (w i0 (B i0 v) v) (F _ (w i0 (B i0 v) v));have aj:0<(Ag d l).length:=AAQ h;have U:Im (Ag d l)=Io (Ag d l) (Ag d l).length:=rfl;rw[U]at e;by_cases P:(Ag d l).length=1
  .obtain⟨o,H,rfl,R⟩:=K m (FW h);have G:Cc ((AK d).getD o []) b=true:=by
    have J:(AK d).getD o []∈AO (AK d):=M.subset (AL oa);unfold Cc;rw[AT,EC (g.wds _ J) O,EC O (g.wds _ J),Hy d H];refine⟨λi hi=>?_,λi hi=>?_⟩
    .obtain⟨ad,ae⟩:=(BQ (d:=d) p _ i).1.1 hi;exact(nL k b f).2 o i R ad (Rs ae)
    have A:=B i hi;obtain⟨ab,I,N⟩:=Iu k E (w i A hi) (F _ (w i A hi));have:ab=(AG d).getD o ByteArray.empty:=by
     obtain⟨a,Q⟩:=AAR.1 P;rw[Q]at h I;rw[nO.1 I,nO.1 h]
    rw[this]at N;exact(BQ (d:=d) p _ i).1.2 ⟨A,Xm (FZ (AL H)) N⟩
   rw[g1 o (BY _) oa]at G;cases G
  grind [gQ,Ag,Fk,Rt]
theorem T8 (s:ByteArray):∀(l:List AI) (k:Nat),0<=IK s k l->∃j,j<l.length/\IK s k l=((k+j:Nat):Int)/\AM (l.getD j c0).1 s=true
 | [],k,h=>by simp only[IK]at h;omega
 | x :: l,k,h=>by
  simp only[IK]at h ⊢;split
  .grind
  rename_i e;rw[As e]at h;obtain⟨j,c,a,b⟩:=T8 s l (k+1) h;exact⟨j+1,by simp only[iF];omega,by rw[a];congr 1;omega,by simpa using b⟩
theorem Ru (a:AU d=0) (c:FY (AO (AK d))) {s:ByteArray} (hs:s∈AG d):((AE d).getD (A7 (AE d) s).toNat c0).2=DN d (AG d) s:=by
 have b:0<=A7 (AE d) s:=Kp a (Gr hs);grind [T8,AE,A7,OZ,AL]
end
section
def Zr:Spec:={ ins:=[T3],pre:=λ_=>True,out:=λ_=>[.p .bool false] }
attribute [local go_sem] Zr
def NT (a b:Int):Int:=if a<b then -1 else if b<a then 1 else 0
def H1:Spec:={ ins:=[T3,T3],pre:=λ_=>True,out:=λ(a,b,_)=>[.p T3 (NT a b)] }
attribute [local go_sem] H1
theorem nM:Ap Tryz.prog 89 Zr:=by
 refine fK [0,2] Tryz.func89 Tryz.ntmps89 AH ?_;rintro w0 O0 ⟨x,u⟩ a - -;simp only[Zr,AP];repeat'(first|exact trivial|apply eS rfl|refine rX a ?_ ?_)
 exact fI a [.tmp 2]
theorem Si:Ap Tryz.prog 46 H1:=by
 refine fK [0,1,4,5,6,11,12,13,16,19] Tryz.func46 Tryz.ntmps46 (AF nM AH) ?_;rintro w0 O0 ⟨a,b,u⟩ c - -;simp only[H1,AP];repeat'(first|exact trivial|apply eS rfl|refine rX c ?_ ?_|refine rC ?_ ?_<;>intro d<;>try(cases d;done))
 .have e:NT a b=-1:=At d;exact fI c [.tmp 4] (by rw[e];exact eR)
 .have e:NT a b=1:=by unfold NT;rw[As oa,At d]
  exact fI c [.tmp 4] (by rw[e];exact eR)
 have e:NT a b=0:=by unfold NT;rw[As oa,As oa]
 exact fI c [.tmp 4] (by rw[e];exact eR)
end
section
theorem y4 {a b:Int}:NT a b=0↔a=b:=by
 unfold NT;split
 .constructor<;>intro h<;>omega
 split
 .constructor<;>intro h<;>omega
 exact⟨λ_=>by omega,λ_=>rfl⟩
def xD:List Int->Int
 | []=>0
 | x :: l=>if x=0 then xD l else x
theorem Xn {l:List Int} {k:Nat} (h:k<l.length):xD (l.drop k)=if l.getD k 0=0 then xD (l.drop (k+1)) else l.getD k 0:=by
 rw[iS h];have e:l.getD k 0=l[k]:=by simp[AS,h]
 rw[e];rfl
def Vi:Spec:={ ins:=[Dj],pre:=λ_=>True,out:=λ(l,_)=>[.p T3 (xD l)],lend:=true }
attribute [local go_sem] Vi
theorem nN:Ap Tryz.prog 45 Vi:=by
 refine fK [0,2,3,5,6,7,8,9,14] Tryz.func45 Tryz.ntmps45 AH ?_;rintro w0 O0 ⟨l,u⟩ c ⟨⟨f,-⟩,-⟩ -;simp only[AN]at f;simp only[Vi,AP];repeat'(first|exact trivial|apply eS rfl|apply AB|refine rX c ?_ ?_|refine rC ?_ ?_<;>intro b<;>try(cases b;done))
 refine AJ (ι:={k:Nat//k<=List.length l/\xD l=xD ((l:List Int).drop k)}) (λk=>⟨[(3,.p T3 0),(6,.p Dj l),(7,.p (.int .i64) (List.length l:Int)),(8,.p (.int .i64) (k.1:Int))],[]⟩) (λk=>List.length l-k.1) ⟨0,BY _,rfl⟩ (AC [] rfl rfl ?_ ?_) (λk=>?_)
 .first|exact eN|refine eM ?_
 .first|exact eN|refine eM ?_
 obtain⟨k,g,a⟩:=k;repeat'(first|exact trivial|apply eS rfl|apply AB|refine rX c ?_ ?_|refine rC ?_ ?_<;>intro b<;>try(cases b;done))
 .exact b
 .have d:k<List.length l:=by exact eV
  rw[Xn d,As b]at a;exact fI c [.tmp 2] (by rw[a];exact eR)
 .exact eV
 .have d:k<List.length l:=by exact eV
  rw[Xn d,At (by simpa using b)]at a;refine⟨⟨k+1,d,a⟩,by simp only;omega,AC [] rfl rfl ?_ ?_⟩
  .first|exact eN|refine eM ?_
  first|exact eN|refine eM ?_
 have e:List.drop k (l:List Int)=[]:=OR (by exact eV);rw[e]at a;have a:xD l=0:=a;exact fI c [.tmp 2] (by rw[a];exact eR)
end
section
variable {α:Type}
structure SO (o:α->α->Int):Prop where
 anti:∀a b,o b a=- o a b
 trans:∀ {a b c},o a b<0->o b c<0->o a c<0
variable {o:α->α->Int} {d:α}
def CP (d:α) (l:List α) (i j:Nat):List α:=(l.set i (l.getD j d)).set j (l.getD i d)
theorem HR {l:List α} {i j:Nat} (hi:i<l.length) (c:j<l.length) (k:Nat):(CP d l i j).getD k d=if k=j then l.getD i d else if k=i then l.getD j d else l.getD k d:=by
 unfold CP;simp only[AS,AB4,ABk];by_cases a:j=k
 .rw[At a,At oa,At a.symm];rfl
 rw[As a,As (show ¬k=j by omega)];by_cases b:i=k
 .rw[At b,At oa,At b.symm];rfl
 rw[As b,As (show ¬k=i by omega)]
theorem gR {l:List α} {i j:Nat} (hi:i<l.length) (a:j<l.length):(CP d l i j).Perm l:=by
 have b:l.getD i d=l[i]:=by rw[AS,DO hi];rfl
 have c:l.getD j d=l[j]:=by rw[AS,DO a];rfl
 unfold CP;rw[b,c];exact List.set_set_perm hi a
structure Df (d:α) (a b:Nat) (l r:List α):Prop where
 perm:r.Perm l
 out:∀k,k<a\/b<=k->r.getD k d=l.getD k d
 inn:∀i,a<=i->i<b->∃j,a<=j/\j<b/\r.getD i d=l.getD j d
theorem Df.len {a b:Nat} {l r:List α} (h:Df d a b l r):r.length=l.length:=h.perm.length_eq
theorem Df.refl (a b:Nat) (l:List α):Df d a b l l:=⟨List.Perm.refl _,λ_ _=>rfl,λi c e=>⟨i,c,e,rfl⟩⟩
theorem Df.trans {a b:Nat} {l r s:List α} (h:Df d a b l r) (c:Df d a b r s):Df d a b l s:=⟨c.perm.trans h.perm,λk f=>(c.out k f).trans (h.out k f),λi m n=>by
 obtain⟨j,o,p,e⟩:=c.inn i m n;obtain⟨k,q,t,g⟩:=h.inn j o p;exact⟨k,q,t,e.trans g⟩⟩
theorem Df.mono {a b c b':Nat} {l r:List α} (h:Df d a b l r) (m:c<=a) (n:b<=b'):Df d c b' l r:=⟨h.perm,λk o=>h.out k oa,λi f g=>by
 by_cases hi:a<=i/\i<b
 .obtain⟨j,p,q,e⟩:=h.inn i hi.1 hi.2;exact⟨j,by omega,by omega,e⟩
 exact⟨i,f,g,h.out i oa⟩⟩
theorem Df.swap {a b:Nat} (l:List α) {i j:Nat} (g:a<=i) (h:i<b) (m:a<=j) (n:j<b) (q:b<=l.length):Df d a b l (CP d l i j):=by
 have f:=HR (d:=d) (l:=l) (i:=i) (j:=j) oa oa;refine⟨gR oa oa,λk r=>?_,λk o p=>?_⟩
 .rw[f k,As oa,As oa]
 rw[f k];by_cases c:k=j
 .rw[At c];exact⟨i,g,h,rfl⟩
 rw[As c];by_cases e:k=i
 .rw[At e];exact⟨j,m,n,rfl⟩
 rw[As e];exact⟨k,o,p,rfl⟩
def WC (o:α->α->Int) (d:α) (l:List α):Prop:=∀i j,i<l.length->j<l.length->i≠j->o (l.getD i d) (l.getD j d)≠0
theorem dG (k:SO o) (l:List α):WC o d l↔l.Pairwise λa b=>o a b≠0:=by
 have e:∀i (h:i<l.length),l.getD i d=l[i]:=λi h=>by rw[AS,DO h];rfl
 rw[iN];constructor
 .intro h i j hi c g;have:=h i j hi c oa
  rwa [e i hi,e j c]at this
 intro h i j hi c g;rw[e i hi,e j c];rcases Nat.lt_or_gt_of_ne g with f|f
 .exact h i j hi c f
 have m:=h j i c hi f;rw[k.anti];omega
theorem WC.perm (c:SO o) {l r:List α} (h:WC o d l) (hp:r.Perm l):WC o d r:=by
 rw[dG c]at h ⊢;refine(hp.symm.pairwise_iff ?_).1 h;intro a b e;rw[c.anti];omega
theorem WC.lt (c:SO o) {l:List α} (h:WC o d l) {i j:Nat} (hi:i<l.length) (b:j<l.length) (a:i≠j) (f:¬o (l.getD i d) (l.getD j d)<0):o (l.getD j d) (l.getD i d)<0:=by
 have e:=h i j hi b a;rw[c.anti];omega
def PU (o:α->α->Int) (d:α) (a b:Nat) (l:List α):Prop:=∀i j,a<=i->i<j->j<b->o (l.getD i d) (l.getD j d)<0
theorem Vj (a:Nat) (l:List α):PU o d a (a+1) l:=λi j b c e=>by omega
theorem nP (k:SO o) {a b:Nat} {l:List α} (h:PU o d a b l) (n:a<b) (e:o (l.getD (b-1) d) (l.getD b d)<0):PU o d a (b+1) l:=by
 intro i j c f m;by_cases g:j=b
 .subst g;by_cases hi:i=j-1
  .rw[hi];exact e
  exact k.trans (h i (j-1) c oa oa) e
 exact h i j c f oa
theorem LX {a b:Nat} {l r:List α} (h:PU o d a b l) (e:∀k,a<=k->k<b->r.getD k d=l.getD k d):PU o d a b r:=λi j c g f=>by
 rw[e i c oa,e j oa f];exact h i j c g f
def Zs (o:α->α->Int) (d:α) (a i j:Nat) (m:List α):Prop:=(∀x y,a<=x->x<y->y<=i->x≠j->y≠j->o (m.getD x d) (m.getD y d)<0)/\∀y,j<y->y<=i->o (m.getD j d) (m.getD y d)<0
theorem Zt {a i:Nat} {m:List α} (h:PU o d a i m):Zs o d a i i m:=⟨λx y c b e f g=>h x y c b oa,λy b e=>by omega⟩
theorem Rv (l:SO o) {a i j:Nat} {m:List α} (h:Zs o d a i j m) (p:a<=j) (q:j<=i) (b:j=a\/o (m.getD (j-1) d) (m.getD j d)<0):PU o d a (i+1) m:=by
 intro x y f g n;by_cases c:x=j
 .subst c;exact h.2 y g oa
 by_cases e:y=j
 .subst e;rcases b with b|b
  .omega
  by_cases k:x=y-1
  .subst k;exact b
  exact l.trans (h.1 x (y-1) f oa oa c oa) b
 exact h.1 x y f g oa c e
theorem UA {a i j:Nat} {m:List α} (h:Zs o d a i j m) (r:a<j) (s:j<=i) (hi:i<m.length) (q:o (m.getD j d) (m.getD (j-1) d)<0):Zs o d a i (j-1) (CP d m j (j-1)):=by
 have f:=HR (d:=d) (l:=m) (i:=j) (j:=j-1) oa oa;refine⟨λx y k g e n p=>?_,λy g e=>?_⟩
 .rw[f x,f y,As n,As p];by_cases c:x=j
  .subst c;rw[At rfl,As oa];exact h.1 (x-1) y oa oa e oa oa
  rw[As c];by_cases b:y=j
  .rw[At b];exact h.1 x (j-1) k oa oa c oa
  rw[As b];exact h.1 x y k g e c b
 rw[f (j-1),f y,At rfl,As oa];by_cases b:y=j
 .rw[At b];exact q
 rw[As b];exact h.2 y oa e
def Hp (o:α->α->Int) (d:α) (f hi lo:Nat) (m:List α):Prop:=∀k c,lo<=k->(c=2*k+1\/c=2*k+2)->c<hi->o (m.getD (f+c) d) (m.getD (f+k) d)<0
structure xE (o:α->α->Int) (d:α) (f hi lo root:Nat) (m:List α):Prop where
 le:lo<=root
 hp:∀k c,lo<=k->k≠root->(c=2*k+1\/c=2*k+2)->c<hi->o (m.getD (f+c) d) (m.getD (f+k) d)<0
 up:∀p c,lo<=p->(root=2*p+1\/root=2*p+2)->(c=2*root+1\/c=2*root+2)->c<hi->o (m.getD (f+c) d) (m.getD (f+p) d)<0
theorem gS {f hi lo:Nat} {m:List α} (h:Hp o d f hi (lo+1) m):xE o d f hi lo lo m:=⟨If _,λk c a b e g=>h k c oa e g,λp c a b=>by omega⟩
theorem nQ {f hi lo root:Nat} {m:List α} (h:xE o d f hi lo root m) (g:hi<=2*root+1):Hp o d f hi lo m:=λk c a b e=>h.hp k c a oa b e
theorem Xo (n:SO o) {f hi lo root a:Nat} {m:List α} (h:xE o d f hi lo root m) (p:a=2*root+1\/a=2*root+2) (j:o (m.getD (f+a) d) (m.getD (f+root) d)<0)
  (hs:∀c,(c=2*root+1\/c=2*root+2)->c<hi->c≠a->o (m.getD (f+c) d) (m.getD (f+a) d)<0):Hp o d f hi lo m:=λk c l b e=>by
 by_cases i:k=root
 .subst i;by_cases g:c=a
  .rw[g];exact j
  exact n.trans (hs c b e g) j
 exact h.hp k c l i b e
theorem Xp {f hi lo root a:Nat} {m:List α} (h:xE o d f hi lo root m) (u:a<hi) (x:f+hi<=m.length) (s:a=2*root+1\/a=2*root+2) (w:o (m.getD (f+root) d) (m.getD (f+a) d)<0)
  (hs:∀c,(c=2*root+1\/c=2*root+2)->c<hi->c≠a->o (m.getD (f+c) d) (m.getD (f+a) d)<0):xE o d f hi lo a (CP d m (f+root) (f+a)):=by
 have g:=HR (d:=d) (l:=m) (i:=f+root) (j:=f+a) oa oa;have y:=h.le;refine⟨by omega,λk c n r b e=>?_,λp c n r b e=>?_⟩
 .rw[g,g];by_cases q:k=root
  .subst q;rw[As (show ¬f+k=f+a by omega),At rfl];by_cases t:c=a
   .rw[At oa];exact w
   rw[As oa,As oa];exact hs c b e t
  rw[As (show ¬f+k=f+a by omega),As (show ¬f+k=f+root by omega)];by_cases v:c=root
  .subst v;rw[As oa,At rfl];exact h.up k a n b s u
  rw[As oa,As oa];exact h.hp k c n q b e
 have hp:p=root:=by omega
 subst hp;rw[g,g,As oa,As oa,As oa,At rfl];exact h.hp a c oa oa b e
theorem Xq (b:SO o) {f hi:Nat} {m:List α} (h:Hp o d f hi 0 m):∀(n k:Nat),k<=n->0<k->k<hi->o (m.getD (f+k) d) (m.getD f d)<0
 | 0,k,c,e,_=>by omega
 | n+1,k,c,e,g=>by
  have a:=h ((k-1) / 2) k oa oa g;by_cases i:(k-1) / 2=0
  .rw[i]at a;exact a
  exact b.trans a (Xq b h n ((k-1) / 2) oa oa oa)
structure gT (o:α->α->Int) (d:α) (f n i:Nat) (m:List α):Prop where
 heap:Hp o d f i 0 m
 srt:PU o d (f+i) (f+n) m
 big:∀x y,x<i->i<=y->y<n->o (m.getD (f+x) d) (m.getD (f+y) d)<0
theorem Zu {f n:Nat} {m:List α} (h:Hp o d f n 0 m):gT o d f n n m:=⟨h,λi j a b c=>by omega,λx y a b c=>by omega⟩
theorem gU (u:SO o) {f n i:Nat} {m:List α} (h:gT o d f n (i+1) m) (hi:i<n) (w:f+n<=m.length) :
  xE o d f i 0 0 (CP d m f (f+i))/\PU o d (f+i) (f+n) (CP d m f (f+i))/\∀x y,x<i->i<=y->y<n->o ((CP d m f (f+i)).getD (f+x) d) ((CP d m f (f+i)).getD (f+y) d)<0:=by
 have a:=HR (d:=d) (l:=m) (i:=f) (j:=f+i) oa oa;have r:=Xq u h.heap i;refine⟨⟨If _,λk c e g b v=>?_,λp c e g=>by omega⟩,λx y e g b=>?_,λx y e g b=>?_⟩
 .rw[a,a,As oa,As oa,As oa,As oa];exact h.heap k c e b oa
 .rw[a,a,As (show ¬y=f+i by omega),As (show ¬y=f by omega)];by_cases q:x=f+i
  .rw[At q];have:=h.big 0 (y-f) oa oa oa
   rwa [show f+0=f by omega,show f+(y-f)=y by omega]at this
  rw[As q,As oa];exact h.srt x y oa g b
 have key:∀z,z<i+1->i+1<=y->o (m.getD (f+z) d) (m.getD (f+y) d)<0:=λz t s=>h.big z y t s b;rw[a,a,As (show ¬f+x=f+i by omega)];by_cases s:y=i
 .rw[At (show f+y=f+i by omega)];by_cases q:x=0
  .rw[At (show f+x=f by omega)];exact r i oa oa oa
  rw[As (show ¬f+x=f by omega)];exact r x oa oa oa
 rw[As (show ¬f+y=f+i by omega),As (show ¬f+y=f by omega)];by_cases q:x=0
 .rw[At (show f+x=f by omega)];exact key i oa oa
 rw[As (show ¬f+x=f by omega)];exact key x oa oa
theorem gV {f n i:Nat} {m r:List α} (hp:Df d f (f+i) m r) (h:Hp o d f i 0 r) (hs:PU o d (f+i) (f+n) m) (g:∀x y,x<i->i<=y->y<n->o (m.getD (f+x) d) (m.getD (f+y) d)<0):gT o d f n i r :=
 ⟨h,LX hs λk b a=>hp.out k oa,λx y b a c=>by
  rw[hp.out (f+y) oa];obtain⟨j,l,p,e⟩:=hp.inn (f+x) oa oa;rw[e];have:=g (j-f) y oa a c
  rwa [show f+(j-f)=j by omega]at this⟩
theorem nR {f n:Nat} {m:List α} (h:gT o d f n 0 m):PU o d f (f+n) m:=h.srt
structure xF (o:α->α->Int) (d:α) (a b i j:Nat) (m:List α):Prop where
 lo:∀x,a<x->x<i->o (m.getD x d) (m.getD a d)<0
 hi:∀x,j<x->x<b->o (m.getD a d) (m.getD x d)<0
theorem Xr {a b i j:Nat} {m:List α} (h:xF o d a b i j m) (p:a<i) (r:i<j) (s:j<b) (q:b<=m.length) (k:o (m.getD a d) (m.getD i d)<0) (n:o (m.getD j d) (m.getD a d)<0):xF o d a b (i+1) (j-1) (CP d m i j):=by
 have c:=HR (d:=d) (l:=m) (i:=i) (j:=j) oa oa;refine⟨λx f g=>?_,λx f g=>?_⟩
 .rw[c x,c a,As (show ¬x=j by omega),As (show ¬a=j by omega),As (show ¬a=i by omega)];by_cases e:x=i
  .rw[At e];exact n
  rw[As e];exact h.lo x f oa
 rw[c x,c a,As (show ¬a=j by omega),As (show ¬a=i by omega)];by_cases e:x=j
 .rw[At e];exact k
 rw[As e,As oa];exact h.hi x oa g
structure jP (o:α->α->Int) (d:α) (a b p:Nat) (m:List α):Prop where
 l:a<=p
 r:p<b
 lo:∀x,a<=x->x<p->o (m.getD x d) (m.getD p d)<0
 hi:∀x,p<x->x<b->o (m.getD p d) (m.getD x d)<0
theorem dH {a b j:Nat} {m:List α} (h:xF o d a b (j+1) j m) (g:a<=j) (k:j<b) (p:b<=m.length):jP o d a b j (CP d m j a):=by
 have c:=HR (d:=d) (l:=m) (i:=j) (j:=a) oa oa;refine⟨g,k,λx n f=>?_,λx n f=>?_⟩
 .rw[c x,c j,As (show ¬j=a by omega),At rfl];by_cases e:x=a
  .rw[At e];exact h.lo j oa oa
  rw[As e,As oa];exact h.lo x oa oa
 rw[c x,c j,As (show ¬x=a by omega),As (show ¬x=j by omega)];by_cases e:j=a
 .rw[At e];rw[e];exact h.hi x oa f
 rw[As e,At rfl];exact h.hi x oa f
structure gW (o:α->α->Int) (d:α) (a0 b0 a b:Nat) (m:List α):Prop where
 s1:PU o d a0 a m
 s2:PU o d b b0 m
 c1:∀x y,a0<=x->x<a->a<=y->y<b0->o (m.getD x d) (m.getD y d)<0
 c2:∀x y,a0<=x->x<b->b<=y->y<b0->o (m.getD x d) (m.getD y d)<0
 ab:a0<=a/\a<=b/\b<=b0
theorem gX {a b:Nat} (h:a<=b) (m:List α):gW o d a b a b m:=⟨λi j c e f=>by omega,λi j c e f=>by omega,λx y c e=>by omega,λx y c e f g=>by omega,by omega⟩
theorem gW.pin {a0 l a b:Nat} {m r:List α} (h:gW o d a0 l a b m) (hp:Df d a b m r):gW o d a0 l a b r:=by
 obtain⟨w,B,A⟩:=h.ab;have key:∀(P:α->Prop) (lo hi:Nat),lo<=a->b<=hi->(∀y,lo<=y->y<hi->P (m.getD y d))->∀y,lo<=y->y<hi->P (r.getD y d):=λP lo hi n p q y c f=>by
  obtain⟨j,s,t,e⟩:=(hp.mono n p).inn y c f;rw[e];exact q j s t
 refine⟨LX h.s1 λk u v=>hp.out k oa,LX h.s2 λk u v=>hp.out k oa,λx y g i c f=>?_,λx y g i c f=>?_,h.ab⟩
 .rw[hp.out x oa];exact key (λz=>o (m.getD x d) z<0) a l (If _) A (λy c f=>h.c1 x y g i c f) y c f
 rw[hp.out y oa];exact key (λz=>o z (m.getD y d)<0) a0 b w (If _) (λx g i=>h.c2 x y g i c f) x g i
theorem gW.done {a0 k a b:Nat} {m:List α} (h:gW o d a0 k a b m) (hs:PU o d a b m):PU o d a0 k m:=by
 obtain⟨n,p,q⟩:=h.ab;intro i j c e f;by_cases hi:i<a
 .by_cases g:j<a
  .exact h.s1 i j c e g
  exact h.c1 i j c hi oa f
 by_cases g:j<b
 .exact hs i j oa e g
 by_cases l:i<b
 .exact h.c2 i j c l oa f
 exact h.s2 i j oa e f
theorem gW.left (u:SO o) {a0 e a b p:Nat} {m:List α} (h:gW o d a0 e a b m) (hp:jP o d a b p m) (hs:PU o d a p m):gW o d a0 e (p+1) b m:=by
 obtain⟨A,B,C⟩:=h.ab;have w:=hp.l;have z:=hp.r;refine⟨λi j f g v=>?_,h.s2,λx y n D E q=>?_,h.c2,by omega⟩
 .by_cases hi:i<a
  .by_cases c:j<a
   .exact h.s1 i j f g c
   exact h.c1 i j f hi oa oa
  by_cases c:j=p
  .rw[c];exact hp.lo i oa oa
  exact hs i j oa g oa
 by_cases s:x<a
 .exact h.c1 x y n s oa q
 by_cases k:y<b
 .by_cases t:x=p
  .rw[t];exact hp.hi y oa k
  exact u.trans (hp.lo x oa oa) (hp.hi y oa k)
 exact h.c2 x y n oa oa q
theorem gW.right (w:SO o) {a0 g a b p:Nat} {m:List α} (h:gW o d a0 g a b m) (hp:jP o d a b p m) (hs:PU o d (p+1) b m):gW o d a0 g a p m:=by
 obtain⟨C,D,E⟩:=h.ab;have A:=hp.l;have B:=hp.r;refine⟨h.s1,λi j z k n=>?_,λx y c e s f=>h.c1 x y c e s f,λx y c e s f=>?_,by omega⟩
 .by_cases q:j<b
  .by_cases hi:i=p
   .rw[hi];exact hp.hi j oa q
   exact hs i j oa k q
  by_cases t:i<b
  .exact h.c2 i j oa t oa n
  exact h.s2 i j oa k n
 by_cases v:y<b
 .by_cases u:x<a
  .exact h.c1 x y c u oa f
  by_cases hyp:y=p
  .rw[hyp];exact hp.lo x oa e
  exact w.trans (hp.lo x oa e) (hp.hi y oa v)
 exact h.c2 x y c oa oa f
theorem jP.pinL {a b p:Nat} {m r:List α} (h:jP o d a b p m) (hp:Df d a p m r):jP o d a b p r:=by
 have g:=h.l;have i:=h.r;refine⟨g,i,λx c f=>?_,λx c f=>?_⟩
 .rw[hp.out p oa];obtain⟨j,k,n,e⟩:=hp.inn x c f;rw[e];exact h.lo j k n
 rw[hp.out p oa,hp.out x oa];exact h.hi x c f
theorem jP.pinR {a b p:Nat} {m r:List α} (h:jP o d a b p m) (hp:Df d (p+1) b m r):jP o d a b p r:=by
 have g:=h.l;have i:=h.r;refine⟨g,i,λx f c=>?_,λx f c=>?_⟩
 .rw[hp.out p oa,hp.out x oa];exact h.lo x f c
 rw[hp.out p oa];obtain⟨j,n,k,e⟩:=hp.inn x oa c;rw[e];exact h.hi j oa k
def Bf (o:α->α->Int) (d:α) (a b:Nat) (m:List α):Prop:=a=0\/∀y,a<=y->y<b->o (m.getD (a-1) d) (m.getD y d)<0
theorem Bf.pin {a b:Nat} {m r:List α} (h:Bf o d a b m) (hp:Df d a b m r):Bf o d a b r:=by
 rcases h with h|h
 .exact .inl h
 by_cases c:a=0
 .exact .inl c
 right;intro y i k;rw[hp.out (a-1) oa];obtain⟨j,f,g,e⟩:=hp.inn y i k;rw[e];exact h j f g
theorem Bf.sub {a b b':Nat} {m:List α} (h:Bf o d a b m) (e:b'<=b):Bf o d a b' m:=h.imp id λh y c f=>h y c oa
theorem jP.bf {a b p:Nat} {m:List α} (h:jP o d a b p m):Bf o d (p+1) b m:=.inr λy e c=>by
 rw[show p+1-1=p by omega];exact h.hi y oa c
end
theorem uN (x y:Int) (d:0<=y) (e:y<4611686018427387904):0<=A4 .and .u64 x y/\A4 .and .u64 x y<=y:=by
 have g:(IntKind.u64).bits=64:=rfl;have a:(BitVec.ofInt 64 y).toNat=y.toNat:=by
  rw[BitVec.toNat_ofInt];omega
 have f:(BitVec.ofInt 64 x &&& BitVec.ofInt 64 y).toNat<=y.toNat:=by
  rw[ACI,a];exact AC9
 have b:A4 .and .u64 x y=IntKind.u64.wrap (((BitVec.ofInt 64 x &&& BitVec.ofInt 64 y).toNat:Nat):Int):=rfl;rw[b];generalize (BitVec.ofInt 64 x &&& BitVec.ofInt 64 y).toNat=z at *;have c:IntKind.u64.wrap (z:Int)=(z:Int):=by
  have h:(z:Int)<18446744073709551616:=by omega
  have:IntKind.u64.wrap (z:Int)=(z:Int) % 18446744073709551616:=by
   first|rfl|(simp[IntKind.wrap];done)
  rw[this];omega
 rw[c];omega
theorem A0N (z:Int):0<=IntKind.u64.wrap z/\IntKind.u64.wrap z<=18446744073709551615:=by
 have:IntKind.u64.wrap z=z % 18446744073709551616:=by
  first|rfl|(simp[IntKind.wrap];done)
 omega
theorem Xs (x y:Int):0<=A4 .xor .u64 x y/\A4 .xor .u64 x y<=18446744073709551615:=A0N _
theorem nS {x:Int} (a:0<=x) (b:x<=18446744073709551615):0<=Cj .u64 x 7/\Cj .u64 x 7<=18446744073709551615:=by
 show 0<=x.fdiv 128/\x.fdiv 128<=18446744073709551615;rw[ABl _ di];omega
theorem gY (x:Int) (i:0<=x) (e:x<256):Aj Tryz.prog 141 [.p (.int .u64) x] [] [] (λres h=>(∃n:Nat,res=.p T3 (n:Int)/\n<=8/\(1<=x.toNat->x.toNat<2 ^ n/\2 ^ n<=2*x.toNat))/\h=[]):=by
 refine Er [0,2,4,8,14] [] [] Tryz.func141 Tryz.ntmps141 AH ?_;intro w0 K O0 ρ0 a j l;simp only[AX];repeat'(first|exact trivial|apply eS rfl|refine rX a ?_ ?_|refine rC ?_ ?_<;>intro b<;>try(cases b;done))
 all_goals first|(exfalso;omega)|skip
 refine F7 [0,2] a rfl (by simp only[go_sem,Nat.reduceEqDiff,reduceCtorEq,Nat.reduceAdd,Nat.reduceSub,Nat.reduceMul,Nat.reduceLeDiff,Nat.reduceLT,Int.reduceLE,Int.reduceToNat,Int.reduceNeg,↓reduceIte,ByteArray.size,AAD,AN];rfl) ?_ ?_
 .have d:∀u:UInt8,((u.toNat:Nat):Int)<=255:=λu=>by have:=u.toNat_lt;omega
  have c:0<=x:=by omega
  refine⟨⟨c,by omega⟩,⟨c,?_⟩,⟨?_,?_⟩,?_,?_⟩
  .have f:x<((256:Nat):Int):=e;exact f
  .exact AAE di (AAg _)
  .exact AAE (d _) di
  .rw[Int.zero_add];exact AAE di (AAg _)
  rw[Int.zero_add];exact AAE (d _) di
 repeat' apply eS rfl
 refine fM a [.tmp 2] (.p T3 _) (by simp only[PC,Wn,KS,PB,IY,Gf,GP,go_sem,Nat.reduceEqDiff,reduceCtorEq,Nat.reduceAdd,Nat.reduceSub,Nat.reduceMul,Nat.reduceLeDiff,Nat.reduceLT,Int.reduceLE,Int.reduceToNat,Int.reduceNeg,↓reduceIte];rfl) ⟨⟨_,by rw[Int.zero_add],?_⟩,rfl⟩;have g:x.toNat<256:=by omega
 generalize x.toNat=k at *;clear b;revert g;revert k;decide
theorem gZ:Aj Tryz.prog 141 [.p (.int .u64) 256] [] [] (λres c=>res=.p T3 ((9:Nat):Int)/\c=[]):=by
 refine Er [0,2,4,8,14] [] [] Tryz.func141 Tryz.ntmps141 AH ?_;intro w0 K O0 ρ0 a d f;simp only[AX];repeat'(first|exact trivial|apply eS rfl|refine rX a ?_ ?_|refine rC ?_ ?_<;>intro b<;>try(cases b;done))
 all_goals first|(exfalso;omega)|skip
 .exact by decide
 .exact by decide
 have e:Cj .u64 256 8=1:=by decide
 rw[e];refine F7 [0,2] a rfl (by simp only[go_sem,Nat.reduceEqDiff,reduceCtorEq,Nat.reduceAdd,Nat.reduceSub,Nat.reduceMul,Nat.reduceLeDiff,Nat.reduceLT,Int.reduceLE,Int.reduceToNat,Int.reduceNeg,↓reduceIte,ByteArray.size,AAD,AN];rfl) ?_ ?_
 .exact by decide
 repeat' apply eS rfl
 exact fM a [.tmp 2] (.p T3 _) (by simp only[PC,Wn,KS,PB,IY,Gf,GP,go_sem,Nat.reduceEqDiff,reduceCtorEq,Nat.reduceAdd,Nat.reduceSub,Nat.reduceMul,Nat.reduceLeDiff,Nat.reduceLT,Int.reduceLE,Int.reduceToNat,Int.reduceNeg,↓reduceIte];rfl) ⟨p7 (AV.p T3) di,rfl⟩
theorem Rw {P:Program} {f:FuncId} {args:List AV} {objs:List (Nat×Obj)} {stay:List Nat} {p q:AV->List (Nat×Obj)->Prop} (h:Aj P f args objs stay p) (m:∀res a,p res a->q res a):Aj P f args objs stay q :=
 ⟨h.1,λw K O0 ρ n b c d i j=>(h.2 w K O0 ρ n b c d i j).mono λe w' ⟨u,l,res,o,ρ',g,k⟩=>⟨u,l,res,o,ρ',m _ _ g,k⟩⟩
theorem hC (x:Int) (c:0<=x) (d:x<=256):Aj Tryz.prog 141 [.p (.int .u64) x] [] [] (λres b=>(∃n:Nat,res=.p T3 (n:Int)/\n<=9/\(1<=x.toNat->x.toNat<2 ^ n/\2 ^ n<=2*x.toNat))/\b=[]):=by
 rcases Int.lt_or_eq_of_le d with a|a
 .exact Rw (gY x c a) λres b ⟨⟨n,e,h,g⟩,k⟩=>⟨⟨n,e,by omega,g⟩,k⟩
 subst a;exact Rw gZ λres b ⟨e,k⟩=>⟨⟨9,e,by decide,λ_=>by decide⟩,k⟩
theorem dI (x:Int) (c:0<=x) (d:x<=256):Aj Tryz.prog 88 [.p (.int .u64) x] [] [] (λres f=>(∃n:Nat,res=.p T3 (n:Int)/\n<=9/\(1<=x.toNat->x.toNat<2 ^ n/\2 ^ n<=2*x.toNat))/\f=[]):=by
 refine Er [0,2] [] [] Tryz.func88 Tryz.ntmps88 AH ?_;intro w0 K O0 ρ0 a g h;simp only[AX];repeat'(first|exact trivial|apply eS rfl|refine rX a ?_ ?_|refine rC ?_ ?_<;>intro b<;>try(cases b;done))
 refine cP 1 a ?_ ?_
 .trivial
 refine rMe a (hC x c d) [] [] ?_
 rintro _ _ ⟨⟨n,rfl,e⟩,rfl⟩;refine⟨[],.p T3 (n:Int),[],rfl,rfl,?_,?_,rfl,rfl,?_⟩
 .exact eN
 .exact eN
 refine rL a ?_ ?_
 .trivial
 repeat' apply eS rfl
 exact fM a [.tmp 2] (.p T3 (n:Int)) eT ⟨⟨n,rfl,e⟩,rfl⟩
theorem uO (x:Int) (h:1<=x) (d:x<=256):Aj Tryz.prog 172 [.p T3 x] [] [] (λres g=>(∃m:Nat,res=.p (.int .u64) (m:Int)/\x.toNat<m/\m<=2*x.toNat)/\g=[]):=by
 refine Er [0,2] [] [] Tryz.func172 Tryz.ntmps172 AH ?_;intro w0 K O0 ρ0 a j k;simp only[AX];repeat'(first|exact trivial|apply eS rfl|refine rX a ?_ ?_)
 refine cP 2 a ?_ ?_
 .exact CC
 refine rMe a (dI x oa d) [] [] ?_
 rintro _ _ ⟨⟨n,rfl,i,f⟩,rfl⟩;obtain⟨b,c⟩:=f oa;refine⟨[],.p T3 (n:Int),[],rfl,rfl,?_,?_,rfl,rfl,?_⟩
 .exact eN
 .exact eN
 refine rL a ?_ ?_
 .trivial
 have e:Pc .u64 1 (n:Int)=((2 ^ n:Nat):Int):=by
  clear b c;have:∀n:Fin 10,Pc .u64 1 ((n.val:Nat):Int)=((2 ^ n.val:Nat):Int):=by decide
  exact this ⟨n,by omega⟩
 rw[e];repeat' apply eS rfl
 exact fM a [.tmp 2] (.p (.int .u64) ((2 ^ n:Nat):Int)) eT ⟨⟨_,rfl,b,c⟩,rfl⟩
theorem uP (s:Int) (hs:0<=s/\s<=18446744073709551615):Aj Tryz.prog 173 [.bp 70 [] 0] [(70,.box 188 false [.p (.int .u64) s])] [70] (λres b=>∃v:Int,(0<=v/\v<=18446744073709551615)/\res=.p (.int .u64) v/\b=[(70,.box 188 false [.p (.int .u64) v])]):=by
 refine Er [0,2] [] [] Tryz.func173 Tryz.ntmps173 AH ?_;intro w0 K O0 ρ0 a c d;simp only[AX];repeat'(first|exact trivial|apply eS rfl|refine rX a ?_ ?_)
 .have:=Xs s (Pc .u64 s 13);exact nS this.1 this.2
 exact fM a [.tmp 2] (.p (.int .u64) _) eT ⟨_,Xs _ _,rfl,rfl⟩
section
attribute [local go_sem] c9 U9 VA bM qF zY cs3 cs4 cs5 cs6
def nT:Spec:={ ins:=[Ty.int .i32],pre:=λ_=>True,out:=λ(c,_)=>[.p .bool (BO 65 90 c)] }
attribute [local go_sem] nT
theorem uQ:Ap Tryz.prog 160 nT:=by
 refine fK [0,2] Tryz.func160 Tryz.ntmps160 AH ?_;rintro w0 O0 ⟨c,u⟩ a - -;simp only[nT,AP];repeat'(first|exact trivial|apply eS rfl|refine rX a ?_ ?_)
 exact fI a [.tmp 2] (by unfold BO;exact eR)
def uR (s:ByteArray) (i:Nat):Bool:=BO 65 90 (ZL s i)||(decide (i≠0)&&(BO 48 57 (ZL s i)||ZL s i==45))
theorem Rx (s:ByteArray):Bc s true=(decide (1<=s.size/\s.size<=32)&&(List.range s.size).all (uR s)):=by
 rw[AAo];simp only[Bc,Kb,AT,OF,wT,IF,Do,IS,gO];constructor
 .rintro⟨⟨⟨⟨d,e⟩,f⟩,g⟩,b⟩;refine⟨⟨by omega,by omega⟩,λi hi=>?_⟩;have:=b i hi;unfold JM at this;unfold uR;by_cases a:i=0
  .subst a;rw[f,g]at this;simpa using this
  simp only[ABg,ABU,ABH,ABo,bY]at this;simp only[ACO,a,ACx,decide_true,ABg,bY];rcases this with (h|h)|h
  .exact .inr (.inl h)
  .exact .inr (.inr h)
  exact .inl h
 rintro⟨⟨d,e⟩,b⟩;have a:=b 0 oa;simp only[uR,ACO,ABq,decide_false,ABH,ABo]at a;have c:=a;simp only[BO,AT,Do]at c;refine⟨⟨⟨⟨by omega,by omega⟩,?_⟩,?_⟩,λi hi=>?_⟩
 .simp only[BO,AA1,IF];right;omega
 .simp only[AAI];omega
 have:=b i hi;unfold uR at this;unfold JM;simp only[ABg,ABU,ABH,ABo,bY];simp only[bY,AT]at this;rcases this with h|⟨-,h|h⟩
 .exact .inr h
 .exact .inl (.inl h)
 exact .inl (.inr h)
theorem uS {s:ByteArray} {p:Nat} (h:p<s.size) {q:Nat} {r:Int} (b:(s[p]'h).toNat<128->q=p+1/\r=((s[p]'h).toNat:Int)) (c:128<=(s[p]'h).toNat->128<=r) :
  (BO 65 90 r||(decide (p≠0)&&(BO 48 57 r||r==45)))=uR s p/\(uR s p=true->q=p+1):=by
 unfold uR;rw[dB s p h];by_cases d:(s[p]'h).toNat<128
 .obtain⟨e,a⟩:=b d;rw[a];exact⟨rfl,λ_=>e⟩
 have a:=c oa;have f:∀x:Int,128<=x->(BO 65 90 x||(decide (p≠0)&&(BO 48 57 x||x==45)))=false:=by
  intro x g;simp only[BO,wT,AA1,IF,AAI];exact⟨.inr oa,.inr ⟨.inr oa,by omega⟩⟩
 rw[f r a,f _ oa];exact⟨rfl,λh=>by cases h⟩
theorem Xt (s:ByteArray):Aj Tryz.prog 159 [.p T9 s,.fn 160] [] [] (λres _=>res=.p .bool (Bc s true)):=by
 refine Er [0,1,4,5,6,14,16,17,18,37] [] [] Tryz.func159 Tryz.ntmps159 (AF uQ (AF dA AH)) ?_;intro w0 K O0 ρ0 a u x;have v:s.size<=AN:=u.1;simp only[AX];repeat'(first|exact trivial|apply eS rfl|refine rX a ?_ ?_|refine rC ?_ ?_<;>intro c<;>try(cases c;done))
 .have b:Bc s true=false:=by
   rw[Rx,AA1];exact .inl (ABx oa)
  exact fM a [.tmp 4] (.p .bool false) eT (by rw[b])
 refine cP 1 a ?_ ?_
 .trivial
 refine A0m a (by kernel_rfl) ?_;refine Bq ?_;repeat' apply eS rfl
 refine AJ (ι:={p:Nat//p<=s.size/\∀i,i<p->uR s i=true}) (λp=>⟨[(0,.p T9 s),(1,.fn 160),(16,.bp 16 [] 0)],[(16,.sit s p.1)]⟩) (λp=>s.size-p.1) ⟨0,BY _,λ_ h=>by omega⟩ (eW [(16,.nm 16)]) (λp=>?_)
 obtain⟨p,hp,j⟩:=p;simp only;repeat' apply eS rfl
 refine cP 0 a ?_ ?_
 .trivial
 refine A0n a v (λh=>?_) (λh q r A l m hi=>?_)
 .refine rL a ?_ ?_
  .trivial
  repeat'(first|exact trivial|apply eS rfl|refine rX a ?_ ?_|refine rC ?_ ?_<;>intro c<;>try(cases c;done))
  have z:p=s.size:=by omega
  have b:Bc s true=true:=by
   rw[Rx,AT];exact⟨AAt oa,IS.2 λi hi=>j i (by rw[gO]at hi;omega)⟩
  exact fM a [.tmp 4] (.p .bool true) eT (by rw[b])
 have f:=uS h l m;refine rL a ?_ ?_
 .trivial
 repeat'(first|exact trivial|apply eS rfl|apply AB|refine rX a ?_ ?_|refine rC ?_ ?_<;>intro c<;>try(cases c;done))
 .have b:Bc s true=false:=by
   rw[Rx,AA1];refine .inr (ABj.2 λo=>?_);have:=IS.1 o p (gO.2 h);rw[<-f.1]at this;simp only[bY,AT,Do,AA9]at this;rcases c with ⟨d,e⟩
   rw[d]at this;rcases this with h|⟨y,h⟩
   .cases h
   rcases e with g|⟨g,k⟩
   .omega
   rw[g]at h;rcases h with h|h
   .cases h
   exact k h
  exact fM a [.tmp 4] (.p .bool false) eT (by rw[b])
 have b:uR s p=true:=by
  rw[<-f.1];simp only[bY,AT,Do,AA9];cases d:BO 65 90 r
  .obtain⟨w,n⟩:=c d;refine .inr ⟨by omega,?_⟩;cases e:BO 48 57 r
   .have:=n e;exact .inr (by simpa using this)
   exact .inl rfl
  exact .inl rfl
 obtain rfl:=f.2 b;refine⟨⟨p+1,by omega,λi hi=>?_⟩,by simp only;omega,AC [(16,.nm 16)] rfl rfl ?_ ?_⟩
 .by_cases t:i=p
  .rw[t];exact b
  exact j i oa
 .exact eN
 exact eN
def Vk:Spec:={ ins:=[T9],pre:=λ_=>True,out:=λ(s,_)=>[.p .bool (Bc s true)] }
attribute [local go_sem] Vk
theorem nU:Ap Tryz.prog 111 Vk:=by
 refine fK [0,2] Tryz.func111 Tryz.ntmps111 AH ?_;rintro w0 O0 ⟨s,u⟩ a - -;simp only[Vk,AP];repeat'(first|exact trivial|apply eS rfl|refine rX a ?_ ?_)
 refine cP 1 a ?_ ?_
 .trivial
 refine rMe a (Xt s) [] [] ?_
 rintro _ _ rfl;refine⟨[],.p .bool (Bc s true),[],rfl,rfl,?_,?_,rfl,rfl,?_⟩
 .exact eN
 .exact eN
 refine rL a ?_ ?_
 .trivial
 repeat' apply eS rfl
 exact fI a [.tmp 2]
end
section
variable {d:List AD}
theorem GH (d:List AD):((B4 d).1.map λt=>t.2.1)=(AE d).map λx=>x.2:=by
 show ((Ej _ _ _).map λt=>t.2.1)=_;unfold Ej;rw[AB8];apply AAx
 .simp
 intro i a b;simp[AS,show i<(AE d).length by simpa using a]
theorem nV (d:List AD):(B4 d).1.length=(AE d).length:=LV _ _ _
theorem y5 (d:List AD) {k:Nat} (a:k<(AE d).length):(B4 d).1.getD k Re=(((AE d).getD k c0).1,((AE d).getD k c0).2,Th (AE d) (k:Int),(CS d).1.getD k []):=by
 unfold B4 Ej;simp[AS,a]
theorem LY (d:List AD) {t:Int} (t0:0<=t) (a:t<((AE d).length:Int)):Ay (B4 d) t=((AE d).getD t.toNat c0).2:=by
 unfold Ay;rw[y5 d oa]
def Cd (l:List (List Int)) (c:List Int):Prop:=c=[]\/c∈l
theorem nW {l:List (List Int)} (a:FY l) {c:List Int} (h:Cd l c):Ei c:=by
 rcases h with rfl|h
 .exact λx b=>by cases b
 exact a.wds c h
theorem y6 {l:List (List Int)} (f:FY l) (r:Nd l) {a b:List Int} (d:Cd l a) (n:b∈l):Cd l (DP a b):=by
 have j:=nW f d;have k:=f.wds b n;have p:tW (DP a b):=by unfold DP;exact DD _
 have o:=λi=>LT j k i;by_cases hi:∃i,A0 a i=true/\A0 b i=true
 .rcases d with rfl|d
  .obtain⟨i,m,-⟩:=hi;unfold A0 at m;simp at m
  obtain⟨t,g,e⟩:=f.meet a d b n hi;right;rw[MR (LU j k) (f.wds t g) p (r.nrm t g) λi=>by rw[o,e]];exact g
 left;refine IN λq=>?_;unfold DP at q;have s:Ei (DP a b):=LU j k;have:∃i,A0 (DP a b) i=true:=by
  have c:=p;rcases c with c|c
  .exact absurd (dO c) q
  exact XU s c
 obtain⟨i,h⟩:=this;rw[o,AT]at h;exact hi ⟨i,h⟩
def xG (d:List AD) (t:Int) (s:ByteArray) (x:AD):Prop:=(Bk x s).2=true/\NM (B4 d) (A7 (AE d) x.1) t=true
def qG (d:List AD) (s:ByteArray) (x:AD):List Int:=((AE d).getD (A7 (AE d) (Bk x s).1).toNat c0).2
theorem dJ (a:VT d (AE d)) {x:AD} (b:x∈d):0<=A7 (AE d) x.1/\A7 (AE d) x.1<((AE d).length:Int):=⟨a.1 x b,HN _ _⟩
theorem Zv (a:VT d (AE d)) {x:AD} (c:x∈d) {s:ByteArray} (b:(Bk x s).2=true):0<=A7 (AE d) (Bk x s).1/\A7 (AE d) (Bk x s).1<((AE d).length:Int):=⟨a.value c b,HN _ _⟩
theorem dK (d:List AD) {k:Int} (a:0<=k) (b:k<((AE d).length:Int)):((AE d).getD k.toNat c0).2∈(AE d).map λx=>x.2:=To.2 ⟨_,AL oa,rfl⟩
theorem hY (b:tV (B4 d)) {a t:Int} (a0:0<=a) (f:a<((AE d).length:Int)) (t0:0<=t) (g:t<((AE d).length:Int)):Jv (AE d) a t=NM (B4 d) a t:=by
 have j:=nV d;have c:a<((B4 d).1.length:Int):=by omega
 have e:t<((B4 d).1.length:Int):=by omega
 have h:=b.1.wds _ (C7 a0 c);have i:=b.1.wds _ (C7 t0 e);rw[AAo];unfold Jv;rw[<-LY d a0 f,<-LY d t0 g,EC i h];exact(Ri b a0 c t0 e).symm
theorem Vl (k:tV (B4 d)) (m:Nd ((B4 d).1.map λt=>t.2.1)) (l:VT d (AE d)) {t:Int} (t0:0<=t) (w:t<((AE d).length:Int)) (s:ByteArray):∀(r:List AD) (o:List Int×Bool),(∀x∈r,x∈d)->Cd ((AE d).map λx=>x.2) o.1 ->
  Cd ((AE d).map λx=>x.2) (r.foldl (Iq (AE d) t s) o).1/\((r.foldl (Iq (AE d) t s) o).2=true↔o.2=true\/∃x∈r,xG d t s x)/\∀i,A0 (r.foldl (Iq (AE d) t s) o).1 i=true↔A0 o.1 i=true/\∀x∈r,xG d t s x->A0 (qG d s x) i=true
 | [],o,_,j=>⟨j,by simp,λi=>by simp⟩
 | x :: r,o,v,j=>by
  rw[GH]at m;have u:FY ((AE d).map λx=>x.2):=by have:=k.1;rwa [GH]at this
  have B:=v x sa;obtain⟨C,D⟩:=dJ l B;have z:=hY k C D t0 w;rw[No];by_cases g:xG d t s x
  .obtain⟨v0,v1⟩:=Zv l B g.1;have e:Iq (AE d) t s o x=(DP o.1 (qG d s x),true):=by
    unfold Iq;rw[As]
    .rfl
    rw[g.1,z,g.2];simp
   have A:qG d s x∈(AE d).map λx=>x.2:=dK d v0 v1;obtain⟨h,p,q⟩:=Vl k (by rw[GH];exact m) l t0 w s r (Iq (AE d) t s o x) (λy f=>v y (by simp[f])) (by rw[e];exact y6 u m j A);refine⟨h,?_,λi=>?_⟩
   .rw[p,e];exact⟨λ_=>.inr ⟨x,by simp,g⟩,λ_=>.inl rfl⟩
   rw[q,e];simp only;rw[LT (nW u j) (u.wds _ A),AT];constructor
   .rintro⟨⟨a,b⟩,c⟩;refine⟨a,λy f n=>?_⟩;rcases Is.1 f with rfl|f
    .exact b
    exact c y f n
   rintro⟨a,b⟩;exact⟨⟨a,b x sa g⟩,λy f=>b y (by simp[f])⟩
  have e:Iq (AE d) t s o x=o:=by
   unfold Iq;rw[At];rw[z];unfold xG at g;cases h:(Bk x s).2 with
   | false=>simp
   | true =>
    rw[h]at g;have:NM (B4 d) (A7 (AE d) x.1) t=false:=by simpa using g
    rw[this];simp
  obtain⟨h,p,q⟩:=Vl k (by rw[GH];exact m) l t0 w s r (Iq (AE d) t s o x) (λy f=>v y (by simp[f])) (by rw[e];exact j);refine⟨h,?_,λi=>?_⟩
  .rw[p,e];constructor
   .rintro (a|⟨y,f,a⟩)
    .exact .inl a
    exact .inr ⟨y,by simp[f],a⟩
   rintro (a|⟨y,f,a⟩)
   .exact .inl a
   rcases Is.1 f with rfl|f
   .exact absurd a g
   exact .inr ⟨y,f,a⟩
  rw[q,e];constructor
  .rintro⟨a,b⟩;refine⟨a,λy f n=>?_⟩;rcases Is.1 f with rfl|f
   .exact absurd n g
   exact b y f n
  rintro⟨a,b⟩;exact⟨a,λy f=>b y (by simp[f])⟩
end
section
def nX (s:ByteArray):Nat->List FX->Int
 | _,[]=>-1
 | k,x :: l=>if AM x.1 s=true then (k:Int) else nX s (k+1) l
def Vm (h:C6) (s:ByteArray):Int:=nX s 0 h.1
theorem nY (s:ByteArray) (l:List FX) {k:Nat} (h:k<l.length):nX s k (l.drop k)=if AM (l.getD k Re).1 s=true then (k:Int) else nX s (k+1) (l.drop (k+1)):=by
 rw[iS h];have e:l.getD k Re=l[k]:=by simp[AS,h]
 rw[e];rfl
theorem uT (s:ByteArray) (t:FX):Aj Tryz.prog 22 [.p sE t,.bp 1 [] 0] [(1,.box 9 false [.p T9 s])] [1] (λres b=>res=.p .bool (AM t.1 s)/\b=[(1,.box 9 false [.p T9 s])]):=by
 refine Er [0,1,2,3] [] [] Tryz.func22 Tryz.ntmps22 AH ?_;intro w0 K O0 ρ0 a c d;simp only[AX];repeat'(first|exact trivial|apply eS rfl|refine rX a ?_ ?_)
 refine Ev.ent (σ':=⟨[(3,.p .bool (AM t.1 s))],[(1,.box 9 false [.p T9 s])]⟩) ?_ (AC [(1,.nm 1)] rfl rfl ?_ ?_)
 .exact fM a [.tmp 3] (.p .bool (AM t.1 s)) eT ⟨rfl,rfl⟩
 .exact eN
 exact eN
theorem hZ (l:List FX) (s:ByteArray):Aj Tryz.prog 21 [.p jN l,.clo 22 [1]] [(1,.box 9 false [.p T9 s])] [1] (λres i=>res=.p T3 (nX s 0 l)/\i=[(1,.box 9 false [.p T9 s])]):=by
 refine Er [0,1,4,5,7,8,9,16] [] [] Tryz.func21 Tryz.ntmps21 AH ?_;intro w0 K O0 ρ0 b f n;have m:l.length<=140737488355328:=f.1.1;simp only[AX];repeat'(first|exact trivial|apply eS rfl|refine rX b ?_ ?_)
 refine AJ (ι:={k:Nat//k<=l.length/\nX s k (l.drop k)=nX s 0 l}) (λk=>⟨[(0,.p jN l),(1,.clo 22 [1]),(7,.p (.int .i64) (l.length:Int)),(8,.p (.int .i64) (k.1:Int))],[(1,.box 9 false [.p T9 s])]⟩) (λk=>l.length-k.1) ⟨0,BY _,rfl⟩ (eW [(1,.nm 1)]) (λk=>?_)
 obtain⟨k,j,c⟩:=k;have g:=λh:k<l.length=>nY s l h;simp only;repeat'(first|exact trivial|apply eS rfl|refine rX b ?_ ?_|refine rC ?_ ?_<;>intro a<;>try(cases a;done))
 .have d:k<l.length:=An.1 a;have e:=g d;refine cP 5 b ?_ ?_
  .exact a
  refine rW b (uT s (l.getD k Re)) [(1,.nm 1)] [] [(1,.nm 1)] (.p .bool (AM (l.getD k Re).1 s)) ([(1,.box 9 false [.p T9 s])]) (Bq ?_)
  repeat'(first|exact trivial|apply eS rfl|apply AB|refine rX b ?_ ?_|refine rC ?_ ?_<;>intro a<;>try(cases a;done))
  .rw[At a,c]at e;refine Ev.ent (σ':=⟨[(4,.p (.int .i64) (k:Int))],[(1,.box 9 false [.p T9 s])]⟩) ?_ (AC [(1,.nm 1)] rfl rfl ?_ ?_)
   .exact fM b [.tmp 4] (.p T3 (k:Int)) eT ⟨by rw[e],rfl⟩
   .exact eN
   exact eN
  .omega
  rw[As (by rw[a];simp)]at e;exact⟨⟨k+1,d,e.symm.trans c⟩,by simp only;omega,eW [(1,.nm 1)]⟩
 have d:l.drop k=[]:=OR (NO.1 a);rw[d]at c;have c:(-1:Int)=nX s 0 l:=c;refine Ev.ent (σ':=⟨[(4,.p (.int .i64) (-1))],[(1,.box 9 false [.p T9 s])]⟩) ?_ (AC [(1,.nm 1)] rfl rfl ?_ ?_)
 .exact fM b [.tmp 4] (.p T3 (-1)) eT ⟨by rw[c],rfl⟩
 .exact eN
 exact eN
def Xu:Spec:={ ins:=[l3,T9],pre:=λ_=>True,out:=λ(h,s,_)=>[.p T3 (Vm h s)],lend:=true }
attribute [local go_sem] Xu
theorem dL:Ap Tryz.prog 6 Xu:=by
 refine fK [0,1,2,3,4] Tryz.func6 Tryz.ntmps6 AH ?_;rintro w0 O0 ⟨⟨b,c⟩,s,u⟩ a - -;simp only[Xu,AP];refine Ev.ent (σ':=⟨[(0,.p l3 (b,c)),(1,.p T9 s)],[]⟩) ?_ (AC [] rfl rfl ?_ ?_)
 .repeat'(first|exact trivial|apply eS rfl|refine rX a ?_ ?_)
  refine cP 3 a ?_ ?_
  .trivial
  refine rW a (hZ b s) [(1,.nm 3)] [] [(3,.nm 1)] (.p T3 (nX s 0 b)) ([(3,.box 9 false [.p T9 s])]) ?_
  refine rL a ?_ ?_
  .trivial
  repeat' apply eS rfl
  exact fI a [.tmp 4] (by unfold Vm;exact eR)
 .exact eN
 exact eN
end
end Go.Proofs.YtaoonfcjbmcmpaaGreatDoor.Fw
