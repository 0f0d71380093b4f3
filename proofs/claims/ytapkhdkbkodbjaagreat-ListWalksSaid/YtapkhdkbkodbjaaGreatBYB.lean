/- Contracts of the program's and the reference's functions, and the plain laws of what they compute: PS PA PB PC PD PE PF PL PG PH T1 G4 G5 G6 P1 P9 R08a P3 P4 P5 P2 P7 W1 W2 W3 W4 D2 D3 W5 U1 U2 U3 U4 U5 U6 U7 U8 U9 U10 N7 U11 U12 N8. -/
import Derived.Test.YtapkhdkbkodbjaaGreatBZJ
import Derived.Test.YtapkhdkbkodbjaaGreatBYA
import Derived.Test.YtapkhdkbkodbjaaGreatBZI
set_option linter.unusedVariables false
set_option linter.unusedSimpArgs false
namespace Go.Proofs.YtapkhdkbkodbjaaGreat.Fw
open Go
attribute [local irreducible] Ev
attribute [local go_sem] gZ AM List.toList_toArray Bn evG evK Y3 Ee KQ Gf Fi Hj SY Ni C0 DH Mn CV Cv frz mV Ga DG A2 FY BX AV.frz AV.frzs AV.drp AV.drps AV.names AV.namess aq Gc LB KG TT JA BZ Bd JY EI Ib EJ Id Ic Ie Vk Pa Gu KI Fb EB Vl RI qUn JZ Ig LU FB Db JD KJ EK TV DL EL Ey RJ Ih Ng FL Nf Pb RK LV JE KK EM Dc HA De Hi DM Ez DN EO Fd CV Ce PY RH OC GW JC JB KH Pe SW Nh La LY KN SX LZ KO b7 Pg Pf AV.trn AV.trns Er Cz Obj.trn Jl iO Dd ER EC EP CY E0 Ar lk HG Gb Hf bin mU Y7 mX SU zf1 zfs pfs AV.cells CA JW PZ KM Pd CS Nc Ty.cell1 Ia Es Da F5 Mm Eq KF LT RE FK Gt NU TR Vj LS KD b5 f8 ST Hd Cf G9 RV.flat Ty.flat Ty.size St.add upd del Ba Value.oneCell' LP Ty.dflt IZ Py Ht QH List.take_succ_cons List.take_zero List.length_cons iD iE QG Ji Lp HX Jj A2s Fj Mx My Mz M0 RW RY M2 Io WC Option.map_some Option.map_none Option.bind_some Option.getD_some Option.getD_none Option.isNone_none Option.isNone_some Bool.and_true Bool.true_and Bool.and_false Bool.false_and Bool.not_true Bool.not_false if_true if_false List.length_cons List.length_nil and_true true_and and_self List.all_cons List.all_nil List.append_nil List.nil_append List.cons_append List.getElem?_cons_zero List.getElem?_cons_succ List.getElem?_nil List.map_cons List.map_nil List.set_cons_zero List.set_cons_succ List.isEmpty_nil List.isEmpty_cons decide_true decide_false beq_self_eq_true bne_self_eq_false Nat.zero_add Nat.add_zero Nat.sub_zero Int.toNat_natCast Int.toNat_zero Int.toNat_one List.take_length List.length_append List.length_singleton true_or or_true or_self false_or or_false Ty.agg.injEq Ty.slice.injEq Ty.prod.injEq Ty.int.injEq Option.some.injEq beq_iff_eq Ln evMG evMQ opM Hv Ll B0 Jh Gv P6 Jf Hu Ip KZ LG OP Nn OQ TY Lm QB QC Jg Aa Am Op.operands Call.operands List.filterMap_cons List.filterMap_nil List.append_eq Bool.cond_false_right Bool.cond_true_left cond_true cond_false implies_true decide_eq_true_eq beq_true beq_false Bool.or_true Bool.or_false Bool.true_or Bool.false_or Option.isSome_some Array.empty_append List.append_toArray FZ Mo E1 Hg b6 Pc Fc GD GC Ii Hh KL LX Y8 mW He inB KP Fe GX Ja Aq iG List.drop_zero DT Hw cZ CK Ke CH AV.fgt AV.fgts Obj.fgt Av Aj Aa DB IY BL Gg List.any_cons List.any_nil nX iH c5 iI Ls Rd qs List.flatMap_cons List.flatMap_nil List.cons_append tn c8 HB List.take_succ_cons List.drop_succ_cons dC GJ A7 sE M7 B4 CJ Ae E4 KY Bg E3 Dg Hr Im GH Hs
attribute [local go_sem] ty1 ty2 ty3 ty4 ty5 ty9 A5Y A5Z A60 A61 A62 A63 A64 A65 A66 A67 A68 A69 A6a A6b A6c A6d A6e A6f A6g A6h A6i A6j A6k A6l A6m A6n A6o A6p A6q A6r A6s A6t A6u A6v A6w A6x A6y A6z A6A A6B A6C A6D A6E A6F A6G A6H A6I A6J A6K A6L A6M A6N A6O A6P A6Q A6R A6S A6T A6U A6V A6W A6X A6Y A6Z A70 A71 A72 A73 A74 A75 A76 sM sO sP sQ sR sS sT sU sV sW sY sZ s5 s6 s7 s8 s9 tA tB tC tD tE tF tG tH tI tJ tK tL tM tP tQ tR tS tT tU tV tW tY tZ t4 t5 t6 t7 t8 t9 uA uB uC uD uE uF uG uH uI uJ uK uL uM uN uP uQ uR uS uT uU uV uW uX uY uZ u3 u4 u5 u6 u7 u9 vA vB vC vE vF vG vH vI vJ vL vM vO vP vQ vS vU vV vW vX vY vZ v4 v5 v6 v7 v8 v9 wA wB wC wD wF wG wH wI wJ wK wL wM wN wP wQ wR wS wT wU wV wW wX wY wZ w5 w6 w9 xA xB xC xE xF xG xH xI xJ xL xM xN xO xP xQ xR xS xT xV xW xX xY xZ x5 x6 x7 x8 x9 yA yB yC yD yE yF yG
set_option maxRecDepth 100000
set_option maxHeartbeats 4000000
section
variable {α:Type}
structure SO (o:α->α->Int):Prop where
 anti:∀a b,o b a=- o a b
 trans:∀ {a b c},o a b<0->o b c<0->o a c<0
variable {o:α->α->Int} {d:α}
def CO (d:α) (l:List α) (i j:Nat):List α:=(l.set i (l.getD j d)).set j (l.getD i d)
theorem X1 {l:List α} {i j:Nat} (hi:i<l.length) (c:j<l.length) (k:Nat):(CO d l i j).getD k d=if k=j then l.getD i d else if k=i then l.getD j d else l.getD k d:=by
 unfold CO;simp only[AS,Up,UU];by_cases a:j=k
 .rw[BY a,BY (by omega),BY a.symm];rfl
 rw[As a,As (show ¬k=j by omega)];by_cases b:i=k
 .rw[BY b,BY (by omega),BY b.symm];rfl
 rw[As b,As (show ¬k=i by omega)]
theorem A18 {l:List α} {i j:Nat} (hi:i<l.length) (a:j<l.length):(CO d l i j).Perm l:=by
 have b:l.getD i d=l[i]:=by rw[AS,AT hi];rfl
 have c:l.getD j d=l[j]:=by rw[AS,AT a];rfl
 unfold CO;rw[b,c];exact List.set_set_perm hi a
structure Dt (d:α) (a b:Nat) (l r:List α):Prop where
 perm:r.Perm l
 out:∀k,k<a\/b<=k->r.getD k d=l.getD k d
 inn:∀i,a<=i->i<b->∃j,a<=j/\j<b/\r.getD i d=l.getD j d
theorem Dt.len {a b:Nat} {l r:List α} (h:Dt d a b l r):r.length=l.length:=h.perm.length_eq
theorem Dt.refl (a b:Nat) (l:List α):Dt d a b l l:=⟨List.Perm.refl _,λ_ _=>rfl,λi h1 c=>⟨i,h1,c,rfl⟩⟩
theorem Dt.trans {a b:Nat} {l r s:List α} (h:Dt d a b l r) (c:Dt d a b r s):Dt d a b l s:=⟨c.perm.trans h.perm,λk hk=>(c.out k hk).trans (h.out k hk),λi h1 g=>by
 obtain⟨j,m,n,e⟩:=c.inn i h1 g;obtain⟨k,o,p,f⟩:=h.inn j m n;exact⟨k,o,p,e.trans f⟩⟩
theorem Dt.mono {a b c b':Nat} {l r:List α} (h:Dt d a b l r) (ha:c<=a) (g:b<=b'):Dt d c b' l r:=⟨h.perm,λk hk=>h.out k (by omega),λi h1 f=>by
 by_cases hi:a<=i/\i<b
 .obtain⟨j,m,n,e⟩:=h.inn i hi.1 hi.2;exact⟨j,by omega,by omega,e⟩
 exact⟨i,h1,f,h.out i (by omega)⟩⟩
theorem Dt.swap {a b:Nat} (l:List α) {i j:Nat} (g:a<=i) (h:i<b) (m:a<=j) (n:j<b) (q:b<=l.length):Dt d a b l (CO d l i j):=by
 have f:=X1 (d:=d) (l:=l) (i:=i) (j:=j) (by omega) (by omega);refine⟨A18 (by omega) (by omega),λk hk=>?_,λk o p=>?_⟩
 .rw[f k,As (by omega),As (by omega)]
 rw[f k];by_cases c:k=j
 .rw[BY c];exact⟨i,g,h,rfl⟩
 rw[As c];by_cases e:k=i
 .rw[BY e];exact⟨j,m,n,rfl⟩
 rw[As e];exact⟨k,o,p,rfl⟩
def mS (o:α->α->Int) (d:α) (l:List α):Prop:=∀i j,i<l.length->j<l.length->i≠j->o (l.getD i d) (l.getD j d)≠0
theorem y7 (g:SO o) (l:List α):mS o d l↔l.Pairwise λa b=>o a b≠0:=by
 have e:∀i (h:i<l.length),l.getD i d=l[i]:=λi h=>by rw[AS,AT h];rfl
 rw[Tw];constructor
 .intro h i j hi c f;have:=h i j hi c (by omega)
  rwa [e i hi,e j c]at this
 intro h i j hi c f;rw[e i hi,e j c];rcases Nat.lt_or_gt_of_ne f with h1|h1
 .exact h i j hi c h1
 have k:=h j i c hi h1;rw[g.anti];omega
theorem mS.perm (c:SO o) {l r:List α} (h:mS o d l) (hp:r.Perm l):mS o d r:=by
 rw[y7 c]at h ⊢;refine(hp.symm.pairwise_iff ?_).1 h;intro a b e;rw[c.anti];omega
theorem mS.lt (c:SO o) {l:List α} (h:mS o d l) {i j:Nat} (hi:i<l.length) (b:j<l.length) (a:i≠j) (hn:¬o (l.getD i d) (l.getD j d)<0):o (l.getD j d) (l.getD i d)<0:=by
 have h1:=h i j hi b a;rw[c.anti];omega
def R4 (o:α->α->Int) (d:α) (a b:Nat) (l:List α):Prop:=∀i j,a<=i->i<j->j<b->o (l.getD i d) (l.getD j d)<0
theorem eF (a:Nat) (l:List α):R4 o d a (a+1) l:=λi j h1 b c=>by omega
theorem A3Z (g:SO o) {a b:Nat} {l:List α} (h:R4 o d a b l) (m:a<b) (c:o (l.getD (b-1) d) (l.getD b d)<0):R4 o d a (b+1) l:=by
 intro i j h1 e k;by_cases f:j=b
 .subst f;by_cases hi:i=j-1
  .rw[hi];exact c
  exact g.trans (h i (j-1) h1 (by omega) (by omega)) c
 exact h i j h1 e (by omega)
theorem NF {a b:Nat} {l r:List α} (h:R4 o d a b l) (e:∀k,a<=k->k<b->r.getD k d=l.getD k d):R4 o d a b r:=λi j h1 f c=>by
 rw[e i h1 (by omega),e j (by omega) c];exact h i j h1 f c
def pR (o:α->α->Int) (d:α) (a i j:Nat) (m:List α):Prop:=(∀x y,a<=x->x<y->y<=i->x≠j->y≠j->o (m.getD x d) (m.getD y d)<0)/\∀y,j<y->y<=i->o (m.getD j d) (m.getD y d)<0
theorem pS {a i:Nat} {m:List α} (h:R4 o d a i m):pR o d a i i m:=⟨λx y h0 h1 b c e=>h x y h0 h1 (by omega),λy h1 b=>by omega⟩
theorem Xe (g:SO o) {a i j:Nat} {m:List α} (h:pR o d a i j m) (l:a<=j) (n:j<=i) (b:j=a\/o (m.getD (j-1) d) (m.getD j d)<0):R4 o d a (i+1) m:=by
 intro x y h0 h1 k;by_cases c:x=j
 .subst c;exact h.2 y h1 (by omega)
 by_cases e:y=j
 .subst e;rcases b with b|b
  .omega
  by_cases f:x=y-1
  .subst f;exact b
  exact g.trans (h.1 x (y-1) h0 (by omega) (by omega) c (by omega)) b
 exact h.1 x y h0 h1 (by omega) c e
theorem aK {a i j:Nat} {m:List α} (h:pR o d a i j m) (h0:a<j) (q:j<=i) (hi:i<m.length) (p:o (m.getD j d) (m.getD (j-1) d)<0):pR o d a i (j-1) (CO d m j (j-1)):=by
 have f:=X1 (d:=d) (l:=m) (i:=j) (j:=j-1) (by omega) (by omega);refine⟨λx y g h1 e k n=>?_,λy h1 e=>?_⟩
 .rw[f x,f y,As k,As n];by_cases c:x=j
  .subst c;rw[BY rfl,As (by omega)];exact h.1 (x-1) y (by omega) (by omega) e (by omega) (by omega)
  rw[As c];by_cases b:y=j
  .rw[BY b];exact h.1 x (j-1) g (by omega) (by omega) c (by omega)
  rw[As b];exact h.1 x y g h1 e c b
 rw[f (j-1),f y,BY rfl,As (by omega)];by_cases b:y=j
 .rw[BY b];exact p
 rw[As b];exact h.2 y (by omega) e
def Hp (o:α->α->Int) (d:α) (f hi lo:Nat) (m:List α):Prop:=∀k c,lo<=k->(c=2*k+1\/c=2*k+2)->c<hi->o (m.getD (f+c) d) (m.getD (f+k) d)<0
structure HpX (o:α->α->Int) (d:α) (f hi lo root:Nat) (m:List α):Prop where
 le:lo<=root
 hp:∀k c,lo<=k->k≠root->(c=2*k+1\/c=2*k+2)->c<hi->o (m.getD (f+c) d) (m.getD (f+k) d)<0
 up:∀p c,lo<=p->(root=2*p+1\/root=2*p+2)->(c=2*root+1\/c=2*root+2)->c<hi->o (m.getD (f+c) d) (m.getD (f+p) d)<0
theorem A19 {f hi lo:Nat} {m:List α} (h:Hp o d f hi (lo+1) m):HpX o d f hi lo lo m:=⟨Is _,λk c h1 a b e=>h k c (by omega) b e,λp c h1 a=>by omega⟩
theorem A40 {f hi lo root:Nat} {m:List α} (h:HpX o d f hi lo root m) (e:hi<=2*root+1):Hp o d f hi lo m:=λk c h1 a b=>h.hp k c h1 (by omega) a b
theorem kE (i:SO o) {f hi lo root ch:Nat} {m:List α} (h:HpX o d f hi lo root m) (j:ch=2*root+1\/ch=2*root+2) (g:o (m.getD (f+ch) d) (m.getD (f+root) d)<0)
  (hs:∀c,(c=2*root+1\/c=2*root+2)->c<hi->c≠ch->o (m.getD (f+c) d) (m.getD (f+ch) d)<0):Hp o d f hi lo m:=λk c h1 a b=>by
 by_cases hk:k=root
 .subst hk;by_cases e:c=ch
  .rw[e];exact g
  exact i.trans (hs c a b e) g
 exact h.hp k c h1 hk a b
theorem kF {f hi lo root ch:Nat} {m:List α} (h:HpX o d f hi lo root m) (r:ch<hi) (hf:f+hi<=m.length) (n:ch=2*root+1\/ch=2*root+2) (t:o (m.getD (f+root) d) (m.getD (f+ch) d)<0)
  (hs:∀c,(c=2*root+1\/c=2*root+2)->c<hi->c≠ch->o (m.getD (f+c) d) (m.getD (f+ch) d)<0):HpX o d f hi lo ch (CO d m (f+root) (f+ch)):=by
 have e:=X1 (d:=d) (l:=m) (i:=f+root) (j:=f+ch) (by omega) (by omega);have u:=h.le;refine⟨by omega,λk c h1 g a b=>?_,λp c h1 g a b=>?_⟩
 .rw[e,e];by_cases hk:k=root
  .subst hk;rw[As (show ¬f+k=f+ch by omega),BY rfl];by_cases q:c=ch
   .rw[BY (by omega)];exact t
   rw[As (by omega),As (by omega)];exact hs c a b q
  rw[As (show ¬f+k=f+ch by omega),As (show ¬f+k=f+root by omega)];by_cases s:c=root
  .subst s;rw[As (by omega),BY rfl];exact h.up k ch h1 a n r
  rw[As (by omega),As (by omega)];exact h.hp k c h1 hk a b
 have hp:p=root:=by omega
 subst hp;rw[e,e,As (by omega),As (by omega),As (by omega),BY rfl];exact h.hp ch c (by omega) (by omega) a b
theorem kG (b:SO o) {f hi:Nat} {m:List α} (h:Hp o d f hi 0 m):∀(n k:Nat),k<=n->0<k->k<hi->o (m.getD (f+k) d) (m.getD f d)<0
 | 0,k,h1,c,_=>by omega
 | n+1,k,h1,c,e=>by
  have a:=h ((k-1) / 2) k (by omega) (by omega) e;by_cases g:(k-1) / 2=0
  .rw[g]at a;exact a
  exact b.trans a (kG b h n ((k-1) / 2) (by omega) (by omega) (by omega))
structure A1a (o:α->α->Int) (d:α) (f n i:Nat) (m:List α):Prop where
 heap:Hp o d f i 0 m
 srt:R4 o d (f+i) (f+n) m
 big:∀x y,x<i->i<=y->y<n->o (m.getD (f+x) d) (m.getD (f+y) d)<0
theorem pT {f n:Nat} {m:List α} (h:Hp o d f n 0 m):A1a o d f n n m:=⟨h,λi j h1 a b=>by omega,λx y h1 a b=>by omega⟩
theorem A1b (t:SO o) {f n i:Nat} {m:List α} (h:A1a o d f n (i+1) m) (hi:i<n) (v:f+n<=m.length) :
  HpX o d f i 0 0 (CO d m f (f+i))/\R4 o d (f+i) (f+n) (CO d m f (f+i))/\∀x y,x<i->i<=y->y<n->o ((CO d m f (f+i)).getD (f+x) d) ((CO d m f (f+i)).getD (f+y) d)<0:=by
 have a:=X1 (d:=d) (l:=m) (i:=f) (j:=f+i) (by omega) (by omega);have q:=kG t h.heap i;refine⟨⟨Is _,λk c h1 e b u=>?_,λp c h1 e=>by omega⟩,λx y h1 e b=>?_,λx y h1 e b=>?_⟩
 .rw[a,a,As (by omega),As (by omega),As (by omega),As (by omega)];exact h.heap k c h1 b (by omega)
 .rw[a,a,As (show ¬y=f+i by omega),As (show ¬y=f by omega)];by_cases g:x=f+i
  .rw[BY g];have:=h.big 0 (y-f) (by omega) (by omega) (by omega)
   rwa [show f+0=f by omega,show f+(y-f)=y by omega]at this
  rw[As g,As (by omega)];exact h.srt x y (by omega) e b
 have key:∀z,z<i+1->i+1<=y->o (m.getD (f+z) d) (m.getD (f+y) d)<0:=λz s r=>h.big z y s r b;rw[a,a,As (show ¬f+x=f+i by omega)];by_cases r:y=i
 .rw[BY (show f+y=f+i by omega)];by_cases g:x=0
  .rw[BY (show f+x=f by omega)];exact q i (by omega) (by omega) (by omega)
  rw[As (show ¬f+x=f by omega)];exact q x (by omega) (by omega) (by omega)
 rw[As (show ¬f+y=f+i by omega),As (show ¬f+y=f by omega)];by_cases g:x=0
 .rw[BY (show f+x=f by omega)];exact key i (by omega) (by omega)
 rw[As (show ¬f+x=f by omega)];exact key x (by omega) (by omega)
theorem A1c {f n i:Nat} {m r:List α} (hp:Dt d f (f+i) m r) (hh:Hp o d f i 0 r) (hs:R4 o d (f+i) (f+n) m) (c:∀x y,x<i->i<=y->y<n->o (m.getD (f+x) d) (m.getD (f+y) d)<0):A1a o d f n i r :=
 ⟨hh,NF hs λk h1 a=>hp.out k (by omega),λx y h1 a b=>by
  rw[hp.out (f+y) (by omega)];obtain⟨j,g,h,e⟩:=hp.inn (f+x) (by omega) (by omega);rw[e];have:=c (j-f) y (by omega) a b
  rwa [show f+(j-f)=j by omega]at this⟩
theorem A41 {f n:Nat} {m:List α} (h:A1a o d f n 0 m):R4 o d f (f+n) m:=h.srt
structure PtI (o:α->α->Int) (d:α) (a b i j:Nat) (m:List α):Prop where
 lo:∀x,a<x->x<i->o (m.getD x d) (m.getD a d)<0
 hi:∀x,j<x->x<b->o (m.getD a d) (m.getD x d)<0
theorem kH {a b i j:Nat} {m:List α} (h:PtI o d a b i j m) (n:a<i) (q:i<j) (r:j<b) (p:b<=m.length) (h1:o (m.getD a d) (m.getD i d)<0) (k:o (m.getD j d) (m.getD a d)<0):PtI o d a b (i+1) (j-1) (CO d m i j):=by
 have c:=X1 (d:=d) (l:=m) (i:=i) (j:=j) (by omega) (by omega);refine⟨λx f g=>?_,λx f g=>?_⟩
 .rw[c x,c a,As (show ¬x=j by omega),As (show ¬a=j by omega),As (show ¬a=i by omega)];by_cases e:x=i
  .rw[BY e];exact k
  rw[As e];exact h.lo x f (by omega)
 rw[c x,c a,As (show ¬a=j by omega),As (show ¬a=i by omega)];by_cases e:x=j
 .rw[BY e];exact h1
 rw[As e,As (by omega)];exact h.hi x (by omega) g
structure PtE (o:α->α->Int) (d:α) (a b p:Nat) (m:List α):Prop where
 l:a<=p
 r:p<b
 lo:∀x,a<=x->x<p->o (m.getD x d) (m.getD p d)<0
 hi:∀x,p<x->x<b->o (m.getD p d) (m.getD x d)<0
theorem y8 {a b j:Nat} {m:List α} (h:PtI o d a b (j+1) j m) (g:a<=j) (k:j<b) (p:b<=m.length):PtE o d a b j (CO d m j a):=by
 have c:=X1 (d:=d) (l:=m) (i:=j) (j:=a) (by omega) (by omega);refine⟨g,k,λx n f=>?_,λx n f=>?_⟩
 .rw[c x,c j,As (show ¬j=a by omega),BY rfl];by_cases e:x=a
  .rw[BY e];exact h.lo j (by omega) (by omega)
  rw[As e,As (by omega)];exact h.lo x (by omega) (by omega)
 rw[c x,c j,As (show ¬x=a by omega),As (show ¬x=j by omega)];by_cases e:j=a
 .rw[BY e];rw[e];exact h.hi x (by omega) f
 rw[As e,BY rfl];exact h.hi x (by omega) f
structure Cut (o:α->α->Int) (d:α) (a0 b0 a b:Nat) (m:List α):Prop where
 s1:R4 o d a0 a m
 s2:R4 o d b b0 m
 c1:∀x y,a0<=x->x<a->a<=y->y<b0->o (m.getD x d) (m.getD y d)<0
 c2:∀x y,a0<=x->x<b->b<=y->y<b0->o (m.getD x d) (m.getD y d)<0
 ab:a0<=a/\a<=b/\b<=b0
theorem A1e {a b:Nat} (g:a<=b) (m:List α):Cut o d a b a b m:=⟨λi j h1 c e=>by omega,λi j h1 c e=>by omega,λx y h1 c=>by omega,λx y h1 c e f=>by omega,by omega⟩
theorem Cut.pin {l n a b:Nat} {m r:List α} (h:Cut o d l n a b m) (hp:Dt d a b m r):Cut o d l n a b r:=by
 obtain⟨w,B,A⟩:=h.ab;have key:∀(P:α->Prop) (lo hi:Nat),lo<=a->b<=hi->(∀y,lo<=y->y<hi->P (m.getD y d))->∀y,lo<=y->y<hi->P (r.getD y d):=λP lo hi h1 p q y c f=>by
  obtain⟨j,s,t,e⟩:=(hp.mono h1 p).inn y c f;rw[e];exact q j s t
 refine⟨NF h.s1 λk u v=>hp.out k (by omega),NF h.s2 λk u v=>hp.out k (by omega),λx y g i c f=>?_,λx y g i c f=>?_,h.ab⟩
 .rw[hp.out x (by omega)];exact key (λz=>o (m.getD x d) z<0) a n (Is _) A (λy c f=>h.c1 x y g i c f) y c f
 rw[hp.out y (by omega)];exact key (λz=>o z (m.getD y d)<0) l b w (Is _) (λx g i=>h.c2 x y g i c f) x g i
theorem Cut.done {g k a b:Nat} {m:List α} (h:Cut o d g k a b m) (hs:R4 o d a b m):R4 o d g k m:=by
 obtain⟨n,p,q⟩:=h.ab;intro i j h1 c e;by_cases hi:i<a
 .by_cases f:j<a
  .exact h.s1 i j h1 c f
  exact h.c1 i j h1 hi (by omega) e
 by_cases f:j<b
 .exact hs i j (by omega) c f
 by_cases l:i<b
 .exact h.c2 i j h1 l (by omega) e
 exact h.s2 i j (by omega) c e
theorem Cut.left (u:SO o) {e f a b p:Nat} {m:List α} (h:Cut o d e f a b m) (hp:PtE o d a b p m) (hs:R4 o d a p m):Cut o d e f (p+1) b m:=by
 obtain⟨A,B,C⟩:=h.ab;have w:=hp.l;have z:=hp.r;refine⟨λi j h1 g v=>?_,h.s2,λx y n D E q=>?_,h.c2,by omega⟩
 .by_cases hi:i<a
  .by_cases c:j<a
   .exact h.s1 i j h1 g c
   exact h.c1 i j h1 hi (by omega) (by omega)
  by_cases c:j=p
  .rw[c];exact hp.lo i (by omega) (by omega)
  exact hs i j (by omega) g (by omega)
 by_cases s:x<a
 .exact h.c1 x y n s (by omega) q
 by_cases k:y<b
 .by_cases t:x=p
  .rw[t];exact hp.hi y (by omega) k
  exact u.trans (hp.lo x (by omega) (by omega)) (hp.hi y (by omega) k)
 exact h.c2 x y n (by omega) (by omega) q
theorem Cut.right (z:SO o) {g k a b p:Nat} {m:List α} (h:Cut o d g k a b m) (hp:PtE o d a b p m) (hs:R4 o d (p+1) b m):Cut o d g k a p m:=by
 obtain⟨C,D,E⟩:=h.ab;have A:=hp.l;have B:=hp.r;refine⟨h.s1,λi j h1 n q=>?_,λx y c e t f=>h.c1 x y c e t f,λx y c e t f=>?_,by omega⟩
 .by_cases s:j<b
  .by_cases hi:i=p
   .rw[hi];exact hp.hi j (by omega) s
   exact hs i j (by omega) n s
  by_cases u:i<b
  .exact h.c2 i j (by omega) u (by omega) q
  exact h.s2 i j (by omega) n q
 by_cases w:y<b
 .by_cases v:x<a
  .exact h.c1 x y c v (by omega) f
  by_cases hyp:y=p
  .rw[hyp];exact hp.lo x (by omega) e
  exact z.trans (hp.lo x (by omega) e) (hp.hi y (by omega) w)
 exact h.c2 x y c (by omega) (by omega) f
theorem PtE.pinL {a b p:Nat} {m r:List α} (h:PtE o d a b p m) (hp:Dt d a p m r):PtE o d a b p r:=by
 have g:=h.l;have i:=h.r;refine⟨g,i,λx c f=>?_,λx c f=>?_⟩
 .rw[hp.out p (by omega)];obtain⟨j,k,n,e⟩:=hp.inn x c f;rw[e];exact h.lo j k n
 rw[hp.out p (by omega),hp.out x (by omega)];exact h.hi x c f
theorem PtE.pinR {a b p:Nat} {m r:List α} (h:PtE o d a b p m) (hp:Dt d (p+1) b m r):PtE o d a b p r:=by
 have g:=h.l;have i:=h.r;refine⟨g,i,λx f c=>?_,λx f c=>?_⟩
 .rw[hp.out p (by omega),hp.out x (by omega)];exact h.lo x f c
 rw[hp.out p (by omega)];obtain⟨j,n,k,e⟩:=hp.inn x (by omega) c;rw[e];exact h.hi j (by omega) k
def Bf (o:α->α->Int) (d:α) (a b:Nat) (m:List α):Prop:=a=0\/∀y,a<=y->y<b->o (m.getD (a-1) d) (m.getD y d)<0
theorem Bf.pin {a b:Nat} {m r:List α} (h:Bf o d a b m) (hp:Dt d a b m r):Bf o d a b r:=by
 rcases h with h|h
 .exact .inl h
 by_cases h0:a=0
 .exact .inl h0
 right;intro y g i;rw[hp.out (a-1) (by omega)];obtain⟨j,c,f,e⟩:=hp.inn y g i;rw[e];exact h j c f
theorem Bf.sub {a b b':Nat} {m:List α} (h:Bf o d a b m) (e:b'<=b):Bf o d a b' m:=h.imp id λh y c f=>h y c (by omega)
theorem PtE.bf {a b p:Nat} {m:List α} (h:PtE o d a b p m):Bf o d (p+1) b m:=.inr λy e c=>by
 rw[show p+1-1=p by omega];exact h.hi y (by omega) c
end
section
attribute [local go_sem] Cn
def B8 (a b:Int×Int):Int:=Tg a.1 b.1
theorem CC:SO B8:=⟨λa b=>by unfold B8 Tg;(repeat' split)<;>omega,λ{a b c} h1 d=>by
 unfold B8 Tg at *
 (repeat' split at h1)<;>(repeat' split at d)<;>(repeat' split)<;>omega⟩
theorem A7z (l:List (Int×Int)) (M:l.length<=100000) (w:mS B8 (0,0) l) (a b:Nat) (H:a<=100000) (I:b<=l.length):A9 Tryz.prog 232 [.sr 1000000 AW 0 l.length,.p T3 (a:Int),.p T3 (b:Int),.fn 192] [(1000000,.arr 106 AW l)] [1000000] (λres F=>res=.raw (.tuple #[])/\∃r,F=[(1000000,.arr 106 AW r)]/\Dt (0,0) a b l r/\R4 B8 (0,0) a b r):=by
 refine Kh [0,1,2,3,8,9,14,34] [] [] Tryz.func232 Tryz.ntmps232 (AE El AH) ?_;intro w0 K O0 ρ0 d O P;simp only[Aq];repeat'(first|exact trivial|apply eS rfl|apply AB|refine rX d ?_ ?_|refine rC ?_ ?_<;>intro e<;>try(cases e;done))
 .omega
 refine AJ (ι:={s:Nat×List (Int×Int)//a+1<=s.1/\(s.1=a+1\/s.1<=b)/\Dt (0,0) a b l s.2/\R4 B8 (0,0) a s.1 s.2}) (λs=>⟨[(0,.sr 1000000 AW 0 l.length),(1,.p T3 (a:Int)),(2,.p T3 (b:Int)),(3,.fn 192),(8,.p (.int .i64) (s.1.1:Int))],[(1000000,.arr 106 AW s.1.2)]⟩) (λs=>b-s.1.1) ⟨(a+1,l),Is _,.inl rfl,Dt.refl a b l,eF a l⟩ (AC [(1000000,.nm 1000000)] rfl rfl ?_ ?_) (λs=>?_)
 .first|exact eN|refine eM ?_
 .first|exact eN|refine eM ?_
 obtain⟨⟨i,m⟩,B,C,hp,hs⟩:=s;simp only at B C hp hs ⊢;have N:=hp.len;repeat'(first|exact trivial|apply eS rfl|apply AB|refine rX d ?_ ?_|refine rC ?_ ?_<;>intro e<;>try(cases e;done))
 .have D:i<b:=by exact eV
  refine AJ (ι:={t:Nat×List (Int×Int)//a<=t.1/\t.1<=i/\Dt (0,0) a b l t.2/\pR B8 (0,0) a i t.1 t.2}) (λt=>⟨[(0,.sr 1000000 AW 0 l.length),(1,.p T3 (a:Int)),(2,.p T3 (b:Int)),(3,.fn 192),(8,.p (.int .i64) (i:Int)),(9,.p (.int .i64) (t.1.1:Int))],[(1000000,.arr 106 AW t.1.2)]⟩) (λt=>t.1.1) ⟨(i,m),by omega,Is i,hp,pS hs⟩ (AC [(1000000,.nm 1000000)] rfl rfl ?_ ?_) (λt=>?_)
  .first|exact eN|refine eM ?_
  .first|exact eN|refine eM ?_
  obtain⟨⟨j,c⟩,ha,q,g,o⟩:=t;simp only at ha q g o ⊢;have J:=g.len;have z:=w.perm CC g.perm;repeat'(first|exact trivial|apply eS rfl|apply AB|refine rX d ?_ ?_)
  .dsimp only[Ty.den]at *;exact⟨λ_=>by omega,λ_=>⟨by omega,by omega⟩,λ_=>⟨by omega,by omega⟩⟩
  have n:a<j->((j:Int)-1).toNat=j-1:=λ_=>by omega
  refine DR (by simp only[go_sem,Nat.reduceEqDiff,reduceCtorEq,Nat.reduceAdd,Nat.reduceSub,Nat.reduceMul,Nat.reduceLeDiff,Nat.reduceLT,Int.reduceLE,Int.reduceToNat,Int.reduceNeg,↓reduceIte];rfl) ?_ ?_
  .intro f;simp only[An,DO]at f;have k:a<j:=by omega
   have u:B8 (c.getD j (0,0)) (c.getD ((j:Int)-1).toNat (0,0))<0:=f.2;rw[n k]at u;have E:CO (0,0) c j (j-1)=(c.set j (c.getD (j-1) (0,0))).set (j-1) (c.getD j (0,0)):=rfl;repeat'(first|exact trivial|apply eS rfl|apply AB|refine rP d ?_ ?_|fail)
   (refine CL drawsAny d 16 [([0,1,5,6,7,8,9,10,11,12,13,14],15)] [2,3,4] (by kernel_rfl) (LH ?_ ?_);(next=>exact CR);refine Nr d [] ?_ ?_;(next=>exact CR);refine Sv d ?_ ?_ ?_;(next=>exact CR);(next=>exact CR))
   rw[n k];repeat'(first|exact trivial|apply eS rfl|apply AB|refine rX d ?_ ?_|refine rC ?_ ?_<;>intro e<;>try(cases e;done))
   .dsimp only[Ty.den]at *;omega
   refine⟨⟨(j-1,CO (0,0) c j (j-1)),by simp only;omega,by simp only;omega,g.trans (Dt.swap c (by omega) (by omega) (by omega) (by omega) (by omega)),aK o k q (by omega) u⟩,by simp only;omega,AC [(1000000,.nm 1000000)] rfl rfl ?_ ?_⟩
   .simp only;rw[E];first|exact eN|refine eM ?_
   simp only;rw[show ((j-1:Nat):Int)=(j:Int)-1 by omega];first|exact eN|refine eM ?_
  intro f;have A:j=a\/B8 (c.getD (j-1) (0,0)) (c.getD j (0,0))<0:=by
   by_cases k:j=a
   .exact .inl k
   right;simp only[Um,Of]at f;rw[n (by omega)]at f;rcases f with h|h
   .omega
   exact z.lt CC (by omega) (by omega) (by omega) h
  repeat'(first|exact trivial|apply eS rfl|apply AB|refine rX d ?_ ?_|refine rC ?_ ?_<;>intro e<;>try(cases e;done))
  .exact eV
  refine⟨⟨(i+1,c),by simp only;omega,.inr D,g,Xe CC o ha q A⟩,by simp only;omega,AC [(1000000,.nm 1000000)] rfl rfl ?_ ?_⟩
  .first|exact eN|refine eM ?_
  first|exact eN|refine eM ?_
 have L:b<=i:=by exact eV
 exact fM d [] (.raw (.tuple #[])) rfl ⟨rfl,m,rfl,hp,λx y h1 v G=>hs x y h1 v (by omega)⟩
end
section
attribute [local go_sem] Cn
theorem A7A (l:List (Int×Int)) (o:l.length<=100000) (a b:Nat) (h:a<b) (k:b<=l.length):A9 Tryz.prog 236 [.sr 1000000 AW 0 l.length,.p T3 (a:Int),.p T3 (b:Int),.fn 192] [(1000000,.arr 106 AW l)] [1000000] (λres g=>res=.raw (.tuple #[])/\∃r,g=[(1000000,.arr 106 AW r)]/\Dt (0,0) a b l r):=by
 refine Kh [0,1,2,8,9,15] [] [] Tryz.func236 Tryz.ntmps236 AH ?_;intro w0 K O0 ρ0 c t u;simp only[Aq];repeat'(first|exact trivial|apply eS rfl|apply AB|refine rX c ?_ ?_|refine rC ?_ ?_<;>intro d<;>try(cases d;done))
 .omega
 rw[show (b:Int)-1=((b-1:Nat):Int) by omega];refine AJ (ι:={s:Nat×Nat×List (Int×Int)//a<=s.1/\s.2.1<b/\Dt (0,0) a b l s.2.2}) (λs=>⟨[(0,.sr 1000000 AW 0 l.length),(8,.p (.int .i64) (s.1.1:Int)),(9,.p (.int .i64) (s.1.2.1:Int))],[(1000000,.arr 106 AW s.1.2.2)]⟩) (λs=>s.1.2.1-s.1.1) ⟨(a,b-1,l),Is _,by simp only;omega,Dt.refl a b l⟩ (AC [(1000000,.nm 1000000)] rfl rfl ?_ ?_) (λs=>?_)
 .first|exact eN|refine eM ?_
 .first|exact eN|refine eM ?_
 obtain⟨⟨i,j,m⟩,hi,e,hp⟩:=s;simp only at hi e hp ⊢;have q:=hp.len;repeat'(first|exact trivial|apply eS rfl|apply AB|refine rX c ?_ ?_)
 refine rC ?_ ?_<;>intro d
 .repeat'(first|exact trivial|apply eS rfl|apply AB|refine rP c ?_ ?_|fail)
  have n:i<j:=by omega
  have f:CO (0,0) m i j=(m.set i (m.getD j (0,0))).set j (m.getD i (0,0)):=rfl
  (refine CL drawsAny c 14 [([0,1,4,5,6,7,8,9,10,11,12],13)] [2,3] (by kernel_rfl) (LH ?_ ?_);(next=>exact CR);refine Nr c [] ?_ ?_;(next=>exact CR);refine Sv c ?_ ?_ ?_;(next=>exact CR);(next=>exact CR))
  repeat'(first|exact trivial|apply eS rfl|apply AB|refine rX c ?_ ?_|refine rC ?_ ?_<;>intro d<;>try(cases d;done))
  .omega
  .omega
  refine⟨⟨(i+1,j-1,CO (0,0) m i j),by simp only;omega,by simp only;omega,hp.trans (Dt.swap m (by omega) (by omega) (by omega) (by omega) (by omega))⟩,by simp only;omega,AC [(1000000,.nm 1000000)] rfl rfl ?_ ?_⟩
  .simp only;rw[f];first|exact eN|refine eM ?_
  simp only;rw[show ((j-1:Nat):Int)=(j:Int)-1 by omega];first|exact eN|refine eM ?_
 repeat'(first|exact trivial|apply eS rfl|apply AB|refine rX c ?_ ?_|refine rC ?_ ?_<;>intro d<;>try(cases d;done))
 exact fM c [] (.raw (.tuple #[])) rfl ⟨rfl,m,rfl,hp⟩
theorem kI (l:List (Int×Int)) (o:l.length<=100000) (z:mS B8 (0,0) l) (lo hi f:Nat) (F:lo<=100000) (hf:f+hi<=l.length) (A:HpX B8 (0,0) f hi lo lo l):A9 Tryz.prog 244 [.sr 1000000 AW 0 l.length,.p T3 (lo:Int),.p T3 (hi:Int),.p T3 (f:Int),.fn 192] [(1000000,.arr 106 AW l)] [1000000] (λres E=>res=.raw (.tuple #[])/\∃r,E=[(1000000,.arr 106 AW r)]/\Dt (0,0) f (f+hi) l r/\Hp B8 (0,0) f hi lo r):=by
 refine Kh [0,1,2,3,4,10,11,18,40,58] [] [] Tryz.func244 Tryz.ntmps244 (AE El AH) ?_;intro w0 K O0 ρ0 a H I;simp only[Aq];repeat'(first|exact trivial|apply eS rfl|apply AB|refine rX a ?_ ?_|refine rC ?_ ?_<;>intro d<;>try(cases d;done))
 refine AJ (ι:={s:Nat×List (Int×Int)//s.1<=lo+hi/\Dt (0,0) f (f+hi) l s.2/\HpX B8 (0,0) f hi lo s.1 s.2}) (λs=>⟨[(0,.sr 1000000 AW 0 l.length),(2,.p T3 (hi:Int)),(3,.p T3 (f:Int)),(4,.fn 192),(10,.p (.int .i64) (s.1.1:Int))],[(1000000,.arr 106 AW s.1.2)]⟩) (λs=>lo+hi-s.1.1) ⟨(lo,l),by omega,Dt.refl _ _ l,A⟩ (AC [(1000000,.nm 1000000)] rfl rfl ?_ ?_) (λs=>?_)
 .first|exact eN|refine eM ?_
 .first|exact eN|refine eM ?_
 obtain⟨⟨root,m⟩,D,hp,k⟩:=s;simp only at D hp k ⊢;have G:=hp.len;have t:=z.perm CC hp.perm;repeat'(first|exact trivial|apply eS rfl|apply AB|refine rX a ?_ ?_)
 .omega
 refine rC ?_ ?_<;>intro d
 .have o:hi<=2*root+1:=by omega
  repeat'(first|exact trivial|apply eS rfl|apply AB|refine rX a ?_ ?_|refine rC ?_ ?_<;>intro d<;>try(cases d;done))
  exact fM a [] (.raw (.tuple #[])) rfl ⟨rfl,m,rfl,hp,A40 k o⟩
 have o:2*root+1<hi:=by omega
 have n:((f:Int)+(2*(root:Int)+1)).toNat=f+(2*root+1):=by omega
 have q:((f:Int)+(2*(root:Int)+1+1)).toNat=f+(2*root+2):=by omega
 have w:((f:Int)+(2*(root:Int)+1)+1).toNat=f+(2*root+2):=by omega
 have g:((f:Int)+(root:Int)).toNat=f+root:=by omega
 repeat'(first|exact trivial|apply eS rfl|apply AB|refine rX a ?_ ?_)
 .dsimp only[Ty.den];exact⟨by omega,λ_=>by omega,λ_=>by omega,λ_=>by omega,λ_=>by omega,λ_=>by omega⟩
 refine DR (by simp only[go_sem,Nat.reduceEqDiff,reduceCtorEq,Nat.reduceAdd,Nat.reduceSub,Nat.reduceMul,Nat.reduceLeDiff,Nat.reduceLT,Int.reduceLE,Int.reduceToNat,Int.reduceNeg,↓reduceIte];rfl) ?_ ?_
 .intro e;simp only[An,DO]at e;obtain⟨hh,e⟩:=e;have C:B8 (m.getD (f+(2*root+1)) (0,0)) (m.getD (f+(2*root+2)) (0,0))<0:=by rw[<-n,<-w];exact e
  have B:2*root+2<hi:=by omega
  have hs:∀c,(c=2*root+1\/c=2*root+2)->c<hi->c≠2*root+2->B8 (m.getD (f+c) (0,0)) (m.getD (f+(2*root+2)) (0,0))<0:=λc h1 x y=>by
   rw[show c=2*root+1 by omega];exact C
  repeat'(first|exact trivial|apply eS rfl|apply AB|refine rX a ?_ ?_)
  .omega
  .exact CR
  refine DR (by simp only[go_sem,Nat.reduceEqDiff,reduceCtorEq,Nat.reduceAdd,Nat.reduceSub,Nat.reduceMul,Nat.reduceLeDiff,Nat.reduceLT,Int.reduceLE,Int.reduceToNat,Int.reduceNeg,↓reduceIte];rfl) ?_ ?_
  .intro b;simp only[TO,Of]at b;rw[g,q]at b;have u:=t.lt CC (i:=f+root) (j:=f+(2*root+2)) (by omega) (by omega) (by omega) b;repeat'(first|exact trivial|apply eS rfl|apply AB|refine rX a ?_ ?_|refine rC ?_ ?_<;>intro d<;>try(cases d;done))
   exact fM a [] (.raw (.tuple #[])) rfl ⟨rfl,m,rfl,hp,kE CC k (.inr rfl) u hs⟩
  intro b;simp only[YY,DO]at b;rw[g,q]at b;have v:CO (0,0) m (f+root) (f+(2*root+2))=(m.set (f+root) (m.getD (f+(2*root+2)) (0,0))).set (f+(2*root+2)) (m.getD (f+root) (0,0)):=rfl;repeat'(first|exact trivial|apply eS rfl|apply AB|refine rP a ?_ ?_|fail)
  (refine CL drawsAny a 22 [([0,1,2,3,8,9,10,11,12,13,14,15,16,17,18,19,20],21)] [4,5,6,7] (by kernel_rfl) (LH ?_ ?_);(next=>exact CR);refine Nr a [] ?_ ?_;(next=>exact CR);refine Sv a ?_ ?_ ?_;(next=>exact CR);(next=>exact CR))
  rw[g,q];repeat'(first|exact trivial|apply eS rfl|apply AB|refine rX a ?_ ?_|refine rC ?_ ?_<;>intro d<;>try(cases d;done))
  refine⟨⟨(2*root+2,CO (0,0) m (f+root) (f+(2*root+2))),by simp only;omega,hp.trans (Dt.swap m (by omega) (by omega) (by omega) (by omega) (by omega)),kF k B (by omega) (.inr rfl) b hs⟩,by simp only;omega,AC [(1000000,.nm 1000000)] rfl rfl ?_ ?_⟩
  .simp only;rw[v];first|exact eN|refine eM ?_
  simp only;rw[show ((2*root+2:Nat):Int)=2*(root:Int)+1+1 by omega];first|exact eN|refine eM ?_
 intro e;have hs:∀c,(c=2*root+1\/c=2*root+2)->c<hi->c≠2*root+1->B8 (m.getD (f+c) (0,0)) (m.getD (f+(2*root+1)) (0,0))<0:=λc h1 x y=>by
  simp only[Um,Of]at e;have a:c=2*root+2:=by omega
  subst a;rcases e with h|h
  .omega
  rw[n,w]at h;exact t.lt CC (by omega) (by omega) (by omega) h
 repeat'(first|exact trivial|apply eS rfl|apply AB|refine rX a ?_ ?_)
 .exact CR
 refine DR (by simp only[go_sem,Nat.reduceEqDiff,reduceCtorEq,Nat.reduceAdd,Nat.reduceSub,Nat.reduceMul,Nat.reduceLeDiff,Nat.reduceLT,Int.reduceLE,Int.reduceToNat,Int.reduceNeg,↓reduceIte];rfl) ?_ ?_
 .intro b;simp only[TO,Of]at b;rw[g,n]at b;have u:=t.lt CC (i:=f+root) (j:=f+(2*root+1)) (by omega) (by omega) (by omega) b;repeat'(first|exact trivial|apply eS rfl|apply AB|refine rX a ?_ ?_|refine rC ?_ ?_<;>intro d<;>try(cases d;done))
  exact fM a [] (.raw (.tuple #[])) rfl ⟨rfl,m,rfl,hp,kE CC k (.inl rfl) u hs⟩
 intro b;simp only[YY,DO]at b;rw[g,n]at b;have v:CO (0,0) m (f+root) (f+(2*root+1))=(m.set (f+root) (m.getD (f+(2*root+1)) (0,0))).set (f+(2*root+1)) (m.getD (f+root) (0,0)):=rfl;repeat'(first|exact trivial|apply eS rfl|apply AB|refine rP a ?_ ?_|fail)
 (refine CL drawsAny a 22 [([0,1,2,3,8,9,10,11,12,13,14,15,16,17,18,19,20],21)] [4,5,6,7] (by kernel_rfl) (LH ?_ ?_);(next=>exact CR);refine Nr a [] ?_ ?_;(next=>exact CR);refine Sv a ?_ ?_ ?_;(next=>exact CR);(next=>exact CR))
 rw[g,n];repeat'(first|exact trivial|apply eS rfl|apply AB|refine rX a ?_ ?_|refine rC ?_ ?_<;>intro d<;>try(cases d;done))
 refine⟨⟨(2*root+1,CO (0,0) m (f+root) (f+(2*root+1))),by simp only;omega,hp.trans (Dt.swap m (by omega) (by omega) (by omega) (by omega) (by omega)),kF k o (by omega) (.inl rfl) b hs⟩,by simp only;omega,AC [(1000000,.nm 1000000)] rfl rfl ?_ ?_⟩
 .simp only;rw[v];first|exact eN|refine eM ?_
 simp only;rw[show ((2*root+1:Nat):Int)=2*(root:Int)+1 by omega];first|exact eN|refine eM ?_
end
section
attribute [local go_sem] Cn
theorem A42 (l:List (Int×Int)) (L:l.length<=100000) (u:mS B8 (0,0) l) (a b:Nat) (I:a<=b) (J:b<=l.length):A9 Tryz.prog 233 [.sr 1000000 AW 0 l.length,.p T3 (a:Int),.p T3 (b:Int),.fn 192] [(1000000,.arr 106 AW l)] [1000000] (λres C=>res=.raw (.tuple #[])/\∃r,C=[(1000000,.arr 106 AW r)]/\Dt (0,0) a b l r/\R4 B8 (0,0) a b r):=by
 refine Kh [0,1,2,3,8,9,10,11,12,21,33] [] [] Tryz.func233 Tryz.ntmps233 AH ?_;intro w0 K O0 ρ0 d M N;simp only[Aq];obtain⟨n,hn⟩:∃n,b=a+n:=⟨b-a,by omega⟩;subst hn;have t:(((a+n:Nat):Int)-(a:Int)-1).tdiv 2=(((n-1) / 2+1:Nat):Int)-1:=by
  by_cases h0:n=0
  .subst h0;rw[show ((a+0:Nat):Int)-(a:Int)-1=-1 by omega];decide
  rw[Uc (by omega)];omega
 have en:((a+n:Nat):Int)-(a:Int)=(n:Int):=by omega
 repeat'(first|exact trivial|apply eS rfl|apply AB|refine rX d ?_ ?_|refine rC ?_ ?_<;>intro e<;>try(cases e;done))
 .omega
 .rw[t];exact⟨by omega,by decide,by omega⟩
 rw[t,en];refine AJ (ι:={s:Nat×List (Int×Int)//s.1<=n+1/\Dt (0,0) a (a+n) l s.2/\Hp B8 (0,0) a n s.1 s.2}) (λs=>⟨[(0,.sr 1000000 AW 0 l.length),(3,.fn 192),(8,.p T3 (a:Int)),(9,.p (.int .i64) (0:Int)),(10,.p (.int .i64) (n:Int)),(11,.p (.int .i64) ((s.1.1:Int)-1))],[(1000000,.arr 106 AW s.1.2)]⟩) (λs=>s.1.1) ⟨((n-1) / 2+1,l),by simp only;omega,Dt.refl _ _ l,λk c h1 G H=>by simp only at h1;omega⟩ (AC [(1000000,.nm 1000000)] rfl rfl ?_ ?_) (λs=>?_)
 .first|exact eN|refine eM ?_
 .first|exact eN|refine eM ?_
 obtain⟨⟨k,m⟩,hk,hp,q⟩:=s;simp only at hk hp q ⊢;have y:=hp.len;have x:=u.perm CC hp.perm;repeat'(first|exact trivial|apply eS rfl|apply AB|refine rX d ?_ ?_)
 refine rC ?_ ?_<;>intro e
 .have f:0<k:=by omega
  have key:=kI m (by omega) x (k-1) n a (by omega) (by omega) (A19 (by rw[show k-1+1=k by omega];exact q));rw[y,show ((k-1:Nat):Int)=(k:Int)-1 by omega]at key;repeat'(first|exact trivial|apply eS rfl|apply AB|refine rX d ?_ ?_)
  refine cP 5 d ?_ ?_
  .trivial
  refine rM d (key) [(1000000,.nm 1000000)] [] ?_ ?_ ?_
  .first|exact eN|refine eM ?_
  .first|exact eN|refine eM ?_
  rintro _ _ ⟨rfl,r,rfl,i,j⟩;refine⟨[(1000000,.nm 1000000)],.raw (.tuple #[]),[(1000000,.arr 106 AW r)],rfl,rfl,?_,?_,rfl,rfl,Bh ?_⟩
  .first|exact eN|refine eM ?_
  .first|exact eN|refine eM ?_
  repeat'(first|exact trivial|apply eS rfl|apply AB|refine rX d ?_ ?_|refine rC ?_ ?_<;>intro e<;>try(cases e;done))
  .omega
  refine⟨⟨(k-1,r),by simp only;omega,hp.trans i,j⟩,by simp only;omega,AC [(1000000,.nm 1000000)] rfl rfl ?_ ?_⟩
  .simp only;first|exact eN|refine eM ?_
  simp only;rw[show ((k-1:Nat):Int)=(k:Int)-1 by omega];first|exact eN|refine eM ?_
 have f:k=0:=by omega
 subst f;repeat'(first|exact trivial|apply eS rfl|apply AB|refine rX d ?_ ?_)
 .omega
 refine AJ (ι:={s:Nat×List (Int×Int)//s.1<=n/\Dt (0,0) a (a+n) l s.2/\A1a B8 (0,0) a n s.1 s.2}) (λs=>⟨[(0,.sr 1000000 AW 0 l.length),(3,.fn 192),(8,.p T3 (a:Int)),(9,.p (.int .i64) (0:Int)),(12,.p (.int .i64) ((s.1.1:Int)-1))],[(1000000,.arr 106 AW s.1.2)]⟩) (λs=>s.1.1) ⟨(n,m),Is _,hp,pT q⟩ (AC [(1000000,.nm 1000000)] rfl rfl ?_ ?_) (λs=>?_)
 .first|exact eN|refine eM ?_
 .first|exact eN|refine eM ?_
 obtain⟨⟨k,c⟩,hk,g,h⟩:=s;simp only at hk g h ⊢;have w:=g.len;repeat'(first|exact trivial|apply eS rfl|apply AB|refine rX d ?_ ?_)
 refine rC ?_ ?_<;>intro e
 .have f:0<k:=by omega
  have h:A1a B8 (0,0) a n (k-1+1) c:=by rw[show k-1+1=k by omega];exact h
  obtain⟨D,E,F⟩:=A1b CC h (by omega) (by omega);have o:Dt (0,0) a (a+n) c (CO (0,0) c a (a+(k-1))):=Dt.swap c (by omega) (by omega) (by omega) (by omega) (by omega);have A:=o.len;have z:=u.perm CC (g.trans o).perm;have v:((a:Int)+((k:Int)-1)).toNat=a+(k-1):=by omega
  have B:CO (0,0) c a (a+(k-1))=(c.set a (c.getD (a+(k-1)) (0,0))).set (a+(k-1)) (c.getD a (0,0)):=rfl;have key:=kI (CO (0,0) c a (a+(k-1))) (by omega) z 0 (k-1) a (by omega) (by omega) D;rw[A,w,show ((k-1:Nat):Int)=(k:Int)-1 by omega]at key;repeat'(first|exact trivial|apply eS rfl|apply AB|refine rP d ?_ ?_|fail)
  (refine CL drawsAny d 18 [([0,1,6,7,8,9,10,11,12,13,14,15,16],17)] [2,3,4,5] (by kernel_rfl) (LH ?_ ?_);(next=>exact CR);refine Nr d [] ?_ ?_;(next=>exact CR);refine Sv d ?_ ?_ ?_;(next=>exact CR);(next=>exact CR))
  rw[v,<-B];repeat'(first|exact trivial|apply eS rfl|apply AB|refine rP d ?_ ?_|fail)
  refine cP 5 d ?_ ?_
  .trivial
  refine rM d (key) [(1000000,.nm 1000000)] [] ?_ ?_ ?_
  .first|exact eN|refine eM ?_
  .first|exact eN|refine eM ?_
  rintro _ _ ⟨rfl,r,rfl,i,j⟩;refine⟨[(1000000,.nm 1000000)],.raw (.tuple #[]),[(1000000,.arr 106 AW r)],rfl,rfl,?_,?_,rfl,rfl,Bh ?_⟩
  .first|exact eN|refine eM ?_
  .first|exact eN|refine eM ?_
  repeat'(first|exact trivial|apply eS rfl|apply AB|refine rX d ?_ ?_|refine rC ?_ ?_<;>intro e<;>try(cases e;done))
  .omega
  refine⟨⟨(k-1,r),by simp only;omega,(g.trans o).trans (i.mono (Is _) (by omega)),A1c i j E F⟩,by simp only;omega,AC [(1000000,.nm 1000000)] rfl rfl ?_ ?_⟩
  .simp only;first|exact eN|refine eM ?_
  simp only;rw[show ((k-1:Nat):Int)=(k:Int)-1 by omega];first|exact eN|refine eM ?_
 have f:k=0:=by omega
 subst f;repeat'(first|exact trivial|apply eS rfl|apply AB|refine rX d ?_ ?_|refine rC ?_ ?_<;>intro e<;>try(cases e;done))
 exact fM d [] (.raw (.tuple #[])) rfl ⟨rfl,c,rfl,g,A41 h⟩
end
section
attribute [local go_sem] Cn
theorem A7B (l:List (Int×Int)) (ah:l.length<=100000) (O:mS B8 (0,0) l) (a b p:Nat) (hap:a<=p) (aa:p<b) (V:b<=l.length):A9 Tryz.prog 239 [.sr 1000000 AW 0 l.length,.p T3 (a:Int),.p T3 (b:Int),.p T3 (p:Int),.fn 192] [(1000000,.arr 106 AW l)] [1000000] (λres ae=>∃(q:Nat) (w:Bool) (r:List (Int×Int)),res=.tup [.p T3 (q:Int),.p .bool w]/\ae=[(1000000,.arr 106 AW r)]/\Dt (0,0) a b l r/\PtE B8 (0,0) a b q r):=by
 refine Kh [0,1,2,3,4,10,11,12,13,47,66,71,120,139,144] [] [] Tryz.func239 Tryz.ntmps239 (AE El AH) ?_;intro w0 K O0 ρ0 c ai aj;simp only[Aq];have g:Dt (0,0) a b l (CO (0,0) l a p):=Dt.swap l (Is _) (by omega) hap aa V;have n:CO (0,0) l a p=(l.set a (l.getD p (0,0))).set p (l.getD a (0,0)):=rfl;repeat'(first|exact trivial|apply eS rfl|apply AB|refine rP c ?_ ?_|fail)
 (refine CL drawsAny c 14 [([0,1,4,5,6,7,8,9,10,11,12],13)] [2,3] (by kernel_rfl) (LH ?_ ?_);(next=>exact CR);refine Nr c [] ?_ ?_;(next=>exact CR);refine Sv c ?_ ?_ ?_;(next=>exact CR);(next=>exact CR))
 rw[<-n];have y:=O.perm CC g.perm;have R:=g.len;clear n;generalize CO (0,0) l a p=m at *;repeat'(first|exact trivial|apply eS rfl|apply AB|refine rP c ?_ ?_|fail)
 .exact CR
 rw[show (a:Int)+1=((a+1:Nat):Int) by omega,show (b:Int)-1=((b-1:Nat):Int) by omega];refine AJ (ι:={i:Nat//a<i/\i<=b/\PtI B8 (0,0) a b i (b-1) m}) (λs=>⟨[(0,.sr 1000000 AW 0 l.length),(1,.p T3 (a:Int)),(4,.fn 192),(12,.p (.int .i64) (s.1:Int)),(13,.p (.int .i64) ((b-1:Nat):Int))],[(1000000,.arr 106 AW m)]⟩) (λs=>b-s.1) ⟨a+1,by omega,by omega,⟨λx h1 f=>by omega,λx h1 f=>by omega⟩⟩ (AC [(1000000,.nm 1000000)] rfl rfl ?_ ?_) (λs=>?_)
 .first|exact eN|refine eM ?_
 .first|exact eN|refine eM ?_
 obtain⟨i,E,I,t⟩:=s;simp only at E I t ⊢;repeat'(first|exact trivial|apply eS rfl|apply AB|refine rX c ?_ ?_)
 .dsimp only[Ty.den];exact⟨λ_=>by omega,λ_=>by omega⟩
 refine DR (by simp only[go_sem,Nat.reduceEqDiff,reduceCtorEq,Nat.reduceAdd,Nat.reduceSub,Nat.reduceMul,Nat.reduceLeDiff,Nat.reduceLT,Int.reduceLE,Int.reduceToNat,Int.reduceNeg,↓reduceIte];rfl) ?_ ?_
 .intro d;simp only[An,DO]at d;obtain⟨h1,f⟩:=d;repeat'(first|exact trivial|apply eS rfl|apply AB|refine rX c ?_ ?_)
  .exact CR
  refine⟨⟨i+1,by omega,by omega,⟨λx G H=>?_,t.hi⟩⟩,by simp only;omega,AC [(1000000,.nm 1000000)] rfl rfl ?_ ?_⟩
  .by_cases e:x=i
   .rw[e];exact f
   exact t.lo x G (by omega)
  .first|exact eN|refine eM ?_
  first|exact eN|refine eM ?_
 intro d;have A:i<=b-1->B8 (m.getD a (0,0)) (m.getD i (0,0))<0:=λh1=>y.lt CC (by omega) (by omega) (by omega) λf=>by
  simp only[Um,Of]at d;rcases d with h|h
  .omega
  exact h f
 have ag:i<=b-1+1:=by omega
 repeat'(first|exact trivial|apply eS rfl|apply AB|refine rX c ?_ ?_)
 refine AJ (ι:={j:Nat//a<=j/\j<b/\i<=j+1/\PtI B8 (0,0) a b i j m}) (λs=>⟨[(0,.sr 1000000 AW 0 l.length),(1,.p T3 (a:Int)),(4,.fn 192),(12,.p (.int .i64) (i:Int)),(13,.p (.int .i64) (s.1:Int))],[(1000000,.arr 106 AW m)]⟩) (λs=>s.1) ⟨b-1,by omega,by omega,by omega,t⟩ (AC [(1000000,.nm 1000000)] rfl rfl ?_ ?_) (λs=>?_)
 .first|exact eN|refine eM ?_
 .first|exact eN|refine eM ?_
 obtain⟨j,u,v,W,C⟩:=s;simp only at u v W C ⊢;clear d;repeat'(first|exact trivial|apply eS rfl|apply AB|refine rX c ?_ ?_)
 .dsimp only[Ty.den];exact⟨λ_=>by omega,λ_=>by omega⟩
 refine DR (by simp only[go_sem,Nat.reduceEqDiff,reduceCtorEq,Nat.reduceAdd,Nat.reduceSub,Nat.reduceMul,Nat.reduceLeDiff,Nat.reduceLT,Int.reduceLE,Int.reduceToNat,Int.reduceNeg,↓reduceIte];rfl) ?_ ?_
 .intro d;simp only[An,DO,TO,Of]at d;obtain⟨h1,f⟩:=d;have f:=y.lt CC (i:=j) (j:=a) (by omega) (by omega) (by omega) f;repeat'(first|exact trivial|apply eS rfl|apply AB|refine rX c ?_ ?_)
  .exact CR
  refine⟨⟨j-1,by omega,by omega,by omega,⟨C.lo,λx G H=>?_⟩⟩,by simp only;omega,AC [(1000000,.nm 1000000)] rfl rfl ?_ ?_⟩
  .by_cases e:x=j
   .rw[e];exact f
   exact C.hi x (by omega) H
  .first|exact eN|refine eM ?_
  simp only;rw[show ((j-1:Nat):Int)=(j:Int)-1 by omega];first|exact eN|refine eM ?_
 intro d;have B:i<=j->B8 (m.getD j (0,0)) (m.getD a (0,0))<0:=λh1=>by
  simp only[Um,Of,YY,DO]at d;rcases d with h|h
  .omega
  exact h
 repeat'(first|exact trivial|apply eS rfl|apply AB|refine rX c ?_ ?_)
 refine rC ?_ ?_<;>intro D
 .have Q:i=j+1:=by omega
  subst Q;have o:Dt (0,0) a b m (CO (0,0) m j a):=Dt.swap m u v (Is _) (by omega) (by omega);have n:CO (0,0) m j a=(m.set j (m.getD a (0,0))).set a (m.getD j (0,0)):=rfl;repeat'(first|exact trivial|apply eS rfl|apply AB|refine rP c ?_ ?_|fail)
  (refine CL drawsAny c 14 [([0,1,4,5,6,7,8,9,10,11,12],13)] [2,3] (by kernel_rfl) (LH ?_ ?_);(next=>exact CR);refine Nr c [] ?_ ?_;(next=>exact CR);refine Sv c ?_ ?_ ?_;(next=>exact CR);(next=>exact CR))
  rw[<-n];repeat'(first|exact trivial|apply eS rfl|apply AB|refine rX c ?_ ?_|refine rC ?_ ?_<;>intro D<;>try(cases D;done))
  exact fM c [.tmp 10,.tmp 11] (.tup [.p T3 (j:Int),.p .bool true]) eT ⟨j,true,_,rfl,rfl,g.trans o,y8 C u v (by omega)⟩
 have Z:i≠j:=λe=>by
  have S:=A (by omega);have af:=B (by omega);rw[e,CC.anti]at S;omega
 have P:i<j:=by omega
 have o:Dt (0,0) a b m (CO (0,0) m i j):=Dt.swap m (by omega) (by omega) u v (by omega);have n:CO (0,0) m i j=(m.set i (m.getD j (0,0))).set j (m.getD i (0,0)):=rfl;have M:=kH C E P v (by omega) (A (by omega)) (B (by omega));repeat'(first|exact trivial|apply eS rfl|apply AB|refine rP c ?_ ?_|fail)
 (refine CL drawsAny c 14 [([0,1,4,5,6,7,8,9,10,11,12],13)] [2,3] (by kernel_rfl) (LH ?_ ?_);(next=>exact CR);refine Nr c [] ?_ ?_;(next=>exact CR);refine Sv c ?_ ?_ ?_;(next=>exact CR);(next=>exact CR))
 rw[<-n];have J:=g.trans o;have y:=O.perm CC J.perm;have R:=J.len;clear n o C t A B d g;generalize CO (0,0) m i j=ad at *;repeat'(first|exact trivial|apply eS rfl|apply AB|refine rX c ?_ ?_)
 .exact CR
 .exact CR
 rw[show (i:Int)+1=((i+1:Nat):Int) by omega,show (j:Int)-1=((j-1:Nat):Int) by omega];refine AJ (ι:={s:Nat×Nat×List (Int×Int)//(a<s.1/\s.1<=s.2.1+1)/\(a<=s.2.1/\s.2.1<b)/\Dt (0,0) a b l s.2.2/\PtI B8 (0,0) a b s.1 s.2.1 s.2.2}) (λs=>⟨[(0,.sr 1000000 AW 0 l.length),(1,.p T3 (a:Int)),(4,.fn 192),(12,.p (.int .i64) (s.1.1:Int)),(13,.p (.int .i64) (s.1.2.1:Int))],[(1000000,.arr 106 AW s.1.2.2)]⟩) (λs=>s.1.2.1+1-s.1.1) ⟨(i+1,j-1,ad),by simp only;omega,by simp only;omega,J,M⟩ (AC [(1000000,.nm 1000000)] rfl rfl ?_ ?_) (λs=>?_)
 .first|exact eN|refine eM ?_
 .first|exact eN|refine eM ?_
 clear M y R J;obtain⟨⟨i,j,m⟩,⟨E,I⟩,⟨u,v⟩,g,t⟩:=s;simp only at E I u v g t ⊢;have y:=O.perm CC g.perm;have R:=g.len;repeat'(first|exact trivial|apply eS rfl|apply AB|refine rX c ?_ ?_)
 refine AJ (ι:={k:Nat//a<k/\i<=k/\k<=j+1/\PtI B8 (0,0) a b k j m}) (λs=>⟨[(0,.sr 1000000 AW 0 l.length),(1,.p T3 (a:Int)),(4,.fn 192),(12,.p (.int .i64) (s.1:Int)),(13,.p (.int .i64) (j:Int))],[(1000000,.arr 106 AW m)]⟩) (λs=>j+1-s.1) ⟨i,E,Is _,I,t⟩ (AC [(1000000,.nm 1000000)] rfl rfl ?_ ?_) (λs=>?_)
 .first|exact eN|refine eM ?_
 .first|exact eN|refine eM ?_
 obtain⟨k,T,X,U,L⟩:=s;simp only at T U X L ⊢;repeat'(first|exact trivial|apply eS rfl|apply AB|refine rX c ?_ ?_)
 .dsimp only[Ty.den];exact⟨λ_=>by omega,λ_=>by omega⟩
 refine DR (by simp only[go_sem,Nat.reduceEqDiff,reduceCtorEq,Nat.reduceAdd,Nat.reduceSub,Nat.reduceMul,Nat.reduceLeDiff,Nat.reduceLT,Int.reduceLE,Int.reduceToNat,Int.reduceNeg,↓reduceIte];rfl) ?_ ?_
 .intro d;simp only[An,DO]at d;obtain⟨h1,f⟩:=d;repeat'(first|exact trivial|apply eS rfl|apply AB|refine rX c ?_ ?_)
  .exact CR
  refine⟨⟨k+1,by omega,by omega,by omega,⟨λx G H=>?_,L.hi⟩⟩,by simp only;omega,AC [(1000000,.nm 1000000)] rfl rfl ?_ ?_⟩
  .by_cases e:x=k
   .rw[e];exact f
   exact L.lo x G (by omega)
  .first|exact eN|refine eM ?_
  first|exact eN|refine eM ?_
 intro d;have A:k<=j->B8 (m.getD a (0,0)) (m.getD k (0,0))<0:=λh1=>y.lt CC (by omega) (by omega) (by omega) λf=>by
  simp only[Um,Of]at d;rcases d with h|h
  .omega
  exact h f
 repeat'(first|exact trivial|apply eS rfl|apply AB|refine rX c ?_ ?_)
 refine AJ (ι:={z:Nat//a<=z/\z<=j/\k<=z+1/\PtI B8 (0,0) a b k z m}) (λs=>⟨[(0,.sr 1000000 AW 0 l.length),(1,.p T3 (a:Int)),(4,.fn 192),(12,.p (.int .i64) (k:Int)),(13,.p (.int .i64) (s.1:Int))],[(1000000,.arr 106 AW m)]⟩) (λs=>s.1) ⟨j,u,Is _,U,L⟩ (AC [(1000000,.nm 1000000)] rfl rfl ?_ ?_) (λs=>?_)
 .first|exact eN|refine eM ?_
 .first|exact eN|refine eM ?_
 obtain⟨z,N,ab,Y,F⟩:=s;simp only at N ab Y F ⊢;clear d;repeat'(first|exact trivial|apply eS rfl|apply AB|refine rX c ?_ ?_)
 .dsimp only[Ty.den];exact⟨λ_=>by omega,λ_=>by omega⟩
 refine DR (by simp only[go_sem,Nat.reduceEqDiff,reduceCtorEq,Nat.reduceAdd,Nat.reduceSub,Nat.reduceMul,Nat.reduceLeDiff,Nat.reduceLT,Int.reduceLE,Int.reduceToNat,Int.reduceNeg,↓reduceIte];rfl) ?_ ?_
 .intro d;simp only[An,DO,TO,Of]at d;obtain⟨h1,f⟩:=d;have f:=y.lt CC (i:=z) (j:=a) (by omega) (by omega) (by omega) f;repeat'(first|exact trivial|apply eS rfl|apply AB|refine rX c ?_ ?_)
  .exact CR
  refine⟨⟨z-1,by omega,by omega,by omega,⟨F.lo,λx G H=>?_⟩⟩,by simp only;omega,AC [(1000000,.nm 1000000)] rfl rfl ?_ ?_⟩
  .by_cases e:x=z
   .rw[e];exact f
   exact F.hi x (by omega) H
  .first|exact eN|refine eM ?_
  simp only;rw[show ((z-1:Nat):Int)=(z:Int)-1 by omega];first|exact eN|refine eM ?_
 intro d;have B:k<=z->B8 (m.getD z (0,0)) (m.getD a (0,0))<0:=λh1=>by
  simp only[Um,Of,YY,DO]at d;rcases d with h|h
  .omega
  exact h
 repeat'(first|exact trivial|apply eS rfl|apply AB|refine rX c ?_ ?_)
 refine rC ?_ ?_<;>intro D
 .have Q:k=z+1:=by omega
  subst Q;have o:Dt (0,0) a b m (CO (0,0) m z a):=Dt.swap m N (by omega) (Is _) (by omega) (by omega);have n:CO (0,0) m z a=(m.set z (m.getD a (0,0))).set a (m.getD z (0,0)):=rfl;repeat'(first|exact trivial|apply eS rfl|apply AB|refine rP c ?_ ?_|fail)
  (refine CL drawsAny c 14 [([0,1,4,5,6,7,8,9,10,11,12],13)] [2,3] (by kernel_rfl) (LH ?_ ?_);(next=>exact CR);refine Nr c [] ?_ ?_;(next=>exact CR);refine Sv c ?_ ?_ ?_;(next=>exact CR);(next=>exact CR))
  rw[<-n];repeat'(first|exact trivial|apply eS rfl|apply AB|refine rX c ?_ ?_|refine rC ?_ ?_<;>intro D<;>try(cases D;done))
  exact fM c [.tmp 10,.tmp 11] (.tup [.p T3 (z:Int),.p .bool false]) eT ⟨z,false,_,rfl,rfl,g.trans o,y8 F N (by omega) (by omega)⟩
 have Z:k≠z:=λe=>by
  have S:=A (by omega);have af:=B (by omega);rw[e,CC.anti]at S;omega
 have P:k<z:=by omega
 have o:Dt (0,0) a b m (CO (0,0) m k z):=Dt.swap m (by omega) (by omega) N (by omega) (by omega);have n:CO (0,0) m k z=(m.set k (m.getD z (0,0))).set z (m.getD k (0,0)):=rfl;have M:=kH F T P (by omega) (by omega) (A (by omega)) (B (by omega));repeat'(first|exact trivial|apply eS rfl|apply AB|refine rP c ?_ ?_|fail)
 (refine CL drawsAny c 14 [([0,1,4,5,6,7,8,9,10,11,12],13)] [2,3] (by kernel_rfl) (LH ?_ ?_);(next=>exact CR);refine Nr c [] ?_ ?_;(next=>exact CR);refine Sv c ?_ ?_ ?_;(next=>exact CR);(next=>exact CR))
 rw[<-n];repeat'(first|exact trivial|apply eS rfl|apply AB|refine rX c ?_ ?_)
 .exact CR
 .exact CR
 refine⟨⟨(k+1,z-1,CO (0,0) m k z),by simp only;omega,by simp only;omega,g.trans o,M⟩,by simp only;omega,AC [(1000000,.nm 1000000)] rfl rfl ?_ ?_⟩
 .first|exact eN|refine eM ?_
 simp only;rw[show ((z-1:Nat):Int)=(z:Int)-1 by omega];first|exact eN|refine eM ?_
end
section
attribute [local go_sem] Cn
theorem A7C (l:List (Int×Int)) (am:l.length<=100000) (L:mS B8 (0,0) l) (a b:Nat) (ak:a<b) (al:b<=l.length) (U:Bf B8 (0,0) a b l):A9 Tryz.prog 237 [.sr 1000000 AW 0 l.length,.p T3 (a:Int),.p T3 (b:Int),.fn 192] [(1000000,.arr 106 AW l)] [1000000] (λres aj=>∃(w:Bool) (r:List (Int×Int)),res=.p .bool w/\aj=[(1000000,.arr 106 AW r)]/\Dt (0,0) a b l r/\(w=true->R4 B8 (0,0) a b r)):=by
 refine Kh [0,1,2,3,8,9,10,11,12,16,36,41,45,65,69,84,104,109,124] [] [] Tryz.func237 Tryz.ntmps237 (AE El AH) ?_;intro w0 K O0 ρ0 f an ao;simp only[Aq];repeat'(first|exact trivial|apply eS rfl|apply AB|refine rX f ?_ ?_|refine rC ?_ ?_<;>intro q<;>try(cases q;done))
 .exact CR
 refine AJ (ι:={s:Nat×Nat×List (Int×Int)//(a+1<=s.1/\s.1<=b)/\s.2.1<=5/\Dt (0,0) a b l s.2.2/\R4 B8 (0,0) a s.1 s.2.2}) (λs=>⟨[(0,.sr 1000000 AW 0 l.length),(1,.p T3 (a:Int)),(2,.p T3 (b:Int)),(3,.fn 192),(9,.p (.int .i64) (s.1.1:Int)),(10,.p (.int .i64) (s.1.2.1:Int))],[(1000000,.arr 106 AW s.1.2.2)]⟩) (λs=>5-s.1.2.1) ⟨(a+1,0,l),by simp only;omega,IS _,Dt.refl a b l,eF a l⟩ (AC [(1000000,.nm 1000000)] rfl rfl ?_ ?_) (λs=>?_)
 .first|exact eN|refine eM ?_
 .first|exact eN|refine eM ?_
 obtain⟨⟨i,t,m⟩,⟨ab,N⟩,ai,u,Q⟩:=s;simp only at ab N ai u Q ⊢;have P:=L.perm CC u.perm;have ah:=u.len;repeat'(first|exact trivial|apply eS rfl|apply AB|refine rX f ?_ ?_)
 refine rC ?_ ?_<;>intro q
 .repeat'(first|exact trivial|apply eS rfl|apply AB|refine rX f ?_ ?_)
  refine AJ (ι:={k:Nat//i<=k/\k<=b/\R4 B8 (0,0) a k m}) (λs=>⟨[(0,.sr 1000000 AW 0 l.length),(1,.p T3 (a:Int)),(2,.p T3 (b:Int)),(3,.fn 192),(9,.p (.int .i64) (s.1:Int)),(10,.p (.int .i64) (t:Int))],[(1000000,.arr 106 AW m)]⟩) (λs=>b-s.1) ⟨i,Is _,N,Q⟩ (AC [(1000000,.nm 1000000)] rfl rfl ?_ ?_) (λs=>?_)
  .first|exact eN|refine eM ?_
  .first|exact eN|refine eM ?_
  obtain⟨k,ae,af,F⟩:=s;simp only at ae af F ⊢;have J:((k:Int)-1).toNat=k-1:=by omega
  repeat'(first|exact trivial|apply eS rfl|apply AB|refine rX f ?_ ?_)
  .dsimp only[Ty.den];exact⟨λ_=>by omega,λ_=>by omega,λ_=>by omega⟩
  refine DR (by simp only[go_sem,Nat.reduceEqDiff,reduceCtorEq,Nat.reduceAdd,Nat.reduceSub,Nat.reduceMul,Nat.reduceLeDiff,Nat.reduceLT,Int.reduceLE,Int.reduceToNat,Int.reduceNeg,↓reduceIte];rfl) ?_ ?_
  .intro g;simp only[An,DO,TO,Of]at g;obtain⟨h1,z⟩:=g;rw[J]at z;have z:=P.lt CC (i:=k) (j:=k-1) (by omega) (by omega) (by omega) z;repeat'(first|exact trivial|apply eS rfl|apply AB|refine rX f ?_ ?_)
   .exact CR
   refine⟨⟨k+1,by omega,by omega,A3Z CC F (by omega) z⟩,by simp only;omega,AC [(1000000,.nm 1000000)] rfl rfl ?_ ?_⟩
   .first|exact eN|refine eM ?_
   first|exact eN|refine eM ?_
  intro g;clear g;repeat'(first|exact trivial|apply eS rfl|apply AB|refine rX f ?_ ?_)
  refine rC (λZ=>?_) (λZ=>?_)
  .have O:k=b:=by omega
   subst O;repeat'(first|exact trivial|apply eS rfl|apply AB|refine rX f ?_ ?_|refine rC ?_ ?_<;>intro q<;>try(cases q;done))
   exact fM f [.tmp 8] (.p .bool true) eT ⟨true,m,rfl,rfl,u,λ_=>F⟩
  have O:k<b:=by omega
  repeat'(first|exact trivial|apply eS rfl|apply AB|refine rX f ?_ ?_)
  .exact CR
  refine rC (λaa=>?_) (λaa=>?_)
  .repeat'(first|exact trivial|apply eS rfl|apply AB|refine rX f ?_ ?_|refine rC ?_ ?_<;>intro q<;>try(cases q;done))
   exact fM f [.tmp 8] (.p .bool false) eT ⟨false,m,rfl,rfl,u,λh=>by cases h⟩
  have v:Dt (0,0) a b m (CO (0,0) m k (k-1)):=Dt.swap m (by omega) (by omega) (by omega) (by omega) (by omega);have B:CO (0,0) m k (k-1)=(m.set k (m.getD (k-1) (0,0))).set (k-1) (m.getD k (0,0)):=rfl;have R:pR B8 (0,0) a (k-1) (k-1) (CO (0,0) m k (k-1)):=⟨λx y h0 h1 z S T=>by
   have M:=X1 (d:=(0,0)) (l:=m) (i:=k) (j:=k-1) (by omega) (by omega);rw[M x,M y,As S,As (show ¬x=k by omega),As T,As (show ¬y=k by omega)];exact F x y h0 h1 (by omega),λy h1 z=>by omega⟩
  repeat'(first|exact trivial|apply eS rfl|apply AB|refine rP f ?_ ?_|fail)
  (refine CL drawsAny f 16 [([0,1,5,6,7,8,9,10,11,12,13,14],15)] [2,3,4] (by kernel_rfl) (LH ?_ ?_);(next=>exact CR);refine Nr f [] ?_ ?_;(next=>exact CR);refine Sv f ?_ ?_ ?_;(next=>exact CR);(next=>exact CR))
  rw[J,<-B];have I:=u.trans v;clear B v P ah;generalize CO (0,0) m k (k-1)=c0 at *;refine Ho ?_;refine Px (ι:={c:List (Int×Int)//Dt (0,0) a b l c/\R4 B8 (0,0) a k c}) (λs=>⟨[(0,.sr 1000000 AW 0 l.length),(1,.p T3 (a:Int)),(2,.p T3 (b:Int)),(3,.fn 192),(9,.p (.int .i64) (k:Int)),(10,.p (.int .i64) (t:Int))],[(1000000,.arr 106 AW s.1)]⟩) ?_ (λs=>?_)
  .repeat'(first|exact trivial|apply eS rfl|apply AB|refine rX f ?_ ?_)
   .exact CR
   refine rC (λG=>?_) (λG=>?_)
   .repeat'(first|exact trivial|apply eS rfl|apply AB|refine rX f ?_ ?_)
    .exact CR
    rw[show (k:Int)-1=((k-1:Nat):Int) by omega];refine AJ (ι:={s:Nat×List (Int×Int)//(a<=s.1/\s.1<=k-1)/\Dt (0,0) a b l s.2/\pR B8 (0,0) a (k-1) s.1 s.2}) (λs=>⟨[(0,.sr 1000000 AW 0 l.length),(1,.p T3 (a:Int)),(2,.p T3 (b:Int)),(3,.fn 192),(9,.p (.int .i64) (k:Int)),(10,.p (.int .i64) (t:Int)),(11,.p (.int .i64) (s.1.1:Int))],[(1000000,.arr 106 AW s.1.2)]⟩) (λs=>s.1.1) ⟨(k-1,c0),by simp only;omega,I,R⟩ (AC [(1000000,.nm 1000000)] rfl rfl ?_ ?_) (λs=>?_)
    .first|exact eN|refine eM ?_
    .first|exact eN|refine eM ?_
    obtain⟨⟨j,c⟩,⟨D,A⟩,n,o⟩:=s;simp only at D A n o ⊢;have X:=L.perm CC n.perm;have Y:=n.len;have C:((j:Int)-1).toNat=j-1:=by omega
    have V:=U.pin n;repeat'(first|exact trivial|apply eS rfl|apply AB|refine rX f ?_ ?_)
    refine rC (λH=>?_) (λH=>?_)
    .repeat'(first|exact trivial|apply eS rfl|apply AB|refine rX f ?_ ?_)
     .exact CR
     refine DR (by simp only[go_sem,Nat.reduceEqDiff,reduceCtorEq,Nat.reduceAdd,Nat.reduceSub,Nat.reduceMul,Nat.reduceLeDiff,Nat.reduceLT,Int.reduceLE,Int.reduceToNat,Int.reduceNeg,↓reduceIte];rfl) ?_ ?_
     .intro g;simp only[TO,Of]at g;rw[C]at g;have g:=X.lt CC (i:=j) (j:=j-1) (by omega) (by omega) (by omega) g;have E:=Xe CC o D A (.inr g);rw[show k-1+1=k by omega]at E;repeat'(first|exact trivial|apply eS rfl|apply AB|refine rX f ?_ ?_)
      refine⟨⟨c,n,E⟩,AC [(1000000,.nm 1000000)] rfl rfl ?_ ?_⟩
      .first|exact eN|refine eM ?_
      first|exact eN|refine eM ?_
     intro g;simp only[YY,DO]at g;rw[C]at g;have g:B8 (c.getD j (0,0)) (c.getD (j-1) (0,0))<0:=g;have W:a<j:=by
      refine IN λhn=>?_;have e:j=a:=by omega
      subst e;rcases V with h|h
      .omega
      have:=h j (Is _) (by omega);rw[CC.anti]at this;omega
     have v:Dt (0,0) a b c (CO (0,0) c j (j-1)):=Dt.swap c (by omega) (by omega) (by omega) (by omega) (by omega);have B:CO (0,0) c j (j-1)=(c.set j (c.getD (j-1) (0,0))).set (j-1) (c.getD j (0,0)):=rfl;repeat'(first|exact trivial|apply eS rfl|apply AB|refine rP f ?_ ?_|fail)
     (refine CL drawsAny f 16 [([0,1,5,6,7,8,9,10,11,12,13,14],15)] [2,3,4] (by kernel_rfl) (LH ?_ ?_);(next=>exact CR);refine Nr f [] ?_ ?_;(next=>exact CR);refine Sv f ?_ ?_ ?_;(next=>exact CR);(next=>exact CR))
     rw[C,<-B];repeat'(first|exact trivial|apply eS rfl|apply AB|refine rX f ?_ ?_)
     .exact CR
     refine⟨⟨(j-1,CO (0,0) c j (j-1)),by simp only;omega,n.trans v,aK o W A (by omega) g⟩,by simp only;omega,AC [(1000000,.nm 1000000)] rfl rfl ?_ ?_⟩
     .first|exact eN|refine eM ?_
     simp only;rw[show ((j-1:Nat):Int)=(j:Int)-1 by omega];first|exact eN|refine eM ?_
    have ad:j=a:=by omega
    have E:=Xe CC o D A (.inl ad);rw[show k-1+1=k by omega]at E;repeat'(first|exact trivial|apply eS rfl|apply AB|refine rX f ?_ ?_)
    refine⟨⟨c,n,E⟩,AC [(1000000,.nm 1000000)] rfl rfl ?_ ?_⟩
    .first|exact eN|refine eM ?_
    first|exact eN|refine eM ?_
   have ag:k=a+1:=by omega
   repeat'(first|exact trivial|apply eS rfl|apply AB|refine rX f ?_ ?_)
   refine⟨⟨c0,I,by rw[ag];exact eF a c0⟩,AC [(1000000,.nm 1000000)] rfl rfl ?_ ?_⟩
   .first|exact eN|refine eM ?_
   first|exact eN|refine eM ?_
  obtain⟨c,n,o⟩:=s;simp only;clear I R;repeat'(first|exact trivial|apply eS rfl|apply AB|refine rX f ?_ ?_)
  .exact CR
  refine rC (λG=>?_) (λG=>?_)
  .repeat'(first|exact trivial|apply eS rfl|apply AB|refine rX f ?_ ?_)
   .exact CR
   rw[show (k:Int)+1=((k+1:Nat):Int) by omega];refine AJ (ι:={s:Nat×List (Int×Int)//(k+1<=s.1/\s.1<=b)/\Dt (0,0) a b l s.2/\R4 B8 (0,0) a k s.2}) (λs=>⟨[(0,.sr 1000000 AW 0 l.length),(1,.p T3 (a:Int)),(2,.p T3 (b:Int)),(3,.fn 192),(9,.p (.int .i64) (k:Int)),(10,.p (.int .i64) (t:Int)),(12,.p (.int .i64) (s.1.1:Int))],[(1000000,.arr 106 AW s.1.2)]⟩) (λs=>b-s.1.1) ⟨(k+1,c),by simp only;omega,n,o⟩ (AC [(1000000,.nm 1000000)] rfl rfl ?_ ?_) (λs=>?_)
   .first|exact eN|refine eM ?_
   .first|exact eN|refine eM ?_
   clear n o;obtain⟨⟨j,c⟩,⟨D,A⟩,n,o⟩:=s;simp only at D A n o ⊢;have Y:=n.len;have C:((j:Int)-1).toNat=j-1:=by omega
   repeat'(first|exact trivial|apply eS rfl|apply AB|refine rX f ?_ ?_)
   refine rC (λH=>?_) (λH=>?_)
   .repeat'(first|exact trivial|apply eS rfl|apply AB|refine rX f ?_ ?_)
    .exact CR
    refine DR (by simp only[go_sem,Nat.reduceEqDiff,reduceCtorEq,Nat.reduceAdd,Nat.reduceSub,Nat.reduceMul,Nat.reduceLeDiff,Nat.reduceLT,Int.reduceLE,Int.reduceToNat,Int.reduceNeg,↓reduceIte];rfl) ?_ ?_
    .intro g;clear g;repeat'(first|exact trivial|apply eS rfl|apply AB|refine rX f ?_ ?_)
     .exact CR
     refine⟨⟨(k,t+1,c),by simp only;omega,by simp only;omega,n,o⟩,by simp only;omega,AC [(1000000,.nm 1000000)] rfl rfl ?_ ?_⟩
     .first|exact eN|refine eM ?_
     first|exact eN|refine eM ?_
    intro g;clear g;have v:Dt (0,0) k b c (CO (0,0) c j (j-1)):=Dt.swap c (by omega) (by omega) (by omega) (by omega) (by omega);have B:CO (0,0) c j (j-1)=(c.set j (c.getD (j-1) (0,0))).set (j-1) (c.getD j (0,0)):=rfl;repeat'(first|exact trivial|apply eS rfl|apply AB|refine rP f ?_ ?_|fail)
    (refine CL drawsAny f 16 [([0,1,5,6,7,8,9,10,11,12,13,14],15)] [2,3,4] (by kernel_rfl) (LH ?_ ?_);(next=>exact CR);refine Nr f [] ?_ ?_;(next=>exact CR);refine Sv f ?_ ?_ ?_;(next=>exact CR);(next=>exact CR))
    rw[C,<-B];repeat'(first|exact trivial|apply eS rfl|apply AB|refine rX f ?_ ?_)
    .exact CR
    refine⟨⟨(j+1,CO (0,0) c j (j-1)),by simp only;omega,n.trans (v.mono (by omega) (Is _)),NF o λx ap aq=>v.out x (by omega)⟩,by simp only;omega,AC [(1000000,.nm 1000000)] rfl rfl ?_ ?_⟩
    .first|exact eN|refine eM ?_
    first|exact eN|refine eM ?_
   repeat'(first|exact trivial|apply eS rfl|apply AB|refine rX f ?_ ?_)
   .exact CR
   refine⟨⟨(k,t+1,c),by simp only;omega,by simp only;omega,n,o⟩,by simp only;omega,AC [(1000000,.nm 1000000)] rfl rfl ?_ ?_⟩
   .first|exact eN|refine eM ?_
   first|exact eN|refine eM ?_
  repeat'(first|exact trivial|apply eS rfl|apply AB|refine rX f ?_ ?_)
  .exact CR
  refine⟨⟨(k,t+1,c),by simp only;omega,by simp only;omega,n,o⟩,by simp only;omega,AC [(1000000,.nm 1000000)] rfl rfl ?_ ?_⟩
  .first|exact eN|refine eM ?_
  first|exact eN|refine eM ?_
 repeat'(first|exact trivial|apply eS rfl|apply AB|refine rX f ?_ ?_|refine rC ?_ ?_<;>intro q<;>try(cases q;done))
 exact fM f [.tmp 8] (.p .bool false) eT ⟨false,m,rfl,rfl,u,λh=>by cases h⟩
end
section
attribute [local go_sem] Cn
def GS (l:List (Int×Int)) (s:Nat):List (Nat×Obj):=[(1000000,.arr 106 AW l),(70,.box 3 false [.p T3 (s:Int)])]
theorem Xf (l:List (Int×Int)) (a b s:Nat) (f:a<l.length) (g:b<l.length) (hs:s<=1000):A9 Tryz.prog 251 [.sr 1000000 AW 0 l.length,.p T3 (a:Int),.p T3 (b:Int),.bp 70 [] 0,.fn 192] (GS l s) [1000000,70] (λres e=>∃x y t:Nat,res=.tup [.p T3 (x:Int),.p T3 (y:Int)]/\e=GS l t/\((x=a/\y=b)\/(x=b/\y=a))/\t<=s+1):=by
 refine Kh [0,1,2,3,4,10,11,22] [] [] Tryz.func251 Tryz.ntmps251 (AE El AH) ?_;intro w0 K O0 ρ0 c h i;simp only[Aq,GS];repeat'(first|exact trivial|apply eS rfl|apply AB|refine rX c ?_ ?_|refine rC ?_ ?_<;>intro d<;>try(cases d;done))
 .exact CR
 .exact CR
 .refine fM c [.tmp 10,.tmp 11] (.tup [.p T3 (b:Int),.p T3 (a:Int)]) eT ⟨b,a,s+1,rfl,?_,.inr ⟨rfl,rfl⟩,Is _⟩;rw[show ((s+1:Nat):Int)=(s:Int)+1 by omega]
 exact fM c [.tmp 10,.tmp 11] (.tup [.p T3 (a:Int),.p T3 (b:Int)]) eT ⟨a,b,s,rfl,rfl,.inl ⟨rfl,rfl⟩,by omega⟩
theorem eG (l:List (Int×Int)) (a b c s:Nat) (j:a<l.length) (k:b<l.length) (cl:c<l.length) (hs:s<=900):A9 Tryz.prog 248 [.sr 1000000 AW 0 l.length,.p T3 (a:Int),.p T3 (b:Int),.p T3 (c:Int),.bp 70 [] 0,.fn 192] (GS l s) [1000000,70] (λres m=>∃x t:Nat,res=.p T3 (x:Int)/\m=GS l t/\(x=a\/x=b\/x=c)/\t<=s+3):=by
 refine Kh [0,1,2,3,4,5,12] [] [] Tryz.func248 Tryz.ntmps248 AH ?_;intro w0 K O0 ρ0 d q r;simp only[Aq,GS];repeat'(first|exact trivial|apply eS rfl|apply AB|refine rX d ?_ ?_|refine rC ?_ ?_<;>intro e<;>try(cases e;done))
 refine cP 5 d ?_ ?_
 .trivial
 refine rM d (Xf l a b s j k (by omega)) [(1000000,.nm 1000000),(70,.nm 70)] [] ?_ ?_ ?_
 .first|exact eN|refine eM ?_
 .simp only[GS];first|exact eN|refine eM ?_
 rintro _ _ ⟨g,b1,s1,rfl,rfl,h1,u⟩;refine⟨[(1000000,.nm 1000000),(70,.nm 70)],.tup [.p T3 (g:Int),.p T3 (b1:Int)],[(1000000,.arr 106 AW l),(70,.box 3 false [.p T3 (s1:Int)])],rfl,rfl,?_,?_,rfl,rfl,?_⟩
 .simp only[GS];first|exact eN|refine eM ?_
 .first|exact eN|refine eM ?_
 refine rL d ?_ ?_
 .trivial
 repeat'(first|exact trivial|apply eS rfl|apply AB|refine rX d ?_ ?_|refine rC ?_ ?_<;>intro e<;>try(cases e;done))
 refine cP 5 d ?_ ?_
 .trivial
 refine rM d (Xf l b1 c s1 (by omega) cl (by omega)) [(1000000,.nm 1000000),(70,.nm 70)] [] ?_ ?_ ?_
 .first|exact eN|refine eM ?_
 .simp only[GS];first|exact eN|refine eM ?_
 rintro _ _ ⟨b2,c2,s2,rfl,rfl,n,v⟩;refine⟨[(1000000,.nm 1000000),(70,.nm 70)],.tup [.p T3 (b2:Int),.p T3 (c2:Int)],[(1000000,.arr 106 AW l),(70,.box 3 false [.p T3 (s2:Int)])],rfl,rfl,?_,?_,rfl,rfl,?_⟩
 .simp only[GS];first|exact eN|refine eM ?_
 .first|exact eN|refine eM ?_
 refine rL d ?_ ?_
 .trivial
 repeat'(first|exact trivial|apply eS rfl|apply AB|refine rX d ?_ ?_|refine rC ?_ ?_<;>intro e<;>try(cases e;done))
 refine cP 5 d ?_ ?_
 .trivial
 refine rM d (Xf l g b2 s2 (by omega) (by omega) (by omega)) [(1000000,.nm 1000000),(70,.nm 70)] [] ?_ ?_ ?_
 .first|exact eN|refine eM ?_
 .simp only[GS];first|exact eN|refine eM ?_
 rintro _ _ ⟨i,f,h,rfl,rfl,o,w⟩;refine⟨[(1000000,.nm 1000000),(70,.nm 70)],.tup [.p T3 (i:Int),.p T3 (f:Int)],[(1000000,.arr 106 AW l),(70,.box 3 false [.p T3 (h:Int)])],rfl,rfl,?_,?_,rfl,rfl,?_⟩
 .simp only[GS];first|exact eN|refine eM ?_
 .first|exact eN|refine eM ?_
 refine rL d ?_ ?_
 .trivial
 repeat'(first|exact trivial|apply eS rfl|apply AB|refine rX d ?_ ?_|refine rC ?_ ?_<;>intro e<;>try(cases e;done))
 exact fM d [.tmp 12] (.p T3 (f:Int)) eT ⟨f,h,rfl,rfl,by omega,by omega⟩
theorem eH (l:List (Int×Int)) (b s:Nat) (g:1<=b) (d:b+1<l.length) (h:l.length<=100000) (hs:s<=900):A9 Tryz.prog 247 [.sr 1000000 AW 0 l.length,.p T3 (b:Int),.bp 70 [] 0,.fn 192] (GS l s) [1000000,70] (λres f=>∃x t:Nat,res=.p T3 (x:Int)/\f=GS l t/\(b-1<=x/\x<=b+1)/\t<=s+3):=by
 refine Kh [0,1,2,3,8] [] [] Tryz.func247 Tryz.ntmps247 AH ?_;intro w0 K O0 ρ0 a i j;simp only[Aq,GS];have key:=eG l (b-1) b (b+1) s (by omega) (by omega) d hs;rw[show ((b-1:Nat):Int)=(b:Int)-1 by omega,show ((b+1:Nat):Int)=(b:Int)+1 by omega]at key;repeat'(first|exact trivial|apply eS rfl|apply AB|refine rX a ?_ ?_|refine rC ?_ ?_<;>intro c<;>try(cases c;done))
 refine cP 8 a ?_ ?_
 .exact CR
 refine rM a (key) [(1000000,.nm 1000000),(70,.nm 70)] [] ?_ ?_ ?_
 .first|exact eN|refine eM ?_
 .simp only[GS];first|exact eN|refine eM ?_
 rintro _ _ ⟨x,t,rfl,rfl,k,e⟩;refine⟨[(1000000,.nm 1000000),(70,.nm 70)],.p T3 (x:Int),[(1000000,.arr 106 AW l),(70,.box 3 false [.p T3 (t:Int)])],rfl,rfl,?_,?_,rfl,rfl,?_⟩
 .simp only[GS];first|exact eN|refine eM ?_
 .first|exact eN|refine eM ?_
 refine rL a ?_ ?_
 .trivial
 repeat'(first|exact trivial|apply eS rfl|apply AB|refine rX a ?_ ?_|refine rC ?_ ?_<;>intro c<;>try(cases c;done))
 exact fM a [.tmp 8] (.p T3 (x:Int)) eT ⟨x,t,rfl,rfl,by omega,e⟩
theorem A7D (l:List (Int×Int)) (i:l.length<=100000) (a b:Nat) (z:a+13<=b) (A:b<=l.length):A9 Tryz.prog 235 [.sr 1000000 AW 0 l.length,.p T3 (a:Int),.p T3 (b:Int),.fn 192] [(1000000,.arr 106 AW l)] [1000000] (λres y=>∃(j:Nat) (h:Int),res=.tup [.p T3 (j:Int),.p T3 h]/\y=[(1000000,.arr 106 AW l)]/\a<=j/\j<b):=by
 refine Kh [0,1,2,3,8,9,10,11,12,13,14,34,36,55,57,60] [] [] Tryz.func235 Tryz.ntmps235 AH ?_;intro w0 K O0 ρ0 c B C;simp only[Aq];obtain⟨t,v⟩:∃t,t=(b-a) / 4:=⟨_,rfl⟩;have et:((b:Int)-(a:Int)).tdiv 4=(t:Int):=by
  rw[Uc (by omega)];omega
 have G:4*t<=b-a:=by omega
 have H:3<=t:=by omega
 clear v
 (apply eS rfl;refine rX c ?_ ?_;(next=>first|exact trivial|exact CR))
 (apply eS rfl;refine rX c ?_ ?_;(next=>first|exact trivial|exact CR))
 (apply eS rfl;refine rX c ?_ ?_;(next=>first|exact trivial|exact CR))
 (apply eS rfl;refine rX c ?_ ?_;(next=>first|exact trivial|exact CR|(rw[et];refine⟨⟨by decide,?_⟩,?_,?_⟩<;>omega)))
 (apply eS rfl;refine rX c ?_ ?_;(next=>first|exact trivial|exact CR|(rw[et];refine⟨⟨by decide,?_⟩,?_,?_⟩<;>omega)))
 (apply eS rfl;refine rX c ?_ ?_;(next=>first|exact trivial|exact CR|(rw[et];refine⟨⟨by decide,?_⟩,?_,?_⟩<;>omega)))
 rw[et,show (a:Int)+(t:Int)*1=((a+t:Nat):Int) by omega,show (a:Int)+(t:Int)*2=((a+t*2:Nat):Int) by omega,show (a:Int)+(t:Int)*3=((a+t*3:Nat):Int) by omega];refine Ho ?_;refine Px (ι:={x:Nat×Nat//a<=x.1/\x.1<b}) (λx=>⟨[(11,.bp 11 [] 0),(13,.p T3 (x.1.1:Int))],[(1000000,.arr 106 AW l),(11,.box 3 false [.p T3 (x.1.2:Int)])]⟩) ?_ (λx=>?_)
 .repeat'(first|exact trivial|apply eS rfl|apply AB|refine rX c ?_ ?_)
  refine rC ?_ ?_<;>intro k
  .repeat'(first|exact trivial|apply eS rfl|apply AB|refine rX c ?_ ?_)
   refine rC (λr=>?_) (λr=>?_)
   .repeat'(first|exact trivial|apply eS rfl|apply AB|refine rP c ?_ ?_|fail)
    refine cP 3 c ?_ ?_
    .trivial
    refine rM c (eH l (a+t) 0 (by omega) (by omega) i (by omega)) [(1000000,.nm 1000000),(70,.nm 11)] [] ?_ ?_ ?_
    .first|exact eN|refine eM ?_
    .simp only[GS];first|exact eN|refine eM ?_
    rintro _ _ ⟨n,s1,rfl,rfl,I,D⟩;refine⟨[(1000000,.nm 1000000),(11,.nm 70)],.p T3 (n:Int),[(1000000,.arr 106 AW l),(11,.box 3 false [.p T3 (s1:Int)])],rfl,rfl,?_,?_,rfl,rfl,?_⟩
    .simp only[GS];first|exact eN|refine eM ?_
    .first|exact eN|refine eM ?_
    refine rL c ?_ ?_
    .trivial
    repeat'(first|exact trivial|apply eS rfl|apply AB|refine rX c ?_ ?_)
    refine cP 3 c ?_ ?_
    .trivial
    refine rM c (eH l (a+t*2) s1 (by omega) (by omega) i (by omega)) [(1000000,.nm 1000000),(70,.nm 11)] [] ?_ ?_ ?_
    .first|exact eN|refine eM ?_
    .simp only[GS];first|exact eN|refine eM ?_
    rintro _ _ ⟨o,s2,rfl,rfl,J,E⟩;refine⟨[(1000000,.nm 1000000),(11,.nm 70)],.p T3 (o:Int),[(1000000,.arr 106 AW l),(11,.box 3 false [.p T3 (s2:Int)])],rfl,rfl,?_,?_,rfl,rfl,?_⟩
    .simp only[GS];first|exact eN|refine eM ?_
    .first|exact eN|refine eM ?_
    refine rL c ?_ ?_
    .trivial
    repeat'(first|exact trivial|apply eS rfl|apply AB|refine rX c ?_ ?_)
    refine cP 3 c ?_ ?_
    .trivial
    refine rM c (eH l (a+t*3) s2 (by omega) (by omega) i (by omega)) [(1000000,.nm 1000000),(70,.nm 11)] [] ?_ ?_ ?_
    .first|exact eN|refine eM ?_
    .simp only[GS];first|exact eN|refine eM ?_
    rintro _ _ ⟨q,m,rfl,rfl,L,F⟩;refine⟨[(1000000,.nm 1000000),(11,.nm 70)],.p T3 (q:Int),[(1000000,.arr 106 AW l),(11,.box 3 false [.p T3 (m:Int)])],rfl,rfl,?_,?_,rfl,rfl,?_⟩
    .simp only[GS];first|exact eN|refine eM ?_
    .first|exact eN|refine eM ?_
    refine rL c ?_ ?_
    .trivial
    repeat'(first|exact trivial|apply eS rfl|apply AB|refine rX c ?_ ?_)
    refine cP 5 c ?_ ?_
    .trivial
    refine rM c (eG l (n) (o) (q) m (by omega) (by omega) (by omega) (by omega)) [(1000000,.nm 1000000),(70,.nm 11)] [] ?_ ?_ ?_
    .first|exact eN|refine eM ?_
    .simp only[GS];first|exact eN|refine eM ?_
    rintro _ _ ⟨e,d,rfl,rfl,w,u⟩;refine⟨[(1000000,.nm 1000000),(11,.nm 70)],.p T3 (e:Int),[(1000000,.arr 106 AW l),(11,.box 3 false [.p T3 (d:Int)])],rfl,rfl,?_,?_,rfl,rfl,?_⟩
    .simp only[GS];first|exact eN|refine eM ?_
    .first|exact eN|refine eM ?_
    refine rL c ?_ ?_
    .trivial
    repeat'(first|exact trivial|apply eS rfl|apply AB|refine rX c ?_ ?_)
    refine⟨⟨(e,d),by simp only;omega,by simp only;omega⟩,AC [(1000000,.nm 1000000),(11,.nm 11)] rfl rfl ?_ ?_⟩
    .first|exact eN|refine eM ?_
    first|exact eN|refine eM ?_
   repeat'(first|exact trivial|apply eS rfl|apply AB|refine rP c ?_ ?_|fail)
   refine cP 5 c ?_ ?_
   .trivial
   refine rM c (eG l (a+t) (a+t*2) (a+t*3) 0 (by omega) (by omega) (by omega) (by omega)) [(1000000,.nm 1000000),(70,.nm 11)] [] ?_ ?_ ?_
   .first|exact eN|refine eM ?_
   .simp only[GS];first|exact eN|refine eM ?_
   rintro _ _ ⟨e,d,rfl,rfl,w,u⟩;refine⟨[(1000000,.nm 1000000),(11,.nm 70)],.p T3 (e:Int),[(1000000,.arr 106 AW l),(11,.box 3 false [.p T3 (d:Int)])],rfl,rfl,?_,?_,rfl,rfl,?_⟩
   .simp only[GS];first|exact eN|refine eM ?_
   .first|exact eN|refine eM ?_
   refine rL c ?_ ?_
   .trivial
   repeat'(first|exact trivial|apply eS rfl|apply AB|refine rX c ?_ ?_)
   refine⟨⟨(e,d),by simp only;omega,by simp only;omega⟩,AC [(1000000,.nm 1000000),(11,.nm 11)] rfl rfl ?_ ?_⟩
   .first|exact eN|refine eM ?_
   first|exact eN|refine eM ?_
  exfalso;omega
 obtain⟨⟨j,s⟩,f,g⟩:=x;simp only at f g ⊢;repeat'(first|exact trivial|apply eS rfl|apply AB|refine rX c ?_ ?_|refine rC ?_ ?_<;>intro k<;>try(cases k;done))
 .refine Ev.ent (σ':=⟨[(8,.p T3 (j:Int)),(9,.p T3 (1:Int))],[(1000000,.arr 106 AW l)]⟩) ?_ (AC [(1000000,.nm 1000000)] rfl rfl ?_ ?_)
  .exact fM c [.tmp 8,.tmp 9] (.tup [.p T3 (j:Int),.p T3 (1:Int)]) eT ⟨j,1,rfl,rfl,f,g⟩
  .first|exact eN|refine eM ?_
  first|exact eN|refine eM ?_
 .refine Ev.ent (σ':=⟨[(8,.p T3 (j:Int)),(9,.p T3 (2:Int))],[(1000000,.arr 106 AW l)]⟩) ?_ (AC [(1000000,.nm 1000000)] rfl rfl ?_ ?_)
  .exact fM c [.tmp 8,.tmp 9] (.tup [.p T3 (j:Int),.p T3 (2:Int)]) eT ⟨j,2,rfl,rfl,f,g⟩
  .first|exact eN|refine eM ?_
  first|exact eN|refine eM ?_
 refine Ev.ent (σ':=⟨[(8,.p T3 (j:Int)),(9,.p T3 (0:Int))],[(1000000,.arr 106 AW l)]⟩) ?_ (AC [(1000000,.nm 1000000)] rfl rfl ?_ ?_)
 .exact fM c [.tmp 8,.tmp 9] (.tup [.p T3 (j:Int),.p T3 (0:Int)]) eT ⟨j,0,rfl,rfl,f,g⟩
 .first|exact eN|refine eM ?_
 first|exact eN|refine eM ?_
end
theorem A7E (x y:Int) (h0:0<=y) (h1:y<4611686018427387904):0<=B2 .and .u64 x y/\B2 .and .u64 x y<=y:=by
 have e:(IntKind.u64).bits=64:=rfl;have a:(BitVec.ofInt 64 y).toNat=y.toNat:=by
  rw[BitVec.toNat_ofInt];omega
 have d:(BitVec.ofInt 64 x &&& BitVec.ofInt 64 y).toNat<=y.toNat:=by
  rw[BitVec.toNat_and,a];exact Nat.and_le_right
 have b:B2 .and .u64 x y=IntKind.u64.wrap (((BitVec.ofInt 64 x &&& BitVec.ofInt 64 y).toNat:Nat):Int):=rfl;rw[b];generalize (BitVec.ofInt 64 x &&& BitVec.ofInt 64 y).toNat=z at *;have c:IntKind.u64.wrap (z:Int)=(z:Int):=by
  have f:(z:Int)<18446744073709551616:=by omega
  have:IntKind.u64.wrap (z:Int)=(z:Int) % 18446744073709551616:=by
   first|rfl|(simp[IntKind.wrap];done)
  rw[this];omega
 rw[c];omega
theorem ACV (z:Int):0<=IntKind.u64.wrap z/\IntKind.u64.wrap z<=18446744073709551615:=by
 have:IntKind.u64.wrap z=z % 18446744073709551616:=by
  first|rfl|(simp[IntKind.wrap];done)
 omega
theorem kJ (x y:Int):0<=B2 .xor .u64 x y/\B2 .xor .u64 x y<=18446744073709551615:=ACV _
theorem A43 {x:Int} (h0:0<=x) (h1:x<=18446744073709551615):0<=Y6 .u64 x 7/\Y6 .u64 x 7<=18446744073709551615:=by
 show 0<=x.fdiv 128/\x.fdiv 128<=18446744073709551615;rw[Int.fdiv_eq_ediv_of_nonneg _ (by decide)];omega
theorem A1f (x:Int) (h0:0<=x) (h1:x<256):A9 Tryz.prog 241 [.p (.int .u64) x] [] [] (λres f=>(∃n:Nat,res=.p T3 (n:Int)/\n<=8/\(1<=x.toNat->x.toNat<2 ^ n/\2 ^ n<=2*x.toNat))/\f=[]):=by
 refine Kh [0,2,4,8,14] [] [] Tryz.func241 Tryz.ntmps241 AH ?_;intro w0 K O0 ρ0 a g h;simp only[Aq];repeat'(first|exact trivial|apply eS rfl|refine rX a ?_ ?_|refine rC ?_ ?_<;>intro b<;>try(cases b;done))
 all_goals first|(exfalso;omega)|skip
 refine Lr [0,2] a rfl (by simp only[go_sem,Nat.reduceEqDiff,reduceCtorEq,Nat.reduceAdd,Nat.reduceSub,Nat.reduceMul,Nat.reduceLeDiff,Nat.reduceLT,Int.reduceLE,Int.reduceToNat,Int.reduceNeg,↓reduceIte,ByteArray.size,List.size_toArray,AO];rfl) ?_ ?_
 .have hu:∀u:UInt8,((u.toNat:Nat):Int)<=255:=λu=>by have:=u.toNat_lt;omega
  have c:0<=x:=by omega
  refine⟨⟨c,by omega⟩,⟨c,?_⟩,⟨?_,?_⟩,?_,?_⟩
  .have d:x<((256:Nat):Int):=h1;exact d
  .exact Ye (by decide) (VA _)
  .exact Ye (hu _) (by decide)
  .rw[Int.zero_add];exact Ye (by decide) (VA _)
  rw[Int.zero_add];exact Ye (hu _) (by decide)
 repeat' apply eS rfl
 refine fM a [.tmp 2] (.p T3 _) (by simp only[Sp,A0p,Rb,Zf,KX,KW,JJ,go_sem,Nat.reduceEqDiff,reduceCtorEq,Nat.reduceAdd,Nat.reduceSub,Nat.reduceMul,Nat.reduceLeDiff,Nat.reduceLT,Int.reduceLE,Int.reduceToNat,Int.reduceNeg,↓reduceIte];rfl) ⟨⟨_,by rw[Int.zero_add],?_⟩,rfl⟩;have e:x.toNat<256:=by omega
 generalize x.toNat=k at *;clear b;revert e;revert k;decide
theorem y9 (x:Int) (h0:0<=x) (h1:x<256):A9 Tryz.prog 230 [.p (.int .u64) x] [] [] (λres d=>(∃n:Nat,res=.p T3 (n:Int)/\n<=8/\(1<=x.toNat->x.toNat<2 ^ n/\2 ^ n<=2*x.toNat))/\d=[]):=by
 refine Kh [0,2] [] [] Tryz.func230 Tryz.ntmps230 AH ?_;intro w0 K O0 ρ0 a e f;simp only[Aq];repeat'(first|exact trivial|apply eS rfl|refine rX a ?_ ?_|refine rC ?_ ?_<;>intro b<;>try(cases b;done))
 refine cP 1 a ?_ ?_
 .trivial
 refine rM a (A1f x h0 h1) [] [] ?_ ?_ ?_
 .exact eN
 .exact eN
 rintro _ _ ⟨⟨n,rfl,c⟩,rfl⟩;refine⟨[],.p T3 (n:Int),[],rfl,rfl,?_,?_,rfl,rfl,?_⟩
 .exact eN
 .exact eN
 refine rL a ?_ ?_
 .trivial
 repeat' apply eS rfl
 exact fM a [.tmp 2] (.p T3 (n:Int)) eT ⟨⟨n,rfl,c⟩,rfl⟩
theorem A7F (x:Int) (h0:1<=x) (h1:x<256):A9 Tryz.prog 245 [.p T3 x] [] [] (λres f=>(∃m:Nat,res=.p (.int .u64) (m:Int)/\x.toNat<m/\m<=2*x.toNat)/\f=[]):=by
 refine Kh [0,2] [] [] Tryz.func245 Tryz.ntmps245 AH ?_;intro w0 K O0 ρ0 a h i;simp only[Aq];repeat'(first|exact trivial|apply eS rfl|refine rX a ?_ ?_)
 refine cP 2 a ?_ ?_
 .exact CR
 refine rM a (y9 x (by omega) h1) [] [] ?_ ?_ ?_
 .exact eN
 .exact eN
 rintro _ _ ⟨⟨n,rfl,g,d⟩,rfl⟩;obtain⟨b,c⟩:=d (by omega);refine⟨[],.p T3 (n:Int),[],rfl,rfl,?_,?_,rfl,rfl,?_⟩
 .exact eN
 .exact eN
 refine rL a ?_ ?_
 .trivial
 have e:TS .u64 1 (n:Int)=((2 ^ n:Nat):Int):=by
  clear b c;have:∀n:Fin 9,TS .u64 1 ((n.val:Nat):Int)=((2 ^ n.val:Nat):Int):=by decide
  exact this ⟨n,by omega⟩
 rw[e];repeat' apply eS rfl
 exact fM a [.tmp 2] (.p (.int .u64) ((2 ^ n:Nat):Int)) eT ⟨⟨_,rfl,b,c⟩,rfl⟩
theorem A7G (s:Int) (hs:0<=s/\s<=18446744073709551615):A9 Tryz.prog 246 [.bp 70 [] 0] [(70,.box 263 false [.p (.int .u64) s])] [70] (λres b=>∃v:Int,(0<=v/\v<=18446744073709551615)/\res=.p (.int .u64) v/\b=[(70,.box 263 false [.p (.int .u64) v])]):=by
 refine Kh [0,2] [] [] Tryz.func246 Tryz.ntmps246 AH ?_;intro w0 K O0 ρ0 a c d;simp only[Aq];repeat'(first|exact trivial|apply eS rfl|refine rX a ?_ ?_)
 .have:=kJ s (TS .u64 s 13);exact A43 this.1 this.2
 exact fM a [.tmp 2] (.p (.int .u64) _) eT ⟨_,kJ _ _,rfl,rfl⟩
section
attribute [local go_sem] Cn
theorem A7H (l:List (Int×Int)) (J:l.length<256) (a b:Nat) (F:a+8<=b) (H:b<=l.length):A9 Tryz.prog 234 [.sr 1000000 AW 0 l.length,.p T3 (a:Int),.p T3 (b:Int),.fn 192] [(1000000,.arr 106 AW l)] [1000000] (λres E=>res=.raw (.tuple #[])/\∃r,E=[(1000000,.arr 106 AW r)]/\Dt (0,0) a b l r):=by
 refine Kh [0,1,2,8,9,10,11,12,17,35,45] [] [] Tryz.func234 Tryz.ntmps234 AH ?_;intro w0 K O0 ρ0 d L M;simp only[Aq];obtain⟨n,hn⟩:∃n,b=a+n:=⟨b-a,by omega⟩;subst hn;have en:((a+n:Nat):Int)-(a:Int)=(n:Int):=by omega
 obtain⟨t,D⟩:∃t,t=n / 4:=⟨_,rfl⟩;have et:(n:Int).tdiv 4=(t:Int):=by
  rw[Uc (by omega)];omega
 have N:4*t<=n:=by omega
 have O:2<=t:=by omega
 clear D
 (apply eS rfl;refine rX d ?_ ?_;(next=>first|exact trivial|exact CR))
 rw[en];repeat'(first|exact trivial|apply eS rfl|apply AB|refine rX d ?_ ?_)
 refine rC ?_ ?_<;>intro j
 .repeat'(first|exact trivial|apply eS rfl|apply AB|refine rX d ?_ ?_)
  .exact CR
  refine cP 1 d ?_ ?_
  .trivial
  refine rM d (A7F (n:Int) (by omega) (by omega)) [] [] ?_ ?_ ?_
  .first|exact eN|refine eM ?_
  .first|exact eN|refine eM ?_
  rintro _ _ ⟨⟨m,rfl,A,B⟩,rfl⟩;rw[To]at A B;refine⟨[],.p (.int .u64) (m:Int),[],rfl,rfl,?_,?_,rfl,rfl,?_⟩
  .first|exact eN|refine eM ?_
  .first|exact eN|refine eM ?_
  refine rL d ?_ ?_
  .trivial
  repeat'(first|exact trivial|apply eS rfl|apply AB|refine rX d ?_ ?_)
  .rw[et];refine⟨⟨by decide,?_⟩,?_,?_,?_⟩<;>omega
  rw[et,show (a:Int)+(t:Int)*2-1=((a+t*2-1:Nat):Int) by omega];refine AJ (ι:={s:Nat×Int×List (Int×Int)//(a<=s.1/\s.1<=a+t*2+2)/\(0<=s.2.1/\s.2.1<=18446744073709551615)/\Dt (0,0) a (a+n) l s.2.2}) (λs=>⟨[(0,.sr 1000000 AW 0 l.length),(1,.p T3 (a:Int)),(8,.p (.int .i64) (n:Int)),(9,.bp 9 [] 0),(10,.p (.int .u64) (m:Int)),(11,.p (.int .i64) (s.1.1:Int))],[(1000000,.arr 106 AW s.1.2.2),(9,.box 263 false [.p (.int .u64) s.1.2.1])]⟩) (λs=>a+t*2+2-s.1.1) ⟨(a+t*2-1,(n:Int),l),by simp only;omega,by simp only;omega,Dt.refl _ _ l⟩ (AC [(1000000,.nm 1000000),(9,.nm 9)] rfl rfl ?_ ?_) (λs=>?_)
  .first|exact eN|refine eM ?_
  .first|exact eN|refine eM ?_
  obtain⟨⟨i,x,c⟩,⟨y,z⟩,q,hp⟩:=s;simp only at y z q hp ⊢;have I:=hp.len;repeat'(first|exact trivial|apply eS rfl|apply AB|refine rX d ?_ ?_)
  .rw[et];refine⟨⟨by decide,?_⟩,?_,?_,?_⟩<;>omega
  rw[et];refine rC (λu=>?_) (λu=>?_)
  .apply eS rfl;refine cP 0 d ?_ ?_
   .trivial
   refine rM d (A7G x q) [(70,.nm 9)] [] ?_ ?_ ?_
   .first|exact eN|refine eM ?_
   .first|exact eN|refine eM ?_
   rintro _ _ ⟨v,k,rfl,rfl⟩;refine⟨[(9,.nm 70)],.p (.int .u64) v,[(9,.box 263 false [.p (.int .u64) v])],rfl,rfl,?_,?_,rfl,rfl,?_⟩
   .first|exact eN|refine eM ?_
   .first|exact eN|refine eM ?_
   have G:=A7E v ((m:Int)-1) (by omega) (by omega);refine rL d ?_ ?_
   .exact⟨by omega,by omega⟩
   generalize B2 .and .u64 v ((m:Int)-1)=r at *;repeat'(first|exact trivial|apply eS rfl|apply AB|refine rX d ?_ ?_)
   refine rC (λw=>?_) (λw=>?_)
   .obtain⟨o,f⟩:∃o:Nat,r-(n:Int)=(o:Int):=⟨(r-(n:Int)).toNat,by omega⟩;have C:o<n:=by omega
    refine rX d ?_ ?_
    .exact CR
    rw[f];have g:Dt (0,0) a (a+n) c (CO (0,0) c i (a+o)):=Dt.swap c (by omega) (by omega) (by omega) (by omega) (by omega);have h:CO (0,0) c i (a+o)=(c.set i (c.getD (a+o) (0,0))).set (a+o) (c.getD i (0,0)):=rfl;have e:((a:Int)+(o:Int)).toNat=a+o:=by omega
    repeat'(first|exact trivial|apply eS rfl|apply AB|refine rP d ?_ ?_|fail)
    (refine CL drawsAny d 18 [([0,1,6,7,8,9,10,11,12,13,14,15,16],17)] [2,3,4,5] (by kernel_rfl) (LH ?_ ?_);(next=>exact CR);refine Nr d [] ?_ ?_;(next=>exact CR);refine Sv d ?_ ?_ ?_;(next=>exact CR);(next=>exact CR))
    rw[e,<-h];repeat'(first|exact trivial|apply eS rfl|apply AB|refine rX d ?_ ?_)
    .exact CR
    refine⟨⟨(i+1,v,CO (0,0) c i (a+o)),by simp only;omega,k,hp.trans g⟩,by simp only;omega,AC [(1000000,.nm 1000000),(9,.nm 9)] rfl rfl ?_ ?_⟩
    .first|exact eN|refine eM ?_
    first|exact eN|refine eM ?_
   obtain⟨o,f⟩:∃o:Nat,r=(o:Int):=⟨r.toNat,by omega⟩;subst f;have C:o<n:=by omega
   have g:Dt (0,0) a (a+n) c (CO (0,0) c i (a+o)):=Dt.swap c (by omega) (by omega) (by omega) (by omega) (by omega);have h:CO (0,0) c i (a+o)=(c.set i (c.getD (a+o) (0,0))).set (a+o) (c.getD i (0,0)):=rfl;have e:((a:Int)+(o:Int)).toNat=a+o:=by omega
   repeat'(first|exact trivial|apply eS rfl|apply AB|refine rP d ?_ ?_|fail)
   (refine CL drawsAny d 18 [([0,1,6,7,8,9,10,11,12,13,14,15,16],17)] [2,3,4,5] (by kernel_rfl) (LH ?_ ?_);(next=>exact CR);refine Nr d [] ?_ ?_;(next=>exact CR);refine Sv d ?_ ?_ ?_;(next=>exact CR);(next=>exact CR))
   rw[e,<-h];repeat'(first|exact trivial|apply eS rfl|apply AB|refine rX d ?_ ?_)
   .exact CR
   refine⟨⟨(i+1,v,CO (0,0) c i (a+o)),by simp only;omega,k,hp.trans g⟩,by simp only;omega,AC [(1000000,.nm 1000000),(9,.nm 9)] rfl rfl ?_ ?_⟩
   .first|exact eN|refine eM ?_
   first|exact eN|refine eM ?_
  repeat'(first|exact trivial|apply eS rfl|apply AB|refine rX d ?_ ?_|refine rC ?_ ?_<;>intro j<;>try(cases j;done))
  refine Ev.ent (σ':=⟨[],[(1000000,.arr 106 AW c)]⟩) ?_ (AC [(1000000,.nm 1000000)] rfl rfl ?_ ?_)
  .exact fM d [] (.raw (.tuple #[])) rfl ⟨rfl,c,rfl,hp⟩
  .first|exact eN|refine eM ?_
  first|exact eN|refine eM ?_
 exfalso;omega
end
section
attribute [local go_sem] Cn
def kK (l:List (Int×Int)) (a b c:Nat):Prop:=A9 Tryz.prog 229 [.sr 1000000 AW 0 l.length,.p T3 (a:Int),.p T3 (b:Int),.p T3 (c:Int),.fn 192] [(1000000,.arr 106 AW l)] [1000000] (λres d=>res=.raw (.tuple #[])/\∃r,d=[(1000000,.arr 106 AW r)]/\Dt (0,0) a b l r/\R4 B8 (0,0) a b r)
theorem A1g (l:List (Int×Int)) (az:l.length<256) (aa:mS B8 (0,0) l) (a b S:Nat) (ar:a<=b) (ay:b<=l.length) (av:S<=1000) (aq:Bf B8 (0,0) a b l)
  (V:∀(l':List (Int×Int)),l'.length<256->mS B8 (0,0) l'->∀J b' an:Nat,b'-J<b-a->J<=b'->b'<=l'.length->an<=1000->Bf B8 (0,0) J b' l'->kK l' J b' an):kK l a b S:=by
 unfold kK;refine Kh [0,1,2,3,4,10,11,12,13,14,15,16,17,18,19,20,25,32,39,56,75,80,97,125] [] [] Tryz.func229 Tryz.ntmps229 (AE El AH) ?_;intro w0 K O0 ρ0 c bb bc;simp only[Aq];repeat'(first|exact trivial|apply eS rfl|apply AB|refine rX c ?_ ?_)
 refine AJ (ι:={s:(Nat×Nat×Nat)×(Bool×Bool)×List (Int×Int)//Cut B8 (0,0) a b s.1.1 s.1.2.1 s.2.2/\Dt (0,0) a b l s.2.2/\Bf B8 (0,0) s.1.1 s.1.2.1 s.2.2/\s.1.2.2<=1000}) (λs=>⟨[(0,.sr 1000000 AW 0 l.length),(1,.p T3 (s.1.1.1:Int)),(2,.p T3 (s.1.1.2.1:Int)),(3,.p T3 (s.1.1.2.2:Int)),(4,.fn 192),(10,.p .bool s.1.2.1.1),(11,.p .bool s.1.2.1.2)],[(1000000,.arr 106 AW s.1.2.2)]⟩) (λs=>s.1.1.2.1-s.1.1.1) ⟨((a,b,S),(true,true),l),A1e ar l,Dt.refl a b l,aq,av⟩ (AC [(1000000,.nm 1000000)] rfl rfl ?_ ?_) (λs=>?_)
 .first|exact eN|refine eM ?_
 .first|exact eN|refine eM ?_
 obtain⟨⟨⟨d,b1,H⟩,⟨T,U⟩,m⟩,t,n,Q,ag⟩:=s;simp only at t n Q ag ⊢;obtain⟨D,ax,E⟩:=t.ab;have N:=aa.perm CC n.perm;have u:=n.len;repeat'(first|exact trivial|apply eS rfl|apply AB|refine rX c ?_ ?_)
 .exact CR
 refine rC ?_ ?_<;>intro o
 .have key:=A7z m (by omega) N d b1 (by omega) (by omega);rw[u]at key;repeat'(first|exact trivial|apply eS rfl|apply AB|refine rX c ?_ ?_)
  refine cP 4 c ?_ ?_
  .trivial
  refine rM c (key) [(1000000,.nm 1000000)] [] ?_ ?_ ?_
  .first|exact eN|refine eM ?_
  .first|exact eN|refine eM ?_
  rintro _ _ ⟨rfl,r,rfl,e,g⟩;refine⟨[(1000000,.nm 1000000)],.raw (.tuple #[]),[(1000000,.arr 106 AW r)],rfl,rfl,?_,?_,rfl,rfl,Bh ?_⟩
  .first|exact eN|refine eM ?_
  .first|exact eN|refine eM ?_
  repeat'(first|exact trivial|apply eS rfl|apply AB|refine rX c ?_ ?_|refine rC ?_ ?_<;>intro o<;>try(cases o;done))
  exact fM c [] (.raw (.tuple #[])) rfl ⟨rfl,r,rfl,n.trans (e.mono D E),(t.pin e).done g⟩
 have ap:d+13<=b1:=by omega
 have el:(b1:Int)-(d:Int)=((b1-d:Nat):Int):=by omega
 rw[el];repeat'(first|exact trivial|apply eS rfl|apply AB|refine rX c ?_ ?_)
 refine rC (λau=>?_) (λau=>?_)
 .have key:=A42 m (by omega) N d b1 ax (by omega);rw[u]at key;repeat'(first|exact trivial|apply eS rfl|apply AB|refine rX c ?_ ?_)
  refine cP 4 c ?_ ?_
  .trivial
  refine rM c (key) [(1000000,.nm 1000000)] [] ?_ ?_ ?_
  .first|exact eN|refine eM ?_
  .first|exact eN|refine eM ?_
  rintro _ _ ⟨rfl,r,rfl,e,g⟩;refine⟨[(1000000,.nm 1000000)],.raw (.tuple #[]),[(1000000,.arr 106 AW r)],rfl,rfl,?_,?_,rfl,rfl,Bh ?_⟩
  .first|exact eN|refine eM ?_
  .first|exact eN|refine eM ?_
  repeat'(first|exact trivial|apply eS rfl|apply AB|refine rX c ?_ ?_|refine rC ?_ ?_<;>intro o<;>try(cases o;done))
  exact fM c [] (.raw (.tuple #[])) rfl ⟨rfl,r,rfl,n.trans (e.mono D E),(t.pin e).done g⟩
 have ba:0<H:=by omega
 refine rS ?_;refine Ho ?_;refine Px (ι:={x:Nat×List (Int×Int)//x.1<=1000/\Dt (0,0) d b1 m x.2}) (λx=>⟨[(0,.sr 1000000 AW 0 l.length),(1,.p T3 (d:Int)),(2,.p T3 (b1:Int)),(3,.p T3 (x.1.1:Int)),(4,.fn 192),(10,.p .bool T),(11,.p .bool U),(12,.p (.int .i64) ((b1-d:Nat):Int))],[(1000000,.arr 106 AW x.1.2)]⟩) ?_ (λx=>?_)
 .repeat'(first|exact trivial|apply eS rfl|apply AB|refine rX c ?_ ?_)
  refine rC (λk=>?_) (λk=>?_)
  .have key:=A7H m (by omega) d b1 (by omega) (by omega);rw[u]at key;apply eS rfl;refine cP 4 c ?_ ?_
   .trivial
   refine rM c (key) [(1000000,.nm 1000000)] [] ?_ ?_ ?_
   .first|exact eN|refine eM ?_
   .first|exact eN|refine eM ?_
   rintro _ _ ⟨rfl,r,rfl,e⟩;refine⟨[(1000000,.nm 1000000)],.raw (.tuple #[]),[(1000000,.arr 106 AW r)],rfl,rfl,?_,?_,rfl,rfl,Bh ?_⟩
   .first|exact eN|refine eM ?_
   .first|exact eN|refine eM ?_
   repeat'(first|exact trivial|apply eS rfl|apply AB|refine rX c ?_ ?_)
   .exact CR
   refine⟨⟨(H-1,r),by simp only;omega,e⟩,AC [(1000000,.nm 1000000)] rfl rfl ?_ ?_⟩
   .first|exact eN|refine eM ?_
   simp only;rw[show ((H-1:Nat):Int)=(H:Int)-1 by omega];first|exact eN|refine eM ?_
  repeat'(first|exact trivial|apply eS rfl|apply AB|refine rX c ?_ ?_)
  refine⟨⟨(H,m),ag,Dt.refl _ _ m⟩,AC [(1000000,.nm 1000000)] rfl rfl ?_ ?_⟩
  .first|exact eN|refine eM ?_
  first|exact eN|refine eM ?_
 obtain⟨⟨C,i⟩,G,f⟩:=x;simp only at G f ⊢;have v:i.length=l.length:=f.len.trans u;have key:=A7D i (by omega) d b1 ap (by omega);rw[v]at key;apply eS rfl;refine cP 4 c ?_ ?_
 .trivial
 refine rM c (key) [(1000000,.nm 1000000)] [] ?_ ?_ ?_
 .first|exact eN|refine eM ?_
 .first|exact eN|refine eM ?_
 rintro _ _ ⟨j,hint,rfl,rfl,z,A⟩;refine⟨[(1000000,.nm 1000000)],.tup [.p T3 (j:Int),.p T3 hint],[(1000000,.arr 106 AW i)],rfl,rfl,?_,?_,rfl,rfl,?_⟩
 .first|exact eN|refine eM ?_
 .first|exact eN|refine eM ?_
 refine rL c ?_ ?_
 .trivial
 refine Ho ?_;refine Px (ι:={x:Nat×Int×List (Int×Int)//(d<=x.1/\x.1<b1)/\Dt (0,0) d b1 m x.2.2}) (λx=>⟨[(0,.sr 1000000 AW 0 l.length),(1,.p T3 (d:Int)),(2,.p T3 (b1:Int)),(3,.p T3 (C:Int)),(4,.fn 192),(10,.p .bool T),(11,.p .bool U),(12,.p (.int .i64) ((b1-d:Nat):Int)),(13,.p T3 (x.1.1:Int)),(14,.p T3 x.1.2.1)],[(1000000,.arr 106 AW x.1.2.2)]⟩) ?_ (λx=>?_)
 .repeat'(first|exact trivial|apply eS rfl|apply AB|refine rX c ?_ ?_)
  refine rC (λk=>?_) (λk=>?_)
  .have key:=A7A i (by omega) d b1 (by omega) (by omega);rw[v]at key;apply eS rfl;refine cP 4 c ?_ ?_
   .trivial
   refine rM c (key) [(1000000,.nm 1000000)] [] ?_ ?_ ?_
   .first|exact eN|refine eM ?_
   .first|exact eN|refine eM ?_
   rintro _ _ ⟨rfl,r,rfl,e⟩;refine⟨[(1000000,.nm 1000000)],.raw (.tuple #[]),[(1000000,.arr 106 AW r)],rfl,rfl,?_,?_,rfl,rfl,Bh ?_⟩
   .first|exact eN|refine eM ?_
   .first|exact eN|refine eM ?_
   repeat'(first|exact trivial|apply eS rfl|apply AB|refine rX c ?_ ?_)
   .exact CR
   refine⟨⟨(b1-1-(j-d),1,r),by simp only;omega,f.trans e⟩,AC [(1000000,.nm 1000000)] rfl rfl ?_ ?_⟩
   .first|exact eN|refine eM ?_
   simp only;rw[show ((b1-1-(j-d):Nat):Int)=(b1:Int)-1-((j:Int)-(d:Int)) by omega];first|exact eN|refine eM ?_
  repeat'(first|exact trivial|apply eS rfl|apply AB|refine rX c ?_ ?_)
  refine⟨⟨(j,hint,i),⟨z,A⟩,f⟩,AC [(1000000,.nm 1000000)] rfl rfl ?_ ?_⟩
  .first|exact eN|refine eM ?_
  first|exact eN|refine eM ?_
 clear z A f v key;obtain⟨⟨j,hint,i⟩,⟨z,A⟩,f⟩:=x;simp only at z A f ⊢;have v:i.length=l.length:=f.len.trans u;have ah:=N.perm CC f.perm;have Y:=Q.pin f;refine Px (ι:={x:List (Int×Int)//Dt (0,0) d b1 m x}) (λx=>⟨[(0,.sr 1000000 AW 0 l.length),(1,.p T3 (d:Int)),(2,.p T3 (b1:Int)),(3,.p T3 (C:Int)),(4,.fn 192),(10,.p .bool T),(11,.p .bool U),(12,.p (.int .i64) ((b1-d:Nat):Int)),(13,.p T3 (j:Int))],[(1000000,.arr 106 AW x.1)]⟩) ?_ (λx=>?_)
 .repeat'(first|exact trivial|apply eS rfl|apply AB|refine rX c ?_ ?_)
  refine rC (λk=>?_) (λk=>?_)
  .have key:=A7C i (by omega) ah d b1 (by omega) (by omega) Y;rw[v]at key;apply eS rfl;refine cP 4 c ?_ ?_
   .trivial
   refine rM c (key) [(1000000,.nm 1000000)] [] ?_ ?_ ?_
   .first|exact eN|refine eM ?_
   .first|exact eN|refine eM ?_
   rintro _ _ ⟨w,r,rfl,rfl,e,g⟩;refine⟨[(1000000,.nm 1000000)],.p .bool w,[(1000000,.arr 106 AW r)],rfl,rfl,?_,?_,rfl,rfl,Bh ?_⟩
   .first|exact eN|refine eM ?_
   .first|exact eN|refine eM ?_
   apply eS rfl;refine rC (λaf=>?_) (λaf=>?_)
   .repeat'(first|exact trivial|apply eS rfl|apply AB|refine rX c ?_ ?_|refine rC ?_ ?_<;>intro o<;>try(cases o;done))
    have am:=f.trans e;exact fM c [] (.raw (.tuple #[])) rfl ⟨rfl,r,rfl,n.trans (am.mono D E),(t.pin am).done (g af)⟩
   repeat'(first|exact trivial|apply eS rfl|apply AB|refine rX c ?_ ?_)
   refine⟨⟨r,f.trans e⟩,AC [(1000000,.nm 1000000)] rfl rfl ?_ ?_⟩
   .first|exact eN|refine eM ?_
   first|exact eN|refine eM ?_
  repeat'(first|exact trivial|apply eS rfl|apply AB|refine rX c ?_ ?_)
  refine⟨⟨i,f⟩,AC [(1000000,.nm 1000000)] rfl rfl ?_ ?_⟩
  .first|exact eN|refine eM ?_
  first|exact eN|refine eM ?_
 clear v ah Y f;obtain⟨ao,y⟩:=x;simp only;have ak:ao.length=l.length:=y.len.trans u;have ai:=N.perm CC y.perm;have R:=Q.pin y;have ad:=t.pin y;repeat'(first|exact trivial|apply eS rfl|apply AB|refine rX c ?_ ?_)
 .dsimp only[Ty.den];exact⟨λ_=>by omega,λ_=>by omega,λ_=>by omega⟩
 refine DR (by simp only[go_sem,Nat.reduceEqDiff,reduceCtorEq,Nat.reduceAdd,Nat.reduceSub,Nat.reduceMul,Nat.reduceLeDiff,Nat.reduceLT,Int.reduceLE,Int.reduceToNat,Int.reduceNeg,↓reduceIte];rfl) ?_ ?_
 .intro L;exfalso;simp only[An,DO,TO,Of]at L;obtain⟨h1,X⟩:=L;rw[show ((d:Int)-1).toNat=d-1 by omega]at X;rcases R with h|h
  .omega
  exact X (h j z A)
 intro L;clear L;have key:=A7B ao (by omega) ai d b1 j z A (by omega);rw[ak]at key;repeat'(first|exact trivial|apply eS rfl|apply AB|refine rX c ?_ ?_)
 refine cP 5 c ?_ ?_
 .trivial
 refine rM c (key) [(1000000,.nm 1000000)] [] ?_ ?_ ?_
 .first|exact eN|refine eM ?_
 .first|exact eN|refine eM ?_
 rintro _ _ ⟨q,w,I,rfl,rfl,P,F⟩;refine⟨[(1000000,.nm 1000000)],.tup [.p T3 (q:Int),.p .bool w],[(1000000,.arr 106 AW I)],rfl,rfl,?_,?_,rfl,rfl,?_⟩
 .first|exact eN|refine eM ?_
 .first|exact eN|refine eM ?_
 have aw:=F.l;have bd:=F.r;have O:=n.trans ((y.trans P).mono D E);have al:=O.len;have aj:=aa.perm CC O.perm;have Z:=R.pin P;have ae:=ad.pin P;clear y ak ai R ad P key;have W:(((b1-d:Nat):Int)).tdiv 8=(((b1-d) / 8:Nat):Int):=by
  rw[Uc (by omega)];omega
 refine rL c ?_ ?_
 .trivial
 repeat'(first|exact trivial|apply eS rfl|apply AB|refine rX c ?_ ?_)
 .exact CR
 .rw[W];exact⟨by decide,by omega,by omega⟩
 rw[W];refine rC (λk=>?_) (λk=>?_)
 .have key:=V I (by omega) aj d q C (by omega) aw (by omega) G (Z.sub (by omega));unfold kK at key;rw[al]at key;repeat'(first|exact trivial|apply eS rfl|apply AB|refine rX c ?_ ?_)
  refine cP 5 c ?_ ?_
  .trivial
  refine rM c (key) [(1000000,.nm 1000000)] [] ?_ ?_ ?_
  .first|exact eN|refine eM ?_
  .first|exact eN|refine eM ?_
  rintro _ _ ⟨rfl,r,rfl,e,g⟩;refine⟨[(1000000,.nm 1000000)],.raw (.tuple #[]),[(1000000,.arr 106 AW r)],rfl,rfl,?_,?_,rfl,rfl,Bh ?_⟩
  .first|exact eN|refine eM ?_
  .first|exact eN|refine eM ?_
  have M:=F.pinL e;have B:Dt (0,0) d b1 I r:=e.mono (Is _) (by omega);repeat'(first|exact trivial|apply eS rfl|apply AB|refine rX c ?_ ?_)
  .exact CR
  refine⟨⟨((q+1,b1,C),(decide ((((b1-d) / 8:Nat):Int)<=(q:Int)-(d:Int)),w),r),(ae.pin B).left CC M g,O.trans (B.mono D E),M.bf,G⟩,by simp only;omega,AC [(1000000,.nm 1000000)] rfl rfl ?_ ?_⟩
  .first|exact eN|refine eM ?_
  first|exact eN|refine eM ?_
 have key:=V I (by omega) aj (q+1) b1 C (by omega) (by omega) (by omega) G F.bf;unfold kK at key;rw[al,show ((q+1:Nat):Int)=(q:Int)+1 by omega]at key;repeat'(first|exact trivial|apply eS rfl|apply AB|refine rX c ?_ ?_)
 refine cP 6 c ?_ ?_
 .exact CR
 refine rM c (key) [(1000000,.nm 1000000)] [] ?_ ?_ ?_
 .first|exact eN|refine eM ?_
 .first|exact eN|refine eM ?_
 rintro _ _ ⟨rfl,r,rfl,e,g⟩;refine⟨[(1000000,.nm 1000000)],.raw (.tuple #[]),[(1000000,.arr 106 AW r)],rfl,rfl,?_,?_,rfl,rfl,Bh ?_⟩
 .first|exact eN|refine eM ?_
 .first|exact eN|refine eM ?_
 have M:=F.pinR e;have B:Dt (0,0) d b1 I r:=e.mono (by omega) (Is _);repeat'(first|exact trivial|apply eS rfl|apply AB|refine rX c ?_ ?_)
 refine⟨⟨((d,q,C),(decide ((((b1-d) / 8:Nat):Int)<=(b1:Int)-(q:Int)),w),r),(ae.pin B).right CC M g,O.trans (B.mono D E),(Z.pin B).sub (b':=q) (by omega),G⟩,by simp only;omega,AC [(1000000,.nm 1000000)] rfl rfl ?_ ?_⟩
 .first|exact eN|refine eM ?_
 first|exact eN|refine eM ?_
theorem A7I (l:List (Int×Int)) (i:l.length<256) (e:mS B8 (0,0) l) (a b c:Nat) (f:a<=b) (g:b<=l.length) (j:c<=1000) (d:Bf B8 (0,0) a b l):kK l a b c:=by
 have key:∀(n:Nat) (l:List (Int×Int)),l.length<256->mS B8 (0,0) l->∀a b c:Nat,b-a<n->a<=b->b<=l.length->c<=1000->Bf B8 (0,0) a b l->kK l a b c:=by
  intro n;induction n with
  | zero=>intro l _ _ a b c h;omega
  | succ n s =>
   intro l i e a b c hn f g j d;exact A1g l i e a b c f g j d λl' h1 m k b' t u o p q r=>s l' h1 m k b' t (by omega) o p q r
 exact key (b-a+1) l i e a b c (by omega) f g j d
end
def NdA (l:List (Int×Int)):Prop:=l.Pairwise λa b=>a.1≠b.1
def LtA (l:List (Int×Int)):Prop:=l.Pairwise λa b=>a.1<b.1
theorem aL (x:Int×Int) (s:List (Int×Int)):∀n,(∀j,IJ x s n<=j->j<n->x.1<(s.getD j (0,0)).1)/\(IJ x s n=0\/¬x.1<(s.getD (IJ x s n-1) (0,0)).1)
 | 0=>⟨λj h1 a=>by omega,.inl rfl⟩
 | n+1=>by
  obtain⟨h1,a⟩:=aL x s n;unfold IJ;split
  .rename_i h;refine⟨λj b c=>?_,a⟩;by_cases e:j=n
   .rw[e];exact h
   exact h1 j b (by omega)
  rename_i h;exact⟨λj b c=>by omega,.inr (by simpa using h)⟩
theorem A7J {s:List (Int×Int)} (hs:LtA s) {x:Int×Int} (l:∀a∈s,a.1≠x.1):LtA (Ow s x):=by
 obtain⟨h1,c⟩:=aL x s s.length;have m:=VS x s s.length;unfold Ow;generalize IJ x s s.length=p at *;have hp:=hs;unfold LtA at hp;rw[<-Ys p s,Yi]at hp;have g:∀i (h:i<s.length),s.getD i (0,0)=s[i]:=λi h=>by rw[AS,AT h];rfl
 have k:∀a∈s.take p,a.1<x.1:=by
  intro a ha;rcases c with c|c
  .subst c;simp at ha
  obtain⟨i,hi,rfl⟩:=Ur.1 ha;rw[OR]at hi;rw[List.getElem_take];by_cases o:p=0
  .omega
  have f:p-1<s.length:=by omega
  rw[g (p-1) f]at c;have n:=l s[p-1] (UJ f);by_cases e:i=p-1
  .subst e;omega
  have:=(Tw.1 hs) i (p-1) (by omega) f (by omega);omega
 have j:∀a∈s.drop p,x.1<a.1:=by
  intro a ha;obtain⟨i,hi,rfl⟩:=Ur.1 ha;rw[UL]at hi;rw[List.getElem_drop,<-g (p+i) (by omega)];exact h1 (p+i) (by omega) (by omega)
 unfold LtA;rw[Tt,Yi];refine⟨hp.1,?_,λa ha b d=>?_⟩
 .rw[List.singleton_append,UM];exact⟨j,hp.2.1⟩
 rcases By.1 (by simpa using d:b∈x :: s.drop p) with rfl|d
 .exact k a ha
 exact hp.2.2 a ha b d
theorem Ox {l:List (Int×Int)} (h:NdA l):LtA (Ac l):=by
 induction l using D0 with
 | h0=>exact List.Pairwise.nil
 | h1 l a d =>
  unfold NdA at h;rw[Yi]at h;rw[HN];exact A7J (d h.1) λb c=>h.2.2 b ((Ek l).mem_iff.1 c) a (by simp)
theorem A1h {l r:List (Int×Int)} (hp:r.Perm l) (h1:LtA r) (c:LtA l):r=l :=
 List.Perm.eq_of_pairwise (le:=λa b:Int×Int=>a.1<b.1) (λa b _ _ d e=>by omega) h1 c hp
theorem zA {l:List (Int×Int)} (h:LtA l):kB l:=by
 intro i hi;have a:∀i (h:i<l.length),l.getD i (0,0)=l[i]:=λi h=>by rw[AS,AT h];rfl
 rw[a i (by omega),a (i+1) hi];exact(Tw.1 h) i (i+1) (by omega) hi (by omega)
theorem A44 {l:List (Int×Int)} (h:kB l):LtA l:=by
 refine Tw.2 λi j hi f k=>?_;have c:∀i (h:i<l.length),l.getD i (0,0)=l[i]:=λi h=>by rw[AS,AT h];rfl
 have key:∀d i,i+d+1<l.length->(l.getD i (0,0)).1<(l.getD (i+d+1) (0,0)).1:=by
  intro d;induction d with
  | zero=>exact λi hi=>h i hi
  | succ d g =>
   intro i hi;have a:=g i (by omega);have b:=h (i+d+1) (by omega);have e:i+(d+1)+1=i+d+1+1:=by omega
   rw[e];omega
 have:=key (j-i-1) i (by omega);rw[show i+(j-i-1)+1=j by omega,c i hi,c j f]at this;exact this
theorem A9u {l:List (Int×Int)} (h:LtA l):NdA l:=h.imp λg=>by omega
theorem A9v {l:List (Int×Int)} (h:NdA l):mS B8 (0,0) l:=by
 rw[y7 CC];refine h.imp λ{a b} g e=>g ?_;unfold B8 Tg at e;split at e
 .omega
 split at e<;>omega
theorem pU {l r:List (Int×Int)} (h:NdA l) (hp:r.Perm l) (hs:R4 B8 (0,0) 0 l.length r):r=Ac l:=by
 refine A1h (hp.trans (Ek l).symm) (Tw.2 λi j hi b c=>?_) (Ox h);have a:∀i (h:i<r.length),r.getD i (0,0)=r[i]:=λi h=>by rw[AS,AT h];rfl
 have:=hs i j (IS _) c (by rw[<-hp.length_eq];exact b);rw[a i hi,a j b]at this;unfold B8 Tg at this;split at this
 .assumption
 split at this<;>omega
theorem ML {l:List (Int×Int)} (h:NdA l):Ac (Ac l)=Ac l:=Iz (zA (Ox h))
def NdF (f:List AD):Prop:=∀x∈f,NdA x.2/\x.2.length<=200
def DV (f:List AD):List AD:=f.map λx=>(x.1,Ac x.2)
theorem Ft (f:List AD):(DV f).length=f.length:=OF _
theorem Qh (f:List AD) (n:Nat):(DV f).getD n (0,[])=((f.getD n (0,[])).1,Ac (f.getD n (0,[])).2):=by
 unfold DV;simp only[AS,UO];cases f[n]?<;>rfl
theorem R5 {f:List AD} (h:AN f):AN (DV f):=by
 refine⟨by rw[Ft];exact h.1,λx d=>?_⟩;obtain⟨y,e,rfl⟩:=If.1 d;obtain⟨b,c⟩:=h.2 y e;refine⟨by simp only[Ca];exact b,λa ha=>?_⟩;rw[Ft];exact c a ((Ek _).mem_iff.1 ha)
theorem A45 {f:List AD} (h:NdF f):Fs (DV f):=by
 intro x c;obtain⟨y,d,rfl⟩:=If.1 c;obtain⟨a,b⟩:=h y d;exact⟨zA (Ox a),by simp only[Ca];exact b⟩
theorem A1i {f:List AD} (h:Fs f):DV f=f:=by
 unfold DV
 conv=>rhs;rw[<-List.map_id f]
 refine Tq λx a=>?_;rw[Iz (h x a).1];rfl
theorem A9w {f:List AD} (h:Fs f):NdF f:=λx a=>⟨A9u (A44 (h x a).1),(h x a).2⟩
theorem zB {f:List AD} (hf:NdF f) (n:Int):NdA (f.getD n.toNat (0,[])).2/\(f.getD n.toNat (0,[])).2.length<=200:=by
 by_cases h:n.toNat<f.length
 .have a:f.getD n.toNat (0,[])∈f:=by
   rw[AS,AT h];exact UJ h
  exact hf _ a
 rw[AS,Ts (by omega)];exact⟨List.Pairwise.nil,by simp⟩
theorem TB {f:List AD} (h:NdF f):∀(k:Nat) (s:List Int×List Int) (n:Int),Dm (DV f) k s n=Dm f k s n
 | 0,_,_=>rfl
 | k+1,s,n=>by
  rw[Y1,Y1,Qh];simp only;rw[ML (zB h n).1];refine Uu (λg=>List.foldl g _ _) ?_;funext s a;unfold EE;rw[TB h k s a.2]
theorem A1j {f:List AD} (h:NdF f) (r:Int):IK (DV f) r=IK f r:=by
 have a:F9 (DV f) r=F9 f r:=by
  unfold F9;rw[Ft,TB h]
 unfold IK;rw[a];refine Tq λn _=>?_;unfold MJ;rw[Qh];simp only;rw[ML (zB h n).1]
theorem kL {f:List AD} (hf:AN f) (hn:NdF f) {root:Int} (h0:0<=root) (h1:root<f.length):IK f root=AL (DV f) root:=by
 rw[<-A1j hn];exact EY (R5 hf) (A45 hn) h0 (by rw[Ft];exact h1)
theorem Qi {L:Go.Loop} (h1:L.state=.ready) (a:L.pending=none):{ { L with state:=.busy } with state:=.ready,pending:=none }=L:=by
 cases L;simp_all
theorem aM (l:List (Int×Int)):A9 Tryz.prog 191 [.p DC l] [] [] (λres b=>res=.clo 216 [1]/\b=[(1,.box 91 false [.p DC l])]):=by
 refine Kh [0,1,2] [] [] Tryz.func191 Tryz.ntmps191 AH ?_;intro w0 K O0 ρ0 a c d;simp only[Aq];repeat'(first|exact trivial|apply eS rfl|refine rX a ?_ ?_)
 exact fM a [.tmp 2] (.clo 216 [1]) eT ⟨rfl,rfl⟩
def CG (l:List (Int×Int)) (L:Go.Loop) (a:Array Value) (i:Nat):List (Nat×Obj):=[(1,.box 91 false [.p DC l]),(101,.loop L),(102,.frame a [(2,.bp 2 [] 0),(6,.clo 216 [1])]),(2,.box 91 false [.sr 7 AW 0 i]),(7,.arr 106 AW (l.take i))]
theorem pV (l:List (Int×Int)) (g:l.length<=100000) (L:Go.Loop) (b:Array Value) (f:∀i,i<l.length->Wb Tryz.prog 101 [.p AW (l.getD i (0,0))] (CG l L b i) [1,101,102,2] (λres e=>res=.p .bool true/\e=CG l L b (i+1))) :
  A9 Tryz.prog 216 [.yl 101,.bp 1 [] 0] (CG l L b 0) [1,101,102,2] (λres e=>res=.raw (.tuple #[])/\e=CG l L b l.length):=by
 refine Kh [0,1,4,5,6,7,8,14] [] [] Tryz.func216 Tryz.ntmps216 AH ?_;intro w0 K O0 ρ0 a h j;simp only[Aq,CG];repeat'(first|exact trivial|apply eS rfl|refine rX a ?_ ?_)
 refine AJ (ι:={i:Nat//i<=l.length}) (λi=>⟨[(0,.yl 101),(1,.bp 1 [] 0),(5,.p DC l),(6,.p (.int .i64) (l.length:Int)),(7,.p (.int .i64) (i.1:Int))],CG l L b i.1⟩) (λi=>l.length-i.1) ⟨0,by omega⟩ (AC [(1,.nm 1),(101,.nm 101),(102,.nm 102),(2,.nm 2),(7,.nm 7)] rfl rfl ?_ ?_) (λi=>?_)
 .simp only[CG];exact eN
 .exact eN
 obtain⟨i,hi⟩:=i;simp only[CG];repeat'(first|exact trivial|apply eS rfl|refine rX a ?_ ?_|refine rC ?_ ?_<;>intro c<;>try(cases c;done))
 .exact eV
 .have d:i<l.length:=by exact eV
  refine cP 2 a ?_ ?_
  .trivial
  refine rY 101 101 a (f i d) [(1,.nm 1),(101,.nm 101),(102,.nm 102),(2,.nm 2),(7,.nm 7)] [7] ?_ ?_ ?_
  .exact eN
  .simp only[CG];exact eN
  rintro _ _ ⟨rfl,rfl⟩;refine⟨[(1,.nm 1),(101,.nm 101),(102,.nm 102),(2,.nm 2),(7,.nm 7)],.p .bool true,CG l L b (i+1),rfl,rfl,?_,?_,rfl,rfl,?_⟩
  .simp only[CG];exact eN
  .exact eN
  simp only[CG];refine Hy [0,1,5,6,7,14] a (by simp only[go_sem,Nat.reduceEqDiff,reduceCtorEq,Nat.reduceAdd,Nat.reduceSub,Nat.reduceMul,Nat.reduceLeDiff,Nat.reduceLT,Int.reduceLE,Int.reduceToNat,Int.reduceNeg,↓reduceIte];rfl) ?_ ?_
  .trivial
  repeat'(first|apply eS rfl|apply AB|refine rX a ?_ ?_|refine rC ?_ ?_<;>intro c<;>try(cases c;done))
  .exact eV
  refine⟨⟨i+1,by omega⟩,by simp only;omega,AC [(1,.nm 1),(101,.nm 101),(102,.nm 102),(2,.nm 2),(7,.nm 7)] rfl rfl ?_ ?_⟩
  .simp only[CG];exact eN
  exact eN
 have d:i=l.length:=by exact eV
 subst d;refine fM a [] (.raw (.tuple #[])) rfl ⟨rfl,?_⟩;simp only[CG,Tl]
theorem eI (l:List (Int×Int)) (n:l.length<=100000):A9 Tryz.prog 228 [.raw (.slice none 0 0),.clo 216 [1]] [(1,.box 91 false [.p DC l])] [] (λres q=>res=.sr 7 AW 0 l.length/\q=[(7,.arr 106 AW l)]):=by
 refine fKR [0,1,2,4,5,6,7] [] [] Tryz.func228 Tryz.ntmps228 AH ?_;intro w0 K O0 ρ0 a t u;simp only[Aq];repeat'(first|exact trivial|apply eS rfl|refine rX a ?_ ?_)
 refine Wd a rfl rfl (by simp only[go_sem,Nat.reduceEqDiff,reduceCtorEq,Nat.reduceAdd,Nat.reduceSub,Nat.reduceMul,Nat.reduceLeDiff,Nat.reduceLT,Int.reduceLE,Int.reduceToNat,Int.reduceNeg,↓reduceIte];rfl) 101 103 102 rfl rfl rfl rfl ?_;intro L c d f g h j k o;refine⟨_,CG l L c 0,[1,101,102,2],_,[(1,.nm 1),(101,.nm 101),(102,.nm 102),(2,.nm 2),(7,.nil)],[],pV l n L c ?_,rfl,rfl,?_,?_,rfl,?_⟩
 .intro i hi;refine Wc (fr:=102) rfl rfl d h j k g o rfl (by kernel_rfl) (by simp) rfl rfl (by kernel_rfl) (by kernel_rfl) (tyTab_ok [] [0,1,2,4,5,6,7]) AH ?_;intro y r s z x a v w m;simp only[CG,GJ];repeat'(first|exact trivial|apply AB|refine rX a ?_ ?_)
  refine⟨rfl,?_⟩;repeat'(first|apply eS rfl|refine rX a ?_ ?_)
  .simp only[AO];omega
  have e:List.take i (List.take i l)++[((l.getD i (0,0)).1,(l.getD i (0,0)).2)]=l.take (i+1):=by
   rw[Ax l (0,0) hi,At (Nat.le_of_eq (by rw[OR];omega):(l.take i).length<=i)]
  refine Ev.ent (σ':=⟨[],[(1,.box 91 false [.p DC l]),(101,.loop { L with state:=.busy }),(102,.frame c [(2,.bp 2 [] 0),(6,.clo 216 [1])]),(2,.box 91 false [.sr 7 AW 0 (i+1)]),(7,.arr 106 AW (l.take (i+1)))]⟩) ?_ (AC [(1,.nm 1),(101,.nm 101),(102,.nm 102),(2,.nm 2),(7,.nm 7)] rfl rfl ?_ ?_)
  .refine M6 a (yn:=101) rfl rfl (by simp) m ⟨rfl,?_⟩;simp only[CG,go_sem,Nat.reduceEqDiff,reduceCtorEq,Nat.reduceAdd,Nat.reduceSub,Nat.reduceMul,Nat.reduceLeDiff,Nat.reduceLT,Int.reduceLE,Int.reduceToNat,Int.reduceNeg,↓reduceIte,Qi d f]
  .refine eM ?_;exact e
  exact eN
 .simp only[A7];exact eN
 .simp only[A7,CG];exact eN
 rintro _ _ ⟨rfl,rfl⟩;refine⟨[(1,.nm 1),(101,.nm 101),(102,.nm 102),(2,.nm 2),(7,.nm 7)],CG l L c l.length,L,rfl,rfl,?_,rfl,rfl,rfl,by rw[d];rfl,?_⟩
 .simp only[CG];exact eN
 intro b;rw[f];simp only[EvJ,CG,A7,go_sem,Nat.reduceEqDiff,reduceCtorEq,Nat.reduceAdd,Nat.reduceSub,Nat.reduceMul,Nat.reduceLeDiff,Nat.reduceLT,Int.reduceLE,Int.reduceToNat,Int.reduceNeg,↓reduceIte];replace a:=HZ (dn:=103) (b:=b) a;repeat'(first|exact trivial|apply eS rfl|refine rX a ?_ ?_)
 refine Ev.ent (σ':=⟨[(4,.sr 7 AW 0 l.length)],[(7,.arr 106 AW l),(103,.dfr)]⟩) ?_ (AC [(7,.nm 7),(103,.nm 103)] rfl rfl ?_ ?_)
 .exact Jm a [.tmp 4] rfl (.inl rfl) rfl rfl (.sr 7 AW 0 l.length) eT ⟨rfl,by simp only[go_sem,Nat.reduceEqDiff,reduceCtorEq,Nat.reduceAdd,Nat.reduceSub,Nat.reduceMul,Nat.reduceLeDiff,Nat.reduceLT,Int.reduceLE,Int.reduceToNat,Int.reduceNeg,↓reduceIte]⟩
 .exact eN
 exact eN
theorem pW (l:List (Int×Int)) (b:l.length<=100000):A9 Tryz.prog 214 [.clo 216 [1]] [(1,.box 91 false [.p DC l])] [] (λres c=>res=.sr 7 AW 0 l.length/\c=[(7,.arr 106 AW l)]):=by
 refine Kh [0,2] [] [] Tryz.func214 Tryz.ntmps214 AH ?_;intro w0 K O0 ρ0 a d e;simp only[Aq];repeat'(first|exact trivial|apply eS rfl|refine rX a ?_ ?_)
 refine cP 1 a ?_ ?_
 .trivial
 refine rM a (eI l b) [(1,.nm 1)] [1] ?_ ?_ ?_
 .exact eN
 .exact eN
 rintro _ _ ⟨rfl,rfl⟩;refine⟨[(7,.nm 7)],.sr 7 AW 0 l.length,[(7,.arr 106 AW l)],rfl,rfl,?_,?_,rfl,rfl,?_⟩
 .exact eN
 .exact eN
 refine Hy [2] a (by simp only[go_sem,Nat.reduceEqDiff,reduceCtorEq,Nat.reduceAdd,Nat.reduceSub,Nat.reduceMul,Nat.reduceLeDiff,Nat.reduceLT,Int.reduceLE,Int.reduceToNat,Int.reduceNeg,↓reduceIte];rfl) ?_ ?_
 .trivial
 repeat' apply eS rfl
 exact fM a [.tmp 2] (.sr 7 AW 0 l.length) eT ⟨rfl,rfl⟩
theorem kM (l:List (Int×Int)) (h:l.length<=200) (hs:NdA l):A9 Tryz.prog 215 [.sr 1000000 AW 0 l.length,.fn 192] [(1000000,.arr 106 AW l)] [1000000] (λres f=>res=.raw (.tuple #[])/\f=[(1000000,.arr 106 AW (Ac l))]):=by
 have d:=A9v hs;refine Kh [0,1,4] [] [] Tryz.func215 Tryz.ntmps215 AH ?_;intro w0 K O0 ρ0 a i j;simp only[Aq];repeat'(first|exact trivial|apply eS rfl|refine rX a ?_ ?_)
 refine cP 4 a ?_ ?_
 .exact eV
 refine rM a (y9 (l.length:Int) (by omega) (by omega)) [] [] ?_ ?_ ?_
 .exact eN
 .exact eN
 rintro _ _ ⟨⟨n,rfl,g,-⟩,rfl⟩;refine⟨[],.p T3 (n:Int),[],rfl,rfl,?_,?_,rfl,rfl,?_⟩
 .exact eN
 .exact eN
 have key:=A7I l (by omega) d 0 l.length n (IS _) (Is _) (by omega) (.inl rfl);unfold kK at key;rw[show ((0:Nat):Int)=0 from rfl]at key;refine QF a 1 (by simp only[go_sem,Nat.reduceEqDiff,reduceCtorEq,Nat.reduceAdd,Nat.reduceSub,Nat.reduceMul,Nat.reduceLeDiff,Nat.reduceLT,Int.reduceLE,Int.reduceToNat,Int.reduceNeg,↓reduceIte];rfl) ?_ ?_
 .trivial
 refine rM a (key) [(1000000,.nm 1000000)] [] ?_ ?_ ?_
 .exact eN
 .exact eN
 rintro _ _ ⟨rfl,r,rfl,hp,e⟩;have c:=pU hs hp.perm e;subst c;have k:=Ca l;refine⟨[(1000000,.nm 1000000)],.raw (.tuple #[]),[(1000000,.arr 106 AW (Ac l))],rfl,rfl,?_,?_,rfl,rfl,Bh ?_⟩
 .exact eN
 .exact eN
 repeat'(first|exact trivial|apply eS rfl|apply AB|refine rX a ?_ ?_|refine rC ?_ ?_<;>intro b<;>try(cases b;done))
 exact fM a [] (.raw (.tuple #[])) rfl ⟨rfl,rfl⟩
theorem Ny (l:List (Int×Int)) (b:l.length<=200) (hs:NdA l):A9 Tryz.prog 190 [.clo 216 [1],.fn 192] [(1,.box 91 false [.p DC l])] [] (λres c=>res=.sr 7 AW 0 l.length/\c=[(7,.arr 106 AW (Ac l))]):=by
 have f:=Ca l;refine Kh [0,1,4,5] [] [] Tryz.func190 Tryz.ntmps190 AH ?_;intro w0 K O0 ρ0 a d e;simp only[Aq];repeat'(first|exact trivial|apply eS rfl|refine rX a ?_ ?_)
 refine cP 1 a ?_ ?_
 .trivial
 refine rM a (pW l (by omega)) [(1,.nm 1)] [1] ?_ ?_ ?_
 .exact eN
 .exact eN
 rintro _ _ ⟨rfl,rfl⟩;refine⟨[(1000000,.nm 7)],.sr 1000000 AW 0 l.length,[(1000000,.arr 106 AW l)],rfl,rfl,?_,?_,rfl,rfl,?_⟩
 .exact eN
 .exact eN
 refine Hy [1,5] a (by simp only[go_sem,Nat.reduceEqDiff,reduceCtorEq,Nat.reduceAdd,Nat.reduceSub,Nat.reduceMul,Nat.reduceLeDiff,Nat.reduceLT,Int.reduceLE,Int.reduceToNat,Int.reduceNeg,↓reduceIte];rfl) ?_ ?_
 .trivial
 repeat' apply eS rfl
 refine cP 2 a ?_ ?_
 .trivial
 refine rM a (kM l b hs) [(1000000,.nm 1000000)] [] ?_ ?_ ?_
 .exact eN
 .exact eN
 rintro _ _ ⟨rfl,rfl⟩;refine⟨[(1000000,.nm 1000000)],.raw (.tuple #[]),[(1000000,.arr 106 AW (Ac l))],rfl,rfl,?_,?_,rfl,rfl,Bh ?_⟩
 .exact eN
 .exact eN
 repeat'(first|exact trivial|apply eS rfl|refine rX a ?_ ?_)
 refine Ev.ent (σ':=⟨[(4,.sr 7 AW 0 l.length)],[(7,.arr 106 AW (Ac l))]⟩) ?_ (AC [(7,.nm 1000000)] rfl rfl ?_ ?_)
 .exact fM a [.tmp 4] (.sr 7 AW 0 l.length) eT ⟨rfl,rfl⟩
 .exact eN
 exact eN
def LO (f:List AD) (o:List Int):List (Nat×Obj):=[(1,.box 61 false [.sr 5 T3 0 o.length]),(2,.box 177 false [.mp 6]),(3,.box 25 true [.p F6 f]),(4,.box 178 false [.clo 189 [1,2,3,4]]),(5,.arr 3 T3 o),(6,.mapo T3 T3 (mR o))]
theorem ACW {f:List AD} {o:List Int} (h:Iy f o):Iy (DV f) o:=⟨h.nd,λx a=>by rw[Ft];exact h.rng x a⟩
theorem A8J {f:List AD} {o:List Int} (h:Iy (DV f) o):Iy f o:=⟨h.nd,λx a=>by have:=h.rng x a;rwa [Ft]at this⟩
theorem A1k (f:List AD) (hf:AN f) (hs:NdF f):∀(k:Nat) (o:List Int) (n:Int),Iy f o->0<=n->n<f.length->n∉o->f.length-o.length<=k ->
  A9 Tryz.prog 189 [.p T3 n,.bp 1 [] 0,.bp 2 [] 0,.bp 3 [] 0,.bp 4 [] 0] (LO f o) [1,2,3,4,6] (λres Q=>res=.raw (.tuple #[])/\Q=LO f (Co (DV f) k o n)):=by
 intro k;induction k with
 | zero =>
  intro o n h0 h1 A B R;have:=(h0.snoc h1 A B).len;simp only[A0,GO]at this;omega
 | succ k P =>
  intro o n D u v w hk;have t:=D.snoc u v w;have I:=t.len;simp only[A0,GO]at I;have S:=hf.1;refine Kh [0,1,2,3,4,7,9,25,26,27,28,39] [] [] Tryz.func189 Tryz.ntmps189 AH ?_;intro w0 K O0 ρ0 b T U;simp only[LO,Aq];repeat'(first|exact trivial|apply eS rfl|refine rX b ?_ ?_)
  .simp only[AO];omega
  rw[kD w];obtain⟨O,G⟩:=zB hs n;have s:=λa (ha:a∈Ac (f.getD n.toNat (0,[])).2)=>BA hf ((Ek _).mem_iff.1 ha);have F:Co (DV f) (k+1) o n=(Ac (f.getD n.toNat (0,[])).2).foldl (AY (DV f) k) (o++[n]):=by rw[Bt,Qh]
  have E:=ACW (f:=f) t;refine cP 6 b ?_ ?_
  .exact⟨u,v⟩
  generalize (f.getD n.toNat (0,[])).2=g at *;refine rM b (aM g) [] [] ?_ ?_ ?_
  .exact eN
  .exact eN
  rintro _ _ ⟨rfl,rfl⟩;refine⟨[(50,.nm 1)],.clo 216 [50],[(50,.box 91 false [.p DC g])],rfl,rfl,?_,?_,rfl,rfl,?_⟩
  .exact eN
  .exact eN
  refine rM b (Ny g G O) [(1,.nm 50)] [50] ?_ ?_ ?_
  .exact eN
  .exact eN
  rintro _ _ ⟨rfl,rfl⟩;have C:=Ca g;rw[<-C];generalize Ac g=L at *;refine⟨[(51,.nm 7)],.sr 51 AW 0 L.length,[(51,.arr 106 AW L)],rfl,rfl,?_,?_,rfl,rfl,?_⟩
  .exact eN
  .exact eN
  refine Hy [0,1,2,3,4,25,26,27] b (by simp only[go_sem,Nat.reduceEqDiff,reduceCtorEq,Nat.reduceAdd,Nat.reduceSub,Nat.reduceMul,Nat.reduceLeDiff,Nat.reduceLT,Int.reduceLE,Int.reduceToNat,Int.reduceNeg,↓reduceIte];rfl) ?_ ?_
  .trivial
  have N:∀i,Iy (DV f) ((L.take i).foldl (AY (DV f) k) (o++[n]))/\o++[n] <+: (L.take i).foldl (AY (DV f) k) (o++[n]):=λi=>Dw (DK (R5 hf) k) _ _ (λa ha=>by rw[Ft];exact s a (UN ha)) E;generalize J:o++[n]=q at *;have M:q.length=o.length+1:=by rw[<-J];simp
  rw[<-M];repeat' apply eS rfl
  refine AJ (ι:={i:Nat//i<=L.length}) (λi=>⟨[(0,.p T3 n),(1,.bp 1 [] 0),(2,.bp 2 [] 0),(3,.bp 3 [] 0),(4,.bp 4 [] 0),(25,.p DC L),(26,.p (.int .i64) (L.length:Int)),(27,.p (.int .i64) (i.1:Int))],LO f ((L.take i.1).foldl (AY (DV f) k) q)⟩) (λi=>L.length-i.1) ⟨0,by omega⟩ (AAt [51] (AC [(1,.nm 1),(2,.nm 2),(3,.nm 3),(4,.nm 4),(5,.nm 5),(6,.nm 6)] rfl rfl ?_ ?_)) (λi=>?_)
  .simp only[LO,Uo,AEa];exact eN
  .exact eN
  obtain⟨i,hi⟩:=i;obtain⟨j,y⟩:=N i;replace j:=A8J j;have r:=λ(h:i<L.length)=>Ju (AY (DV f) k) L (0,0) q h;have H:=y.length_le;generalize x:(L.take i).foldl (AY (DV f) k) q=c at j y r H;simp only[LO];repeat'(first|exact trivial|apply eS rfl|apply AB|refine rX b ?_ ?_|refine rC ?_ ?_<;>intro d<;>try(cases d;done))
  .exact eV
  .have l:i<L.length:=by exact eV
   have z:=s _ (AF L (0,0) l);have m:(L.getD i (0,0)).2∉c:=by rw[Kr]at d;simpa using d
   refine cP 3 b ?_ ?_
   .trivial
   refine rM b (P c (L.getD i (0,0)).2 j z.1 z.2 m (by omega)) [(1,.nm 1),(2,.nm 2),(3,.nm 3),(4,.nm 4),(5,.nm 5),(6,.nm 6)] [5] ?_ ?_ ?_
   .exact eN
   .simp only[LO];exact eN
   rintro _ _ ⟨rfl,rfl⟩;refine⟨[(1,.nm 1),(2,.nm 2),(3,.nm 3),(4,.nm 4),(5,.nm 5),(6,.nm 6)],.raw (.tuple #[]),LO f (Co (DV f) k c (L.getD i (0,0)).2),rfl,rfl,?_,?_,rfl,rfl,Bh ?_⟩
   .simp only[LO];exact eN
   .exact eN
   simp only[LO];repeat'(first|apply eS rfl|apply AB|refine rX b ?_ ?_)
   .exact eV
   have e:AY (DV f) k c (L.getD i (0,0))=Co (DV f) k c (L.getD i (0,0)).2:=As m;refine⟨⟨i+1,by omega⟩,by simp only;omega,AC [(1,.nm 1),(2,.nm 2),(3,.nm 3),(4,.nm 4),(5,.nm 5),(6,.nm 6)] rfl rfl ?_ ?_⟩
   .simp only[r l,e];exact eN
   exact eN
  .exact eV
  .have l:i<L.length:=by exact eV
   have m:(L.getD i (0,0)).2∈c:=by rw[Kr]at d;simpa using d
   have e:AY (DV f) k c (L.getD i (0,0))=c:=BY m;refine⟨⟨i+1,by omega⟩,by simp only;omega,AC [(1,.nm 1),(2,.nm 2),(3,.nm 3),(4,.nm 4),(5,.nm 5),(6,.nm 6)] rfl rfl ?_ ?_⟩
   .simp only[r l,e];exact eN
   exact eN
  have hk:L.take i=L:=At (by exact eV);rw[hk]at x;rw[F,x];exact fM b [] (.raw (.tuple #[])) rfl ⟨rfl,rfl⟩
section
def CX:AZ:={ ins:=[Cy,T3],pre:=λ(f,n,_)=>AN f/\Fs f/\0<=n/\n<(List.length f:Int),out:=λ(f,n,_)=>[.p Cy (AL f n)] }
attribute [local go_sem] CX
theorem A1l {α a:Type} (g:α->a) (o:List α) (d:α) (z:a) {i:Nat} (h:i<o.length):((o.take i).map g++List.replicate (o.length-i) z).set i (g (o.getD i d))=(o.take (i+1)).map g++List.replicate (o.length-(i+1)) z:=by
 obtain⟨m,c⟩:∃m,o.length-i=m+1:=⟨o.length-i-1,by omega⟩;have e:o.length-(i+1)=m:=by omega
 have b:((o.take i).map g).length=i:=by rw[OF,OR];omega
 rw[c,e,AAh _ _ (by omega),b,Yq,ADV,ADp,Ax o d h,UH];simp
def Qj:AZ:={ ins:=[Cy,T3],pre:=λ(f,n,_)=>AN f/\NdF f/\0<=n/\n<(List.length f:Int),out:=λ(f,n,_)=>[.p Cy (AL (DV f) n)] }
attribute [local go_sem] Qj
theorem R6:Ab Tryz.prog 149 Qj:=by
 refine fK [0,1,2,4,5,6,7,8,9,10,11,12,22,23,24,25,38,39,40] Tryz.func149 Tryz.ntmps149 AH ?_;rintro w0 O0 ⟨f,root,u⟩ a-⟨hf,hs,r,s⟩;simp only[Qj,AM];have z:=hf.1;have j:Iy f []:=⟨by simp,λx C=>by cases C⟩;obtain⟨g,H⟩:=DK (R5 hf) f.length [] root (ACW j) r (by rw[Ft];exact s) (by simp);replace g:=A8J g;have w:AL (DV f) root=(Co (DV f) f.length [] root).map (Cp (DV f) (Co (DV f) f.length [] root)):=by unfold AL;rw[Ft]
 rw[w];repeat'(first|exact trivial|apply eS rfl|apply AB|refine rX a ?_ ?_|refine rC ?_ ?_<;>intro c<;>try(cases c;done))
 refine cP 2 a ?_ ?_
 .trivial
 refine rM a (A1k f hf hs (List.length f) [] root j r s (by simp) (by simp)) [(1,.nm 6),(2,.nm 5),(3,.nm 2),(4,.nm 7),(5,.nil),(6,.nm 13)] [] ?_ ?_ ?_
 .exact eN
 .simp only[LO];refine eM ?_;rfl
 rintro _ _ ⟨rfl,rfl⟩;refine⟨[(6,.nm 1),(5,.nm 2),(2,.nm 3),(7,.nm 4),(101,.nm 5),(13,.nm 6)],.raw (.tuple #[]),[(6,.box 61 false [.sr 101 T3 0 (Co (DV f) (List.length f) [] root).length]),(5,.box 177 false [.mp 13]),(2,.box 25 true [.p F6 f]),(7,.box 178 false [.clo 189 [6,5,2,7]]),(101,.arr 3 T3 (Co (DV f) (List.length f) [] root)),(13,.mapo T3 T3 (mR (Co (DV f) (List.length f) [] root)))],rfl,rfl,?_,?_,rfl,rfl,Bh ?_⟩
 .simp only[LO];exact eN
 .exact eN
 generalize Co (DV f) (List.length f) [] root=o at *;have G:=g.len;repeat'(first|exact trivial|apply eS rfl|apply AB|refine rX a ?_ ?_|refine rC ?_ ?_<;>intro c<;>try(cases c;done))
 .simp only[AO];omega
 refine AJ (ι:={i:Nat//i<=o.length}) (λi=>⟨[(2,.bp 2 [] 0),(4,.bp 4 [] 0),(5,.bp 5 [] 0),(8,.bp 8 [] 0),(22,.sr 101 T3 0 o.length),(23,.p (.int .i64) (o.length:Int)),(24,.p (.int .i64) (i.1:Int))],[(8,.box 25 true [.sr 20 HL 0 o.length]),(20,.arr 93 HL ((o.take i.1).map (Cp (DV f) o)++List.replicate (o.length-i.1) (0,[]))),(5,.box 177 false [.mp 13]),(2,.box 25 true [.p F6 f]),(101,.arr 3 T3 o),(13,.mapo T3 T3 (mR o)),(4,.box 25 true [.raw (.slice none 0 0)])]⟩) (λi=>o.length-i.1) ⟨0,by omega⟩ (eW [(8,.nm 8),(20,.nm 20),(5,.nm 5),(2,.nm 2),(101,.nm 101),(13,.nm 13),(4,.nm 4)]) (λi=>?_)
 obtain⟨i,hi⟩:=i;repeat'(first|exact trivial|apply eS rfl|apply AB|refine rX a ?_ ?_|refine rC ?_ ?_<;>intro c<;>try(cases c;done))
 .exact eV
 .have l:i<o.length:=by exact eV
  have hn:=g.rng _ (AF o 0 l);have q:Cp (DV f) o (o.getD i 0)=((f.getD (o.getD i 0).toNat (0,[])).1,(Ac (f.getD (o.getD i 0).toNat (0,[])).2).map (HO o)):=by unfold Cp;rw[Qh]
  obtain⟨t,m⟩:=zB hs (o.getD i 0);refine cP 6 a ?_ ?_
  .exact hn
  have F:List.length f<=100000:=z;generalize B:o.getD i 0=n at *;generalize A:f.getD n.toNat (0,[])=x at *;obtain⟨I,d⟩:=x;simp only at t m q;refine rM a (aM d) [] [] ?_ ?_ ?_
  .exact eN
  .exact eN
  rintro _ _ ⟨rfl,rfl⟩;refine⟨[(50,.nm 1)],.clo 216 [50],[(50,.box 91 false [.p DC d])],rfl,rfl,?_,?_,rfl,rfl,?_⟩
  .exact eN
  .exact eN
  refine rM a (Ny d m t) [(1,.nm 50)] [50] ?_ ?_ ?_
  .exact eN
  .exact eN
  rintro _ _ ⟨rfl,rfl⟩;have v:=Ca d;rw[<-v];generalize E:Ac d=L at *;refine⟨[(51,.nm 7)],.sr 51 AW 0 L.length,[(51,.arr 106 AW L)],rfl,rfl,?_,?_,rfl,rfl,?_⟩
  .exact eN
  .exact eN
  refine Hy [2,4,5,8,9,10,11,22,23,24] a (by simp only[go_sem,Nat.reduceEqDiff,reduceCtorEq,Nat.reduceAdd,Nat.reduceSub,Nat.reduceMul,Nat.reduceLeDiff,Nat.reduceLT,Int.reduceLE,Int.reduceToNat,Int.reduceNeg,↓reduceIte];rfl) ?_ ?_
  .trivial
  repeat'(first|exact trivial|apply eS rfl|apply AB|refine rX a ?_ ?_|refine rC ?_ ?_<;>intro c<;>try(cases c;done))
  refine AJ (ι:={k:Nat//k<=L.length}) (λk=>⟨[(2,.bp 2 [] 0),(4,.bp 4 [] 0),(5,.bp 5 [] 0),(8,.bp 8 [] 0),(9,.p (.int .i64) (i:Int)),(10,.p T3 n),(11,.sr 51 AW 0 L.length),(22,.sr 101 T3 0 o.length),(23,.p (.int .i64) (o.length:Int)),(24,.p (.int .i64) (i:Int)),(38,.p (.int .i64) (L.length:Int)),(39,.p (.int .i64) (k.1:Int))],[(51,.arr 106 AW ((L.take k.1).map (HO o)++L.drop k.1)),(8,.box 25 true [.sr 20 HL 0 o.length]),(20,.arr 93 HL ((o.take i).map (Cp (DV f) o)++List.replicate (o.length-i) (0,[]))),(5,.box 177 false [.mp 13]),(2,.box 25 true [.p F6 f]),(101,.arr 3 T3 o),(13,.mapo T3 T3 (mR o)),(4,.box 25 true [.raw (.slice none 0 0)])]⟩) (λk=>L.length-k.1) ⟨0,by omega⟩ (eW [(51,.nm 51),(8,.nm 8),(20,.nm 20),(5,.nm 5),(2,.nm 2),(101,.nm 101),(13,.nm 13),(4,.nm 4)]) (λk=>?_)
  obtain⟨k,hk⟩:=k;repeat'(first|exact trivial|apply eS rfl|apply AB|refine rX a ?_ ?_|refine rC ?_ ?_<;>intro c<;>try(cases c;done))
  .exact eV
  .exact eV
  .have h:k<L.length:=by exact eV
   have e:=Xa (HO o) (λb=>b) L (0,0) h (HO o);refine⟨⟨k+1,by omega⟩,by simp only;omega,AC [(51,.nm 51),(8,.nm 8),(20,.nm 20),(5,.nm 5),(2,.nm 2),(101,.nm 101),(13,.nm 13),(4,.nm 4)] rfl rfl ?_ ?_⟩
   .refine eM ?_;rw[e.2];rw[<-e.1];unfold HO;rw[<-y6]
   exact eN
  .exact⟨hn,by exact eV⟩
  .exact eV
  have h:L.take k=L:=At (by exact eV);have y:L.drop k=[]:=On (by exact eV);refine⟨⟨i+1,by omega⟩,by simp only;omega,AC [(8,.nm 8),(20,.nm 20),(5,.nm 5),(2,.nm 2),(101,.nm 101),(13,.nm 13),(4,.nm 4)] rfl rfl ?_ ?_⟩
  .refine eM ?_;rw[h,y,UF];have e:=A1l (Cp (DV f) o) o 0 (0,[]) l;rw[B,q]at e;rw[<-e,A,At (by simp:(L.map (HO o)).length<=L.length)]
  exact eN
 have hk:o.take i=o:=At (by exact eV);have D:o.length-i=0:=by exact eV
 rw[hk,D];exact fI a [.cell 4 25] (by simp only[List.replicate_zero,UF];first|exact eR|refine Wf ?_;exact At (by rw[OF];exact eV))
theorem eJ:Ab Tryz.prog 149 CX:=by
 refine⟨R6.1,λw O h ds d g hp=>?_⟩;obtain⟨f,n,u⟩:=ds;obtain⟨h1,a,b,c⟩:=hp;have key:=R6.2 w O h (f,n,u) d g ⟨h1,A9w a,b,c⟩;have e:Qj.out (f,n,u)=CX.out (f,n,u):=by
  show [RV.p Cy (AL (DV f) n)]=[RV.p Cy (AL f n)];rw[A1i a]
 rw[e]at key;exact key
theorem A9x:Ab Tryz.prog 128 CX:=by
 refine fK [0,1,2,4] Tryz.func128 Tryz.ntmps128 (AE eJ AH) ?_;rintro w0 O0 ⟨f,root,u⟩ a-hp;simp only[CX,AM];repeat'(first|exact trivial|apply eS rfl|apply AB|refine rX a ?_ ?_|refine rC ?_ ?_<;>intro b<;>try(cases b;done))
 .exact hp
 exact fI a [.cell 4 25]
end
section
attribute [local go_sem] CX
def A46 (a:Int->Int×Int->Bool) (f:List AD) (i:Nat):AD:=((f.getD i (0,[])).1,(f.getD i (0,[])).2.filter (a (i:Int)))
def GA (a:Int->Int×Int->Bool) (f:List AD) (i:Nat):List AD:=(List.range i).map (A46 a f)
def Xg (a:Int->Int×Int->Bool) (f:List AD):List AD:=AL (GA a f f.length) 0
theorem Jv (a:Int->Int×Int->Bool) (f:List AD) (i:Nat):(GA a f i).length=i:=by simp[GA]
theorem MM (l:List (Int×Int)):kB l↔l.Pairwise (λa b=>a.1<b.1):=by
 constructor
 .intro h;rw[Tw];have key:∀d i,i+d+1<l.length->(l.getD i (0,0)).1<(l.getD (i+d+1) (0,0)).1:=by
   intro d;induction d with
   | zero=>intro i hi;exact h i hi
   | succ d e =>
    intro i hi;have h1:=e i (by omega);have f:=h (i+d+1) (by omega);have:i+(d+1)+1=i+d+1+1:=by omega
    rw[this];omega
  intro i j hi c g;have h1:=key (j-i-1) i (by omega);rw[show i+(j-i-1)+1=j by omega]at h1;simpa[AS,hi,c] using h1
 intro h i hi;rw[Tw]at h;have:=h i (i+1) (by omega) hi (by omega);simpa[AS,hi,show i<l.length by omega] using this
theorem kN {l:List (Int×Int)} (h:kB l) (p:Int×Int->Bool):kB (l.filter p):=by
 rw[MM]at h ⊢;exact h.sublist List.filter_sublist
theorem aN {f:List AD} (hf:AN f) (hs:Fs f) (d:Int->Int×Int->Bool):AN (GA d f f.length)/\Fs (GA d f f.length):=by
 have e:∀i,i<f.length->f.getD i (0,[])∈f:=λi hi=>AF f (0,[]) hi;refine⟨⟨by rw[Jv];exact hf.1,λx c=>?_⟩,λx c=>?_⟩
 .obtain⟨i,hi,rfl⟩:=If.1 c;have hi:i<f.length:=Tx.1 hi;obtain⟨h1,b⟩:=hf.2 _ (e i hi);rw[Jv];exact⟨Tp (Ul _ _) h1,λa ha=>b a (Yh.1 ha).1⟩
 obtain⟨i,hi,rfl⟩:=If.1 c;have hi:i<f.length:=Tx.1 hi;obtain⟨h1,b⟩:=hs _ (e i hi);exact⟨kN h1 _,Tp (Ul _ _) b⟩
def FT (l:List Int):List (Int×Bool):=l.foldl (λm x=>Fa T3 .bool x true m) []
theorem pX {b:Ty} (x k:Int) (v:b.den) (m:List (Int×b.den)):BR T3 b x (Fa T3 b k v m)=if x=k then some v else BR T3 b x m:=by
 induction m with
 | nil=>simp[Fa,BR,He]
 | cons y m g =>
  simp only[Fa];by_cases c:He T3 k y.1=true
  .rw[BY c];have d:k=y.1:=by simpa[He] using c
   simp only[BR,He,UP];by_cases a:x=k
   .rw[BY a,BY a]
   rw[As a,As a,As (by rw[<-d];exact a)]
  rw[As c];have d:¬k=y.1:=by simpa[He] using c
  simp only[BR];by_cases a:He T3 x y.1=true
  .have f:x=y.1:=by simpa[He] using a
   rw[BY a,BY a,As (by rw[f];exact λe=>d e.symm)]
  rw[As a,As a,g]
theorem zC (l:List Int) (x:Int):(BR T3 .bool x (FT l)).getD false=f6 l x:=by
 induction l using D0 with
 | h0=>rfl
 | h1 l a c =>
  have e:FT (l++[a])=Fa T3 .bool a true (FT l):=by simp[FT]
  rw[e,pX];by_cases b:x=a
  .rw[BY b];subst b;simp[f6]
  rw[As b,c];simp only[f6,AD5,List.any_cons,List.any_nil,Bool.or_false];have:(a==x)=false:=by simpa using λe=>b e.symm
  rw[this,Bool.or_false]
end
theorem Jw {x y:Int} {xs ys:List Int} (h:Kp (x :: xs) (y :: ys)=0):x=y/\Kp xs ys=0:=by
 simp only[Kp]at h;split at h
 .cases h
 split at h
 .cases h
 exact⟨by omega,h⟩
theorem Xh:∀ {l m:List (Int×Int)} {r s:List Int},l.length=m.length->Kp (l.flatMap (λa=>[a.1,a.2])++r) (m.flatMap (λa=>[a.1,a.2])++s)=0->l=m/\Kp r s=0
 | [],[],_,_,_,h=>⟨rfl,by simpa using h⟩
 | [],_ :: _,_,_,b,_=>by simp at b
 | _ :: _,[],_,_,b,_=>by simp at b
 | (c,d) :: l,(b1,b2) :: m,r,s,b,h=>by
  have h:Kp (c :: d :: (l.flatMap (λa=>[a.1,a.2])++r)) (b1 :: b2 :: (m.flatMap (λa=>[a.1,a.2])++s))=0:=by simpa using h
  obtain⟨e,i⟩:=Jw h;obtain⟨f,j⟩:=Jw i;obtain⟨g,k⟩:=Xh (l:=l) (m:=m) (by simpa using b) j;exact⟨by rw[e,f,g],k⟩
theorem Xi:∀ {l m:List AD} {r s:List Int},l.length=m.length->Kp (l.flatMap XU++r) (m.flatMap XU++s)=0->l=m/\Kp r s=0
 | [],[],_,_,_,h=>⟨rfl,by simpa using h⟩
 | [],_ :: _,_,_,b,_=>by simp at b
 | _ :: _,[],_,_,b,_=>by simp at b
 | (d,c) :: l,(b1,b2) :: m,r,s,b,h=>by
  have h:Kp (d :: (c.length:Int) :: (c.flatMap (λa=>[a.1,a.2])++(l.flatMap XU++r))) (b1 :: (b2.length:Int) :: (b2.flatMap (λa=>[a.1,a.2])++(m.flatMap XU++s)))=0:=by simpa[XU] using h
  obtain⟨e,i⟩:=Jw h;obtain⟨o,j⟩:=Jw i;obtain⟨f,k⟩:=Xh (l:=c) (m:=b2) (by omega) j;obtain⟨g,n⟩:=Xi (l:=l) (m:=m) (by simpa using b) k;exact⟨by rw[e,f,g],n⟩
theorem MN {a b:List AD} (h:CM a b=0):a=b:=by
 unfold CM Br at h;obtain⟨h1,c⟩:=Jw h;have:=Xi (l:=a) (m:=b) (r:=[]) (s:=[]) (by omega) (by simpa using c);exact this.1
theorem aO:∀l:List Int,Kp l l=0
 | []=>rfl
 | x :: l=>by simp[Kp,aO l]
theorem GY (a:List AD):CM a a=0:=aO _
theorem Xj (x:Int×Int) (s:List (Int×Int)):∀n,(∀j,IJ x s n<=j->j<n->x.1<(s.getD j (0,0)).1)/\(0<IJ x s n->(s.getD (IJ x s n-1) (0,0)).1<=x.1)
 | 0=>⟨λj h1 b=>by omega,λh=>by simp[IJ]at h⟩
 | n+1=>by
  obtain⟨h1,b⟩:=Xj x s n;unfold IJ;split
  .rename_i c;refine⟨λj a d=>?_,b⟩;by_cases e:j=n
   .subst e;exact c
   exact h1 j a (by omega)
  rename_i c;exact⟨λj a d=>by omega,λ_=>by simp only[Nat.add_sub_cancel];omega⟩
theorem A9y {l:List (Int×Int)} (h:l.Pairwise (λa b=>a.1<=b.1)) {i j:Nat} (d:i<=j) (c:j<l.length):(l.getD i (0,0)).1<=(l.getD j (0,0)).1:=by
 rcases Nat.eq_or_lt_of_le d with rfl|e
 .exact AA2 _
 rw[Tw]at h;have:=h i j (by omega) c e;simpa[AS,c,show i<l.length by omega] using this
theorem kO {s:List (Int×Int)} (h:s.Pairwise (λa b=>a.1<=b.1)) (x:Int×Int):(Ow s x).Pairwise (λa b=>a.1<=b.1):=by
 obtain⟨h1,g⟩:=Xj x s s.length;have hp:=VS x s s.length;unfold Ow;generalize IJ x s s.length=p at *;rw[Yi,Yi];have f:∀a∈s.take p,a.1<=x.1:=λa ha=>by
  obtain⟨i,hi,rfl⟩:=Ur.1 ha;rw[OR]at hi;have k:=A9y h (i:=i) (j:=p-1) (by omega) (by omega);have l:=g (by omega);have e:(s.take p)[i].1=(s.getD i (0,0)).1:=by simp[AS,show i<s.length by omega]
  rw[e];omega
 have d:∀b∈s.drop p,x.1<=b.1:=λb c=>by
  obtain⟨i,hi,rfl⟩:=Ur.1 c;rw[UL]at hi;have k:=h1 (p+i) (by omega) (by omega);have e:(s.drop p)[i].1=(s.getD (p+i) (0,0)).1:=by simp[AS,show p+i<s.length by omega]
  rw[e];omega
 refine⟨⟨h.sublist (List.take_sublist _ _),by simp,λa ha b c=>?_⟩,h.sublist (List.drop_sublist _ _),λa ha b c=>?_⟩
 .have:b=x:=by simpa using c
  rw[this];exact f a ha
 rcases IF.1 ha with ha|ha
 .exact Ye (f a ha) (d b c)
 have:a=x:=by simpa using ha
 rw[this];exact d b c
theorem Th (l:List (Int×Int)):(Ac l).Pairwise (λa b=>a.1<=b.1):=by
 induction l using D0 with
 | h0=>exact List.Pairwise.nil
 | h1 l a c=>rw[HN];exact kO c a
theorem TC {n:Int}:∀ {l seen:List (Int×Int)},Gn n seen l=0->(l.map (·.1)).Nodup/\∀a∈l,∀b∈seen,b.1≠a.1
 | [],_,_=>⟨by simp,λa ha=>by cases ha⟩
 | x :: l,seen,h=>by
  simp only[Gn]at h;split at h
  .cases h
  split at h
  .cases h
  rename_i h1 d;obtain⟨g,f⟩:=TC h;have d:∀b∈seen,b.1≠x.1:=λb c e=>d (UA.2 ⟨b,c,by simp[e]⟩);refine⟨?_,λa ha b c=>?_⟩
  .rw[UD,US];refine⟨λi=>?_,g⟩;obtain⟨a,ha,e⟩:=If.1 i;exact f a ha x (by simp) e.symm
  rcases By.1 ha with rfl|ha
  .exact d b c
  exact f a ha b (by simp[c])
theorem Xk {m:Int}:∀ {f:List AD},HE m f=0->∀x∈f,IG x.2 m=0
 | [],_,x,a=>by cases a
 | y :: f,h,x,a=>by
  simp only[HE]at h;split at h
  .cases h
  split at h
  .rename_i h1 b;exact absurd h b
  rename_i h1 b;rcases By.1 a with rfl|a
  .exact IN b
  exact Xk h x a
theorem A1m {l:List (Int×Int)} (h:l.Pairwise (λa b=>a.1<=b.1)) (hn:(l.map (·.1)).Nodup):l.Pairwise (λa b=>a.1<b.1):=by
 rw[List.Nodup,Uz]at hn;refine(h.and hn).imp λ{a b} c=>?_;have h1:=c.1;have d:¬a.1=b.1:=c.2;omega
theorem MO {f:List AD} (h:Dn f=true):AN f/\Fs f/\0<f.length/\Gy f=true:=by
 unfold Dn at h;simp only[An,UP]at h;obtain⟨⟨e,_⟩,c,d⟩:=h;obtain⟨t,g⟩:=MK e;have r:Xc f:=λx b=>Tp (g x b) (by omega);have a:CN f=0:=by
  unfold BC at c;split at c
  .assumption
  exact c
 obtain⟨o,h0⟩:=IL a r;have k:(BC f).1=IK f 0:=by unfold BC;rw[BY a]
 rw[k]at d;have l:=MN d;refine⟨o,λx b=>⟨?_,Tp (g x b) (by omega)⟩,h0,e⟩;rw[<-l]at b;obtain⟨n,_,rfl⟩:=If.1 b;rw[MM];have j:((f.getD n.toNat (0,[])).2.map (·.1)).Nodup:=by
  by_cases p:n.toNat<f.length
  .have q:f.getD n.toNat (0,[])∈f:=AF f (0,[]) p;have m:HE f.length f=0:=by
    unfold CN at a;split at a
    .cases a
    split at a
    .cases a
    exact a
   exact(TC (Xk m _ q)).1
  rw[AS,Ts (by omega)];simp
 have s:=A1m (Th (f.getD n.toNat (0,[])).2) (((Ek _).map (·.1)).nodup_iff.2 j);unfold MJ;simp only;rw[Uz];exact s.imp λi=>i
section
open Go
end
theorem getD_set_ne {α:Type} (l:List α) (d v:α) {i j:Nat} (h:i≠j):(l.set i v).getD j d=l.getD j d:=by
 simp only[AS];rw[List.getElem?_set_ne h]
theorem ZK {α:Type} (l:List α) (d v:α) {i:Nat} (h:i<l.length):(l.set i v).getD i d=v:=by
 simp only[AS];rw[ADw h];rfl
section
open Go
end
section
attribute [local go_sem] CX
end
section
attribute [local go_sem] CX
def mT (l:List (Int×Int)) (x:Int):Int:=l.foldl (λt a=>if a.1=x then a.2 else t) (-1)
end
section
attribute [local go_sem] JR aH
end
abbrev AU (f:List AD) (n:Int):List (Int×Int):=(f.getD n.toNat (0,[])).2
def Bx (f:List AD):Int->List Int->Option Int
 | n,[]=>some n
 | n,x :: r=>if mT (AU f n) x<0 then none else Bx f (mT (AU f n) x) r
theorem Oy (f:List AD):∀(p:List Int) (n m x:Int),Bx f n p=some m->Bx f n (p++[x])=if mT (AU f m) x<0 then none else some (mT (AU f m) x)
 | [],n,m,x,h=>by
  simp only[Bx,Un]at h;subst h;rfl
 | y :: p,n,m,x,h=>by
  simp only[Bx,Yk]at h ⊢;split at h
  .cases h
  rename_i a;rw[As a];exact Oy f p _ m x h
theorem zD {l:List (Int×Int)} (h:l.Pairwise (λa b=>a.1<b.1)) {a:Int×Int} (ha:a∈l):mT l a.1=a.2:=by
 have k:∀(l:List (Int×Int)) (t:Int),(∀b∈l,¬b.1=a.1)->l.foldl (λt b=>if b.1=a.1 then b.2 else t) t=t:=by
  intro l;induction l with
  | nil=>intro t _;rfl
  | cons b l j =>
   intro t d;rw[Tk,As (d b (by simp))];exact j t (λc i=>d c (by simp[i]))
 obtain⟨n,m,rfl⟩:=List.append_of_mem ha;rw[Yi,UM]at h;obtain⟨-,⟨f,-⟩,-⟩:=h;unfold mT;rw[Yy,Tk,BY rfl];exact k m _ (λb g e=>by have:=f b g;omega)
theorem Nz {f:List AD} (h:Dn f=true):AL f 0=f:=by
 obtain⟨d,hs,h0,_⟩:=MO h;unfold Dn at h;simp only[An,UP]at h;obtain⟨_,a,b⟩:=h;have c:(BC f).1=IK f 0:=by
  unfold BC at a ⊢;split at a
  .rename_i hh;rw[BY hh]
  rename_i hh;exact absurd a hh
 rw[c]at b;rw[<-EY d hs (by omega) (by omega)];exact MN b
theorem pY {b:Int->Int×Int->Bool} {f:List AD} (h:∀i,i<f.length->∀a∈(f.getD i (0,[])).2,b (i:Int) a=true):GA b f f.length=f:=by
 apply UZ
 .exact Jv _ _ _
 intro i h1 c;have e:f.getD i (0,[])=f[i]:=by simp[AS,c]
 have:=h i c;simp only[GA,aT,iF,A46];rw[List.filter_eq_self.2 this,e]
theorem pZ {b:Int->Int×Int->Bool} {f:List AD} (c:Dn f=true) (h:∀i,i<f.length->∀a∈(f.getD i (0,[])).2,b (i:Int) a=true):Xg b f=f:=by
 unfold Xg;rw[pY h];exact Nz c
theorem kP {f:List AD} (hf:AN f):∀(k:Nat) (o:List Int) (n:Int),Iy f o->0<=n->n<f.length->n∉o->f.length-o.length<=k->Co f (k+1) o n=Co f k o n
 | 0,o,n,h,h0,h1,c,hk=>by
  have:=(h.snoc h0 h1 c).len;grind
 | k+1,o,n,h,h0,h1,c,hk=>by
  rw[Bt,Bt];have key:∀(l:List (Int×Int)) (t:List Int),(∀a∈l,0<=a.2/\a.2<(f.length:Int))->Iy f t->f.length-t.length<=k->l.foldl (AY f (k+1)) t=l.foldl (AY f k) t:=by
   intro l;induction l with
   | nil=>intros;rfl
   | cons a l p =>
    intro t e m j;have g:=e a (by simp);have hs:AY f (k+1) t a=AY f k t a:=by
     unfold AY;split
     .rfl
     rename_i hn;exact kP hf k t a.2 m g.1 g.2 hn j
    have d:Iy f (AY f k t a)/\t <+: AY f k t a:=by grind [AY,DK]
    rw[Tk,Tk,hs];have:=d.2.length_le;exact p _ (λb i=>e b (by simp[i])) d.1 (by omega)
  exact key _ _ (λa ha=>BA hf ha) (h.snoc h0 h1 c) (by simp only[A0,GO];omega)
theorem Fu (f:List AD):Iy f []:=⟨by simp,λx a=>by cases a⟩
theorem MP {f:List AD} (hf:AN f) {n:Int} (h0:0<=n) (h1:n<f.length):∀m,Co f (f.length+m) [] n=Co f f.length [] n
 | 0=>rfl
 | m+1=>by
  rw[<-AEe,kP hf _ [] n (Fu f) h0 h1 (by simp) (by simp only[Ug];omega)];exact MP hf h0 h1 m
structure Iso (Q R:List AD) (ψ:Int->Int) (C:Int->Prop):Prop where
 arc:∀i,C i->AU R (ψ i)=(AU Q i).map λa=>(a.1,ψ a.2)
 cl:∀i,C i->∀a∈AU Q i,C a.2
 inj:∀i j,C i->C j->ψ i=ψ j->i=j
theorem VV {Q R:List AD} {c:Int->Int} {d:Int->Prop} (h:Iso Q R c d):∀(k:Nat) (t:List Int) (i:Int),(∀x∈t,d x)->d i->Co R k (t.map c) (c i)=(Co Q k t i).map c/\∀x∈Co Q k t i,d x
 | 0,t,i,f,hi=>⟨rfl,f⟩
 | k+1,t,i,f,hi=>by
  have key:∀(l:List (Int×Int)) (t:List Int),(∀a∈l,d a.2)->(∀x∈t,d x) ->
    (l.map λa=>(a.1,c a.2)).foldl (AY R k) (t.map c)=(l.foldl (AY Q k) t).map c/\∀x∈l.foldl (AY Q k) t,d x:=by
   intro l;induction l with
   | nil=>intro t _ f;exact⟨rfl,f⟩
   | cons a l q =>
    intro t j f;have ha:=j a (by simp);have hs:AY R k (t.map c) (a.1,c a.2)=(AY Q k t a).map c/\∀x∈AY Q k t a,d x:=by
     unfold AY;by_cases m:a.2∈t
     .grind
     have p:¬c a.2∈t.map c:=by
      intro hh;obtain⟨x,g,e⟩:=If.1 hh;exact m (h.inj x a.2 (f x g) ha e▸g)
     rw[As m];simp only[As p];exact VV h k t a.2 f ha
    rw[UD,Tk,Tk,hs.1];exact q _ (λb o=>j b (by simp[o])) hs.2
  rw[Bt,Bt];have e:t.map c++[c i]=(t++[i]).map c:=by simp
  have n:(R.getD (c i).toNat (0,[])).2=(AU Q i).map λa=>(a.1,c a.2):=h.arc i hi;rw[n,e];refine key _ _ (h.cl i hi) λx g=>?_;grind
theorem A47 {o:List Int} {a:Int->Int} {x:Int} (h:∀y∈o,a y=a x->y=x):B1 (o.map a) (a x)=B1 o x:=by
 have hi:(o.map a).idxOf (a x)=o.idxOf x:=by
  induction o with
  | nil=>rfl
  | cons y o c =>
   rw[UD,List.idxOf_cons,List.idxOf_cons];have b:=h y (by simp);by_cases e:y=x
   .subst e;simp
   grind
 grind [B1]
theorem ZL {Q R:List AD} {b:Int->Int} {c:Int->Prop} (h:Iso Q R b c) (k:AN Q) (j:c 0) (h0:b 0=0) (r:0<Q.length) (s:Q.length<=R.length)
  (l:∀i,c i->(R.getD (b i).toNat (0,[])).1=(Q.getD i.toNat (0,[])).1):AL R 0=AL Q 0:=by
 have f:Co R R.length [] 0=(Co Q Q.length [] 0).map b/\∀x∈Co Q Q.length [] 0,c x:=by
  have h1:=VV h R.length [] 0 (λx m=>by cases m) j;rw[h0]at h1;have q:=MP k (n:=0) (by omega) (by omega) (R.length-Q.length)
  simp_all
 unfold AL;rw[f.1];generalize Co Q Q.length [] 0=o at *;rw[Uf];refine Tq λi hi=>?_;have d:=f.2 i hi;show Cp R (o.map b) (b i)=Cp Q o i;unfold Cp;have g:(R.getD (b i).toNat (0,[])).2=(AU Q i).map λa=>(a.1,b a.2):=h.arc i d;rw[l i d,g,Uf];refine Uu _ (Tq λa ha=>?_);show (a.1,B1 (o.map b) (b a.2))=(a.1,B1 o a.2);rw[A47 λy p e=>h.inj y a.2 (f.2 y p) (h.cl i d a ha) e]
structure Ord (f:List AD) (o:List Int):Prop where
 ok:Iy f o
 zero:o.getD 0 0=0/\0<o.length
 cl:∀n∈o,∀a∈AU f n,a.2∈o
theorem A48 {f:List AD} (hf:AN f) (h0:0<f.length):[0] <+: Co f f.length [] 0:=by
 obtain⟨k,hk⟩:∃k,f.length=k+1:=⟨f.length-1,by omega⟩;rw[hk,Bt];exact(Dw (DK hf k) _ _ (λa ha=>BA hf ha) ((Fu f).snoc (by omega) (by omega) (by simp))).2
theorem A49 {f:List AD} (hf:AN f) (h0:0<f.length):Ord f (Co f f.length [] 0):=by
 have h1:=DK hf f.length [] 0 (Fu f) (by omega) (by omega) (by simp);have d:=IM hf f.length [] 0 (Fu f) (by omega) (by omega) (by simp) (by simp);have b:=A48 hf h0;refine⟨h1.1,?_,λn hn a ha=>?_⟩
 .obtain⟨t,c⟩:=b;rw[<-c];exact⟨rfl,by simp⟩
 grind
theorem IP {o:List Int} (hn:o.Nodup) {i:Nat} (hi:i<o.length):B1 o (o.getD i 0)=(i:Int):=by grind [B1]
theorem E7 {o:List Int} {x:Int} (h:x∈o):0<=B1 o x/\B1 o x<(o.length:Int)/\o.getD (B1 o x).toNat 0=x:=by
 unfold B1;rw[BY h];have a:=List.idxOf_lt_length_of_mem h
 simp_all
theorem A1n (f:List AD):(AL f 0).length=(Co f f.length [] 0).length:=by simp[AL]
theorem A1o {f:List AD} {i:Nat} (hi:i<(Co f f.length [] 0).length):(AL f 0).getD i (0,[])=Cp f (Co f f.length [] 0) ((Co f f.length [] 0).getD i 0):=by grind [AL]
theorem kQ (a:Int->Int×Int->Bool) {f:List AD} {n:Int} (h0:0<=n) (h1:n<f.length):(GA a f f.length).getD n.toNat (0,[])=((f.getD n.toNat (0,[])).1,(AU f n).filter (a n)):=by grind [GA,A46]
theorem A7M (l:List (Int×Int)) (x:Int):mT l x=-1\/∃a∈l,a.1=x/\a.2=mT l x:=by
 have key:∀(l:List (Int×Int)) (t:Int),l.foldl (λt a=>if a.1=x then a.2 else t) t=t\/∃a∈l,a.1=x/\a.2=l.foldl (λt a=>if a.1=x then a.2 else t) t:=by
  intro l;induction l with
  | nil=>intro t;exact .inl rfl
  | cons b l c =>
   intro t;rw[Tk];by_cases h:b.1=x
   .rw[BY h];rcases c b.2 with e|⟨a,ha,e⟩
    .exact .inr ⟨b,by simp,h,e.symm⟩
    exact .inr ⟨a,by simp[ha],e⟩
   rw[As h];rcases c t with e|⟨a,ha,e⟩
   .exact .inl e
   exact .inr ⟨a,by simp[ha],e⟩
 exact key l (-1)
theorem A4a {l:List (Int×Int)} {x:Int} (h:0<=mT l x):∃a∈l,a.1=x/\a.2=mT l x:=by
 rcases A7M l x with e|h1
 .omega
 exact h1
theorem A4b {f:List AD} (hs:Fs f) (n:Int):(AU f n).Pairwise (λa b=>a.1<b.1):=(MM _).1 (pQ hs n).1
theorem A1p {f:List AD} (hf:AN f) (hs:Fs f) (h0:0<f.length) (a:Int->Int×Int->Bool) {n:Int} (hn:n∈Co (GA a f f.length) f.length [] 0) :
  AU (Xg a f) (B1 (Co (GA a f f.length) f.length [] 0) n)=((AU f n).filter (a n)).map (HO (Co (GA a f f.length) f.length [] 0)):=by
 obtain⟨h,l⟩:=aN hf hs a;have c:=Jv a f f.length;have e:=A49 h (by omega);have d:=λi=>A1o (f:=GA a f f.length) (i:=i);rw[c]at e d;obtain⟨j,k,g⟩:=E7 hn;have b:=e.ok.rng n hn;rw[c]at b;show ((Xg a f).getD _ (0,[])).2=_;have:Xg a f=AL (GA a f f.length) 0:=rfl;rw[this,d _ (by omega),g];unfold Cp;rw[kQ a b.1 b.2]
theorem R7 {f:List AD}:∀(p:List Int) (n:Int) (z:List Int),Bx f n p=none->Bx f n (p++z)=none
 | [],_,_,h=>by cases h
 | x :: p,n,z,h=>by
  simp only[Bx,Yk]at h ⊢;split
  .rfl
  rename_i a;rw[As a]at h;exact R7 p _ z h
theorem aP {f:List AD} {p:List Int} {e y:Int} (h:Bx f 0 (p++[e])=some y):∃x,Bx f 0 p=some x/\∃a∈AU f x,a.1=e/\a.2=y:=by
 cases hh:Bx f 0 p with
 | none=>rw[R7 p 0 [e] hh]at h;cases h
 | some x =>
  have b:=Oy f p 0 x e hh;rw[h]at b;split at b
  .cases b
  rename_i g;obtain⟨a,ha,c,d⟩:=A4a (l:=AU f x) (x:=e) (by omega);exact⟨x,rfl,a,ha,c,by rw[d];exact(Option.some.inj b).symm⟩
section
attribute [local go_sem] XQ
def BK (l:List (Int×Int)) (e:Int):Int:=match l with
 | []=>-1
 | a :: l=>if a.1=e then a.2 else BK l e
theorem aQ (e:Int) (l:List (Int×Int)) {k:Nat} (h:k<l.length):BK (l.drop k) e=if (l.getD k (0,0)).1=e then (l.getD k (0,0)).2 else BK (l.drop (k+1)) e:=by
 rw[Tj h];have e:l.getD k (0,0)=l[k]:=by simp[AS,h]
 rw[e];rfl
end
section
attribute [local go_sem] XQ
structure A4c (a b:List AD) (m:List Int):Prop where
 len:m.length=a.length
 rng:∀x∈m,x<(b.length:Int)
theorem I0 {n:Int} (hn:0<=n):∀ {l:List (Int×Int)} (e:Int),(∀x∈l,x.2<n)->BK l e<n
 | [],_,_=>by simp only[BK];omega
 | x :: l,e,h=>by
  simp only[BK];split
  .exact h x (by simp)
  exact I0 hn e (λy a=>h y (by simp[a]))
theorem A4c.set {a b:List AD} {m:List Int} (h:A4c a b m) (k:Nat) {v:Int} (d:v<(b.length:Int)):A4c a b (m.set k v):=by
 refine⟨by simp[h.len],λx c=>?_⟩;rcases Yo c with c|c
 .exact h.rng x c
 rw[c];exact d
theorem A4c.get {a b:List AD} {m:List Int} (h:A4c a b m) (c:0<b.length) (k:Nat):m.getD k 0<(b.length:Int):=by
 rw[AS];cases hh:m[k]? with
 | none=>show (0:Int)<_;omega
 | some x=>exact h.rng x (UW hh)
def CP (h:AG) (f:List AD):Prop:=∀x∈f,0<=x.1/\x.1<(h.1.length:Int)
theorem E8 {f:List AD} (hf:AN f) (k:Nat):∀x∈(f.getD k (0,[])).2,0<=x.2/\x.2<(f.length:Int):=by
 intro x a;by_cases h:k<f.length
 .exact(hf.2 _ (AF f (0,[]) h)).2 x a
 rw[AS,Ts (by omega)]at a;cases a
end
structure LR (h:AG) (a b:List AD) (m:Int->Int):Prop where
 zero:m 0=0
 rng:∀i,0<=i->i<(a.length:Int)->0<=m i/\m i<(b.length:Int)
 ty:∀i,0<=i->i<(a.length:Int)->BB h (a.getD i.toNat (0,[])).1 (b.getD (m i).toNat (0,[])).1=true
 arc:∀i,0<=i->i<(a.length:Int)->∀x∈AU a i,BK (AU b (m i)) x.1=m x.2
theorem Jx {l:List (Int×Int)} (h:l.Pairwise (λa b=>a.1<b.1)) {a:Int×Int} (ha:a∈l):BK l a.1=a.2:=by
 induction l with
 | nil=>cases ha
 | cons b l d =>
  obtain⟨h1,c⟩:=UM.1 h;simp only[BK];rcases By.1 ha with rfl|ha
  .rw[BY rfl]
  grind
theorem Qk {l:List (Int×Int)} {e:Int} (h:0<=BK l e):∃a∈l,a.1=e/\a.2=BK l e:=by
 induction l with
 | nil=>simp only[BK]at h;omega
 | cons b l c =>
  simp only[BK]at h ⊢;split
  .grind
  grind
theorem A9z {f:List AD} (hs:Fs f) {n:Int} {a:Int×Int} (ha:a∈AU f n):BK (AU f n) a.1=a.2:=Jx (A4b hs n) ha
def RO (f:List AD):Prop:=∀i:Int,0<i->i<(f.length:Int)->∃j,0<=j/\j<i/\∃x∈AU f j,x.2=i
theorem A7N {M:List Int} {k j:Nat} {v:Int} (hk:k<M.length):(M.set k v).getD j 0=if k=j then v else M.getD j 0:=by grind
theorem Xl {f:List AD} (hf:AN f):∀(k:Nat) (t:List Int) (n:Int),Iy f t->0<=n->n<f.length->n∉t ->
  ∀q,t.length<q->q<(Co f k t n).length->∃j,j<q/\∃a∈AU f ((Co f k t n).getD j 0),a.2=(Co f k t n).getD q 0
 | 0,t,n,h,h0,h1,x,q,A,d=>by simp only[Co]at d;omega
 | k+1,t,n,h,h0,h1,x,q,A,d=>by
  have key:∀(l:List (Int×Int)) (u:List Int),(∀a∈l,a∈AU f n)->Iy f u->t++[n] <+: u ->
    (∀q,t.length<q->q<u.length->∃j,j<q/\∃a∈AU f (u.getD j 0),a.2=u.getD q 0) ->
    ∀q,t.length<q->q<(l.foldl (AY f k) u).length->∃j,j<q/\∃a∈AU f ((l.foldl (AY f k) u).getD j 0),a.2=(l.foldl (AY f k) u).getD q 0:=by
   intro l;induction l with
   | nil=>intro u _ _ _ hu q o c;exact hu q o c
   | cons a l G =>
    intro u y hu s E;have ha:=y a (by simp);have g:=BA hf ha;rw[Tk];by_cases p:a.2∈u
    .grind [AY]
    have hs:AY f k u a=Co f k u a.2:=by unfold AY;rw[As p]
    rw[hs];obtain⟨C,w⟩:=DK hf k u a.2 hu g.1 g.2 p;have r:∀j,j<u.length->(Co f k u a.2).getD j 0=u.getD j 0:=λj D=>by
     obtain⟨v,m⟩:=w;rw[<-m];simp only[AS];rw[Tz D]
    have F:u.getD t.length 0=n:=by
     obtain⟨v,m⟩:=s;rw[<-m];simp[AS]
    have B:t.length<u.length:=by
     have:=s.length_le;simp at this;omega
    refine G (Co f k u a.2) (λb i=>y b (by simp[i])) C (s.trans w) (λq o c=>?_);by_cases z:q<u.length
    .obtain⟨j,H,b,i,e⟩:=E q o z;refine⟨j,H,b,?_,?_⟩
     .rw[r j (by omega)];exact i
     rw[r q z];exact e
    by_cases d:q=u.length
    .subst d;refine⟨t.length,B,a,?_,?_⟩
     .rw[r _ B,F];exact ha
     cases k with
     | zero=>simp only[Co]at c;omega
     | succ k =>
      have hp:u++[a.2] <+: Co f (k+1) u a.2:=by
       rw[Bt];exact(Dw (DK hf k) _ _ (λb i=>BA hf i) (hu.snoc g.1 g.2 p)).2
      obtain⟨v,m⟩:=hp;rw[<-m];simp[AS]
    exact Xl hf k u a.2 hu g.1 g.2 p q (by omega) c
  rw[Bt]at d ⊢;exact key _ (t++[n]) (λa ha=>ha) (h.snoc h0 h1 x) (Uj _) (λq o c=>by simp only[A0,GO]at c;omega) q A d
theorem A7O {f:List AD} (hf:AN f) (hs:Fs f) (h0:0<f.length) (b:Int->Int×Int->Bool):RO (Xg b f):=by
 obtain⟨g,t⟩:=aN hf hs b;have h:=Jv b f f.length;have c:=A49 g (by omega);have k:=A1n (GA b f f.length);have m:=Xl g (GA b f f.length).length [] 0 (Fu _) (by omega) (by omega) (by simp);have q:=λn hn=>A1p hf hs h0 b (n:=n) hn;rw[h]at c k m;have r:(Xg b f).length=(Co (GA b f f.length) f.length [] 0).length:=k;intro i s p;rw[r]at p;generalize Co (GA b f f.length) f.length [] 0=o at *;obtain⟨j,u,a,ha,e⟩:=m i.toNat (by simp only[Ug];omega) (by omega);have l:o.getD j 0∈o:=AF _ 0 (by omega);have d:=c.ok.rng _ l;rw[h]at d;rw[AU,kQ b d.1 d.2]at ha;refine⟨(j:Int),by omega,by omega,HO o a,?_,?_⟩
 .have:=q _ l;rw[IP c.ok.nd (by omega)]at this;rw[this];exact If.2 ⟨a,ha,rfl⟩
 show B1 o a.2=i;rw[e,IP c.ok.nd (by omega)];omega
theorem p5 (x:List Int):MD x x=true:=by grind [MD,Ha,S2]
theorem R8 (h:AG) (t:Int):BB h t t=true:=p5 _
abbrev D5 (p:List Int) (n:Int):Int:=p.getD n.toNat 0
structure Fo (p:List Int) (rk:Int->Nat):Prop where
 rng:∀n,0<=n->n<(p.length:Int)->0<=D5 p n/\D5 p n<(p.length:Int)
 dec:∀n,0<=n->n<(p.length:Int)->D5 p n≠n->rk (D5 p n)<rk n
inductive Rt (p:List Int):Int->Int->Prop
 | base {n:Int} (h:D5 p n=n):Rt p n n
 | step {n r:Int} (h:D5 p n≠n) (h2:Rt p (D5 p n) r):Rt p n r
theorem Rt.det {p:List Int} {n r s:Int} (h:Rt p n r) (g:Rt p n s):r=s:=by
 induction h with
 | base h =>
  cases g with
  | base g=>rfl
  | step g _=>exact absurd h g
 | step h _ b =>
  cases g with
  | base g=>exact absurd g h
  | step _ a=>exact b a
theorem Rt.root {p:List Int} {n r:Int} (h:Rt p n r):D5 p r=r:=by
 induction h with
 | base h=>exact h
 | step _ _ a=>exact a
theorem Fo.ex {p:List Int} {b:Int->Nat} (h:Fo p b):∀(k:Nat) (n:Int),b n<=k->0<=n->n<(p.length:Int)->∃r,Rt p n r/\0<=r/\r<(p.length:Int)
 | 0,n,hk,h0,h1=>by
  by_cases e:D5 p n=n
  .exact⟨n,.base e,h0,h1⟩
  have:=h.dec n h0 h1 e;omega
 | k+1,n,hk,h0,h1=>by
  by_cases e:D5 p n=n
  .exact⟨n,.base e,h0,h1⟩
  have g:=h.dec n h0 h1 e;have a:=h.rng n h0 h1;obtain⟨r,c,d,f⟩:=h.ex k (D5 p n) (by omega) a.1 a.2;exact⟨r,.step e c,d,f⟩
theorem Fo.root {p:List Int} {a:Int->Nat} (h:Fo p a) {n:Int} (h0:0<=n) (h1:n<(p.length:Int)):∃r,Rt p n r/\0<=r/\r<(p.length:Int):=h.ex (a n) n (Is _) h0 h1
theorem Cs {p:List Int} {n v:Int} (h0:0<=n) (h1:n<(p.length:Int)) (x:Int) (a:0<=x):D5 (p.set n.toNat v) x=if x=n then v else D5 p x:=by
 unfold D5;rw[A7N (by omega)];by_cases e:x=n
 .subst e;rw[BY rfl,BY rfl]
 rw[As (by omega),As e]
def Fv (p:List Int) (n:Int):List Int:=p.set n.toNat (D5 p (D5 p n))
theorem R9 (p:List Int) (n:Int):(Fv p n).length=p.length:=by simp[Fv]
theorem A4d {p:List Int} {f:Int->Nat} (h:Fo p f) {n:Int} (h0:0<=n) (h1:n<(p.length:Int)) (hn:D5 p n≠n):Fo (Fv p n) f:=by
 have c:=h.rng n h0 h1;have g:=h.rng _ c.1 c.2;have i:=h.dec n h0 h1 hn;have j:f (D5 p (D5 p n))<=f (D5 p n):=by
  by_cases e:D5 p (D5 p n)=D5 p n
  .rw[e];exact Is _
  exact ADZ (h.dec _ c.1 c.2 e)
 refine⟨λx a b=>?_,λx a b d=>?_⟩
 .rw[R9]at b ⊢;unfold Fv;rw[Cs h0 h1 x a];split
  .exact g
  exact h.rng x a b
 rw[R9]at b;unfold Fv at d ⊢;rw[Cs h0 h1 x a]at d ⊢;split
 .rename_i e;subst e;omega
 rename_i e;rw[As e]at d;exact h.dec x a b d
theorem kR {p:List Int} {o:Int->Nat} (h:Fo p o) {n:Int} (h0:0<=n) (h1:n<(p.length:Int)) (hn:D5 p n≠n):∀(k:Nat) (x r:Int),o x<=k->0<=x->x<(p.length:Int)->Rt p x r->Rt (Fv p n) x r:=by
 intro k;induction k with
 | zero =>
  intro x r hk a j i;have e:D5 p x=x:=IN λe=>by have:=h.dec x a j e;omega
  have d:x≠n:=λb=>hn (b▸e);have:=i.det (.base e);rw[this];refine .base ?_;unfold Fv;rw[Cs h0 h1 x a,As d];exact e
 | succ k l =>
  intro x r hk a j i;by_cases e:D5 p x=x
  .have d:x≠n:=λb=>hn (b▸e);have:=i.det (.base e);rw[this];refine .base ?_;unfold Fv;rw[Cs h0 h1 x a,As d];exact e
  have u:=h.dec x a j e;have c:=h.rng x a j;have f:Rt p (D5 p x) r:=by
   cases i with
   | base g=>exact absurd g e
   | step _ g=>exact g
  by_cases d:x=n
  .subst d;by_cases b:D5 p (D5 p x)=D5 p x
   .have:=f.det (.base b);rw[this]at f ⊢;refine .step (r:=D5 p x) ?_ ?_
    .unfold Fv;rw[Cs h0 h1 x a,BY rfl,b];exact e
    have hp:D5 (Fv p x) x=D5 p x:=by
     unfold Fv;rw[Cs h0 h1 x a,BY rfl,b]
    rw[hp];exact l _ _ (by omega) c.1 c.2 f
   have s:=h.dec _ c.1 c.2 b;have m:=h.rng _ c.1 c.2;have t:Rt p (D5 p (D5 p x)) r:=by
    cases f with
    | base g=>exact absurd g b
    | step _ g=>exact g
   have hp:D5 (Fv p x) x=D5 p (D5 p x):=by
    unfold Fv;rw[Cs h0 h1 x a,BY rfl]
   refine .step ?_ ?_
   .rw[hp];intro q;rw[q]at s;omega
   rw[hp];exact l _ _ (by omega) m.1 m.2 t
  have hp:D5 (Fv p n) x=D5 p x:=by
   unfold Fv;rw[Cs h0 h1 x a,As d]
  refine .step ?_ ?_
  .rw[hp];exact e
  rw[hp];exact l _ _ (by omega) c.1 c.2 f
def EZ (p q:List Int):Prop:=p.length=q.length/\∀x r,0<=x->x<(p.length:Int)->(Rt p x r↔Rt q x r)
theorem EZ.refl (p:List Int):EZ p p:=⟨rfl,λ_ _ _ _=>Iff.rfl⟩
theorem EZ.trans {p q s:List Int} (h:EZ p q) (g:EZ q s):EZ p s :=
 ⟨h.1.trans g.1,λx r a b=>(h.2 x r a b).trans (g.2 x r a (by rw[<-h.1];exact b))⟩
theorem p6 {p:List Int} {d:Int->Nat} (h:Fo p d) {n:Int} (h0:0<=n) (h1:n<(p.length:Int)) (hn:D5 p n≠n):EZ p (Fv p n):=by
 refine⟨(R9 p n).symm,λx r b c=>⟨λa=>kR h h0 h1 hn _ x r (Is _) b c a,λa=>?_⟩⟩;obtain⟨s,hs,-,-⟩:=h.root b c;have:=kR h h0 h1 hn _ x s (Is _) b c hs;have e:=this.det a;rw[<-e];exact hs
def Y5 (h:AG) (p ty:List Int) (ar:List (List (Int×Int))):List (Nat×Obj):=[(1,.box 111 true [.p ED h,.sr 2 T3 0 p.length,.sr 3 T3 0 ty.length,.sr 4 DC 0 ar.length]),(2,.arr 3 T3 p),(3,.arr 3 T3 ty),(4,.arr 91 DC ar)]
theorem eK (h:AG) (ty:List Int) (ar:List (List (Int×Int))) (d:Int->Nat) {p:List Int} (hp:Fo p d) {n:Int} (h0:0<=n) (h1:n<(p.length:Int)):A9 Tryz.prog 136 [.bp 1 [] 0,.p T3 n] (Y5 h p ty ar) [1]
  (λres A=>∃(t:List Int) (r:Int),res=.p T3 r/\A=Y5 h t ty ar/\Fo t d/\EZ p t/\Rt p n r):=by
 refine Kh [0,1,4,13] [] [] Tryz.func136 Tryz.ntmps136 AH ?_;intro w0 K O0 ρ0 j C D;simp only[Aq,Y5];repeat'(first|exact trivial|apply eS rfl|refine rX j ?_ ?_)
 refine AJ (ι:={x:List Int×Int//Fo x.1 d/\EZ p x.1/\0<=x.2/\x.2<(p.length:Int)/\(∀r,Rt x.1 x.2 r->Rt p n r)}) (λx=>⟨[(0,.bp 1 [] 0),(1,.p T3 x.1.2)],[(1,.box 111 true [.p ED h,.sr 2 T3 0 p.length,.sr 3 T3 0 ty.length,.sr 4 DC 0 ar.length]),(2,.arr 3 T3 x.1.1),(3,.arr 3 T3 ty),(4,.arr 91 DC ar)]⟩) (λx=>d x.1.2) ⟨(p,n),hp,EZ.refl p,h0,h1,λ_ g=>g⟩ (eW [(1,.nm 1),(2,.nm 2),(3,.nm 3),(4,.nm 4)]) (λx=>?_)
 obtain⟨⟨q,m⟩,b,hs,a,f,s⟩:=x;simp only at b hs a f s;have o:q.length=p.length:=hs.1.symm;have c:=b.rng m a (by omega);simp only;repeat'(first|exact trivial|apply eS rfl|apply AB|refine rX j ?_ ?_|refine rC ?_ ?_<;>intro i<;>try(cases i;done))
 .exact⟨a,f⟩
 .exact⟨⟨a,f⟩,⟨c.1,by rw[<-o];exact c.2⟩,a,f⟩
 .exact⟨a,f⟩
 .have k:D5 q m≠m:=i;have B:=b.dec m a (by omega) k;have u:=b.rng _ c.1 c.2;have w:d (D5 q (D5 q m))<=d (D5 q m):=by
   by_cases e:D5 q (D5 q m)=D5 q m
   .rw[e];exact Is _
   exact ADZ (b.dec _ c.1 c.2 e)
  have v:=p6 b a (by omega) k;have l:D5 (Fv q m) m=D5 q (D5 q m):=by
   unfold Fv;rw[Cs a (by omega) m a,BY rfl]
  refine⟨⟨(Fv q m,D5 q (D5 q m)),A4d b a (by omega) k,hs.trans v,u.1,by rw[<-o];exact u.2,λr z=>s r ?_⟩,by simp only;omega,AC [(1,.nm 1),(2,.nm 2),(3,.nm 3),(4,.nm 4)] rfl rfl ?_ ?_⟩
  .refine(v.2 m r a (by omega)).2 (.step ?_ ?_)
   .rw[l];intro e;rw[e]at w;omega
   rw[l];exact z
  .refine eM ?_;rfl
  refine eM ?_;exact l
 have y:D5 q m=m:=by simpa using i
 refine Ev.ent (σ':=⟨[(4,.p T3 m)],Y5 h q ty ar⟩) ?_ (AC [(1,.nm 1),(2,.nm 2),(3,.nm 3),(4,.nm 4)] rfl rfl ?_ ?_)
 .exact fM j [.tmp 4] (.p T3 m) eT ⟨q,m,rfl,rfl,b,hs,s m (.base y)⟩
 .unfold Y5;rw[o];exact eN
 exact eN
def Bc (b n:Nat):List Int:=(List.range n).map λi=>((b+i:Nat):Int)
def Ad (b:Nat) (l:List (Int×Int)):List (Int×Int):=l.map λa=>(a.1,a.2+(b:Int))
def CQ (l:List AD) (n:Nat):List Int:=(l.take n).map λx=>x.1
def EF (b:Nat) (l:List AD) (n:Nat):List (List (Int×Int)):=(l.take n).map λx=>Ad b x.2
theorem p7 (b n:Nat):Bc b (n+1)=Bc b n++[((b+n:Nat):Int)]:=by simp[Bc,UQ]
theorem Hb (b n:Nat):(Bc b n).length=n:=by simp[Bc]
theorem p8 (h:AG) (p ty:List Int) (ar:List (List (Int×Int))) (l:List AD) (f:AN l) (J:p.length<=100000) (L:ty.length=p.length) (E:ar.length=p.length) :
  A9 Tryz.prog 85 [.bp 1 [] 0,.p F6 l] (Y5 h p ty ar) [1]
  (λres D=>res=.raw (.tuple #[])/\D=Y5 h (p++Bc p.length l.length) (ty++CQ l l.length) (ar++EF p.length l l.length)):=by
 refine Kh [0,1,4,5,6,7,9,15,16,17,18,46,47,48,49] [] [] Tryz.func85 Tryz.ntmps85 AH ?_;intro w0 K O0 ρ0 c H I;have G:=f.1;simp only[Aq,Y5];repeat'(first|exact trivial|apply eS rfl|refine rX c ?_ ?_)
 refine AJ (ι:={i:Nat//i<=l.length}) (λi=>⟨[(0,.bp 1 [] 0),(4,.p (.int .i64) (p.length:Int)),(15,.p F6 l),(16,.p (.int .i64) (l.length:Int)),(17,.p (.int .i64) (i.1:Int))],[(1,.box 111 true [.p ED h,.sr 2 T3 0 (p++Bc p.length i.1).length,.sr 3 T3 0 (ty++CQ l i.1).length,.sr 4 DC 0 (ar++EF p.length l i.1).length]),(2,.arr 3 T3 (p++Bc p.length i.1)),(3,.arr 3 T3 (ty++CQ l i.1)),(4,.arr 91 DC (ar++EF p.length l i.1))]⟩) (λi=>l.length-i.1) ⟨0,IS _⟩ (AC [(1,.nm 1),(2,.nm 2),(3,.nm 3),(4,.nm 4)] rfl rfl ?_ ?_) (λi=>?_)
 .refine eM ?_;simp[Bc,CQ,EF]
 .exact eN
 obtain⟨i,hi⟩:=i;have s:=Hb p.length i;have t:=p7 p.length i;have y:(CQ l i).length=i:=by unfold CQ;rw[OF,OR];omega
 have n:(EF p.length l i).length=i:=by unfold EF;rw[OF,OR];omega
 have z:=λh:i<l.length=>CF (λx:AD=>x.1) l (0,[]) h;have o:=λh:i<l.length=>CF (λx:AD=>Ad p.length x.2) l (0,[]) h;simp only;repeat'(first|exact trivial|apply eS rfl|refine rX c ?_ ?_|refine rC ?_ ?_<;>intro b<;>try(cases b;done))
 .exact b
 .refine⟨⟨by omega,by omega⟩,?_⟩;rw[s];simp only[AO];omega
 .have d:i<l.length:=Do.1 b;refine CL drawsAny c 9 [([1,2,3,4,5,6,7],8)] [0] (by kernel_rfl) (LH ?_ ?_)
  .trivial
  refine Nr c [3] ?_ ?_
  .rw[y];simp only[AO];omega
  refine Sv c ?_ ?_ ?_
  .trivial
  .trivial
  have A:=z d;have q:=o d;have m:p++Bc p.length i++[(p.length:Int)+(i:Int)]=p++Bc p.length (i+1):=by
   rw[t,Tt];rfl
  have eT:ty++CQ l i++[(l.getD i (0,[])).1]=ty++CQ l (i+1):=by
   unfold CQ;rw[A,Tt]
  have B:p.length+(Bc p.length i).length+1=(p++Bc p.length (i+1)).length:=by rw[A0,Hb,Hb];omega
  have C:ty.length+(CQ l i).length+1=(ty++CQ l (i+1)).length:=by rw[<-eT,A0,A0,GO]
  have u:=E8 f i;have N:(l.getD i (0,[])).2.length<=100000:=(f.2 _ (AF l (0,[]) d)).1;repeat'(first|exact trivial|apply eS rfl|refine rX c ?_ ?_)
  rw[m,eT,B,C];generalize M:(l.getD i (0,[])).2=xs at *;refine AJ (ι:={k:Nat//k<=xs.length}) (λk=>⟨[(0,.bp 1 [] 0),(4,.p (.int .i64) (p.length:Int)),(7,.sr 61 AW 0 (Ad p.length (xs.take k.1)).length),(15,.p F6 l),(16,.p (.int .i64) (l.length:Int)),(17,.p (.int .i64) (i:Int)),(46,.p DC xs),(47,.p (.int .i64) (xs.length:Int)),(48,.p (.int .i64) (k.1:Int))],[(1,.box 111 true [.p ED h,.sr 2 T3 0 (p++Bc p.length (i+1)).length,.sr 3 T3 0 (ty++CQ l (i+1)).length,.sr 4 DC 0 (ar++EF p.length l i).length]),(2,.arr 3 T3 (p++Bc p.length (i+1))),(3,.arr 3 T3 (ty++CQ l (i+1))),(4,.arr 91 DC (ar++EF p.length l i)),(61,.arr 106 AW (Ad p.length (xs.take k.1)))]⟩) (λk=>xs.length-k.1) ⟨0,IS _⟩ (AC [(1,.nm 1),(2,.nm 2),(3,.nm 3),(4,.nm 4),(61,.nil)] rfl rfl ?_ ?_) (λk=>?_)
  .refine eM ?_;rfl
  .refine eM ?_;rfl
  obtain⟨k,hk⟩:=k;have v:(Ad p.length (xs.take k)).length=k:=by unfold Ad;rw[OF,OR];omega
  have w:=λh:k<xs.length=>CF (λa:Int×Int=>(a.1,a.2+(p.length:Int))) xs (0,0) h;have r:=λh:k<xs.length=>u _ (AF xs (0,0) h);simp only;repeat'(first|exact trivial|apply eS rfl|apply AB|refine rX c ?_ ?_|refine rC ?_ ?_<;>intro b<;>try(cases b;done))
  .exact b
  .have e:k<xs.length:=Do.1 b;have F:=r e;refine⟨⟨by omega,by omega⟩,?_⟩;rw[v];simp only[AO];omega
  .omega
  .have e:k<xs.length:=Do.1 b;have g:Ad p.length (xs.take (k+1))=Ad p.length (xs.take k)++[((xs.getD k (0,0)).1,(xs.getD k (0,0)).2+(p.length:Int))]:=w e;refine⟨⟨k+1,e⟩,by simp only;omega,AC [(1,.nm 1),(2,.nm 2),(3,.nm 3),(4,.nm 4),(61,.nm 61)] rfl rfl ?_ ?_⟩
   .simp only[g];exact eN
   simp only[g];exact eN
  .rw[n];simp only[AO];omega
  .omega
  have e:xs.take k=xs:=At (Tn.1 b);rw[e];have j:ar++EF p.length l i++[Ad p.length xs]=ar++EF p.length l (i+1):=by
   unfold EF;rw[q,Tt]
  refine⟨⟨i+1,d⟩,by simp only;omega,AC [(1,.nm 1),(2,.nm 2),(3,.nm 3),(4,.nm 4)] rfl rfl ?_ ?_⟩
  .simp only[<-j];exact eN
  exact eN
 have d:i=l.length:=by omega
 subst d;refine Ev.ent (σ':=⟨[],Y5 h (p++Bc p.length l.length) (ty++CQ l l.length) (ar++EF p.length l l.length)⟩) ?_ (AC [(1,.nm 1),(2,.nm 2),(3,.nm 3),(4,.nm 4)] rfl rfl ?_ ?_)
 .exact fM c [] (.raw (.tuple #[])) rfl ⟨rfl,rfl⟩
 .unfold Y5;exact eN
 exact eN
section
attribute [local go_sem] yW
def Bu:List (Int×Int)->List (Int×Int)->List (Int×Int)×List (Int×Int)
 | [],y=>(y,[])
 | a :: x,[]=>(a :: x,[])
 | a :: x,b :: y =>
  if a.1<b.1 then (a :: (Bu x (b :: y)).1,(Bu x (b :: y)).2)
  else if b.1<a.1 then (b :: (Bu (a :: x) y).1,(Bu (a :: x) y).2)
  else (a :: (Bu x y).1,(a.2,b.2) :: (Bu x y).2)
termination_by x y=>x.length+y.length
structure p9 (xs ys:List (Int×Int)) (W0:List (Int×Int)) (s:(List (Int×Int)×List (Int×Int))×(List (Int×Int)×List (Int×Int)×Nat)):Prop where
 hi:s.2.2.2<=s.2.2.1.length
 both:s.2.1++(Bu s.1.1 s.1.2).1=(Bu xs ys).1
 wait:s.2.2.1.take s.2.2.2++(Bu s.1.1 s.1.2).2=W0++(Bu xs ys).2
 len:s.2.1.length+s.1.1.length+s.1.2.length<=xs.length+ys.length
 num:s.2.2.2+s.1.1.length<=W0.length+xs.length
theorem ACX {x y:List (Int×Int)} (h0:0<x.length) (h:y.length=0\/(x.getD 0 (0,0)).1<(y.getD 0 (0,0)).1):Bu x y=(x.getD 0 (0,0) :: (Bu (x.drop 1) y).1,(Bu (x.drop 1) y).2):=by
 cases x with
 | nil=>simp at h0
 | cons a x =>
  cases y with
  | nil =>
   simp only[Yl,UR];cases x<;>simp[Bu]
  | cons b y =>
   have h:a.1<b.1:=by simpa using h
   simp only[Yl,UR];rw[Bu,BY h];rfl
theorem ACY {x y:List (Int×Int)} (h0:0<y.length) (h:x.length=0\/(y.getD 0 (0,0)).1<(x.getD 0 (0,0)).1):Bu x y=(y.getD 0 (0,0) :: (Bu x (y.drop 1)).1,(Bu x (y.drop 1)).2):=by
 cases y with
 | nil=>simp at h0
 | cons b y =>
  cases x with
  | nil=>simp[Bu]
  | cons a x =>
   have h:b.1<a.1:=by simpa using h
   simp only[Yl,UR];rw[Bu,As (by omega),BY h];rfl
theorem A9A {x y:List (Int×Int)} (h0:0<x.length) (h1:0<y.length) (h:(x.getD 0 (0,0)).1=(y.getD 0 (0,0)).1):Bu x y=(x.getD 0 (0,0) :: (Bu (x.drop 1) (y.drop 1)).1,((x.getD 0 (0,0)).2,(y.getD 0 (0,0)).2) :: (Bu (x.drop 1) (y.drop 1)).2):=by
 cases x with
 | nil=>simp at h0
 | cons a x =>
  cases y with
  | nil=>simp at h1
  | cons b y =>
   have h:a.1=b.1:=by simpa using h
   simp only[Yl,UR];rw[Bu,As (by omega),As (by omega)];rfl
section
variable {xs ys W0 x y bo V:List (Int×Int)} {k:Nat}
theorem A9B (h:p9 xs ys W0 ((x,y),bo,V,k)) (h0:0<x.length) (f:y.length=0\/(x.getD 0 (0,0)).1<(y.getD 0 (0,0)).1):p9 xs ys W0 ((x.drop 1,y),bo++[x.getD 0 (0,0)],V,k):=by
 have e:=ACX h0 f;obtain⟨h1,a,b,c,d⟩:=h;simp only at h1 a b c d;rw[e]at a b;exact⟨h1,by rw[Tt];exact a,b,by simp only[A0,GO,UL];omega,by simp only[UL];omega⟩
theorem A9C (h:p9 xs ys W0 ((x,y),bo,V,k)) (h0:0<y.length) (f:x.length=0\/(y.getD 0 (0,0)).1<(x.getD 0 (0,0)).1):p9 xs ys W0 ((x,y.drop 1),bo++[y.getD 0 (0,0)],V,k):=by
 have e:=ACY h0 f;obtain⟨h1,a,b,d,c⟩:=h;simp only at h1 a b d c;rw[e]at a b;exact⟨h1,by rw[Tt];exact a,b,by simp only[A0,GO,UL];omega,c⟩
theorem A7P (h:p9 xs ys W0 ((x,y),bo,V,k)) (h0:0<x.length) (h1:0<y.length) (g:(x.getD 0 (0,0)).1=(y.getD 0 (0,0)).1):p9 xs ys W0 ((x.drop 1,y.drop 1),bo++[x.getD 0 (0,0)],V.take k++[((x.getD 0 (0,0)).2,(y.getD 0 (0,0)).2)],k+1):=by
 have e:=A9A h0 h1 g;obtain⟨c,a,b,d,f⟩:=h;simp only at c a b d f;rw[e]at a b;have i:(V.take k++[((x.getD 0 (0,0)).2,(y.getD 0 (0,0)).2)]).length=k+1:=by simp only[A0,GO,OR];omega
 exact⟨by simp only[i];omega,by rw[Tt];exact a,by simp only;rw[At (by omega),Tt];exact b,by simp only[A0,GO,UL];omega,by simp only[UL];omega⟩
end
def mgO (h:AG) (p ty:List Int) (ar:List (List (Int×Int))) (W:List (Int×Int)) (hi:Nat):List (Nat×Obj) :=
 [(1,.box 111 true [.p ED h,.sr 2 T3 0 p.length,.sr 3 T3 0 ty.length,.sr 4 DC 0 ar.length]),(2,.arr 3 T3 p),(3,.arr 3 T3 ty),(4,.arr 91 DC ar),(5,.box 108 false [.bp 1 [] 0]),(6,.box 173 false [.sr 7 Ri 0 hi]),(7,.arr 172 Ri W)]
theorem A4f (h:AG) (hh:h.1.length<=100000) (H:∀x∈h.1,x.2.1.length<=100000) (p ty:List Int) (ar:List (List (Int×Int))) (W:List (Int×Int)) (hi:Nat) (I:hi<=W.length) (O:hi<=100000000000) {a b:Int} (m:0<=a) (M:a<(p.length:Int)) (o:0<=b) (b1:b<(p.length:Int)) (U:ty.length=p.length) (N:ar.length=p.length)
  (ta:0<=ty.getD a.toNat 0/\ty.getD a.toNat 0<(h.1.length:Int)) (tb:0<=ty.getD b.toNat 0/\ty.getD b.toNat 0<(h.1.length:Int)) (P:(ar.getD a.toNat []).length<=10000000) (Q:(ar.getD b.toNat []).length<=10000000) :
  A9 Tryz.prog 134 [.p T3 a,.p T3 b,.bp 5 [] 0,.bp 6 [] 0] (mgO h p ty ar W hi) [1,5,6]
  (λres A=>((Bq h (ty.getD a.toNat 0) (ty.getD b.toNat 0)).2=false/\res=.p .bool false/\A=mgO h p ty ar W hi) \/
   ((Bq h (ty.getD a.toNat 0) (ty.getD b.toNat 0)).2=true/\res=.p .bool true/\∃n q,q<=n.length/\n.take q=W.take hi++(Bu (ar.getD a.toNat []) (ar.getD b.toNat [])).2 /\
    A=mgO h (p.set b.toNat a) (ty.set a.toNat (Bq h (ty.getD a.toNat 0) (ty.getD b.toNat 0)).1) (ar.set a.toNat (Bu (ar.getD a.toNat []) (ar.getD b.toNat [])).1) n q)):=by
 refine Kh [0,1,2,3,6,7,8,9,10,11,35,71,94,122] [] [] Tryz.func134 Tryz.ntmps134 (AE A7u AH) ?_;intro w0 K O0 ρ0 d R S;have u:a<(ty.length:Int):=by omega
 have C:b<(ty.length:Int):=by omega
 have r:a<(ar.length:Int):=by omega
 have B:b<(ar.length:Int):=by omega
 simp only[mgO,Aq];repeat'(first|exact trivial|apply eS rfl|refine rX d ?_ ?_|refine rC ?_ ?_<;>intro c<;>try(cases c;done))
 .refine⟨⟨m,u⟩,⟨o,C⟩,ta,tb,hh,H⟩
 .refine Ev.ent (σ':=⟨[(6,.p .bool false)],mgO h p ty ar W hi⟩) ?_ (AC [(1,.nm 1),(2,.nm 2),(3,.nm 3),(4,.nm 4),(5,.nm 5),(6,.nm 6),(7,.nm 7)] rfl rfl ?_ ?_)
  .exact fM d [.tmp 6] (.p .bool false) eT (.inl ⟨c,rfl,rfl⟩)
  .unfold mgO;exact eN
  exact eN
 .exact⟨o,b1⟩
 .exact⟨m,u⟩
 .exact⟨⟨m,r⟩,o,B⟩
 generalize T:(Bq h (ty.getD a.toNat 0) (ty.getD b.toNat 0)).1=t at *;generalize X:ar.getD a.toNat []=xs at *;generalize Y:ar.getD b.toNat []=ys at *;refine AJ (ι:={s:(List (Int×Int)×List (Int×Int))×(List (Int×Int)×List (Int×Int)×Nat)//p9 xs ys (W.take hi) s}) (λs=>⟨[(0,.p T3 a),(1,.p T3 b),(2,.bp 5 [] 0),(3,.bp 6 [] 0),(9,.p DC s.1.1.1),(10,.p DC s.1.1.2),(11,.sr 11 AW 0 s.1.2.1.length)],[(1,.box 111 true [.p ED h,.sr 2 T3 0 p.length,.sr 3 T3 0 ty.length,.sr 4 DC 0 ar.length]),(2,.arr 3 T3 (p.set b.toNat a)),(3,.arr 3 T3 (ty.set a.toNat t)),(4,.arr 91 DC ar),(5,.box 108 false [.bp 1 [] 0]),(6,.box 173 false [.sr 7 Ri 0 s.1.2.2.2]),(7,.arr 172 Ri s.1.2.2.1),(11,.arr 106 AW s.1.2.1)]⟩) (λs=>s.1.1.1.length+s.1.1.2.length) ⟨((xs,ys),([],W,hi)),I,rfl,rfl,by simp,by simp only[OR];omega⟩ (eW [(1,.nm 1),(2,.nm 2),(3,.nm 3),(4,.nm 4),(5,.nm 5),(6,.nm 6),(7,.nm 7),(11,.nil)]) (λs=>?_)
 obtain⟨⟨⟨x,y⟩,bo,V,k⟩,i⟩:=s;have J:=i.len;have L:=i.num;have w:=i.hi;simp only[OR]at J L w ⊢;repeat'(first|exact trivial|apply eS rfl|refine rX d ?_ ?_|refine rC ?_ ?_<;>intro c<;>try(cases c;done))
 .refine⟨λh=>?_,λh=>?_⟩
  .rw[An,DO]at h;exact h.2
  rw[An,TO,Uw]at h;have E:=h.1;have l:y.length≠0:=λe=>E (by rw[e];rfl);exact Do.2 (Yf l)
 .have f:0<x.length:=by
   rcases c with c|c
   .omega
   exact Do.1 c.1
  have F:y.length=0\/(x.getD 0 (0,0)).1<(y.getD 0 (0,0)).1:=by
   rcases c with c|c
   .exact .inl (AEf c)
   exact .inr c.2
  refine CL drawsAny d 9 [([0,1,2,3,4],5),([],8)] [6,7] (by kernel_rfl) (LH ?_ ?_)
  .exact⟨Do.2 f,Tn.2 f⟩
  refine Nr d [11] ?_ ?_
  .simp only[AO];omega
  refine LH ?_ ?_
  .exact Tn.2 f
  refine Nr d [] ?_ ?_
  .trivial
  refine Sv d ?_ ?_ ?_
  .exact Tn.2 f
  .trivial
  repeat'(first|apply eS rfl|apply AB)
  exact⟨⟨((x.drop 1,y),bo++[x.getD 0 (0,0)],V,k),A9B i f F⟩,by simp only[UL];omega,eW [(1,.nm 1),(2,.nm 2),(3,.nm 3),(4,.nm 4),(5,.nm 5),(6,.nm 6),(7,.nm 7),(11,.nm 11)]⟩
 .have l:y.length≠0:=λe=>c.1 (by rw[e];rfl);have D:0<y.length:=Yf l;refine⟨λh=>Do.2 D,λh=>?_⟩
  rw[TO,Uw]at h;have l:x.length≠0:=λe=>h (by rw[e];rfl);exact Do.2 (Yf l)
 .have g:0<y.length:=Yf λe=>(by assumption:¬_/\_).1 (by rw[e];rfl);have j:x.length=0\/(y.getD 0 (0,0)).1<(x.getD 0 (0,0)).1:=by
   rcases c with c|c
   .exact .inl (AEf c)
   exact .inr c
  refine CL drawsAny d 9 [([0,1,2,3,4],5),([],8)] [6,7] (by kernel_rfl) (LH ?_ ?_)
  .exact⟨Do.2 g,Tn.2 g⟩
  refine Nr d [11] ?_ ?_
  .simp only[AO];omega
  refine LH ?_ ?_
  .exact Tn.2 g
  refine Nr d [] ?_ ?_
  .trivial
  refine Sv d ?_ ?_ ?_
  .exact Tn.2 g
  .trivial
  repeat'(first|apply eS rfl|apply AB)
  exact⟨⟨((x,y.drop 1),bo++[y.getD 0 (0,0)],V,k),A9C i g j⟩,by simp only[UL];omega,eW [(1,.nm 1),(2,.nm 2),(3,.nm 3),(4,.nm 4),(5,.nm 5),(6,.nm 6),(7,.nm 7),(11,.nm 11)]⟩
 .rename_i j;have f:0<x.length:=Yf λe=>c.1 (by rw[e];rfl);have g:0<y.length:=Yf λe=>j.1 (by rw[e];rfl);refine⟨Do.2 f,Do.2 g,?_⟩;simp only[AO];omega
 .rename_i j;have f:0<x.length:=Yf λe=>c.1 (by rw[e];rfl);have g:0<y.length:=Yf λe=>j.1 (by rw[e];rfl);have G:(x.getD 0 (0,0)).1=(y.getD 0 (0,0)).1:=Int.le_antisymm c.2 (j.2 (Do.2 f));refine CL drawsAny d 12 [([0,1,2,3,4],5),([],10),([6,7],11)] [8,9] (by kernel_rfl) (LH ?_ ?_)
  .exact⟨Do.2 f,Tn.2 f,Tn.2 g⟩
  refine Nr d [11] ?_ ?_
  .simp only[AO];omega
  refine LH ?_ ?_
  .exact⟨Tn.2 f,Tn.2 g⟩
  refine Nr d [] ?_ ?_
  .trivial
  refine LH ?_ ?_
  .exact⟨Tn.2 f,Tn.2 g⟩
  refine Nr d [] ?_ ?_
  .trivial
  refine Sv d ?_ ?_ ?_
  .exact Tn.2 g
  .trivial
  repeat'(first|apply eS rfl|apply AB)
  exact⟨⟨((x.drop 1,y.drop 1),bo++[x.getD 0 (0,0)],V.take k++[((x.getD 0 (0,0)).2,(y.getD 0 (0,0)).2)],k+1),A7P i f g G⟩,by simp only[UL];omega,eW [(1,.nm 1),(2,.nm 2),(3,.nm 3),(4,.nm 4),(5,.nm 5),(6,.nm 6),(7,.nm 7),(11,.nm 11)]⟩
 .exact⟨m,r⟩
 have f:x=[]:=Tv (by omega);have g:y=[]:=Tv (by omega);subst f g;have v:=i.both;have z:=i.wait;simp only[Bu,UF]at v z;refine Ev.ent (σ':=⟨[(6,.p .bool true)],mgO h (p.set b.toNat a) (ty.set a.toNat t) (ar.set a.toNat bo) V k⟩) ?_ (AC [(1,.nm 1),(2,.nm 2),(3,.nm 3),(4,.nm 4),(5,.nm 5),(6,.nm 6),(7,.nm 7)] rfl rfl ?_ ?_)
 .exact fM d [.tmp 6] (.p .bool true) eT (.inr ⟨by assumption,rfl,V,k,w,z,by rw[v];rfl⟩)
 .unfold mgO;simp only[UU];exact eN
 exact eN
end
theorem Oz {h:AG} (hk:Gm h) {a b c:Int} (d:0<=a) (e:a<(h.1.length:Int)) (f:0<=b) (b1:b<(h.1.length:Int)) (c0:0<=c) (c1:c<(h.1.length:Int)) (h1:BB h a b=true) (g:BB h b c=true):BB h a c=true :=
 (CZ hk d e c0 c1).2 λi hi=>(CZ hk d e f b1).1 h1 i ((CZ hk f b1 c0 c1).1 g i hi)
theorem Ql:∀ {x y:List (Int×Int)} {a:Int×Int},a∈x->a∈(Bu x y).1
 | [],_,_,h=>by cases h
 | b :: x,[],a,h=>by simpa[Bu] using h
 | b :: x,c :: y,a,h=>by
  rw[Bu];split
  .rcases By.1 h with rfl|h
   .simp
   exact NO _ (Ql h)
  split
  .exact NO _ (Ql h)
  rcases By.1 h with rfl|h
  .simp
  exact NO _ (Ql h)
termination_by x y=>x.length+y.length
theorem NG:∀ {x y:List (Int×Int)} {a:Int×Int},a∈y->a∈(Bu x y).1\/∃t,(a.1,t)∈(Bu x y).1/\(t,a.2)∈(Bu x y).2
 | [],y,a,h=>by
  left;simpa[Bu] using h
 | b :: x,[],a,h=>by cases h
 | b :: x,c :: y,a,h=>by
  rw[Bu];split
  .rcases NG (x:=x) h with g|⟨t,d,e⟩
   .exact .inl (NO _ g)
   exact .inr ⟨t,NO _ d,e⟩
  split
  .rcases By.1 h with rfl|h
   .left;simp
   rcases NG (x:=b :: x) h with g|⟨t,d,e⟩
   .exact .inl (NO _ g)
   exact .inr ⟨t,NO _ d,e⟩
  rcases By.1 h with rfl|h
  .right;exact⟨b.2,by rw[show a.1=b.1 by omega];simp,by simp⟩
  rcases NG (x:=x) h with g|⟨t,d,e⟩
  .exact .inl (NO _ g)
  exact .inr ⟨t,NO _ d,NO _ e⟩
termination_by x y=>x.length+y.length
theorem I8:∀ {x y:List (Int×Int)} {a:Int×Int},a∈(Bu x y).1->a∈x\/a∈y
 | [],y,a,h=>by
  right;simpa[Bu] using h
 | b :: x,[],a,h=>by
  left;simpa[Bu] using h
 | b :: x,c :: y,a,h=>by
  rw[Bu]at h;split at h
  .rcases By.1 h with rfl|h
   .left;simp
   rcases I8 h with g|g
   .exact .inl (NO _ g)
   exact .inr g
  split at h
  .rcases By.1 h with rfl|h
   .right;simp
   rcases I8 h with g|g
   .exact .inl g
   exact .inr (NO _ g)
  rcases By.1 h with rfl|h
  .left;simp
  rcases I8 h with g|g
  .exact .inl (NO _ g)
  exact .inr (NO _ g)
termination_by x y=>x.length+y.length
theorem Qm:∀ {x y:List (Int×Int)} {q:Int×Int},q∈(Bu x y).2->∃e,(e,q.1)∈x/\(e,q.2)∈y
 | [],y,q,h=>by simp[Bu]at h
 | b :: x,[],q,h=>by simp[Bu]at h
 | b :: x,c :: y,q,h=>by
  rw[Bu]at h;split at h
  .obtain⟨e,h1,a⟩:=Qm h;exact⟨e,NO _ h1,a⟩
  split at h
  .obtain⟨e,h1,a⟩:=Qm h;exact⟨e,h1,NO _ a⟩
  rcases By.1 h with rfl|h
  .exact⟨b.1,by simp,by rw[show b.1=c.1 by omega];simp⟩
  obtain⟨e,h1,a⟩:=Qm h;exact⟨e,NO _ h1,NO _ a⟩
termination_by x y=>x.length+y.length
theorem Qn:∀ {x y:List (Int×Int)},(Bu x y).2.length<=x.length
 | [],y=>by simp[Bu]
 | b :: x,[]=>by simp[Bu]
 | b :: x,c :: y=>by
  rw[Bu];split
  .have:=Qn (x:=x) (y:=c :: y);simp only[OS];omega
  split
  .exact Qn (x:=b :: x) (y:=y)
  have:=Qn (x:=x) (y:=y);simp only[OS];omega
termination_by x y=>x.length+y.length
abbrev N0 (l:List (Int×Int)):Prop:=l.Pairwise (λa b=>a.1<b.1)
theorem VW:∀ {x y:List (Int×Int)},N0 x->N0 y->N0 (Bu x y).1
 | [],y,_,h=>by simpa[Bu] using h
 | b :: x,[],h,_=>by simpa[Bu] using h
 | b :: x,c :: y,i,j=>by
  have d:=UM.1 i;have e:=UM.1 j;rw[Bu];split
  .rename_i f;refine UM.2 ⟨λa ha=>?_,VW d.2 j⟩;rcases I8 ha with g|g
   .exact d.1 a g
   rcases By.1 g with rfl|g
   .exact f
   have:=e.1 a g;omega
  split
  .rename_i f;refine UM.2 ⟨λa ha=>?_,VW i e.2⟩;rcases I8 ha with g|g
   .rcases By.1 g with rfl|g
    .exact f
    have:=d.1 a g;omega
   exact e.1 a g
  refine UM.2 ⟨λa ha=>?_,VW d.2 e.2⟩;rcases I8 ha with g|g
  .exact d.1 a g
  have:=e.1 a g;omega
termination_by x y=>x.length+y.length
theorem A7Q {p:List Int} {o:Int->Nat} (hp:Fo p o) {a b:Int} (j:0<=a) (c:0<=b) (b1:b<(p.length:Int)) (ha:D5 p a=a) (k:D5 p b=b) (f:a≠b) {x r:Int} (d:0<=x) (q:x<(p.length:Int)) (h:Rt p x r):Rt (p.set b.toNat a) x (if r=b then a else r):=by
 have l:Rt (p.set b.toNat a) a a:=.base (by rw[Cs c b1 a j,As f];exact ha);induction h with
 | @base n hn =>
  split
  .rename_i e;rw[e];exact .step (by rw[Cs c b1 b c,BY rfl];exact f) (by rw[Cs c b1 b c,BY rfl];exact l)
  rename_i e;exact .base (by rw[Cs c b1 n d,As e];exact hn)
 | @step n r hn _ m =>
  have g:n≠b:=λe=>hn (e▸k);have i:=hp.rng n d q;exact .step (by rw[Cs c b1 n d,As g];exact hn) (by rw[Cs c b1 n d,As g];exact m i.1 i.2)
theorem A7R {p:List Int} {c:Int->Nat} (hp:Fo p c) {a b:Int} (h:0<=a) (i:a<(p.length:Int)) (d:0<=b) (b1:b<(p.length:Int)) (ha:D5 p a=a) (l:D5 p b=b) (k:a≠b):∃o,Fo (p.set b.toNat a) o:=by
 classical
 refine⟨λx=>if Rt p x b then c x+c a+1 else c x,λn n0 n1=>?_,λn n0 n1 hn=>?_⟩
 .rw[UU]at n1 ⊢;rw[Cs d b1 n n0];split
  .exact⟨h,i⟩
  exact hp.rng n n0 n1
 rw[UU]at n1;rw[Cs d b1 n n0]at hn ⊢;by_cases e:n=b
 .subst e;rw[BY rfl];have h1:¬Rt p a n:=λg=>k (g.det (.base ha)).symm;rw[As h1,BY (.base l)];omega
 rw[As e]at hn ⊢;have m:=hp.dec n n0 n1 hn;have f:Rt p n b↔Rt p (D5 p n) b:=by
  constructor
  .intro g;cases g with
   | base g=>exact absurd g hn
   | step _ g=>exact g
  exact λg=>.step hn g
 by_cases g:Rt p n b
 .rw[BY g,BY (f.1 g)];omega
 rw[As g,As (λj=>g (f.2 j))];exact m
inductive EG (n:Nat) (p:List Int) (W:List (Int×Int)):Int->Int->Prop
 | cls {x y r:Int} (x0:0<=x) (x1:x<(n:Int)) (y0:0<=y) (y1:y<(n:Int)) (h:Rt p x r) (g:Rt p y r):EG n p W x y
 | wt {x y:Int} (h:(x,y)∈W):EG n p W x y
 | symm {x y:Int} (h:EG n p W x y):EG n p W y x
 | trans {x y z:Int} (h:EG n p W x y) (g:EG n p W y z):EG n p W x z
theorem EG.mono {n:Nat} {p q:List Int} {W V:List (Int×Int)} (h1:∀x y r,0<=x->x<(n:Int)->0<=y->y<(n:Int)->Rt p x r->Rt p y r->EG n q V x y) (a:∀x y,(x,y)∈W->EG n q V x y) {x y:Int} (h:EG n p W x y):EG n q V x y:=by
 induction h with
 | cls e f i j h g=>exact h1 _ _ _ e f i j h g
 | wt h=>exact a _ _ h
 | symm _ b=>exact .symm b
 | trans _ _ c d=>exact .trans c d
structure eL (h:AG) (N:List AD) (P:List (Int×Int)) (X:List AD) (v:Int->Int):Prop where
 rng:∀x,0<=x->x<(N.length:Int)->0<=v x/\v x<(X.length:Int)
 ty:∀x,0<=x->x<(N.length:Int)->BB h (N.getD x.toNat (0,[])).1 (X.getD (v x).toNat (0,[])).1=true
 arc:∀x,0<=x->x<(N.length:Int)->∀a∈AU N x,BK (AU X (v x)) a.1=v a.2
 eq:∀q∈P,v q.1=v q.2
structure JX (h:AG) (X:List AD) (v:Int->Int) (n:Nat) (p ty:List Int) (ar:List (List (Int×Int))) (W:List (Int×Int)):Prop where
 cls:∀x r,0<=x->x<(n:Int)->Rt p x r->v x=v r
 wt:∀w∈W,v w.1=v w.2
 ty:∀r,0<=r->r<(n:Int)->D5 p r=r->BB h (ty.getD r.toNat 0) (X.getD (v r).toNat (0,[])).1=true
 arc:∀r,0<=r->r<(n:Int)->D5 p r=r->∀a∈ar.getD r.toNat [],BK (AU X (v r)) a.1=v a.2
def Cq (N:List AD):List Int:=N.flatMap λx=>x.2.map (·.1)
structure JI (h:AG) (N:List AD) (P:List (Int×Int)) (p ty:List Int) (ar:List (List (Int×Int))) (W:List (Int×Int)):Prop where
 nty:CP h N
 fo:∃rk,Fo p rk
 lp:p.length=N.length
 lt:ty.length=N.length
 la:ar.length=N.length
 wr:∀w∈W,(0<=w.1/\w.1<(N.length:Int))/\(0<=w.2/\w.2<(N.length:Int))
 tyr:∀x,0<=x->x<(N.length:Int)->0<=ty.getD x.toNat 0/\ty.getD x.toNat 0<(h.1.length:Int)
 arr:∀k,∀a∈ar.getD k [],(0<=a.2/\a.2<(N.length:Int))/\a.1∈Cq N
 srt:∀k,N0 (ar.getD k [])
 sp:∀q∈P,EG N.length p W q.1 q.2
 st:∀x r,0<=x->x<(N.length:Int)->Rt p x r->BB h (N.getD x.toNat (0,[])).1 (ty.getD r.toNat 0)=true
 sa:∀x r,0<=x->x<(N.length:Int)->Rt p x r->∀a∈AU N x,∃t,(a.1,t)∈ar.getD r.toNat []/\EG N.length p W a.2 t
 co:∀X v,CP h X->eL h N P X v->JX h X v N.length p ty ar W
theorem Fx {p:List Int} {a:Int->Nat} (hp:Fo p a) {x r:Int} (c:0<=x) (d:x<(p.length:Int)) (h:Rt p x r):0<=r/\r<(p.length:Int):=by
 obtain⟨s,hs,b,s1⟩:=hp.root c d;rw[h.det hs];exact⟨b,s1⟩
theorem SA {p q:List Int} (h:EZ p q) {r:Int} (a:0<=r) (b:r<(p.length:Int)):D5 p r=r↔D5 q r=r :=
 ⟨λe=>((h.2 r r a b).1 (.base e)).root,λe=>((h.2 r r a b).2 (.base e)).root⟩
theorem A7S {h:AG} {N:List AD} {P:List (Int×Int)} {p q ty:List Int} {ar:List (List (Int×Int))} {W:List (Int×Int)} (hs:EZ p q) (j:∃z,Fo q z) (u:JI h N P p ty ar W):JI h N P q ty ar W:=by
 obtain⟨nty,fo,lp,lt,la,wr,tyr,arr,srt,sp,st,sa,co⟩:=u;have i:∀x r,0<=x->x<(N.length:Int)->(Rt p x r↔Rt q x r):=λx r b c=>hs.2 x r b (by rw[lp];exact c);have s:∀ {x y},EG N.length p W x y->EG N.length q W x y:=λ{x y} g=>g.mono (λx y r b c k l h1 o=>.cls b c k l ((i x r b c).1 h1) ((i y r k l).1 o)) (λ_ _ h=>.wt h);refine⟨nty,j,by rw[<-hs.1];exact lp,lt,la,wr,tyr,arr,srt,λq j=>s (sp q j),λx r b c d=>st x r b c ((i x r b c).2 d),λx r b c d a ha=>?_,λX v t w=>?_⟩
 .grind
 obtain⟨c1,c2,m,n⟩:=co X v t w;exact⟨λx r b c d=>c1 x r b c ((i x r b c).2 d),c2,λr e f d=>m r e f ((SA hs e (by rw[lp];exact f)).2 d),λr e f d=>n r e f ((SA hs e (by rw[lp];exact f)).2 d)⟩
section
variable {h:AG} {N:List AD} {P:List (Int×Int)} {p ty:List Int} {ar:List (List (Int×Int))} {W:List (Int×Int)} {s t a b:Int}
theorem eO (n:JI h N P p ty ar (W++[(s,t)])) (hs:Rt p s a) (u:Rt p t a):JI h N P p ty ar W:=by
 obtain⟨nty,fo,lp,lt,la,wr,tyr,arr,srt,sp,st,sa,co⟩:=n;have b:=wr (s,t) (by simp);have l:∀ {x y},EG N.length p (W++[(s,t)]) x y->EG N.length p W x y:=λ{x y} g=>g.mono (λx y r d f A B h1 k=>.cls d f A B h1 k) (λx y c=>by
  rcases IF.1 c with c|c
  .exact .wt c
  have e:(x,y)=(s,t):=by simpa using c
  cases e;exact .cls b.1.1 b.1.2 b.2.1 b.2.2 hs u)
 refine⟨nty,fo,lp,lt,la,λw b=>wr w (UK _ b),tyr,arr,srt,λq o=>l (sp q o),st,λx r d f C a ha=>?_,λX v m z=>?_⟩
 .grind
 obtain⟨c1,c2,i,j⟩:=co X v m z;exact⟨c1,λw b=>c2 w (UK _ b),i,j⟩
theorem VX (hk:Gm h) (c:JI h N P p ty ar (W++[(s,t)])) (hs:Rt p s a) (g:Rt p t b) {X:List AD} {v:Int->Int} (o:CP h X) (q:eL h N P X v) :
  v a=v b/\(Bq h (ty.getD a.toNat 0) (ty.getD b.toNat 0)).2=true/\BB h (Bq h (ty.getD a.toNat 0) (ty.getD b.toNat 0)).1 (X.getD (v a).toNat (0,[])).1=true:=by
 obtain⟨D,fo⟩:=c.fo;obtain⟨⟨i,s1⟩,j,l⟩:=c.wr (s,t) (by simp);simp only at i s1 j l;have d:=Fx fo i (by rw[c.lp];exact s1) hs;have f:=Fx fo j (by rw[c.lp];exact l) g;rw[c.lp]at d f;obtain⟨c1,c2,m,B⟩:=c.co X v o q;have u:=c1 s a i s1 hs;have w:=c1 t b j l g;have x:v s=v t:=c2 (s,t) (by simp);have e:v a=v b:=by rw[<-u,<-w,x]
 have y:=m a d.1 d.2 hs.root;have n:=m b f.1 f.2 g.root;rw[<-e]at n;have C:=q.rng a d.1 d.2;have r:=o _ (AF X (0,[]) (k:=(v a).toNat) (by omega));have ta:=c.tyr a d.1 d.2;have tb:=c.tyr b f.1 f.2;obtain⟨z,A⟩:=(MF hk ta.1 ta.2 tb.1 tb.2).2 _ r.1 r.2 y n;exact⟨e,z,A⟩
theorem aR {α:Type} {l:List α} {d v:α} {a r:Int} (b:0<=a) (c:a<(l.length:Int)) (e:0<=r):(l.set a.toNat v).getD r.toNat d=if r=a then v else l.getD r.toNat d:=by grind
theorem Xm (hk:Gm h) (ae:JI h N P p ty ar (W++[(s,t)])) (hs:Rt p s a) (L:Rt p t b) (Y:a≠b) (al:(Bq h (ty.getD a.toNat 0) (ty.getD b.toNat 0)).2=true) :
  JI h N P (p.set b.toNat a) (ty.set a.toNat (Bq h (ty.getD a.toNat 0) (ty.getD b.toNat 0)).1) (ar.set a.toNat (Bu (ar.getD a.toNat []) (ar.getD b.toNat [])).1) (W++(Bu (ar.getD a.toNat []) (ar.getD b.toNat [])).2):=by
 have am:=λX v J M=>VX (X:=X) (v:=v) hk ae hs L J M;obtain⟨nty,⟨bb,fo⟩,lp,lt,la,wr,tyr,arr,srt,sp,st,sa,co⟩:=ae;obtain⟨⟨Q,s1⟩,R,S⟩:=wr (s,t) (by simp);simp only at Q s1 R S;have n:=Fx fo Q (by rw[lp];exact s1) hs;have A:=Fx fo R (by rw[lp];exact S) L;have ha:=hs.root;have Z:=L.root;have F:=λ{x r:Int} (c:0<=x) (i:x<(N.length:Int)) (O:Rt p x r)=>A7Q fo n.1 A.1 A.2 ha Z Y c (by rw[lp];exact i) O;have aa:∀ {x r:Int},0<=x->x<(N.length:Int)->Rt (p.set b.toNat a) x r->∃j,Rt p x j/\r=if j=b then a else j:=λ{x r} c i O=>by
  obtain⟨j,h1,-,-⟩:=fo.root c (by rw[lp];exact i);exact⟨j,h1,O.det (F c i h1)⟩
 have ta:=tyr a n.1 (by rw[<-lp];exact n.2);have tb:=tyr b A.1 (by rw[<-lp];exact A.2);obtain⟨ax,ay,az,ba⟩:=(MF hk ta.1 ta.2 tb.1 tb.2).1 al;generalize aq:(Bq h (ty.getD a.toNat 0) (ty.getD b.toNat 0)).1=m at *;generalize ag:ar.getD a.toNat []=xs at *;generalize ah:ar.getD b.toNat []=ys at *;have ao:EG N.length (p.set b.toNat a) (W++(Bu xs ys).2) s t:=by
  have h1:=F Q s1 hs;have I:=F R S L;rw[As Y]at h1;rw[BY rfl]at I;exact .cls Q s1 R S h1 I
 have E:∀ {x y},EG N.length p (W++[(s,t)]) x y->EG N.length (p.set b.toNat a) (W++(Bu xs ys).2) x y:=λ{x y} g=>g.mono (λx y r c i aj ak h1 I=>.cls c i aj ak (F c i h1) (F aj ak I)) (λx y G=>by
  rcases IF.1 G with G|G
  .exact .wt (UK _ G)
  have e:(x,y)=(s,t):=by simpa using G
  cases e;exact ao)
 have av:=λ{r:Int} (D:0<=r)=>aR (l:=ty) (d:=0) (v:=m) n.1 (by rw[lt,<-lp];exact n.2) D;have K:=λ{r:Int} (D:0<=r)=>aR (l:=ar) (d:=[]) (v:=(Bu xs ys).1) n.1 (by rw[la,<-lp];exact n.2) D;refine⟨nty,A7R fo n.1 n.2 A.1 A.2 ha Z Y,by rw[UU];exact lp,by rw[UU];exact lt,by rw[UU];exact la,λw o=>?_,λx c i=>?_,λk y C=>?_,λk=>?_,λq an=>E (sp q an),λx r c i z=>?_,λx r c i z y C=>?_,λX v J M=>?_⟩
 .rcases IF.1 o with o|o
  .exact wr w (UK _ o)
  grind [Qm]
 .grind
 .have h1:=K (r:=(k:Int)) (by omega);rw[To]at h1;rw[h1]at C;split at C
  .grind [I8]
  exact arr _ _ C
 .have h1:=K (r:=(k:Int)) (by omega);rw[To]at h1;rw[h1];split
  .grind [VW]
  exact srt k
 .obtain⟨j,h1,rfl⟩:=aa c i z;have O:=nty _ (AF N (0,[]) (k:=x.toNat) (by omega));have af:=Fx fo c (by rw[lp];exact i) h1;by_cases e:j=b
  .grind [Oz]
  grind [Oz]
 .obtain⟨j,h1,rfl⟩:=aa c i z;have af:=Fx fo c (by rw[lp];exact i) h1;obtain⟨u,H,T⟩:=sa x j c i h1 y C;by_cases e:j=b
  .rw[BY e,K n.1,BY rfl];rw[e,ah]at H;rcases NG (x:=xs) H with g|⟨w,U,V⟩
   .exact⟨u,g,E T⟩
   exact⟨w,U,.trans (E T) (.symm (.wt (Yu _ V)))⟩
  rw[As e,K af.1];split
  .rename_i B;rw[B,ag]at H;exact⟨u,Ql H,E T⟩
  exact⟨u,H,E T⟩
 obtain⟨c1,c2,ap,ab⟩:=co X v J M;obtain⟨e,-,aw⟩:=am X v J M;have au:∀r,0<=r->r<(N.length:Int)->D5 (p.set b.toNat a) r=r->r≠b/\D5 p r=r:=λr D ai z=>by grind [Cs]
 refine⟨λx r c i z=>?_,λw o=>?_,λr D ai z=>?_,λr D ai z y C=>?_⟩
 .obtain⟨j,h1,rfl⟩:=aa c i z;have:=c1 x j c i h1;split
  .rename_i B;rw[this,B,e]
  exact this
 .rcases IF.1 o with o|o
  .exact c2 w (UK _ o)
  obtain⟨f,ad,B⟩:=Qm o;rw[<-ag]at ad;rw[<-ah]at B;have U:=ab a n.1 (by rw[<-lp];exact n.2) ha _ ad;have V:=ab b A.1 (by rw[<-lp];exact A.2) Z _ B;rw[<-U,<-V,e]
 .grind
 grind [I8]
end
theorem kS {l:List Nat} {f g:Nat->Bool} {b:Nat} (hn:l.Nodup) (c:b∈l) (h1:f b=true) (d:g b=false) (h:∀x∈l,x≠b->g x=f x):(l.filter g).length+1=(l.filter f).length:=by
 induction l with
 | nil=>cases c
 | cons x l m =>
  obtain⟨k,j⟩:=US.1 hn;by_cases e:x=b
  .subst e;have:l.filter g=l.filter f:=List.filter_congr λy a=>h y (by simp[a]) (λe=>k (e▸a));rw[Ue,Ue,As (by rw[d];simp),BY h1,this];rfl
  have i:b∈l:=by
   rcases By.1 c with g|g
   .exact absurd g.symm e
   exact g
  have n:=m j i (λy a=>h y (by simp[a]));rw[Ue,Ue,h x (by simp) e];split
  .simp only[OS];omega
  exact n
def nR (p:List Int):Nat:=((List.range p.length).filter λk=>p.getD k 0==(k:Int)).length
theorem ACZ (p:List Int):nR p<=p.length:=by
 have:=Ul (λk=>p.getD k 0==(k:Int)) (List.range p.length);rw[ADf]at this;exact this
theorem zE {p q:List Int} (h:EZ p q):nR q=nR p:=by
 unfold nR;rw[<-h.1];refine Uu List.length (List.filter_congr λk hk=>?_);have a:=Tx.1 hk;have:=SA h (r:=(k:Int)) (by omega) (by omega);unfold D5 at this;rw[To]at this;rw[ADd,UP,UP];exact this.symm
theorem zF {p:List Int} {a b:Int} (d:0<=b) (b1:b<(p.length:Int)) (c:D5 p b=b) (e:a≠b):nR (p.set b.toNat a)+1=nR p:=by
 unfold nR;rw[UU];refine kS (b:=b.toNat) List.nodup_range (Tx.2 (by omega)) ?_ ?_ λx _ f=>?_
 .rw[UP];unfold D5 at c;omega
 .rw[ZK _ _ _ (by omega),Uw];omega
 rw[getD_set_ne _ _ _ (by omega)]
theorem SB {α:Type} [DecidableEq α]:∀ {l l':List α},l.Nodup->(∀x∈l,x∈l')->l.length<=l'.length
 | [],_,_,_=>by simp
 | x :: l,l',hn,h=>by
  obtain⟨d,c⟩:=US.1 hn;have a:=h x (by simp);have:=SB (l:=l) (l':=l'.erase x) c (λy b=>(ADS (λe:y=x=>d (by rw[<-e];exact b))).2 (h y (by simp[b])));rw[List.length_erase_of_mem a]at this;have:=List.length_pos_of_mem a;simp only[OS];omega
theorem eQ {l:List (Int×Int)} (h:N0 l) {S:List Int} (hs:∀a∈l,a.1∈S):l.length<=S.length:=by
 have hn:(l.map (·.1)).Nodup:=by
  unfold List.Nodup;rw[Uz];exact h.imp λg=>by omega
 have:=SB hn (l':=S) (λx b=>by
  obtain⟨a,ha,rfl⟩:=If.1 b;exact hs a ha)
 rwa [OF]at this
theorem Xn {h:AG} {N:List AD} {P:List (Int×Int)} {p ty:List Int} {ar:List (List (Int×Int))} (t:JI h N P p ty ar []) {a b:Int} (ha:0<=a/\a<(N.length:Int)) (s:0<=b/\b<(N.length:Int)):JI h N (P++[(a,b)]) p ty ar [(a,b)]:=by
 obtain⟨nty,fo,lp,lt,la,wr,tyr,arr,srt,sp,st,sa,co⟩:=t;have l:∀ {x y},EG N.length p [] x y->EG N.length p [(a,b)] x y:=λ{x y} g=>g.mono (λx y r j k C D h1 f=>.cls j k C D h1 f) (λx y A=>by cases A);refine⟨nty,fo,lp,lt,la,λw i=>?_,tyr,arr,srt,λq c=>?_,st,λx r j k z y B=>?_,λX v o d=>?_⟩
 .have e:w=(a,b):=by simpa using i
  subst e;exact⟨ha,s⟩
 .rcases IF.1 c with c|c
  .exact l (sp q c)
  have e:q=(a,b):=by simpa using c
  subst e;exact .wt (by simp)
 .obtain⟨u,h1,f⟩:=sa x r j k z y B;exact⟨u,h1,l f⟩
 obtain⟨c1,c2,m,n⟩:=co X v o ⟨d.rng,d.ty,d.arc,λq c=>d.eq q (UK _ c)⟩;refine⟨c1,λw i=>?_,m,n⟩;have e:w=(a,b):=by simpa using i
 subst e;exact d.eq _ (by simp)
def aU (h:AG) (p ty:List Int) (ar:List (List (Int×Int))):List (Nat×Obj):=[(101,.box 111 true [.p ED h,.sr 102 T3 0 p.length,.sr 103 T3 0 ty.length,.sr 104 DC 0 ar.length]),(102,.arr 3 T3 p),(103,.arr 3 T3 ty),(104,.arr 91 DC ar)]
theorem eU (h:AG) (hk:Gm h) {N:List AD} {P:List (Int×Int)} {p ty:List Int} {ar:List (List (Int×Int))} (Y:JI h N P p ty ar []) {a b:Int} (ha:0<=a/\a<(N.length:Int)) (ah:0<=b/\b<(N.length:Int)) (af:N.length<=10000) (hF:(Cq N).length<=1000000) :
  A9 Tryz.prog 86 [.bp 101 [] 0,.p T3 a,.p T3 b] (aU h p ty ar) [101]
  (λres M=>(res=.p .bool true/\∃B H u,M=aU h B H u/\JI h N (P++[(a,b)]) B H u [])\/(res=.p .bool false/\(∃B H u,M=aU h B H u)/\∀X v,CP h X->¬eL h N (P++[(a,b)]) X v)):=by
 refine Kh [0,1,2,3,6,7,8,9,10,11,19,48] [] [] Tryz.func86 Tryz.ntmps86 AH ?_;intro w0 K O0 ρ0 f ba bb;have hh:h.1.length<=100000:=Tp hk.2 (by omega);have ai:∀x∈h.1,x.2.1.length<=100000:=λx av=>Tp (hk.1.wid x.2.1 (If.2 ⟨x,av,rfl⟩)) (by omega);have aj:=Xn Y ha ah;generalize az:P++[(a,b)]=Q at *;have ay:N.length*((Cq N).length+1)<=10000*1000001:=Nat.mul_le_mul af (by omega);simp only[aU,Aq];repeat'(first|exact trivial|apply eS rfl|refine rX f ?_ ?_)
 refine AJ (ι:={s:(List Int×List Int×List (List (Int×Int)))×(List (Int×Int)×Nat)//JI h N Q s.1.1 s.1.2.1 s.1.2.2 (s.2.1.take s.2.2)/\s.2.2<=s.2.1.length/\nR s.1.1*((Cq N).length+1)+s.2.2<=N.length*((Cq N).length+1)+1}) (λs=>⟨[(3,.bp 3 [] 0),(7,.bp 7 [] 0),(8,.clo 134 [3,7])],[(101,.box 111 true [.p ED h,.sr 102 T3 0 s.1.1.1.length,.sr 103 T3 0 s.1.1.2.1.length,.sr 104 DC 0 s.1.1.2.2.length]),(102,.arr 3 T3 s.1.1.1),(103,.arr 3 T3 s.1.1.2.1),(104,.arr 91 DC s.1.1.2.2),(3,.box 108 false [.bp 101 [] 0]),(7,.box 173 false [.sr 15 Ri 0 s.1.2.2]),(15,.arr 172 Ri s.1.2.1)]⟩) (λs=>nR s.1.1.1*((Cq N).length+1)+s.1.2.2) ⟨((p,ty,ar),([(a,b)],1)),aj,by simp,by have:=UB ((Cq N).length+1) (ACZ p);rw[Y.lp]at this;simp only;omega⟩ (eW [(101,.nm 101),(102,.nm 102),(103,.nm 103),(104,.nm 104),(3,.nm 3),(7,.nm 7),(15,.nm 15)]) (λs=>?_)
 obtain⟨⟨⟨q,d,aq⟩,V,k⟩,l,ak,ae⟩:=s;simp only at l ak ae ⊢;repeat'(first|exact trivial|apply eS rfl|refine rX f ?_ ?_|refine rC ?_ ?_<;>intro j<;>try(cases j;done))
 .exact eV
 .exact eV
 .have Z:0<k:=Do.1 j;have al:((k:Int)-1).toNat=k-1:=by omega
  have U:=Ax V (0,0) (k:=k-1) (by omega);rw[show k-1+1=k by omega]at U;rw[al];generalize bd:V.getD (k-1) (0,0)=st at *;obtain⟨s,t⟩:=st;rw[U]at l;obtain⟨⟨D,s1⟩,F,G⟩:=l.wr (s,t) (by simp);simp only at D s1 F G;obtain⟨O,fo⟩:=l.fo;have C:=l.lp;refine CL drawsAny f 8 [([0,1,2],3),([4,5,6],7)] [] (by kernel_rfl) (LH ?_ ?_)
  .trivial
  refine mxC f (eK h d aq O fo D (by rw[C];exact s1)) [(1,.nm 101),(2,.nm 102),(3,.nm 103),(4,.nm 104)] [102,103,104] ?_ ?_ ?_
  .exact eN
  .simp only[Y5];exact eN
  rintro _ _ ⟨ab,c,rfl,rfl,ad,E,aw⟩;refine⟨[(101,.nm 1),(102,.nm 2),(103,.nm 3),(104,.nm 4)],.p T3 c,[(101,.box 111 true [.p ED h,.sr 102 T3 0 ab.length,.sr 103 T3 0 d.length,.sr 104 DC 0 aq.length]),(102,.arr 3 T3 ab),(103,.arr 3 T3 d),(104,.arr 91 DC aq)],rfl,rfl,?_,?_,rfl,rfl,rfl,?_⟩
  .simp only[Y5];exact eN
  .exact eN
  refine LH ?_ ?_
  .trivial
  refine mxC f (eK h d aq O ad F (by rw[<-E.1,C];exact G)) [(1,.nm 101),(2,.nm 102),(3,.nm 103),(4,.nm 104)] [102,103,104] ?_ ?_ ?_
  .exact eN
  .simp only[Y5];exact eN
  rintro _ _ ⟨g,e,rfl,rfl,J,S,ax⟩;refine⟨[(101,.nm 1),(102,.nm 2),(103,.nm 3),(104,.nm 4)],.p T3 e,[(101,.box 111 true [.p ED h,.sr 102 T3 0 g.length,.sr 103 T3 0 d.length,.sr 104 DC 0 aq.length]),(102,.arr 3 T3 g),(103,.arr 3 T3 d),(104,.arr 91 DC aq)],rfl,rfl,?_,?_,rfl,rfl,rfl,?_⟩
  .simp only[Y5];exact eN
  .exact eN
  refine Sv f ?_ ?_ ?_
  .trivial
  .trivial
  repeat' apply eS rfl
  have i:=A7S (E.trans S) ⟨O,J⟩ l;have R:=E.trans S;have A:=(R.2 s c D (by rw[C];exact s1)).1 aw;have o:=(S.2 t e F (by rw[<-E.1,C];exact G)).1 ax;have n:=i.lp;have w:=Fx J D (by rw[n];exact s1) A;have m:=Fx J F (by rw[n];exact G) o;refine evP f 4 ?_ ?_
  .trivial
  by_cases z:c=e
  .subst z;rw[show (c != c)=false from bne_self_eq_false c];refine rL f ?_ ?_
   .trivial
   repeat'(first|apply eS rfl|apply AB|refine rC ?_ ?_<;>intro j<;>try(cases j;done))
   have y:=eO i A o;have hn:=zE R;exact⟨⟨((g,d,aq),V,k-1),y,by simp only;omega,by simp only;rw[hn];omega⟩,by simp only;rw[hn];omega,eW [(101,.nm 101),(102,.nm 102),(103,.nm 103),(104,.nm 104),(3,.nm 3),(7,.nm 7),(15,.nm 15)]⟩
  rw[show (c != e)=true by simpa using z];refine rN 3 f ?_ ?_
  .trivial
  have L:=λr:Int=>eQ (i.srt r.toNat) (λa ha=>(i.arr r.toNat a ha).2);refine clG f (A4f h hh ai g d aq V (k-1) (by omega) (by omega) w.1 w.2 m.1 m.2 (by rw[i.lt,n]) (by rw[i.la,n]) (i.tyr c w.1 (by rw[<-n];exact w.2)) (i.tyr e m.1 (by rw[<-n];exact m.2)) (Tp (L c) (by omega)) (Tp (L e) (by omega))) [(1,.nm 101),(2,.nm 102),(3,.nm 103),(4,.nm 104),(5,.nm 3),(6,.nm 7),(7,.nm 15)] [102,103,104,15] ?_ ?_ ?_
  .exact eN
  .simp only[mgO];exact eN
  rintro res M (⟨I,rfl,rfl⟩|⟨I,rfl,T,W,ap,aa,rfl⟩)
  .refine⟨[(101,.nm 1),(102,.nm 2),(103,.nm 3),(104,.nm 4),(3,.nm 5),(7,.nm 6),(15,.nm 7)],.p .bool false,[(101,.box 111 true [.p ED h,.sr 102 T3 0 g.length,.sr 103 T3 0 d.length,.sr 104 DC 0 aq.length]),(102,.arr 3 T3 g),(103,.arr 3 T3 d),(104,.arr 91 DC aq),(3,.box 108 false [.bp 101 [] 0]),(7,.box 173 false [.sr 15 Ri 0 (k-1)]),(15,.arr 172 Ri V)],rfl,rfl,?_,?_,rfl,rfl,?_⟩
   .simp only[mgO];exact eN
   .exact eN
   refine rL f ?_ ?_
   .trivial
   repeat'(first|exact trivial|apply eS rfl|refine rX f ?_ ?_|refine rC ?_ ?_<;>intro j<;>try(cases j;done))
   refine Ev.ent (σ':=⟨[(6,.p .bool false)],aU h g d aq⟩) ?_ (AC [(101,.nm 101),(102,.nm 102),(103,.nm 103),(104,.nm 104)] rfl rfl ?_ ?_)
   .exact fM f [.tmp 6] (.p .bool false) eT (.inr ⟨rfl,⟨g,d,aq,rfl⟩,λX v ag ao=>by
     have:=(VX hk i A o ag ao).2.1;rw[I]at this;cases this⟩)
   .unfold aU;exact eN
   exact eN
  refine⟨[(101,.nm 1),(102,.nm 2),(103,.nm 3),(104,.nm 4),(3,.nm 5),(7,.nm 6),(15,.nm 7)],.p .bool true,[(101,.box 111 true [.p ED h,.sr 102 T3 0 (g.set e.toNat c).length,.sr 103 T3 0 (d.set c.toNat (Bq h (d.getD c.toNat 0) (d.getD e.toNat 0)).1).length,.sr 104 DC 0 (aq.set c.toNat (Bu (aq.getD c.toNat []) (aq.getD e.toNat [])).1).length]),(102,.arr 3 T3 (g.set e.toNat c)),(103,.arr 3 T3 (d.set c.toNat (Bq h (d.getD c.toNat 0) (d.getD e.toNat 0)).1)),(104,.arr 91 DC (aq.set c.toNat (Bu (aq.getD c.toNat []) (aq.getD e.toNat [])).1)),(3,.box 108 false [.bp 101 [] 0]),(7,.box 173 false [.sr 15 Ri 0 W]),(15,.arr 172 Ri T)],rfl,rfl,?_,?_,rfl,rfl,?_⟩
  .simp only[mgO];exact eN
  .exact eN
  refine rL f ?_ ?_
  .trivial
  repeat'(first|apply eS rfl|apply AB|refine rC ?_ ?_<;>intro j<;>try(cases j;done))
  have y:=Xm hk i A o z I;rw[<-aa]at y;have hn:=zE R;have an:=zF (a:=c) m.1 m.2 o.root z;have bc:(Bu (aq.getD c.toNat []) (aq.getD e.toNat [])).2.length<=(Cq N).length:=Tp Qn (L c);have au:=Uu List.length aa;rw[A0,OR,OR]at au;have am:nR g*((Cq N).length+1)=nR (g.set e.toNat c)*((Cq N).length+1)+((Cq N).length+1):=by rw[<-an,ADC,Nat.one_mul]
  rw[hn]at am;exact⟨⟨((g.set e.toNat c,d.set c.toNat (Bq h (d.getD c.toNat 0) (d.getD e.toNat 0)).1,aq.set c.toNat (Bu (aq.getD c.toNat []) (aq.getD e.toNat [])).1),T,W),y,ap,by simp only;omega⟩,by simp only;omega,eW [(101,.nm 101),(102,.nm 102),(103,.nm 103),(104,.nm 104),(3,.nm 3),(7,.nm 7),(15,.nm 15)]⟩
 have Z:k=0:=by
  have:=Tn.1 j;omega
 subst Z;rw[Uo]at l;refine Ev.ent (σ':=⟨[(6,.p .bool true)],aU h q d aq⟩) ?_ (AC [(101,.nm 101),(102,.nm 102),(103,.nm 103),(104,.nm 104)] rfl rfl ?_ ?_)
 .exact fM f [.tmp 6] (.p .bool true) eT (.inl ⟨rfl,q,d,aq,rfl,l⟩)
 .unfold aU;exact eN
 exact eN
open Classical in
noncomputable def Dx (p:List Int) (x:Int):Int:=if h:∃r,Rt p x r then h.choose else x
theorem eX {p:List Int} {x r:Int} (h:Rt p x r):Dx p x=r:=by
 unfold Dx;rw[dif_pos ⟨r,h⟩];exact(Exists.choose_spec (p:=λr=>Rt p x r) ⟨r,h⟩).det h
theorem PI {p:List Int} {a:Int->Nat} (hp:Fo p a) {x:Int} (b:0<=x) (c:x<(p.length:Int)):Rt p x (Dx p x):=by
 obtain⟨r,h,-,-⟩:=hp.root b c;rw[eX h];exact h
noncomputable def quo (p ty:List Int) (ar:List (List (Int×Int))):List AD:=(List.range p.length).map λk=>(ty.getD k 0,(ar.getD k []).map λa=>(a.1,Dx p a.2))
theorem Em (p ty:List Int) (ar:List (List (Int×Int))):(quo p ty ar).length=p.length:=by simp[quo]
theorem NH {p ty:List Int} {ar:List (List (Int×Int))} {n:Int} (n0:0<=n) (n1:n<(p.length:Int)):(quo p ty ar).getD n.toNat (0,[])=(ty.getD n.toNat 0,(ar.getD n.toNat []).map λa=>(a.1,Dx p a.2)):=by
 unfold quo;rw[AS,UO,Ya (by omega)];rfl
def Ks (len:Nat) (o:List Int):List Int:=(List.range len).map λ(k:Nat)=>if (k:Int)∈o then ((o.idxOf (k:Int):Nat):Int) else -1
theorem Xo (len:Nat) (o:List Int):(Ks len o).length=len:=by simp[Ks]
theorem Xp {len:Nat} {o:List Int} {n:Int} (n0:0<=n) (n1:n<(len:Int)):(Ks len o).getD n.toNat 0=if n∈o then (o.idxOf n:Int) else -1:=by
 unfold Ks;rw[AS,UO,Ya (by omega)];simp only[Yz,ADQ];rw[show ((n.toNat:Nat):Int)=n by omega]
theorem Xq {o:List Int} {n:Int} (h:n∉o):(o++[n]).idxOf n=o.length:=by
 rw[ADM,As h];simp
theorem aV {o t:List Int} {n:Int} (h:n∈o):(o++t).idxOf n=o.idxOf n:=by
 rw[ADM,BY h]
theorem A4g {len:Nat} {o:List Int} {n:Int} (n0:0<=n) (n1:n<(len:Int)) (h:n∉o):(Ks len o).set n.toNat (o.length:Int)=Ks len (o++[n]):=by
 apply UZ
 .simp[Ks]
 intro i h1 c;rw[List.getElem_set];simp only[Ks,aT,iF];by_cases e:n.toNat=i
 .rw[BY e];have b:(i:Int)=n:=by omega
  rw[b,BY (by simp),Xq h]
 rw[As e];have b:(i:Int)≠n:=by omega
 by_cases a:(i:Int)∈o
 .rw[BY a,BY (by simp[a]),aV a]
 rw[As a,As (by simp[a,b])]
theorem Xr {o t:List Int} {x:Int} (h:x∈o):B1 (o++t) x=B1 o x:=by
 unfold B1;rw[BY (UK _ h),BY h,aV h]
theorem Qo {f:List AD} (hf:AN f) (k:Nat):∀(l:List (Int×Int)) (t:List Int),(∀a∈l,0<=a.2/\a.2<(f.length:Int))->Iy f t->f.length-t.length<=k ->
  (∀a∈l,a.2∈l.foldl (AY f k) t)/\∀x∈l.foldl (AY f k) t,x∈t\/∀a∈(f.getD x.toNat (0,[])).2,a.2∈l.foldl (AY f k) t:=by
 intro l;induction l with
 | nil=>exact λt _ _ _=>⟨λa ha=>(by cases ha),λx c=>.inl c⟩
 | cons a l u =>
  intro t j m o;simp only[Tk];have p:Iy f (AY f k t a)/\t <+: AY f k t a/\a.2∈AY f k t a/\∀x∈AY f k t a,x∈t\/∀b∈(f.getD x.toNat (0,[])).2,b.2∈AY f k t a:=by
   unfold AY;split
   .rename_i hn;exact⟨m,Uj _,hn,λx c=>.inl c⟩
   rename_i hn;have q:=j a (by simp);obtain⟨e,g⟩:=DK hf k t a.2 m q.1 q.2 hn;obtain⟨h,i⟩:=IM hf k t a.2 m q.1 q.2 hn o;exact⟨e,g,h,i⟩
  obtain⟨e,g,h,i⟩:=p;have v:=g.length_le;obtain⟨r,s⟩:=u (AY f k t a) (λb d=>j b (by simp[d])) e (by omega);obtain⟨_,n⟩:=Dw (DK hf k) l (AY f k t a) (λb d=>j b (by simp[d])) e;refine⟨λb d=>?_,λx c=>?_⟩
  .rcases By.1 d with rfl|d
   .exact n.subset h
   exact r b d
  rcases s x c with c|c
  .rcases i x c with c|c
   .exact .inl c
   exact .inr λb d=>n.subset (c b d)
  exact .inr c
def Gz (f:List AD) (o a:List Int):List AD:=(a.drop o.length).map (Cp f a)
theorem A1q {f:List AD} {o t:List Int} {x:Int} (h:∀a∈(f.getD x.toNat (0,[])).2,a.2∈o):Cp f (o++t) x=Cp f o x:=by
 unfold Cp;refine Uu _ (Tq λa ha=>?_);unfold HO;rw[Xr (h a ha)]
theorem A4h {f:List AD} {c b d:List Int} (g:c <+: b) (i:b <+: d) (j:∀x∈b,x∈c\/∀a∈(f.getD x.toNat (0,[])).2,a.2∈b) (hn:b.Nodup):Gz f c b++Gz f b d=Gz f c d:=by
 obtain⟨t,rfl⟩:=g;obtain⟨s,rfl⟩:=i;unfold Gz;rw[AA3,AA3,Tt,AA3,<-Tt,UH]
 congr 1
 refine Tq λx e=>?_;refine(A1q λa ha=>?_).symm;rcases j x (Yu _ e) with h|h
 .exact absurd rfl ((U0.1 hn).2.2 x h x e)
 exact h a ha
theorem aW (f:List AD) (o:List Int):Gz f o o=[]:=by
 unfold Gz;rw[bY];rfl
theorem SC {α β:Type} (f:α->β) {l:List α} (d:α) (e:β) {i:Nat} (h:i<l.length):(l.map f).getD i e=f (l.getD i d):=by
 simp[AS,AT h]
structure AD0 (Q:List AD) (o1:List Int) (L:List (Int×Int)) (j:Nat) (oo:Nat->List Int):Prop where
 zero:oo 0=o1
 succ:∀i,i<L.length->oo (i+1)=AY Q j (oo i) (0,(L.getD i (0,0)).2)
 dok:∀i,Iy Q (oo i)
 pre:∀i,o1 <+: oo i
 nxt:∀i,oo i <+: oo (i+1)
 tgt:∀i,∀a∈L.take i,a.2∈oo i
 cls:∀i,∀x∈oo i,x∈o1\/∀a∈(Q.getD x.toNat (0,[])).2,a.2∈oo i
 last:oo L.length=L.foldl (AY Q j) o1
theorem A7T {Q:List AD} (c:AN Q) {b:List Int} {L:List (Int×Int)} {j:Nat} (g:∀a∈L,0<=a.2/\a.2<(Q.length:Int)) (h1:Iy Q b) (k:Q.length-b.length<=j):AD0 Q b L j (λi=>(L.take i).foldl (AY Q j) b):=by
 have f:=λi=>λa (ha:a∈L.take i)=>g a (UN ha);have hs:∀i,i<L.length->(L.take (i+1)).foldl (AY Q j) b=AY Q j ((L.take i).foldl (AY Q j) b) (0,(L.getD i (0,0)).2):=λi hi=>Ju (AY Q j) L (0,0) b hi;have d:=λi=>Dw (DK c j) (L.take i) b (f i) h1;refine⟨rfl,hs,λi=>(d i).1,λi=>(d i).2,λi=>?_,λi=>(Qo c j _ b (f i) h1 k).1,λi=>(Qo c j _ b (f i) h1 k).2,by simp only[Tl]⟩;by_cases h:i<L.length
 .show _ <+: (L.take (i+1)).foldl (AY Q j) b;rw[hs i h];have l:=g _ (AF L (0,0) h);exact(Dw (DK c j) [(0,(L.getD i (0,0)).2)] _ (λa ha=>by
   have e:a=(0,(L.getD i (0,0)).2):=by simpa using ha
   subst e;exact l) (d i).1).2
 show (L.take i).foldl (AY Q j) b <+: (L.take (i+1)).foldl (AY Q j) b;rw[At (by omega),At (by omega)];exact Uj _
theorem A7U {α:Type} (l:List α) (x y:α) (t:List α) {k:Nat} (hk:k=l.length):(l++[x]++t).set k y=l++y :: t:=by
 subst hk;rw[Tt,AAh _ _ (by omega),Yq];rfl
theorem A1r {Q:List AD} {o a:List Int} {n:Int} (h:o++[n] <+: a):Gz Q o a=Cp Q a n :: Gz Q (o++[n]) a:=by
 obtain⟨t,rfl⟩:=h;unfold Gz;rw[AA3,Tt,AA3];rfl
def uO (h:AG) (p ty:List Int) (ar:List (List (Int×Int))) (M:List Int) (out:List AD):List (Nat×Obj):=[(101,.box 111 true [.p ED h,.sr 102 T3 0 p.length,.sr 103 T3 0 ty.length,.sr 104 DC 0 ar.length]),(102,.arr 3 T3 p),(103,.arr 3 T3 ty),(104,.arr 91 DC ar),(105,.box 108 false [.bp 101 [] 0]),(106,.box 61 false [.sr 107 T3 0 M.length]),(107,.arr 3 T3 M),(108,.box 25 true [.sr 109 HL 0 out.length]),(109,.arr 93 HL out),(110,.box 174 false [.clo 137 [105,106,108,110]])]
def A9D (h:AG) (p0 ty:List Int) (ar:List (List (Int×Int))) (k:Nat):Prop:=∀(p o:List Int) (out:List AD) (n:Int),(∃b,Fo p b)->EZ p0 p->Iy (quo p0 ty ar) o->out.length=o.length->0<=n->n<(p0.length:Int)->p0.length-o.length<=k ->
 A9 Tryz.prog 137 [.p T3 n,.bp 105 [] 0,.bp 106 [] 0,.bp 108 [] 0,.bp 110 [] 0] (uO h p ty ar (Ks p0.length o) out) [101,105,106,108,110]
  (λres c=>∃a,(∃b,Fo a b)/\EZ p0 a/\res=.p T3 (B1 (AY (quo p0 ty ar) k o (0,Dx p0 n)) (Dx p0 n))/\c=uO h a ty ar (Ks p0.length (AY (quo p0 ty ar) k o (0,Dx p0 n))) (out++Gz (quo p0 ty ar) o (AY (quo p0 ty ar) k o (0,Dx p0 n))))
theorem kT (h:AG) {p0 ty:List Int} {ar:List (List (Int×Int))} (ai:∃m,Fo p0 m) (v:AN (quo p0 ty ar)) (aw:ty.length=p0.length) (ae:ar.length=p0.length) (ag:∀k,∀a∈ar.getD k [],0<=a.2/\a.2<(p0.length:Int)) (k:Nat) (ay:∀j,k=j+1->A9D h p0 ty ar j):A9D h p0 ty ar k:=by
 intro p o out n aj F O y n0 n1 hk;obtain⟨m,fo⟩:=aj;obtain⟨bj,L⟩:=ai;have U:=PI L n0 n1;have d:=Fx L n0 n1 U;have hp:=v.1;rw[Em]at hp;have C:=Xo p0.length o;generalize bd:Dx p0 n=b at *;refine Kh [0,1,2,3,4,6,7,8,10,18,49,50,51,52] [] [] Tryz.func137 Tryz.ntmps137 AH ?_;intro w0 K O0 ρ0 f be bf;simp only[uO,Aq];repeat'(first|exact trivial|apply eS rfl|refine rX f ?_ ?_)
 refine cP 2 f ?_ ?_
 .trivial
 refine rM f (eK h ty ar m fo n0 (by rw[<-F.1];exact n1)) [(1,.nm 101),(2,.nm 102),(3,.nm 103),(4,.nm 104)] [102,103,104] ?_ ?_ ?_
 .exact eN
 .simp only[Y5];exact eN
 rintro _ _ ⟨u,bi,rfl,rfl,M,bc,ba⟩;have aa:=F.trans bc;have e:=((F.2 n b n0 n1).1 U).det ba;subst e;refine⟨[(101,.nm 1),(102,.nm 2),(103,.nm 3),(104,.nm 4)],.p T3 b,[(101,.box 111 true [.p ED h,.sr 102 T3 0 u.length,.sr 103 T3 0 ty.length,.sr 104 DC 0 ar.length]),(102,.arr 3 T3 u),(103,.arr 3 T3 ty),(104,.arr 91 DC ar)],rfl,rfl,?_,?_,rfl,rfl,?_⟩
 .simp only[Y5];exact eN
 .exact eN
 refine rL f ?_ ?_
 .trivial
 repeat'(first|exact trivial|apply eS rfl|refine rX f ?_ ?_|refine rC ?_ ?_<;>intro l<;>try(cases l;done))
 .exact⟨d.1,by rw[C];exact d.2⟩
 .exact⟨d.1,by rw[C];exact d.2⟩
 .rw[Xp d.1 d.2]at l;have B:b∈o:=IN λe=>by rw[As e]at l;omega
  have W:AY (quo p0 ty ar) k o (0,b)=o:=BY B;have A:B1 o b=(Ks p0.length o).getD b.toNat 0:=by
   rw[Xp d.1 d.2,BY B];unfold B1;rw[BY B]
  refine Ev.ent (σ':=⟨[(6,.p T3 (B1 o b))],uO h u ty ar (Ks p0.length o) out⟩) ?_ (AC [(101,.nm 101),(102,.nm 102),(103,.nm 103),(104,.nm 104),(105,.nm 105),(106,.nm 106),(107,.nm 107),(108,.nm 108),(109,.nm 109),(110,.nm 110)] rfl rfl ?_ ?_)
  .refine fM f [.tmp 6] (.p T3 (B1 o b)) eT ⟨u,⟨m,M⟩,aa,by rw[W],?_⟩;rw[W,aW,UF];rfl
  .unfold uO;exact eN
  refine eM ?_;exact A.symm
 .exact⟨d.1,by rw[C];exact d.2⟩
 .refine⟨⟨d.1,by rw[aw];exact d.2⟩,?_⟩;have:=O.len;rw[Em]at this;simp only[AO];omega
 .exact⟨d.1,by rw[ae];exact d.2⟩
 rw[Xp d.1 d.2]at l;have w:b∉o:=λe=>by rw[BY e]at l;omega
 have N:=O.snoc d.1 (by rw[Em];exact d.2) w;have an:=N.len;rw[Em,A0,GO]at an;obtain⟨j,rfl⟩:∃j,k=j+1:=⟨k-1,by omega⟩;have am:=ay j rfl;have x:=NH (p:=p0) (ty:=ty) (ar:=ar) d.1 d.2;have ax:=λa (ha:a∈ar.getD b.toNat [])=>ag b.toNat a ha;have bg:(ar.getD b.toNat []).length<=100000:=by
  have:=(v.2 _ (AF (quo p0 ty ar) (0,[]) (k:=b.toNat) (by rw[Em];omega))).1;rw[x,OF]at this;exact this
 have ad:∀a∈((ar.getD b.toNat []).map λa=>(a.1,Dx p0 a.2)),0<=a.2/\a.2<((quo p0 ty ar).length:Int):=λa ha=>by
  refine BA v (n:=b) ?_;rw[x];exact ha
 obtain⟨c,g⟩:∃c,AD0 (quo p0 ty ar) (o++[b]) ((ar.getD b.toNat []).map λa=>(a.1,Dx p0 a.2)) j c:=⟨_,A7T v (j:=j) ad N (by rw[Em,A0,GO];omega)⟩;have G:AY (quo p0 ty ar) (j+1) o (0,b)=((ar.getD b.toNat []).map λa=>(a.1,Dx p0 a.2)).foldl (AY (quo p0 ty ar) j) (o++[b]):=by
  unfold AY;rw[As w];show Co (quo p0 ty ar) (j+1) o b=_;rw[Bt,x];rfl
 rw[<-g.last,OF]at G;have ap:=λ(i:Nat) (hi:i<(ar.getD b.toNat []).length)=>show (((ar.getD b.toNat []).map λa=>(a.1,Dx p0 a.2)).getD i (0,0))=(((ar.getD b.toNat []).getD i (0,0)).1,Dx p0 ((ar.getD b.toNat []).getD i (0,0)).2) by
  exact SC (λa:Int×Int=>(a.1,Dx p0 a.2)) (0,0) (0,0) hi
 rw[y,A4g d.1 d.2 w];generalize bh:ar.getD b.toNat []=xs at *;refine AJ (ι:={s:Nat×List Int//s.1<=xs.length/\(∃m,Fo s.2 m)/\EZ p0 s.2}) (λs=>⟨[(0,.p T3 b),(1,.bp 105 [] 0),(2,.bp 106 [] 0),(3,.bp 108 [] 0),(4,.bp 110 [] 0),(7,.p (.int .i64) (o.length:Int)),(8,.sr 64 AW 0 ((xs.take s.1.1).map λa=>(a.1,B1 (c s.1.1) (Dx p0 a.2))).length),(49,.p DC xs),(50,.p (.int .i64) (xs.length:Int)),(51,.p (.int .i64) (s.1.1:Int))],uO h s.1.2 ty ar (Ks p0.length (c s.1.1)) (out++[(ty.getD b.toNat 0,[])]++Gz (quo p0 ty ar) (o++[b]) (c s.1.1))++[(64,.arr 106 AW ((xs.take s.1.1).map λa=>(a.1,B1 (c s.1.1) (Dx p0 a.2))))]⟩) (λs=>xs.length-s.1.1) ⟨(0,u),IS _,⟨m,M⟩,aa⟩ (AC [(101,.nm 101),(102,.nm 102),(103,.nm 103),(104,.nm 104),(105,.nm 105),(106,.nm 106),(107,.nm 107),(108,.nm 108),(109,.nm 109),(110,.nm 110),(64,.nil)] rfl rfl ?_ ?_) (λs=>?_)
 .unfold uO;simp only[g.zero,aW,UF];refine eM ?_;exact⟨by rw[Xo,Xo],y.symm⟩
 .exact eN
 obtain⟨⟨i,q⟩,hi,⟨Z,P⟩,V⟩:=s;have E:=g.pre i;have z:=g.dok i;have au:=E.length_le;have ah:=z.len;rw[A0,GO]at au;rw[Em]at ah;have R:(out++[(ty.getD b.toNat 0,[])]++Gz (quo p0 ty ar) (o++[b]) (c i)).length=(c i).length:=by
  unfold Gz;simp only[A0,GO,OF,UL];omega
 have S:out.length+1+(Gz (quo p0 ty ar) (o++[b]) (c i)).length=(c i).length:=by
  rw[<-R,A0,A0,GO]
 simp only[uO];repeat'(first|exact trivial|apply eS rfl|refine rX f ?_ ?_|refine rC ?_ ?_<;>intro l<;>try(cases l;done))
 .exact l
 .have r:i<xs.length:=Do.1 l;have Y:=ax _ (AF xs (0,0) r);have X:=g.succ i (by rw[OF];exact r);rw[ap i r]at X;have af:=A4h E (g.nxt i) (g.cls i) z.nd;have av:=g.pre (i+1);have T:out.length+1+(Gz (quo p0 ty ar) (o++[b]) (c (i+1))).length=(c (i+1)).length:=by
   have h1:=av.length_le;rw[A0,GO]at h1;unfold Gz;simp only[A0,GO,OF,UL];omega
  have J:((xs.take i).map λa=>(a.1,B1 (c i) (Dx p0 a.2)))++[((xs.getD i (0,0)).1,B1 (c (i+1)) (Dx p0 (xs.getD i (0,0)).2))]=(xs.take (i+1)).map λa=>(a.1,B1 (c (i+1)) (Dx p0 a.2)):=by
   rw[CF _ xs (0,0) r]
   congr 1
   refine Tq λa ha=>?_;obtain⟨t,H⟩:=g.nxt i;rw[<-H,Xr (g.tgt i (a.1,Dx p0 a.2) (by rw[<-List.map_take];exact If.2 ⟨a,ha,rfl⟩))]
  rw[S];refine CL drawsAny f 10 [([3,4,5],6),([1,2],7),([],8),([0],9)] [] (by kernel_rfl) (LH ?_ ?_)
  .trivial
  refine mxC f (am q (c i) (out++[(ty.getD b.toNat 0,[])]++Gz (quo p0 ty ar) (o++[b]) (c i)) (xs.getD i (0,0)).2 ⟨Z,P⟩ V z R Y.1 Y.2 (by omega)) [(101,.nm 101),(102,.nm 102),(103,.nm 103),(104,.nm 104),(105,.nm 105),(106,.nm 106),(107,.nm 107),(108,.nm 108),(109,.nm 109),(110,.nm 110)] [102,103,104,107,109] ?_ ?_ ?_
  .exact eN
  .simp only[uO];refine eM ?_;exact S.symm
  rintro _ _ ⟨I,⟨az,ab⟩,bb,rfl,rfl⟩;rw[<-X,Tt _ _ (Gz _ (c i) _),af];refine⟨[(101,.nm 101),(102,.nm 102),(103,.nm 103),(104,.nm 104),(105,.nm 105),(106,.nm 106),(107,.nm 107),(108,.nm 108),(109,.nm 109),(110,.nm 110)],.p T3 (B1 (c (i+1)) (Dx p0 (xs.getD i (0,0)).2)),[(101,.box 111 true [.p ED h,.sr 102 T3 0 I.length,.sr 103 T3 0 ty.length,.sr 104 DC 0 ar.length]),(102,.arr 3 T3 I),(103,.arr 3 T3 ty),(104,.arr 91 DC ar),(105,.box 108 false [.bp 101 [] 0]),(106,.box 61 false [.sr 107 T3 0 (Ks p0.length (c (i+1))).length]),(107,.arr 3 T3 (Ks p0.length (c (i+1)))),(108,.box 25 true [.sr 109 HL 0 (c (i+1)).length]),(109,.arr 93 HL (out++[(ty.getD b.toNat 0,[])]++Gz (quo p0 ty ar) (o++[b]) (c (i+1)))),(110,.box 174 false [.clo 137 [105,106,108,110]])],rfl,rfl,?_,?_,rfl,rfl,rfl,?_⟩
  .simp only[uO];refine eM ?_;exact T
  .exact eN
  refine LH ?_ ?_
  .trivial
  refine Nr f [] ?_ ?_
  .trivial
  refine LH ?_ ?_
  .trivial
  refine Nr f [] ?_ ?_
  .trivial
  refine LH ?_ ?_
  .trivial
  refine Nr f [64] ?_ ?_
  .rw[OF,OR];simp only[AO];omega
  refine Sv f ?_ ?_ ?_
  .trivial
  .trivial
  repeat'(first|apply eS rfl|apply AB|refine rX f ?_ ?_)
  .exact eV
  refine⟨⟨(i+1,I),r,⟨az,ab⟩,bb⟩,by simp only;omega,AC [(101,.nm 101),(102,.nm 102),(103,.nm 103),(104,.nm 104),(105,.nm 105),(106,.nm 106),(107,.nm 107),(108,.nm 108),(109,.nm 109),(110,.nm 110),(64,.nm 64)] rfl rfl ?_ ?_⟩
  .simp only[uO,<-J];refine eM ?_;exact T.symm
  simp only[<-J];exact eN
 .exact Do.2 (by omega)
 have al:i=xs.length:=by
  have:=Tn.1 l;omega
 subst al;obtain⟨t,H⟩:=E;have A:B1 (c xs.length) b=(o.length:Int):=by
  rw[<-H,Xr (by simp)];unfold B1;rw[BY (by simp),Xq w]
 have aq:Cp (quo p0 ty ar) (c xs.length) b=(ty.getD b.toNat 0,xs.map λa=>(a.1,B1 (c xs.length) (Dx p0 a.2))):=by
  unfold Cp;rw[x];simp only[Uf];rfl
 have ak:(out++[(ty.getD b.toNat 0,([]:List (Int×Int)))]++Gz (quo p0 ty ar) (o++[b]) (c xs.length)).getD o.length (0,[])=(ty.getD b.toNat 0,[]):=by
  rw[<-y];simp[AS]
 have D:=A1r (Q:=quo p0 ty ar) (g.pre xs.length);rw[aq]at D;rw[Tl,ak,A7U out _ _ _ y.symm,<-D];have ao:out.length+1+(Gz (quo p0 ty ar) (o++[b]) (c xs.length)).length=(out++Gz (quo p0 ty ar) o (c xs.length)).length:=by
  rw[D];simp only[A0,OS];omega
 rw[ao];refine Ev.ent (σ':=⟨[(6,.p T3 (B1 (c xs.length) b))],uO h q ty ar (Ks p0.length (c xs.length)) (out++Gz (quo p0 ty ar) o (c xs.length))⟩) ?_ (AC [(101,.nm 101),(102,.nm 102),(103,.nm 103),(104,.nm 104),(105,.nm 105),(106,.nm 106),(107,.nm 107),(108,.nm 108),(109,.nm 109),(110,.nm 110)] rfl rfl ?_ ?_)
 .exact fM f [.tmp 6] (.p T3 (B1 (c xs.length) b)) eT ⟨q,⟨Z,P⟩,V,by rw[G],by rw[G];rfl⟩
 .unfold uO;exact eN
 refine eM ?_;exact A.symm
theorem A4i (h:AG) {p0 ty:List Int} {ar:List (List (Int×Int))} (f:∃i,Fo p0 i) (b:AN (quo p0 ty ar)) (g:ty.length=p0.length) (c:ar.length=p0.length) (d:∀k,∀a∈ar.getD k [],0<=a.2/\a.2<(p0.length:Int)):∀k,A9D h p0 ty ar k
 | 0=>kT h f b g c d 0 (λj e=>by cases e)
 | k+1=>kT h f b g c d (k+1) (λj e=>by cases e;exact A4i h f b g c d k)
theorem A4j (len:Nat):Ks len []=List.replicate len (-1):=by
 unfold Ks;apply UZ
 .simp
 intro i h1 a;simp
theorem A4k {α:Type} (x y:α) {n i:Nat} (h:i<n):(List.replicate i x++List.replicate (n-i) y).set i x=List.replicate (i+1) x++List.replicate (n-(i+1)) y:=by
 obtain⟨m,a⟩:∃m,n-i=m+1:=⟨n-i-1,by omega⟩;have b:n-(i+1)=m:=by omega
 rw[a,b,AAh _ _ (by simp),ADO,Yq,ADV,ADp,List.replicate_succ',Tt];rfl
theorem A4l (h:AG) {p ty:List Int} {ar:List (List (Int×Int))} (g:∃y,Fo p y) (f:AN (quo p ty ar)) (t:ty.length=p.length) (m:ar.length=p.length) (n:∀k,∀a∈ar.getD k [],0<=a.2/\a.2<(p.length:Int)) {r:Int} (v:0<=r) (w:r<(p.length:Int)) :
  A9 Tryz.prog 87 [.bp 101 [] 0,.p T3 r] (aU h p ty ar) [101]
  (λres _=>res=.p Cy (AL (quo p ty ar) (Dx p r))):=by
 have d:=A4i h g f t m n p.length p [] [] r g (EZ.refl p) ⟨by simp,λx u=>by cases u⟩ rfl v w (by simp);have o:Gz (quo p ty ar) [] (AY (quo p ty ar) p.length [] (0,Dx p r))=AL (quo p ty ar) (Dx p r):=by
  have e:AY (quo p ty ar) p.length [] (0,Dx p r)=Co (quo p ty ar) p.length [] (Dx p r):=As (by simp);rw[e];unfold Gz AL;rw[Em];rfl
 rw[Yt,o,A4j]at d;have s:=f.1;rw[Em]at s;generalize AL (quo p ty ar) (Dx p r)=G at *;generalize B1 _ _=z at d;generalize Ks _ _=M at d;refine Kh [0,1,2,4,5,6,7,8,16,17,18] [] [] Tryz.func87 Tryz.ntmps87 AH ?_;intro w0 K O0 ρ0 b B C;simp only[aU,Aq];repeat'(first|exact trivial|apply eS rfl|refine rX b ?_ ?_)
 .simp only[AO];omega
 refine AJ (ι:={i:Nat//i<=p.length}) (λi=>⟨[(0,.bp 101 [] 0),(1,.p T3 r),(2,.bp 2 [] 0),(4,.bp 4 [] 0),(5,.bp 5 [] 0),(16,.p (.int .i64) (p.length:Int)),(17,.p (.int .i64) (i.1:Int))],[(5,.box 61 false [.sr 14 T3 0 p.length]),(14,.arr 3 T3 (List.replicate i.1 (-1)++List.replicate (p.length-i.1) 0)),(4,.box 25 true [.raw (.slice none 0 0)]),(2,.box 108 false [.bp 101 [] 0]),(101,.box 111 true [.p ED h,.sr 102 T3 0 p.length,.sr 103 T3 0 ty.length,.sr 104 DC 0 ar.length]),(102,.arr 3 T3 p),(103,.arr 3 T3 ty),(104,.arr 91 DC ar)]⟩) (λi=>p.length-i.1) ⟨0,by omega⟩ (AC [(5,.nm 5),(14,.nm 14),(4,.nm 4),(2,.nm 2),(101,.nm 101),(102,.nm 102),(103,.nm 103),(104,.nm 104)] rfl rfl ?_ ?_) (λi=>?_)
 .refine eM ?_;rfl
 .exact eN
 obtain⟨i,hi⟩:=i;simp only;repeat'(first|exact trivial|apply eS rfl|apply AB|refine rX b ?_ ?_|refine rC ?_ ?_<;>intro c<;>try(cases c;done))
 .exact c
 .exact eV
 .have j:i<p.length:=Do.1 c;refine⟨⟨i+1,j⟩,by simp only;omega,AC [(5,.nm 5),(14,.nm 14),(4,.nm 4),(2,.nm 2),(101,.nm 101),(102,.nm 102),(103,.nm 103),(104,.nm 104)] rfl rfl ?_ ?_⟩
  .refine eM ?_;exact A4k _ _ j
  exact eN
 have q:i=p.length:=by
  have:=Tn.1 c;omega
 subst q;rw[Yq,List.replicate_zero,UF];refine cP 2 b ?_ ?_
 .trivial
 refine rM b (d) [(101,.nm 101),(102,.nm 102),(103,.nm 103),(104,.nm 104),(105,.nm 2),(106,.nm 5),(107,.nm 14),(108,.nm 7),(109,.nil),(110,.nm 8)] [102,103,104,14] ?_ ?_ ?_
 .exact eN
 .simp only[uO];refine eM ?_;exact ADO.symm
 rintro _ _ ⟨l,A,D,rfl,rfl⟩;refine⟨[(101,.nm 101),(102,.nm 102),(103,.nm 103),(104,.nm 104),(2,.nm 105),(5,.nm 106),(14,.nm 107),(7,.nm 108),(120,.nm 109),(8,.nm 110)],.p T3 z,[(101,.box 111 true [.p ED h,.sr 102 T3 0 l.length,.sr 103 T3 0 ty.length,.sr 104 DC 0 ar.length]),(102,.arr 3 T3 l),(103,.arr 3 T3 ty),(104,.arr 91 DC ar),(2,.box 108 false [.bp 101 [] 0]),(5,.box 61 false [.sr 14 T3 0 M.length]),(14,.arr 3 T3 M),(7,.box 25 true [.sr 120 HL 0 G.length]),(120,.arr 93 HL G),(8,.box 174 false [.clo 137 [2,5,7,8]])],rfl,rfl,?_,?_,rfl,rfl,Bh ?_⟩
 .simp only[uO];exact eN
 .exact eN
 refine E6 [120] ?_;repeat'(first|exact trivial|apply eS rfl|refine rX b ?_ ?_)
 exact fM b [.cell 4 25] (.p Cy G) eT rfl
structure AD1 (f:List AD) (r:Int) (o:List Int):Prop where
 ok:Iy f o
 zero:o.getD 0 0=r/\0<o.length
 cl:∀n∈o,∀a∈AU f n,a.2∈o
theorem VY {f:List AD} (hf:AN f) {r:Int} (b:0<=r) (c:r<(f.length:Int)):AD1 f r (Co f f.length [] r):=by
 have h1:=DK hf f.length [] r (Fu f) b c (by simp);have d:=IM hf f.length [] r (Fu f) b c (by simp) (by simp);have e:[r] <+: Co f f.length [] r:=by
  obtain⟨k,hk⟩:∃k,f.length=k+1:=⟨f.length-1,by omega⟩;rw[hk,Bt];exact(Dw (DK hf k) _ _ (λa ha=>BA hf ha) ((Fu f).snoc b c (by simp))).2
 refine⟨h1.1,?_,λn hn a ha=>?_⟩
 .obtain⟨t,g⟩:=e;rw[<-g];exact⟨rfl,by simp⟩
 rcases d.2 n hn with h|h
 .cases h
 exact h a ha
theorem Qp {f:List AD} {r:Int} {i:Nat} (hi:i<(Co f f.length [] r).length):(AL f r).getD i (0,[])=Cp f (Co f f.length [] r) ((Co f f.length [] r).getD i 0):=by
 unfold AL;simp[AS,hi]
theorem Qq (f:List AD) (r:Int):(AL f r).length=(Co f f.length [] r).length:=by simp[AL]
def Ao (f g:List AD):List AD:=f++g.map λx=>(x.1,Ad f.length x.2)
theorem CU (f g:List AD):(Ao f g).length=f.length+g.length:=by simp[Ao]
theorem PJ {f g:List AD} {x:Int} (a:0<=x) (b:x<(f.length:Int)):(Ao f g).getD x.toNat (0,[])=f.getD x.toNat (0,[]):=by
 unfold Ao;rw[AS,AS,Tz (by omega)]
theorem MQ {f g:List AD} {y:Int} (a:0<=y) (b:y<(g.length:Int)):(Ao f g).getD ((f.length:Int)+y).toNat (0,[])=((g.getD y.toNat (0,[])).1,Ad f.length (g.getD y.toNat (0,[])).2):=by
 unfold Ao;have e:((f.length:Int)+y).toNat=f.length+y.toNat:=by omega
 rw[e,AS,UC (by omega),ADn];rw[<-AS];exact SC (λx:AD=>(x.1,Ad f.length x.2)) (0,[]) (0,[]) (by omega)
theorem zG {n:Nat} {p:List Int} {x y:Int} (h:EG n p [] x y):Dx p x=Dx p y:=by
 induction h with
 | cls _ _ _ _ h g=>rw[eX h,eX g]
 | wt h=>cases h
 | symm _ a=>exact a.symm
 | trans _ _ b c=>exact b.trans c
noncomputable abbrev NX (p ty:List Int) (ar:List (List (Int×Int))):List Int:=Co (quo p ty ar) (quo p ty ar).length [] (Dx p 0)
structure A8K (h:AG) (N:List AD) (P:List (Int×Int)) (U:List AD) (v:Int->Int):Prop where
 good:AN U
 pos:0<U.length
 str:∀x∈U,N0 x.2
 feat:∀x∈U,∀a∈x.2,a.1∈Cq N
 ty:CP h U
 ro:RO U
 zero:v 0=0
 proj:eL h N P U v
 least:∀X w,CP h X->eL h N P X w->w 0=0->∃m,LR h U X m
 len:U.length<=N.length
section
variable {h:AG} {N:List AD} {P:List (Int×Int)} {p ty:List Int} {ar:List (List (Int×Int))}
theorem SD (a:JI h N P p ty ar []) (b:AN (quo p ty ar)) (c:0<N.length):AD1 (quo p ty ar) (Dx p 0) (NX p ty ar):=by
 obtain⟨d,fo⟩:=a.fo;have lp:=a.lp;have:=Fx fo (x:=0) (by omega) (by omega) (PI fo (by omega) (by omega));exact VY b this.1 (by rw[Em];exact this.2)
theorem PK (d:JI h N P p ty ar []) (c:AN (quo p ty ar)) (b:0<N.length):Dx p 0∈NX p ty ar:=by
 have a:=SD d c b;have:=AF (NX p ty ar) 0 a.zero.2;rw[a.zero.1]at this;exact this
theorem Xs (a:JI h N P p ty ar []) {x y:Int} (b:(x,y)∈P) (c:Dx p x∈NX p ty ar):Dx p y∈NX p ty ar:=by
 rw[<-zG (a.sp (x,y) b)];exact c
theorem qA (b:JI h N P p ty ar []) (f:AN (quo p ty ar)) (e:0<N.length) {x:Int} (c:0<=x) (k:x<(N.length:Int)) (j:Dx p x∈NX p ty ar) {a:Int×Int} (ha:a∈AU N x):Dx p a.2∈NX p ty ar:=by
 obtain⟨l,fo⟩:=b.fo;have lp:=b.lp;obtain⟨t,i,g⟩:=b.sa x _ c k (PI fo c (by omega)) a ha;rw[zG g];have d:=Fx fo c (by omega) (PI fo c (by omega));refine(SD b f e).cl _ j (a.1,Dx p t) ?_;rw[AU,NH d.1 d.2];exact If.2 ⟨(a.1,t),i,rfl⟩
def eY (N:List AD) (k:Nat) (g:List AD):Prop:=∀i:Int,0<=i->i<(g.length:Int)->(k:Int)+i<(N.length:Int)/\N.getD ((k:Int)+i).toNat (0,[])=((g.getD i.toNat (0,[])).1,Ad k (g.getD i.toNat (0,[])).2)
theorem IQ (m:JI h N P p ty ar []) (f:AN (quo p ty ar)) (e:0<N.length) {k:Nat} {g:List AD} (l:eY N k g) (r:RO g) (hk:Dx p (k:Int)∈NX p ty ar):∀(n:Nat) (i:Int),i.toNat<=n->0<=i->i<(g.length:Int)->Dx p ((k:Int)+i)∈NX p ty ar:=by
 intro n;induction n with
 | zero =>
  intro i hn o c;have:i=0:=by omega
  subst this;rw[ADc];exact hk
 | succ n q =>
  intro i hn o c;by_cases hi:i=0
  .subst hi;rw[ADc];exact hk
  obtain⟨j,d,s,a,ha,rfl⟩:=r i (by omega) c;have b:=l j d (by omega);have:=qA m f e (x:=(k:Int)+j) (by omega) b.1 (q j (by omega) d (by omega)) (a:=(a.1,a.2+(k:Int))) (by
   rw[AU,b.2];exact If.2 ⟨a,ha,rfl⟩)
  rw[AE7];exact this
end
theorem MR {h:AG} {N:List AD} {P:List (Int×Int)} {f:List AD} {v:Int->Int} (e:eL h N P f v) {k:Nat} {g:List AD} (d:eY N k g) (j:v (k:Int)=0):LR h g f λi=>v ((k:Int)+i):=by
 refine⟨by show v ((k:Int)+0)=0;rw[ADc];exact j,λi b c=>?_,λi b c=>?_,λi b c a ha=>?_⟩
 .exact e.rng _ (by omega) (d i b c).1
 .have:=e.ty _ (by omega) (d i b c).1;rw[(d i b c).2]at this;exact this
 have:=e.arc _ (by omega) (d i b c).1 (a.1,a.2+(k:Int)) (by
  rw[AU,(d i b c).2];exact If.2 ⟨a,ha,rfl⟩)
 rw[AE7 (k:Int) a.2];exact this
theorem Kt {h:AG} {g X:List AD} {m:Int->Int} (a:LR h g X m):eL h g [] X m:=⟨a.rng,a.ty,a.arc,λq b=>by cases b⟩
theorem Qr {h:AG} {f g X:List AD} (hf:AN f) (m:AN g) {v w:Int->Int} (h1:eL h f [] X v) (i:eL h g [] X w):eL h (Ao f g) [] X (λx=>if x<(f.length:Int) then v x else w (x-(f.length:Int))):=by
 have j:=CU f g;refine⟨λx d e=>?_,λx d e=>?_,λx d e a ha=>?_,λq n=>by cases n⟩
 .rw[j]at e;show _/\_;try simp only
  split
  .exact h1.rng x d (by assumption)
  exact i.rng _ (by omega) (by omega)
 .rw[j]at e;try simp only
  by_cases c:x<(f.length:Int)
  .rw[BY c,PJ d c];exact h1.ty x d c
  rw[As c];have:=MQ (f:=f) (g:=g) (y:=x-(f.length:Int)) (by omega) (by omega);rw[show (f.length:Int)+(x-(f.length:Int))=x by omega]at this;rw[this];exact i.ty _ (by omega) (by omega)
 rw[j]at e;try simp only
 by_cases c:x<(f.length:Int)
 .rw[BY c];rw[AU,PJ d c]at ha;have l:=BA hf ha;rw[BY l.2];exact h1.arc x d c a ha
 rw[As c];have:=MQ (f:=f) (g:=g) (y:=x-(f.length:Int)) (by omega) (by omega);rw[show (f.length:Int)+(x-(f.length:Int))=x by omega]at this;rw[AU,this]at ha;obtain⟨b,k,rfl⟩:=If.1 ha;have l:=BA m k;rw[As (by simp only;omega)];try simp only
 rw[show b.2+(f.length:Int)-(f.length:Int)=b.2 by omega];exact i.arc _ (by omega) (by omega) b k
theorem qB {h:AG} {N X:List AD} {P:List (Int×Int)} {v:Int->Int} (h1:eL h N [] X v) (a:∀q∈P,v q.1=v q.2):eL h N P X v:=⟨h1.rng,h1.ty,h1.arc,a⟩
theorem Jy {N f g:List AD} {k:Nat} (h:eY f k N):eY (Ao f g) k N:=by
 intro i a b;have:=h i a b;rw[CU,PJ (by omega) this.1];exact⟨by omega,this.2⟩
theorem SE {f:List AD}:eY f 0 f:=by
 intro i c b;rw[show ((0:Nat):Int)+i=i by omega];refine⟨b,?_⟩;have:Ad 0 (f.getD i.toNat (0,[])).2=(f.getD i.toNat (0,[])).2:=by
  unfold Ad;rw[Tq (g:=id) (λa _=>by show (a.1,a.2+((0:Nat):Int))=a;rw[Int.natCast_zero,ADc]),List.map_id]
 rw[this]
theorem Ku {f g:List AD}:eY (Ao f g) f.length g:=by
 intro i a b;rw[CU,MQ a b];exact⟨by omega,rfl⟩
set_option maxHeartbeats 1000000 in
theorem A4m {h:AG} {N:List AD} {P:List (Int×Int)} {p ty:List Int} {ar:List (List (Int×Int))} (L:JI h N P p ty ar []) (E:AN (quo p ty ar)) (O:0<N.length) (H:∀x,0<=x->x<(N.length:Int)->Dx p x∈NX p ty ar) :
  A8K h N P (AL (quo p ty ar) (Dx p 0)) (λx=>B1 (NX p ty ar) (Dx p x)):=by
 have s:=SD L E O
 have af:=PK L E O
 obtain⟨nty,⟨av,fo⟩,lp,lt,la,wr,tyr,arr,srt,sp,st,sa,co⟩:=L
 have aj:=Em p ty ar
 have w:=λ{x:Int} (C:0<=x) (D:x<(N.length:Int))=>PI fo C (by rw[lp];exact D)
 have J:=λ{x:Int} (C:0<=x) (D:x<(N.length:Int))=>Fx fo C (by rw[lp];exact D) (w C D)
 have K:=Qq (quo p ty ar) (Dx p 0)
 have aa:=λi=>Qp (f:=quo p ty ar) (r:=Dx p 0) (i:=i)
 have M:∀x:Int,0<=x->x<(N.length:Int)->AU (quo p ty ar) x=(ar.getD x.toNat []).map λa=>(a.1,Dx p a.2):=λx C D=>by
  rw[AU,NH C (by rw[lp];exact D)]
 have u:∀x∈NX p ty ar,(0<=x/\x<(N.length:Int))/\D5 p x=x:=by
  have ag:Iso (quo p ty ar) (quo p ty ar) id (λx=>(0<=x/\x<(N.length:Int))/\D5 p x=x):=by
   refine⟨λi _=>by simp,λi hi a ha=>?_,λi j _ _ e=>e⟩
   rw[M i hi.1.1 hi.1.2]at ha
   obtain⟨b,m,rfl⟩:=List.mem_map.1 ha
   have c:=(arr _ b m).1
   have:=J c.1 c.2
   rw[lp]at this
   exact⟨this,(w c.1 c.2).root⟩
  have R:=J (x:=0) (by omega) (by omega)
  rw[lp]at R
  exact(VV ag _ [] _ (λx d=>by cases d) ⟨R,(w (x:=0) (by omega) (by omega)).root⟩).2
 have ah:=λ(q:Nat)=>Xl E (quo p ty ar).length [] (Dx p 0) (Fu _) (J (x:=0) (by omega) (by omega)).1 (by rw[aj];exact(J (x:=0) (by omega) (by omega)).2) (by simp) q
 unfold NX at s af H u ⊢
 generalize ao:AL (quo p ty ar) (Dx p 0)=F at *
 generalize aq:Co (quo p ty ar) (quo p ty ar).length [] (Dx p 0)=o at *
 have z:∀i:Int,0<=i->i<(o.length:Int)->o.getD i.toNat 0∈o/\B1 o (o.getD i.toNat 0)=i:=λi g l=>by
  refine⟨AF o 0 (by omega),?_⟩
  rw[IP s.ok.nd (by omega)]
  omega
 have A:∀x∈o,F.getD (B1 o x).toNat (0,[])=(ty.getD x.toNat 0,(ar.getD x.toNat []).map λa=>(a.1,B1 o (Dx p a.2))):=λx d=>by
  have am:=E7 d
  have c:=(u x d).1
  rw[aa _ (by omega),am.2.2]
  unfold Cp
  rw[NH c.1 (by rw[lp];exact c.2),List.map_map]
  rfl
 have Q:∀x∈o,∀a∈ar.getD x.toNat [],Dx p a.2∈o:=λx d a ha=>by
  have c:=(u x d).1
  exact s.cl x d (a.1,Dx p a.2) (by rw[M x c.1 c.2];exact List.mem_map.2 ⟨a,ha,rfl⟩)
 have S:∀k,N0 ((ar.getD k []).map λa=>(a.1,B1 o (Dx p a.2))):=λk=>by
  unfold N0
  rw[List.pairwise_map]
  exact srt k
 have G:∀x∈F,∃y∈o,x=(ty.getD y.toNat 0,(ar.getD y.toNat []).map λa=>(a.1,B1 o (Dx p a.2))):=λx d=>by
  obtain⟨i,hi,rfl⟩:=Cl (0,[]) d
  have h1:=z (i:Int) (by omega) (by omega)
  refine⟨_,h1.1,?_⟩
  rw[<-A _ h1.1,h1.2]
  rw[Int.toNat_natCast]
 have ae:B1 o (Dx p 0)=0:=by
  have:=IP s.ok.nd s.zero.2
  rw[s.zero.1]at this
  exact this
 have ap:=s.ok.len
 have an:=E.1
 refine⟨⟨by omega,λx d=>?_⟩,by rw[K];exact s.zero.2,λx d=>?_,λx d a ha=>?_,λx d=>?_,λi g l=>?_,ae,⟨λi g l=>?_,λi g l=>?_,λi g l a ha=>?_,λq ai=>?_⟩,λX v ab T al=>?_,by omega⟩
 .obtain⟨y,B,rfl⟩:=G x d
  have c:=(u y B).1
  refine⟨?_,λa ha=>?_⟩
  .have:=(E.2 _ (AF (quo p ty ar) (0,[]) (k:=y.toNat) (by omega))).1
   rw[NH c.1 (by rw[lp];exact c.2),List.length_map]at this
   simp only[List.length_map]
   exact this
  obtain⟨b,m,rfl⟩:=List.mem_map.1 ha
  have:=E7 (Q y B b m)
  rw[K]
  exact⟨this.1,this.2.1⟩
 .obtain⟨y,B,rfl⟩:=G x d
  exact S _
 .obtain⟨y,B,rfl⟩:=G x d
  obtain⟨b,m,rfl⟩:=List.mem_map.1 ha
  exact(arr _ b m).2
 .obtain⟨y,B,rfl⟩:=G x d
  have c:=(u y B).1
  exact tyr y c.1 c.2
 . -- in order
  obtain⟨j,au,a,ha,e⟩:=ah i.toNat (by simp only[List.length_nil];omega) (by omega)
  have h1:=z (j:Int) (by omega) (by omega)
  have W:=z i (by omega) (by omega)
  rw[Int.toNat_natCast]at h1
  have c:=(u _ h1.1).1
  rw[M _ c.1 c.2]at ha
  obtain⟨b,m,rfl⟩:=List.mem_map.1 ha
  refine⟨(j:Int),by omega,by omega,(b.1,B1 o (Dx p b.2)),?_,?_⟩
  .have:=A _ h1.1
   rw[h1.2]at this
   rw[AU,this]
   exact List.mem_map.2 ⟨b,m,rfl⟩
  show B1 o (Dx p b.2)=i
  simp only at e
  rw[e,W.2]
 .have:=E7 (H i g l)
  rw[K]
  exact⟨this.1,this.2.1⟩
 .show BB h _ (F.getD (B1 o (Dx p i)).toNat (0,[])).1=true
  rw[A _ (H i g l)]
  exact st i _ g l (w g l)
 .obtain⟨t,ak,ad⟩:=sa i _ g l (w g l) a ha
  have e:=zG ad
  show BK (AU F (B1 o (Dx p i))) a.1=B1 o (Dx p a.2)
  rw[e,AU,A _ (H i g l)]
  exact Jx (S _) (a:=(a.1,B1 o (Dx p t))) (List.mem_map.2 ⟨(a.1,t),ak,rfl⟩)
 .show B1 o (Dx p q.1)=B1 o (Dx p q.2)
  rw[zG (sp q ai)]
 obtain⟨c1,c2,U,V⟩:=co X v ab T
 refine⟨λi=>v (o.getD i.toNat 0),?_,λi g l=>?_,λi g l=>?_,λi g l a ha=>?_⟩
 .show v (o.getD 0 0)=0
  rw[s.zero.1,<-c1 0 _ (by omega) (by omega) (w (by omega) (by omega))]
  exact al
 .have n:=z i g (by omega)
  have c:=(u _ n.1).1
  exact T.rng _ c.1 c.2
 .have n:=z i g (by omega)
  have c:=u _ n.1
  have hn:=A _ n.1
  rw[n.2]at hn
  rw[hn]
  exact U _ c.1.1 c.1.2 c.2
 have n:=z i g (by omega)
 have c:=u _ n.1
 have hn:=A _ n.1
 rw[n.2]at hn
 rw[AU,hn]at ha
 obtain⟨b,m,rfl⟩:=List.mem_map.1 ha
 have Y:=V _ c.1.1 c.1.2 c.2 b m
 have I:=(arr _ b m).1
 have Z:=E7 (Q _ n.1 b m)
 simp only
 rw[Z.2.2,<-c1 b.2 _ I.1 I.2 (w I.1 I.2)]
 exact Y
def Nrm (c:List Int):Prop:=c.length=0\/c.getD (c.length-1) 0≠0
theorem Xt (b:List Int):Nrm (BO b):=by
 unfold Nrm BO;have a:=Wk b b.length;rw[OR,Yr a];rcases Rx b b.length with h|h
 .exact .inl h
 by_cases h0:Cj b b.length=0
 .exact .inl h0
 right;rw[AS,List.getElem?_take_of_lt (by omega),<-AS];exact h
theorem A7V {a b:List Int} (ha:Ix a) (f:Ix b) (h:∀i,BW a i=BW b i) (k:Nat):a.getD k 0=b.getD k 0:=by
 have c:=BE ha k;have d:=BE f k;have j:=c.1;have l:=c.2;have m:=d.1;have o:=d.2;have e:(a.getD k 0).toNat=(b.getD k 0).toNat:=by
  refine Nat.eq_of_testBit_eq λr=>?_;by_cases g:r<64
  .have:=h (64*k+r);unfold BW at this;rw[show (64*k+r) / 64=k by omega,show (64*k+r) % 64=r by omega]at this;exact this
  have big:∀n:Nat,n<18446744073709551616->n.testBit r=false:=λn hn=>by
   have e:(18446744073709551616:Nat)=2 ^ 64:=by decide
   rw[e]at hn;exact Nat.testBit_lt_two_pow (Us hn (Nat.pow_le_pow_right (by decide) (by omega)))
  rw[big _ (by omega),big _ (by omega)]
 omega
theorem zH {a b:List Int} (d:∀k,a.getD k 0=b.getD k 0) (c:Nrm b):b.length<=a.length:=by
 rcases c with h|h
 .omega
 refine IN λe=>h ?_;rw[<-d];exact Gk (by omega)
theorem A9E {a b:List Int} (ha:Ix a) (e:Ix b) (g:Nrm a) (j:Nrm b) (h:∀i,BW a i=BW b i):a=b:=by
 have c:=A7V ha e h;have f:a.length=b.length:=Yg (zH (λk=>(c k).symm) g) (zH c j);refine UZ f λi h1 d=>?_;have:=c i;simpa[AS,h1,d] using this
theorem kU {α:Type} (l:List α) (x:α) (n:Nat):List.Perm (l.take n++[x]++l.drop n) (x :: l):=by
 have h:l.take n++[x]++l.drop n=l.take n++x :: l.drop n:=by simp
 rw[h];refine AEk.trans ?_;rw[Ys]
def Apt (l:List ByteArray):Prop:=l.Pairwise λa b=>Ah a b=false
theorem TD {a b:ByteArray} (h:Ah a b=false):Ah b a=false:=by
 cases hh:Ah b a with
 | false=>rfl
 | true=>rw[FF hh]at h;cases h
theorem A4n {l:List ByteArray} {s:ByteArray} (h:Apt l) (hs:∀x∈l,Ah x s=false):Apt (D9 l s):=by
 unfold D9;split
 .exact h
 refine(List.Perm.pairwise_iff (λb=>TD b) (kU l s _)).2 ?_;exact UM.2 ⟨λx a=>TD (hs x a),h⟩
theorem qC {d:List AK} (hn:Dh d=0):Apt (AX d):=by
 have key:∀k,k<=d.length->Apt (AX (d.take k))/\∀s∈AX (d.take k),∃i,i<k/\(d.getD i d0).1=s:=by
  intro k;induction k with
  | zero =>
   intro _;exact⟨.nil,λs hs=>by cases hs⟩
  | succ k c =>
   intro hk;obtain⟨h1,a⟩:=c (by omega);have e:AX (d.take (k+1))=D9 (AX (d.take k)) (d.getD k d0).1:=by
    have:d.take (k+1)=d.take k++[d.getD k d0]:=Ax d d0 (by omega);rw[this];unfold AX;rw[Yy];rfl
   rw[e];refine⟨A4n h1 λx b=>?_,λs hs=>?_⟩
   .obtain⟨i,hi,rfl⟩:=a x b;cases hh:Ah (d.getD i d0).1 (d.getD k d0).1 with
    | false=>rfl
    | true =>
     have g:=S3 d hh;rw[Ww hn (j:=i) (by omega),Ww hn (j:=k) (by omega)]at g;omega
   rcases QX hs with hs|hs
   .obtain⟨i,hi,e⟩:=a s hs;exact⟨i,by omega,e⟩
   exact⟨k,by omega,hs.symm⟩
 have:=(key d.length (Is _)).1
 rwa [Tl]at this
structure Nd (l:List (List Int)):Prop where
 nd:l.Nodup
 nrm:∀c∈l,Nrm c
theorem A7W {l:List (List Int)} {c:List Int} (h:Nd l) (b:c∉l) (hn:Nrm c):Nd (l++[c]):=by
 refine⟨?_,λx a=>?_⟩
 .rw[U0];refine⟨h.nd,by simp,λx a y d e=>b ?_⟩;have:y=c:=by simpa using d
  rw[<-this,<-e];exact a
 rcases IF.1 a with a|a
 .exact h.nrm x a
 have:x=c:=by simpa using a
 rw[this];exact hn
theorem A7X {l:List (List Int)} (h:Nd l) (i k:Nat):Nd (Gw l i k):=by
 unfold Gw;split
 .rename_i a;rw[An,TO]at a;refine A7W h (λb=>?_) (Xt _);have:oO l (GM (l.getD i []) (l.getD k []))=true:=UA.2 ⟨_,b,by unfold Jp;exact Yn rfl⟩;rw[this]at a;cases a.2
 exact h
theorem zI {i:Nat}:∀ {n k:Nat} {l:List (List Int)},Nd l->Nd (Gx i n k l)
 | 0,_,_,h=>h
 | n+1,k,l,h=>by
  unfold Gx;split
  .exact zI (A7X h i k)
  exact h
theorem zJ:∀ {n i:Nat} {l:List (List Int)},Nd l->Nd (JP n i l)
 | 0,_,_,h=>h
 | n+1,i,l,h=>by
  unfold JP;split
  .exact zJ (zI h)
  exact h
theorem A1s {d:List AK} (m:BU d=0):Nd (Ak d):=by
 obtain⟨-,l,-,hn,p⟩:=BD m;have q:=FD d d.length;rw[Tl]at q;have hap:=qC hn;refine⟨?_,λc n=>?_⟩
 .unfold Ak List.Nodup;rw[Uz,Tw];intro i j hi a o e;have h1:=(Tw.1 hap) i j hi a o;have g:∀k,(hk:k<(AX d).length)->(AX d).getD k ByteArray.empty=(AX d)[k]:=λk hk=>by simp[AS,hk]
  have f:=(EW (d:=d) (all:=AX d) (by omega) (AX d)[j] 0).2.1;have b:=jL hn p l hi a (by
   rw[g i hi,g j a,e];unfold Fk;have:=(XL f f).2 λ_ h=>h;rw[this];rfl)
  rw[g i hi,g j a,h1]at b;cases b
 obtain⟨s,hs,rfl⟩:=If.1 n;unfold HC ofF;split
 .exact Xt _
 exact .inl rfl
theorem TE {d:List AK}:∀ {l:List (List Int)} {o:List AQ},(o.map (·.2)++l).Nodup->((l.foldl (Rv d) o).map (·.2)).Nodup
 | [],o,h=>by simpa using h
 | b :: l,o,h=>by
  rw[Tk];refine TE ?_;unfold Rv GQ dZ;have hp:=(kU o (IB d (AX d) (Ak d) b,b) (FQ (IB d (AX d) (Ak d) b,b) o o.length)).map (λx:AQ=>x.2);have c:List.Perm ((o.take (FQ (IB d (AX d) (Ak d) b,b) o o.length)++[(IB d (AX d) (Ak d) b,b)]++o.drop (FQ (IB d (AX d) (Ak d) b,b) o o.length)).map (λx:AQ=>x.2)++l) (o.map (·.2)++b :: l) :=
   (hp.append_right l).trans (AEk (a:=b)).symm
  exact c.nodup_iff.2 h
def NY (h:AG):Prop:=∀a b,0<=a->a<(h.1.length:Int)->0<=b->b<(h.1.length:Int)->BB h a b=true->BB h b a=true->a=b
theorem A9F {h:AG} (hk:Gm h) (hn:Nd (h.1.map λt=>t.2.1)):NY h:=by
 intro a b c d f b1 h1 j;have m:=hk.1.wds _ (Cm c d);have n:=hk.1.wds _ (Cm f b1);have e:Bk h a=Bk h b:=A9E m n (hn.nrm _ (Cm c d)) (hn.nrm _ (Cm f b1)) λi=>by
  rw[ADd];exact⟨(CZ hk f b1 c d).1 j i,(CZ hk c d f b1).1 h1 i⟩
 have hp:=Tw.1 hn.nd;have g:∀k:Int,0<=k->(hk:k<(h.1.length:Int))->Bk h k=(h.1.map λt=>t.2.1)[k.toNat]'(by rw[OF];omega):=λk o p=>by
  unfold Bk;simp[AS,show k.toNat<h.1.length by omega]
 rw[g a c d,g b f b1]at e;rcases Int.lt_trichotomy a b with l|heq|l
 .exact absurd e (hp a.toNat b.toNat (by rw[OF];omega) (by rw[OF];omega) (by omega))
 .exact heq
 exact absurd e.symm (hp b.toNat a.toNat (by rw[OF];omega) (by rw[OF];omega) (by omega))
theorem kV (d:List AK):NY (BJ d).1:=by
 refine A9F (ME d) ?_;unfold BJ;split
 .exact⟨.nil,λc h=>(by cases h)⟩
 rename_i a;have a:(Bj d).2=0:=IN a;have g:Bb d=0:=by
  unfold Bj at a;split at a
  .rename_i h;exact absurd a h
  rename_i h;exact IN h
 obtain⟨m,-,-⟩:=DE g;obtain⟨f,o,-⟩:=B5 m;have hf:Nd (A8 (Ak d)):=zJ (A1s f);have e:((IE d).1.map λt=>t.2.1)=(A5 d).map λx=>x.2:=by
  show ((Fm _ _ _).map λt=>t.2.1)=_;unfold Fm;rw[Uf];apply UZ
  .simp
  intro i h1 n;simp[AS,show i<(A5 d).length by simpa using h1]
 show Nd ((IE d).1.map λt=>t.2.1);rw[e];refine⟨TE (by simpa using hf.nd),λc k=>?_⟩;obtain⟨x,l,rfl⟩:=If.1 k;obtain⟨b,j,rfl⟩:=EX.1 l;exact hf.nrm b j
structure VF (h:AG) (f:List AD):Prop where
 good:AN f
 pos:0<f.length
 ty:CP h f
 str:∀x∈f,N0 x.2
 ft:∀x∈f,∀a∈x.2,0<=a.1/\a.1<(h.2.length:Int)
 can:AL f 0=f
 ro:RO f
structure HU (h:AG):Prop where
 ok:Gm h
 inj:NY h
 ft:h.2.length<=64
def kW (U:List AD):Prop:=(Co U U.length [] 0).length=U.length/\∀k,(hk:k<(Co U U.length [] 0).length)->(Co U U.length [] 0)[k]=(k:Int)
theorem eZ {Q:List AD} (m:AN Q) {r:Int} (L:0<=r) (M:r<(Q.length:Int)):AN (AL Q r)/\kW (AL Q r):=by
 have d:=VY m L M;have D:=Qq Q r;have C:=λi=>Qp (f:=Q) (r:=r) (i:=i);generalize O:AL Q r=c at *;generalize H:Co Q Q.length [] r=o at *;have R:=d.ok.len;have N:=m.1;have g:∀i:Int,0<=i->i<(o.length:Int)->o.getD i.toNat 0∈o/\B1 o (o.getD i.toNat 0)=i:=λi J K=>by
  refine⟨AF o 0 (by omega),?_⟩;rw[IP d.ok.nd (by omega)];omega
 have p:∀i:Int,0<=i->i<(o.length:Int)->AU c i=(AU Q (o.getD i.toNat 0)).map (HO o):=λi J K=>by
  rw[AU,C i.toNat (by omega)];rfl
 have F:Iso c Q (λi=>o.getD i.toNat 0) (λi=>0<=i/\i<(o.length:Int)):=by
  refine⟨λi hi=>?_,λi hi a ha=>?_,λi j hi B e=>?_⟩
  .rw[p i hi.1 hi.2,Uf];have:∀a∈AU Q (o.getD i.toNat 0),((λa:Int×Int=>(a.1,o.getD a.2.toNat 0))∘HO o) a=a:=λa ha=>by
    show (a.1,o.getD (B1 o a.2).toNat 0)=a;rw[(E7 (d.cl _ (g i hi.1 hi.2).1 a ha)).2.2]
   rw[Tq this,List.map_id']
  .rw[p i hi.1 hi.2]at ha;obtain⟨b,q,rfl⟩:=If.1 ha;have:=E7 (d.cl _ (g i hi.1 hi.2).1 b q);exact⟨this.1,this.2.1⟩
  have h1:=(g i hi.1 hi.2).2;have h:=(g j B.1 B.2).2;have e:o.getD i.toNat 0=o.getD j.toNat 0:=e;rw[<-h1,<-h,e]
 have h0:(0:Int)<(o.length:Int):=by have:=d.zero.2;omega
 have v:AN c:=by
  refine⟨by omega,λx u=>?_⟩;obtain⟨i,hi,rfl⟩:=Cl (0,[]) u;have h1:=p (i:Int) (by omega) (by omega);rw[AU,To]at h1;rw[h1];have t:=g (i:Int) (by omega) (by omega);rw[To]at t;have S:=d.ok.rng _ t.1;refine⟨?_,λa ha=>?_⟩
  .rw[OF];exact(m.2 _ (AF Q (0,[]) (k:=(o.getD i 0).toNat) (by omega))).1
  obtain⟨b,q,rfl⟩:=If.1 ha;have:=E7 (d.cl _ t.1 b q);rw[D];exact⟨this.1,this.2.1⟩
 have s:=VV F Q.length [] 0 (λx u=>by cases u) ⟨by omega,h0⟩;have I:o.getD (0:Int).toNat 0=r:=d.zero.1;rw[AAs,I,H]at s;have A:=MP v (n:=0) (by omega) (by omega) (Q.length-c.length);rw[show c.length+(Q.length-c.length)=Q.length by omega]at A;rw[A]at s;unfold kW;refine⟨v,?_⟩;generalize Co c c.length [] 0=l at *;obtain⟨y,E⟩:=s;have P:l.length=o.length:=by
  have:=Uu List.length y;rw[OF]at this;exact this.symm
 have G:∀k,(hk:k<l.length)->l[k]=(k:Int):=λk hk=>by
  have w:=E l[k] (UJ hk);have h1:=(g l[k] w.1 w.2).2;have h:=(g (k:Int) (by omega) (by omega)).2;have e:o.getD k 0=o.getD (l[k]).toNat 0:=by
   exact(Uu (λz:List Int=>z.getD k 0) y).trans (by simp[AS,hk])
  rw[To,e]at h;rw[<-h1,h]
 exact⟨by omega,G⟩
theorem Xu {b:List AD} (g:AN b) (k:kW b):AL b 0=b:=by
 unfold AL;obtain⟨q,c⟩:=k;generalize Co b b.length [] 0=l at *;have o:l.Nodup:=by
  unfold List.Nodup;rw[Tw];intro i j hi n p e;rw[c i hi,c j n]at e;omega
 have m:∀x,0<=x->x<(l.length:Int)->B1 l x=x:=λx r s=>by
  have:=IP o (i:=x.toNat) (by omega);have e:l.getD x.toNat 0=x:=by
   rw[AS,AT (by omega)];show l[x.toNat]=x;rw[c _ (by omega)];omega
  rw[e]at this;rw[this];omega
 apply UZ
 .rw[OF];omega
 intro i h1 d;rw[aT,c i (by simpa using h1)];have f:b.getD (i:Int).toNat (0,[])=b[i]:=by simp[AS,d]
 unfold Cp;rw[f];have:∀a∈b[i].2,HO l a=a:=λa ha=>by
  have h:=(g.2 _ (UJ d)).2 a ha;unfold HO;rw[m a.2 h.1 (by omega)]
 rw[Tq this,List.map_id']
theorem A4o {Q:List AD} (a:AN Q) {r:Int} (b:0<=r) (c:r<(Q.length:Int)):AL (AL Q r) 0=AL Q r :=
 Xu (eZ a b c).1 (eZ a b c).2
theorem Xv {h:AG} {a X:List AD} (g:RO a) {m f:Int->Int} (h1:LR h a X m) (b:LR h a X f):∀(k:Nat) (i:Int),i.toNat<=k->0<=i->i<(a.length:Int)->m i=f i:=by
 intro k;induction k with
 | zero =>
  intro i hk l e;have:i=0:=by omega
  subst this;rw[h1.zero,b.zero]
 | succ k n =>
  intro i hk l e;by_cases hi:i=0
  .subst hi;rw[h1.zero,b.zero]
  obtain⟨j,c,o,x,d,rfl⟩:=g i (by omega) e;rw[<-h1.arc j c (by omega) x d,<-b.arc j c (by omega) x d,n j (by omega) c (by omega)]
theorem MS {h:AG} (hk:Gm h) {a b c:List AD} (w:AN a) (ta:CP h a) (tb:CP h b) (A:CP h c) {m n:Int->Int} (h1:LR h a b m) (j:LR h b c n):LR h a c λi=>n (m i):=by
 refine⟨by show n (m 0)=0;rw[h1.zero,j.zero],λi f g=>?_,λi f g=>?_,λi f g x p=>?_⟩
 .have:=h1.rng i f g;exact j.rng _ this.1 this.2
 .have d:=h1.rng i f g;have B:=j.rng _ d.1 d.2;have r:=ta _ (AF a (0,[]) (k:=i.toNat) (by omega));have s:=tb _ (AF b (0,[]) (k:=(m i).toNat) (by omega));have t:=A _ (AF c (0,[]) (k:=(n (m i)).toNat) (by omega));exact Oz hk r.1 r.2 s.1 s.2 t.1 t.2 (h1.ty i f g) (j.ty _ d.1 d.2)
 have d:=h1.rng i f g;have q:=BA w p;have o:=h1.arc i f g x p;obtain⟨y,z,u,v⟩:=Qk (l:=AU b (m i)) (e:=x.1) (by rw[o];exact(h1.rng _ q.1 q.2).1);have:=j.arc (m i) d.1 d.2 y z;rw[u,v,o]at this;exact this
theorem MT {a:List AD} (hs:∀x∈a,N0 x.2) (n:Int):N0 (AU a n):=by
 unfold AU;by_cases h:n.toNat<a.length
 .exact hs _ (AF a (0,[]) h)
 rw[AS,Ts (by omega)];exact .nil
theorem e9 {h:AG} {a:List AD} (hs:∀x∈a,N0 x.2):LR h a a id :=
 ⟨rfl,λi c d=>⟨c,d⟩,λi _ _=>R8 h _,λi _ _ x b=>Jx (MT hs i) b⟩
theorem zK:∀ {l m:List (Int×Int)},N0 l->N0 m->(∀x,x∈l↔x∈m)->l=m
 | [],[],_,_,_=>rfl
 | [],b :: m,_,_,h=>by have:=(h b).2 (by simp);cases this
 | a :: l,[],_,_,h=>by have:=(h a).1 (by simp);cases this
 | a :: l,b :: m,h1,i,h=>by
  obtain⟨f,g⟩:=UM.1 h1;obtain⟨b1,b2⟩:=UM.1 i;have e:a=b:=by
   rcases By.1 ((h a).1 (by simp)) with e|e
   .exact e
   rcases By.1 ((h b).2 (by simp)) with d|d
   .exact d.symm
   have:=f b d;have:=b1 a e;omega
  subst e;refine Uu _ (zK g b2 λx=>⟨λc=>?_,λc=>?_⟩)
  .rcases By.1 ((h x).1 (by simp[c])) with e|e
   .subst e;have:=f x c;omega
   exact e
  rcases By.1 ((h x).2 (by simp[c])) with e|e
  .subst e;have:=b1 x c;omega
  exact e
theorem AD2 {h:AG} (hu:HU h) {c V:List AD} (b:VF h c) (d:VF h V) {m p:Int->Int} (h1:LR h c V m) (n:LR h V c p):c=V:=by
 have key:∀ {c V:List AD},VF h c->VF h V->∀ {m p:Int->Int},LR h c V m->LR h V c p->c.length<=V.length->c=V:=by
  clear b d h1 n;intro c V b d m p h1 n L;have c1:=MS hu.ok b.good b.ty d.ty b.ty h1 n;have c2:=MS hu.ok d.good d.ty b.ty d.ty n h1;have u:∀i,0<=i->i<(c.length:Int)->p (m i)=i:=λi s t=>Xv b.ro c1 (e9 b.str) i.toNat i (Is _) s t;have I:∀i,0<=i->i<(V.length:Int)->m (p i)=i:=λi s t=>Xv d.ro c2 (e9 d.str) i.toNat i (Is _) s t;have D:∀ {A B:List AD} {f:Int->Int},AN A->LR h A B f->∀i,0<=i->i<(A.length:Int)->∀x∈AU A i,(x.1,f x.2)∈AU B (f i):=λ{A B f} J hf i s t x o=>by
   have r:=BA J o;have F:=hf.arc i s t x o;obtain⟨y,C,w,v⟩:=Qk (l:=AU B (f i)) (e:=x.1) (by rw[F];exact(hf.rng _ r.1 r.2).1);rw[<-w,<-F,<-v];exact C
  have K:Iso c V m (λi=>0<=i/\i<(c.length:Int)):=by
   refine⟨λi hi=>?_,λi hi a ha=>BA b.good ha,λi j hi E e=>?_⟩
   .have q:=h1.rng i hi.1 hi.2;refine zK (MT d.str _) ?_ λx=>⟨λo=>?_,λo=>?_⟩
    .unfold N0;rw[Uz];exact MT b.str i
    .have g:=D d.good n (m i) q.1 q.2 x o;rw[u i hi.1 hi.2]at g;refine If.2 ⟨_,g,?_⟩;have r:=BA d.good o;show (x.1,m (p x.2))=x;rw[I x.2 r.1 r.2]
    obtain⟨y,C,rfl⟩:=If.1 o;exact D b.good h1 i hi.1 hi.2 y C
   rw[<-u i hi.1 hi.2,<-u j E.1 E.2,e]
  have M:=b.pos;have:=ZL K b.good ⟨by omega,by omega⟩ h1.zero b.pos L λi hi=>by
   have q:=h1.rng i hi.1 hi.2;have w:=h1.ty i hi.1 hi.2;have v:=n.ty (m i) q.1 q.2;rw[u i hi.1 hi.2]at v;have G:=b.ty _ (AF c (0,[]) (k:=i.toNat) (by omega));have H:=d.ty _ (AF V (0,[]) (k:=(m i).toNat) (by omega));exact hu.inj _ _ H.1 H.2 G.1 G.2 v w
  rw[d.can,b.can]at this;exact this.symm
 rcases Nat.le_total c.length V.length with z|z
 .exact key b d h1 n z
 exact(key d b n h1 z).symm
structure qD (h:AG) (a b U:List AD):Prop where
 vf:VF h U
 left:∃m,LR h a U m
 right:∃m,LR h b U m
 least:∀X,CP h X->∀m1,LR h a X m1->∀m2,LR h b X m2->∃m,LR h U X m
 len:U.length<=a.length+b.length
open Classical in
noncomputable def Kv (h:AG) (a b:List AD):List AD×Bool:=if H:∃U,qD h a b U then (H.choose,true) else ([],false)
theorem kX {h:AG} {a b:List AD} (h1:(Kv h a b).2=true):qD h a b (Kv h a b).1:=by
 unfold Kv at h1 ⊢;split at h1
 .rename_i H;rw[dif_pos H];exact H.choose_spec
 cases h1
theorem Xw {f:List AD} {e:Int} (h:e∈Cq f):∃x∈f,∃a∈x.2,a.1=e:=by
 unfold Cq at h;obtain⟨x,c,b⟩:=List.mem_flatMap.1 h;obtain⟨a,ha,e⟩:=If.1 b;exact⟨x,c,a,ha,e⟩
theorem A4p {h:AG} {N:List AD} {P:List (Int×Int)} {p ty:List Int} {ar:List (List (Int×Int))} (d:JI h N P p ty ar []) (g:AN (quo p ty ar)) (m:0<N.length) (j:∀x∈N,∀a∈x.2,0<=a.1/\a.1<(h.2.length:Int)) {v:Int->Int} (c:A8K h N P (AL (quo p ty ar) (Dx p 0)) v):VF h (AL (quo p ty ar) (Dx p 0)):=by
 have f:0<=Dx p 0/\Dx p 0<((quo p ty ar).length:Int):=by
  obtain⟨n,fo⟩:=d.fo;have:=d.lp;have:=Fx fo (x:=0) (by omega) (by omega) (PI fo (by omega) (by omega));rw[Em];exact this
 refine⟨c.good,c.pos,c.ty,c.str,λx k a ha=>?_,A4o g f.1 f.2,c.ro⟩;obtain⟨y,l,b,i,e⟩:=Xw (c.feat x k a ha);rw[<-e];exact j y l b i
theorem A1t {h:AG} {f g:List AD} (hf:VF h f) (e:VF h g):∀x∈Ao f g,∀a∈x.2,0<=a.1/\a.1<(h.2.length:Int):=by
 intro x c;unfold Ao at c;rcases IF.1 c with c|c
 .exact hf.ft x c
 obtain⟨y,i,rfl⟩:=If.1 c;intro a ha;obtain⟨b,d,rfl⟩:=If.1 ha;exact e.ft y i b d
theorem A7Y {h:AG} {f g:List AD} (hf:VF h f) (i:VF h g) {p ty:List Int} {ar:List (List (Int×Int))} (b:JI h (Ao f g) [(0,(f.length:Int))] p ty ar []) (d:AN (quo p ty ar)):qD h f g (AL (quo p ty ar) (Dx p 0)):=by
 have v:=hf.pos;have u:=CU f g;have c:0<(Ao f g).length:=by omega
 have h0:=PK b d c;have l:=IQ b d c (Jy (g:=g) SE) hf.ro h0;have n:=IQ b d c (Ku (f:=f)) i.ro (Xs b (by simp) h0);have a:=A4m b d c λx t w=>by
  by_cases o:x<(f.length:Int)
  .have:=l x.toNat x (Is _) t o
   rwa [show ((0:Nat):Int)+x=x by omega]at this
  have:=n _ (x-(f.length:Int)) (Is _) (by omega) (by omega)
  rwa [show (f.length:Int)+(x-(f.length:Int))=x by omega]at this
 refine⟨A4p b d c (A1t hf i) a,⟨_,MR a.proj (Jy (g:=g) SE) a.zero⟩,⟨_,MR a.proj (Ku (f:=f)) (by rw[<-a.proj.eq (0,(f.length:Int)) (by simp)];exact a.zero)⟩,λX k r h1 s j=>?_,by have:=a.len;omega⟩;refine a.least X _ k (qB (Qr hf.good i.good (Kt h1) (Kt j)) λq m=>?_) ?_
 .have e:q=(0,(f.length:Int)):=by simpa using m
  subst e;try simp only
  rw[BY (by omega),As (by omega),AEo,h1.zero,j.zero]
 show (if (0:Int)<(f.length:Int) then r 0 else s (0-(f.length:Int)))=0;rw[BY (by omega)];exact h1.zero
theorem kY (l:List (Int×Int)):Ad 0 l=l:=by
 unfold Ad;rw[Tq (g:=id) (λa _=>by show (a.1,a.2+((0:Nat):Int))=a;rw[Int.natCast_zero,ADc]),List.map_id]
theorem aX (a b:Nat):Bc 0 a++Bc a b=Bc 0 (a+b):=by
 unfold Bc;rw[AE9,UH,Uf]
 congr 1
 refine Tq λi _=>?_;show ((a+i:Nat):Int)=((0+(a+i):Nat):Int);rw[Yj]
theorem A1u {n k:Nat} (h:k<n):(Bc 0 n).getD k 0=(k:Int):=by
 unfold Bc;rw[AS,UO,Ya h];show ((0+k:Nat):Int)=k;rw[Yj]
theorem MU {n:Nat} {x:Int} (a:0<=x) (b:x<(n:Int)):D5 (Bc 0 n) x=x:=by
 unfold D5;rw[A1u (by omega)];omega
def Dp (N:List AD):List Int:=N.map (·.1)
def Fy (N:List AD):List (List (Int×Int)):=N.map (·.2)
theorem PM (N:List AD) (k:Nat):(Dp N).getD k 0=(N.getD k (0,[])).1:=by
 unfold Dp;rw[AS,UO,AS];cases N[k]?<;>rfl
theorem NI (N:List AD) (k:Nat):(Fy N).getD k []=(N.getD k (0,[])).2:=by
 unfold Fy;rw[AS,UO,AS];cases N[k]?<;>rfl
theorem qE (f g:List AD):CQ f f.length++CQ g g.length=Dp (Ao f g):=by
 unfold CQ Dp Ao;rw[Tl,Tl,UH,Uf];rfl
theorem A1v (f g:List AD):EF 0 f f.length++EF f.length g g.length=Fy (Ao f g):=by
 unfold EF Fy Ao;rw[Tl,Tl,UH,Uf]
 congr 1
 exact Tq λx _=>kY x.2
theorem fA {n:Nat} {x r:Int} (a:0<=x) (b:x<(n:Int)) (h:Rt (Bc 0 n) x r):r=x:=h.det (.base (MU a b))
theorem fB {h:AG} {N:List AD} (l:AN N) (m:CP h N) (hs:∀x∈N,N0 x.2):JI h N [] (Bc 0 N.length) (Dp N) (Fy N) []:=by
 have f:(Bc 0 N.length).length=N.length:=Hb 0 N.length;refine⟨m,⟨λ_=>0,λn n0 n1=>?_,λn n0 n1 hn=>?_⟩,f,by simp[Dp],by simp[Fy],λw g=>(by cases g),λx c d=>?_,λk a ha=>?_,λk=>?_,λq p=>(by cases p),λx r c d e=>?_,λx r c d e a ha=>?_,λX v s o=>?_⟩
 .rw[f]at n1 ⊢;rw[MU n0 n1];exact⟨n0,n1⟩
 .rw[f]at n1;exact absurd (MU n0 n1) hn
 .rw[PM];exact m _ (AF N (0,[]) (by omega))
 .rw[NI]at ha;refine⟨E8 l k a ha,?_⟩;by_cases hk:k<N.length
  .exact List.mem_flatMap.2 ⟨_,AF N (0,[]) hk,If.2 ⟨a,ha,rfl⟩⟩
  rw[AS,Ts (by omega)]at ha;cases ha
 .rw[NI];have:=MT hs (k:Int)
  rwa [AU,To]at this
 .rw[fA c d e,PM];exact R8 h _
 .rw[fA c d e,NI];have b:=BA l ha;exact⟨a.2,ha,.cls b.1 b.2 b.1 b.2 (.base (MU b.1 b.2)) (.base (MU b.1 b.2))⟩
 refine⟨λx r c d e=>by rw[fA c d e],λw g=>(by cases g),λr i j _=>?_,λr i j _ a ha=>?_⟩
 .rw[PM];exact o.ty r i j
 rw[NI]at ha;exact o.arc r i j a ha
theorem GT {f g:List AD} (hf:AN f) (d:AN g) (j:f.length+g.length<=100000):AN (Ao f g):=by
 have i:=CU f g;refine⟨by omega,λx c=>?_⟩;unfold Ao at c;rcases IF.1 c with c|c
 .refine⟨(hf.2 x c).1,λa ha=>?_⟩;have:=(hf.2 x c).2 a ha;omega
 obtain⟨y,e,rfl⟩:=If.1 c;refine⟨by simp only[Ad,OF];exact(d.2 y e).1,λa ha=>?_⟩;obtain⟨b,h,rfl⟩:=If.1 ha;have:=(d.2 y e).2 b h;simp only;omega
theorem Jz {f g:List AD} (hf:∀x∈f,N0 x.2) (b:∀x∈g,N0 x.2):∀x∈Ao f g,N0 x.2:=by
 intro x a;unfold Ao at a;rcases IF.1 a with a|a
 .exact hf x a
 obtain⟨y,c,rfl⟩:=If.1 a;unfold N0 Ad;rw[Uz];exact b y c
theorem MV {h:AG} {f g:List AD} (hf:CP h f) (b:CP h g):CP h (Ao f g):=by
 intro x a;unfold Ao at a;rcases IF.1 a with a|a
 .exact hf x a
 obtain⟨y,c,rfl⟩:=If.1 a;exact b y c
def kZ (N:List AD):Prop:=∀x∈N,∀a∈x.2,0<=a.1/\a.1<64
theorem MW {f g:List AD} (hf:kZ f) (e:kZ g):kZ (Ao f g):=by
 intro x c;unfold Ao at c;rcases IF.1 c with c|c
 .exact hf x c
 obtain⟨y,h,rfl⟩:=If.1 c;intro a ha;obtain⟨b,d,rfl⟩:=If.1 ha;exact e y h b d
theorem qF {l:List (Int×Int)} (h:N0 l) (hf:∀a∈l,0<=a.1/\a.1<64):l.length<=64:=by
 have:=eQ h (S:=(List.range 64).map λ(i:Nat)=>(i:Int)) (λa ha=>If.2 ⟨a.1.toNat,Tx.2 (by have:=hf a ha;omega),by have:=hf a ha;omega⟩)
 rwa [OF,ADf]at this
theorem qG {N:List AD} (h:∀x∈N,x.2.length<=64):(Cq N).length<=64*N.length:=by
 induction N with
 | nil=>simp[Cq]
 | cons x N b =>
  have h1:=h x (by simp);have c:=b λy a=>h y (by simp[a]);have e:Cq (x :: N)=x.2.map (·.1)++Cq N:=rfl;rw[e,A0,OF,OS];omega
theorem A1w {N:List AD} (h:kZ N) {e:Int} (b:e∈Cq N):0<=e/\e<64:=by
 obtain⟨x,c,a,ha,rfl⟩:=Xw b;exact h x c a ha
theorem Xx {h:AG} {N:List AD} {P:List (Int×Int)} {p ty:List Int} {ar:List (List (Int×Int))} (c:JI h N P p ty ar []) (k:N.length<=100000) (hf:kZ N):AN (quo p ty ar):=by
 have g:=Em p ty ar;obtain⟨l,fo⟩:=c.fo;have lp:=c.lp;refine⟨by omega,λx j=>?_⟩;obtain⟨i,hi,rfl⟩:=Cl (0,[]) j;have e:=NH (p:=p) (ty:=ty) (ar:=ar) (n:=(i:Int)) (by omega) (by omega);rw[To]at e;rw[e];refine⟨?_,λa ha=>?_⟩
 .simp only[OF];have:=qF (c.srt i) (λa ha=>A1w hf (c.arr i a ha).2);omega
 obtain⟨b,f,rfl⟩:=If.1 ha;have d:=(c.arr i b f).1;have:=Fx fo (x:=b.2) d.1 (by omega) (PI fo d.1 (by omega));rw[g];exact this
theorem VF.ft64 {h:AG} {f:List AD} (b:VF h f) (hu:HU h):kZ f:=λx c a ha=>by
 have h1:=b.ft x c a ha;have d:=hu.ft;omega
def AD3 (d:List AK) (o:List ByteArray) (i:Nat):Prop:=∀j,j<i->∀x∈d,Ag x.2.1 (o.getD j ByteArray.empty)=true->Ag o x.1=true
theorem A4q {c:ByteArray} {o:List ByteArray} {x:AK} (h:Ag x.2.1 c=true):Ag (FX c o x) x.1=true:=by grind [FX,Ob,FE]
theorem aY {c:ByteArray} {x:AK} (h:Ag x.2.1 c=true):∀ {l:List AK} {o:List ByteArray},x∈l->Ag (l.foldl (FX c) o) x.1=true
 | [],_,a=>by cases a
 | y :: l,o,a=>by
  rw[Tk];rcases By.1 a with rfl|a
  .grind [ND,NB,A4q]
  exact aY h a
theorem k5 {d:List AK}:∀ {n i:Nat} {o:List ByteArray},f5 d o->d.length<=n+i->AD3 d o i->i<=o.length->∃m,AD3 d (Di d n i o) m/\(Di d n i o).length<=m
 | 0,i,o,ha,f,a,hi=>⟨i,a,by
  have:=ha.len;show o.length<=i;omega⟩
 | n+1,i,o,ha,f,a,hi=>by
  unfold Di;split
  .rename_i q;obtain⟨c,k⟩:=Wp (o.getD i ByteArray.empty) (l:=d) (o:=o) (λ_ h=>h) ha;refine k5 c (by omega) (λj p x b hs=>?_) (by omega);rw[Ro _ (by omega)]at hs;by_cases e:j=i
   .subst e;exact aY hs b
   exact ND (λz g=>NB g) (a j (by omega) x b hs)
  exact⟨i,a,by omega⟩
theorem SF {α:Type} {p:α->Bool}:∀ {l:List α},l.countP p=1->∀x∈l,p x=true->∀y∈l,p y=true->x=y
 | [],h,x,a,_,_,_,_=>by cases a
 | z :: l,h,x,a,d,y,b,e=>by
  rw[f9]at h;by_cases c:p z=true
  .rw[BY c]at h;grind
  rw[As c]at h;have a:x∈l:=by grind
  have b:y∈l:=by grind
  exact SF (by omega) x a d y b e
theorem Xy (s:ByteArray):∀(l:List AK) (k:Nat),0<=Ck s k l->∃x∈l,Ah x.1 s=true
 | [],k,h=>by
  simp only[Ck]at h;omega
 | y :: l,k,h=>by
  simp only[Ck]at h;split at h
  .rename_i e;exact⟨y,by simp,e⟩
  obtain⟨x,a,e⟩:=Xy s l (k+1) h;exact⟨x,by simp[a],e⟩
theorem qH {d:List AK} (t:BU d=0):∃r∈d,∀x∈d,Ag (Dj d r.1) x.1=true:=by
 obtain⟨hs,I,h1,hn,l⟩:=BD t;have C:0<d.countP λx=>x.2.1.length==0:=by grind [H8]
 obtain⟨r,c,q⟩:=List.countP_pos_iff.1 C;refine⟨r,c,?_⟩;have D:=FG c;have u:f5 d [r.1]:=⟨λs hs=>by
  have:s=r.1:=by simpa using hs
  rw[this];exact D,by simp⟩
 obtain⟨m,B,J⟩:=k5 (d:=d) (n:=d.length) (i:=0) u (by omega) (λj A=>by omega) (by omega);have p:r.1∈Di d d.length 0 [r.1]:=Ol (by simp);have v:Dj d r.1=L4 (Di d d.length 0 [r.1]):=by unfold Dj;rw[As (by omega)]
 rw[v];generalize Di d d.length 0 [r.1]=o at *;have key:∀(k:Nat) (x:AK),x∈d->IA d x.1<=k->Ag o x.1=true:=by
  intro k;induction k with
  | zero =>
   intro x a hk;by_cases g:x.2.1.length=0
   .have e:=SF h1 x a (by simpa using g) r c q;rw[e];exact NC p
   obtain⟨s,b⟩:∃s,s∈x.2.1:=ADR (by omega);have:=Oj hn l a (NC b);omega
  | succ k H =>
   intro x a hk;by_cases g:x.2.1.length=0
   .have e:=SF h1 x a (by simpa using g) r c q;rw[e];exact NC p
   obtain⟨s,b⟩:∃s,s∈x.2.1:=ADR (by omega);have E:=Oj hn l a (NC b);obtain⟨y,G,e⟩:=Xy s d 0 (hs x a s b);rw[<-Oi d e]at E;obtain⟨z,h,f⟩:=UA.1 (H y G (by omega));obtain⟨j,A,rfl⟩:=Cl ByteArray.empty h;refine B j (by omega) x a ?_;exact UA.2 ⟨s,b,FF (DD f e)⟩
 intro x a;obtain⟨z,h,e⟩:=UA.1 (key _ x a (Is _));obtain⟨w,F,f⟩:=UA.1 (Wz (o:=[]) h);exact UA.2 ⟨w,F,DD f e⟩
abbrev cnt (c:List Int):Nat:=(H5 c).length
theorem A4r {w:Int} (a:U64 w) {r:Nat} (d:r<64):A3b w (r:Int)=w.toNat.testBit r:=by
 have h0:=a.1;have h1:=a.2;have b:w.toNat / 2 ^ r<=w.toNat:=Nat.div_le_self _ _;have e:Y6 .u64 w (r:Int)=((w.toNat / 2 ^ r:Nat):Int):=by
  unfold Y6;have c:min ((r:Int)).toNat IntKind.u64.bits=r:=by
   show min ((r:Int)).toNat 64=r;omega
  grind
 unfold A3b;rw[Nat.testBit_eq_decide_div_mod_eq,e];generalize w.toNat / 2 ^ r=z at *;rw[H9 ⟨by omega,by omega⟩ ⟨by decide,by decide⟩,To,show (1:Int).toNat=1 from rfl,Nat.and_one_is_mod,ADd,UP,DO];omega
theorem zL {b:List Int} (d:Ix b) (i:Nat):Wl b (i:Int)=BW b i:=by
 have a:Int.tdiv (i:Int) 64=((i / 64:Nat):Int):=by rw[Uc (by omega)];omega
 have c:Int.tmod (i:Int) 64=((i % 64:Nat):Int):=by rw[aS (by omega)];omega
 unfold Wl BW;rw[a,c,To];by_cases hk:i / 64<b.length
 .rw[As (by rw[UI,DO,DO];omega),A4r (BE d _) (by omega)]
 rw[BY (by rw[UI,DO,DO];omega),Gk hk];simp
theorem k6 (c:List Int):(H5 c).Nodup:=by
 unfold H5 Nu List.Nodup;rw[Uz];refine List.Pairwise.imp (λh e=>h ?_) (List.Pairwise.filter _ List.nodup_range);exact AEf e
theorem aZ {c:List Int} (b:Ix c) {x:Int}:x∈H5 c↔∃i:Nat,x=(i:Int)/\BW c i=true:=by
 unfold H5 Nu;rw[If];constructor
 .grind [zL]
 rintro⟨i,rfl,a⟩;refine⟨i,Yh.2 ⟨Tx.2 ?_,by rw[zL b];exact a⟩,rfl⟩;refine IN λd=>?_;unfold BW at a;rw[Gk (by omega)]at a;simp at a
theorem A9G {a b:List Int} (ha:Ix a) (d:Ix b) (h:∀i,BW a i=true->BW b i=true) (e:cnt b<=cnt a) (i:Nat) (hi:BW b i=true):BW a i=true:=by
 refine IN λhn=>?_;have c:(i:Int)∉H5 a:=λf=>by grind [aZ]
 have:=SB (l:=(i:Int) :: H5 a) (l':=H5 b) (US.2 ⟨c,k6 a⟩) λx c=>by grind [aZ]
 grind
theorem Xz (x:AQ) (out:List AQ):∀n,(FQ x out n=0->n=0\/Fl x (out.getD 0 c0)=true)/\∀k,FQ x out n=k+1->Fl x (out.getD k c0)=false
 | 0=>⟨λ_=>.inl rfl,λk h=>by simp[FQ]at h⟩
 | n+1=>by
  obtain⟨h1,a⟩:=Xz x out n;grind [FQ]
theorem k7 {a b:AQ} (h:Fl a b=true):cnt b.2<=cnt a.2:=by
 unfold Fl at h;grind
theorem fC {a b:AQ} (h:Fl a b=false):cnt a.2<=cnt b.2:=by
 unfold Fl at h;grind
def HM (out:List AQ):Prop:=∀y∈out,cnt y.2<=cnt (out.getD 0 c0).2
theorem A7Z {out:List AQ} (h:HM out) (x:AQ):HM (dZ out x):=by
 obtain⟨s1,s2⟩:=Xz x out out.length;have c:=jN x out out.length;intro y a;rw[jR]at a;unfold dZ;cases hk:FQ x out out.length with
 | zero =>
  rw[Uo,UR,Yt];have e:([x]++out).getD 0 c0=x:=rfl;rw[e];rcases a with rfl|a
  .exact Is _
  have h1:=h y a;rcases s1 hk with e|e
  .grind
  exact Tp h1 (k7 e)
 | succ k =>
  have b:=fC (s2 k hk);rw[hk]at c;have e:(out.take (k+1)++[x]++out.drop (k+1)).getD 0 c0=out.getD 0 c0:=by grind
  rw[e];rcases a with rfl|a
  .exact Tp b (h _ (DU (by omega)))
  exact h y a
theorem k8 {d:List AK}:∀ {l:List (List Int)} {o:List AQ},HM o->HM (l.foldl (Rv d) o)
 | [],_,h=>h
 | b :: l,o,h=>by
  rw[Tk];exact k8 (A7Z h _)
def In (n:Nat) (c:List Int):Prop:=Ix c/\∀i,BW c i=true->i<n
theorem A9H (n:Nat):In n []:=⟨λx a=>(by cases a),λi hi=>by unfold BW at hi;simp at hi⟩
theorem A9I {n:Nat} {a b:List Int} (ha:In n a) (c:In n b):In n (GM a b) :=
 ⟨yT ha.1 c.1,λi hi=>by
  rw[yS ha.1 c.1,An]at hi;exact ha.2 i hi.1⟩
theorem A80 {n:Nat} {l:List (List Int)} (h:∀c∈l,In n c) (k:Nat):In n (l.getD k []):=by grind [DU,aD,A9H]
theorem A81 {n:Nat} {l:List (List Int)} (h:∀c∈l,In n c) (i k:Nat):∀c∈Gw l i k,In n c:=by grind [Gw,GM,A9I,A80]
theorem zM {q i:Nat}:∀ {n k:Nat} {l:List (List Int)},(∀c∈l,In q c)->∀c∈Gx i n k l,In q c
 | 0,_,_,h=>h
 | n+1,k,l,h=>by
  unfold Gx;split
  .exact zM (A81 h i k)
  exact h
theorem zN {q:Nat}:∀ {n i:Nat} {l:List (List Int)},(∀c∈l,In q c)->∀c∈JP n i l,In q c
 | 0,_,_,h=>h
 | n+1,i,l,h=>by
  unfold JP;split
  .exact zN (zM h)
  exact h
def X0 (h:AG):Prop:=∀t,0<=t->t<(h.1.length:Int)->BB h 0 t=true
theorem k9 (d:List AK):X0 (BJ d).1:=by
 have hk:=ME d;unfold BJ at hk ⊢;split
 .intro t h0 h1;simp at h1;omega
 rename_i g;rw[As g]at hk;have g:(Bj d).2=0:=IN g;have A:Bb d=0:=by grind [Bj]
 obtain⟨L,-,-⟩:=DE A;obtain⟨j,P,-⟩:=B5 L;obtain⟨-,z,-,hn,O⟩:=BD j;have G:=FD d d.length;rw[Tl]at G;have k:(AX d).length<=4096:=by omega
 obtain⟨r,H,N⟩:=qH j;have a:∀c∈A8 (Ak d),In (AX d).length c:=zN λc f=>by
  obtain⟨s,hs,rfl⟩:=If.1 f;exact⟨(EW (d:=d) k s 0).2.1,λi hi=>((EW (d:=d) k s i).1.1 hi).1⟩
 obtain⟨s,hs,M⟩:=UA.1 (W9 H);have I:s=r.1:=by grind [GP,jI]
 subst I;have n:HC d (AX d) r.1∈A8 (Ak d):=by
  have hp:Ak d <+: A8 (Ak d):=XI 257 0 (Ak d);exact hp.subset (If.2 ⟨_,hs,rfl⟩)
 have l:∀i,i<(AX d).length->BW (HC d (AX d) r.1) i=true:=λi hi=>by grind [EW,GP,DU]
 have B:HM (A5 d):=k8 λy K=>by cases K
 have q:=EX.2 ⟨_,n,rfl⟩;have u:0<(A5 d).length:=List.length_pos_of_mem q;have p:=B _ q;obtain⟨b,m,h⟩:=EX.1 (DU (d:=c0) u);rw[h]at p;have E:=A9G (a b m).1 (a _ n).1 (λi hi=>l i ((a b m).2 i hi)) p;have D:Bk (IE d) 0=b:=by
  show ((Fm (A5 d) _ _).getD 0 Y4).2.1=b;have:(Fm (A5 d) (Bj d).1 (A5 d).length).getD 0 Y4=(((A5 d).getD 0 c0).1,((A5 d).getD 0 c0).2,jU (A5 d) ((0:Nat):Int),(Bj d).1.getD 0 []):=by
   unfold Fm;rw[AS,UO,Ya u];rfl
  rw[this,h]
 have Q:(IE d).1.length=(A5 d).length:=NE _ _ _;intro t v w;refine(CZ hk (by omega) (by show (0:Int)<((IE d).1.length:Int);omega) v w).2 λi hi=>?_;show BW (Bk (IE d) 0) i=true;rw[D];refine E i (l i ?_);have C:=Cm v w;have F:Bk (IE d) t∈A8 (Ak d):=by
  have e:((IE d).1.map λt=>t.2.1)=(A5 d).map λx=>x.2:=by
   show ((Fm _ _ _).map λt=>t.2.1)=_;unfold Fm;rw[Uf];apply UZ
   .simp
   intro i h1 z;simp[AS,show i<(A5 d).length by simpa using h1]
  have o:Bk (IE d) t∈(IE d).1.map λt=>t.2.1:=C;rw[e]at o;obtain⟨x,J,ex⟩:=If.1 o;obtain⟨c,f,rfl⟩:=EX.1 J;rw[<-ex];exact f
 exact(a _ F).2 i hi
end Go.Proofs.YtapkhdkbkodbjaaGreat.Fw
