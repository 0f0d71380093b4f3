/- Contracts of functions and plain laws. -/
import Derived.Test.YtddbnflakbngaaaGreatDoorFYA
import Derived.Test.YtddbnflakbngaaaGreatDoorFZJ
import Derived.Test.YtddbnflakbngaaaGreatDoorFZI
import Derived.Laws.Strings
set_option linter.unusedVariables false
set_option linter.unusedSimpArgs false
namespace Go.Proofs.YtddbnflakbngaaaGreatDoor.Fw
attribute [local irreducible] Ev
set_option maxRecDepth 100000
set_option maxHeartbeats 4000000
variable {f g c:List AC} {p q Q:List Int} {n b S:Int} {k j P:Nat} {h:AE} {s x y:ByteArray} {l U:List (Int×Int)} {Z:List (Int×List (Int×Int))} {Y:List (List (Int×Int))} {m w:Int->Int} {A:List (List AC)} {X:Type} {a:Int->Nat} {W d:Ed} {V:List (Int×Bool)} {T:List (List Int)} {v:Int×Int} {R:List Bool} {O:AC} {N:AU}
def L6 (f:List AC) (o:List Int):List (Nat×Obj):=[(1,.box 71 false [.sr 5 T3 0 o.length]),(2,.box 98 false [.mp 6]),(3,.box 38 true [.p KT f]),(4,.box 185 false [.clo 105 [1,2,3,4]]),(5,.arr 3 T3 o),(6,.mapo T3 T3 (mOf o))]
theorem ABu {o:List Int} (h:ML f o):ML (Bo f) o:=⟨h.nd,λx a=>by rw[B0];exact h.rng x a⟩
theorem A8d {o:List Int} (h:ML (Bo f) o):ML f o:=⟨h.nd,λx a=>by have:=h.rng x a;rwa [B0]at this⟩
theorem y5 (f:List AC) (hf:Ae f) (hs:NdF f):∀(k:Nat) (o:List Int) (n:Int),ML f o->0<=n->n<f.length->n∉o->f.length-o.length<=k ->
  BB Tryz.prog 105 [.p T3 n,.bp 1 [] 0,.bp 2 [] 0,.bp 3 [] 0,.bp 4 [] 0] (L6 f o) [1,2,3,4,6] (λres Q=>res=.raw (.tuple #[])/\Q=L6 f (Dy (Bo f) k o n)):=by
 intro k;induction k with
 | zero =>
  intro o n h0 h1 B C R;have:=(h0.snoc h1 B C).len;simp only[IF,oR]at this;omega
 | succ k P =>
  intro o n E u v w hk;have t:=E.snoc u v w;have I:=t.len;simp only[IF,oR]at I;have S:=hf.1;refine JT [0,1,2,3,4,7,9,25,26,27,28,39] [] [] Tryz.func105 Tryz.ntmps105 AH ?_;intro w0 K O0 ρ0 b U V;simp only[L6,Aq];repeat'(first|exact a6|apply eS rfl|refine rX b ?_ ?_)
  .simp only[AP];omega
  rw[A2t w];obtain⟨O,A⟩:=uF hs n;have T:=A.1;have s:=λa (ha:a∈AQ (f.getD n.toNat (0,[])).2)=>CS hf ((Dd _).mem_iff.1 ha);have G:Dy (Bo f) (k+1) o n=(AQ (f.getD n.toNat (0,[])).2).foldl (BF (Bo f) k) (o++[n]):=by rw[Cu,ER]
  have F:=ABu (f:=f) t;refine cP 6 b ?_ ?_
  .exact⟨u,v⟩
  generalize (f.getD n.toNat (0,[])).2=g at *;refine rW b (ZB g) [] [] [(50,.nm 1)] (.clo 141 [50]) ([(50,.box 64 false [.p Nw g])]) ?_
  refine QZ b (Od g A O) [(1,.nm 50)] [50] ?_
  rintro _ _ ⟨rfl,rfl⟩;have D:=Cl g;rw[<-D];generalize AQ g=L at *;refine⟨[(51,.nm 7)],.sr 51 DN 0 L.length,[(51,.arr 68 DN L)],rfl,rfl,?_,?_,rfl,rfl,?_⟩
  .exact eN
  .exact eN
  refine HE [0,1,2,3,4,25,26,27] b a1 ?_ ?_
  .trivial
  have N:∀i,ML (Bo f) ((L.take i).foldl (BF (Bo f) k) (o++[n]))/\o++[n] <+: (L.take i).foldl (BF (Bo f) k) (o++[n]):=λi=>Ir (Gu (Gw hf) k) _ _ (λa ha=>by rw[B0];exact s a (ABI ha)) F;generalize J:o++[n]=q at *;have M:q.length=o.length+1:=by rw[<-J];simp
  rw[<-M];repeat' apply eS rfl
  refine AI (ι:={i:Nat//i<=L.length}) (λi=>⟨[(0,.p T3 n),(1,.bp 1 [] 0),(2,.bp 2 [] 0),(3,.bp 3 [] 0),(4,.bp 4 [] 0),(25,.p Nw L),(26,.p (.int .i64) (L.length:Int)),(27,.p (.int .i64) (i.1:Int))],L6 f ((L.take i.1).foldl (BF (Bo f) k) q)⟩) (λi=>L.length-i.1) ⟨0,O1⟩ (AAY [51] (AB [(1,.nm 1),(2,.nm 2),(3,.nm 3),(4,.nm 4),(5,.nm 5),(6,.nm 6)] rfl rfl ?_ ?_)) (λi=>?_)
  .simp only[L6,ACQ,AEB];exact eN
  .exact eN
  obtain⟨i,hi⟩:=i;obtain⟨j,y⟩:=N i;replace j:=A8d j;have r:=λ(h:i<L.length)=>Sb (BF (Bo f) k) L (0,0) q h;have H:=y.length_le;generalize x:(L.take i).foldl (BF (Bo f) k) q=c at j y r H;simp only[L6];repeat'(first|exact a6|apply eS rfl|apply AD|refine rX b ?_ ?_|refine rC ?_ ?_<;>intro d<;>try(cases d;done))
  .exact eV
  .have l:i<L.length:=by exact eV
   have z:=s _ (AG L (0,0) l);have m:(L.getD i (0,0)).2∉c:=by rw[Wi]at d;simpa using d
   refine cP 3 b ?_ ?_
   .trivial
   refine rM b (P c (L.getD i (0,0)).2 j z.1 z.2 m O1) [(1,.nm 1),(2,.nm 2),(3,.nm 3),(4,.nm 4),(5,.nm 5),(6,.nm 6)] [5] ?_ ?_ ?_
   .exact eN
   .simp only[L6];exact eN
   rintro _ _ ⟨rfl,rfl⟩;refine⟨[(1,.nm 1),(2,.nm 2),(3,.nm 3),(4,.nm 4),(5,.nm 5),(6,.nm 6)],.raw (.tuple #[]),L6 f (Dy (Bo f) k c (L.getD i (0,0)).2),rfl,rfl,?_,?_,rfl,rfl,E7 ?_⟩
   .simp only[L6];exact eN
   .exact eN
   simp only[L6];repeat'(first|apply eS rfl|apply AD|refine rX b ?_ ?_)
   .exact eV
   have e:BF (Bo f) k c (L.getD i (0,0))=Dy (Bo f) k c (L.getD i (0,0)).2:=As m;refine⟨⟨i+1,O1⟩,a2,AB [(1,.nm 1),(2,.nm 2),(3,.nm 3),(4,.nm 4),(5,.nm 5),(6,.nm 6)] rfl rfl ?_ ?_⟩
   .simp only[r l,e];exact eN
   exact eN
  .exact eV
  .have l:i<L.length:=by exact eV
   have m:(L.getD i (0,0)).2∈c:=by rw[Wi]at d;simpa using d
   have e:BF (Bo f) k c (L.getD i (0,0))=c:=At m;refine⟨⟨i+1,O1⟩,a2,AB [(1,.nm 1),(2,.nm 2),(3,.nm 3),(4,.nm 4),(5,.nm 5),(6,.nm 6)] rfl rfl ?_ ?_⟩
   .simp only[r l,e];exact eN
   exact eN
  have hk:L.take i=L:=BY eV;rw[hk]at x;rw[G,x];exact fM b [] (.raw (.tuple #[])) rfl ⟨rfl,rfl⟩
section
theorem y6 {α a:Type} (g:α->a) (o:List α) (d:α) (z:a) {i:Nat} (h:i<o.length):((o.take i).map g++List.replicate (o.length-i) z).set i (g (o.getD i d))=(o.take (i+1)).map g++List.replicate (o.length-(i+1)) z:=by
 obtain⟨m,c⟩:∃m,o.length-i=m+1:=⟨o.length-i-1,O1⟩;have e:o.length-(i+1)=m:=by omega
 have b:((o.take i).map g).length=i:=by rw[OR,On];omega
 rw[c,e,AEc _ _ O1,b,AD9,List.replicate_succ,AEs,Ap o d h,ABX];simp
def Ur:Ab:={ ins:=[GZ,T3],pre:=λ(f,n,_)=>Ae f/\NdF f/\0<=n/\n<(List.length f:Int),out:=λ(f,n,_)=>[.p GZ (AO (Bo f) n)] }
attribute [go_sem] Ur
theorem y7:Ag Tryz.prog 62 Ur:=by
 refine fK [0,1,2,4,5,6,7,8,9,10,11,12,22,23,24,25,38,39,40] Tryz.func62 Tryz.ntmps62 AH ?_;rintro w0 O0 ⟨f,root,u⟩ a-⟨hf,hs,r,s⟩;simp only[Ur,AL];have z:=hf.1;have l:ML f []:=⟨sc,λx D=>by cases D⟩;obtain⟨g,H⟩:=Gu (Gw hf) f.length [] root (ABu l) r (by rw[B0];exact s) sc;replace g:=A8d g;have w:AO (Bo f) root=(Dy (Bo f) f.length [] root).map (Ho (Bo f) (Dy (Bo f) f.length [] root)):=by unfold AO;rw[B0]
 rw[w];repeat'(first|exact a6|apply eS rfl|apply AD|refine rX a ?_ ?_|refine rC ?_ ?_<;>intro c<;>try(cases c;done))
 refine cP 2 a ?_ ?_
 .trivial
 refine rM a (y5 f hf hs (List.length f) [] root l r s sc sc) [(1,.nm 6),(2,.nm 5),(3,.nm 2),(4,.nm 7),(5,.nil),(6,.nm 13)] [] ?_ ?_ ?_
 .exact eN
 .simp only[L6];refine eM ?_;rfl
 rintro _ _ ⟨rfl,rfl⟩;refine⟨[(6,.nm 1),(5,.nm 2),(2,.nm 3),(7,.nm 4),(101,.nm 5),(13,.nm 6)],.raw (.tuple #[]),[(6,.box 71 false [.sr 101 T3 0 (Dy (Bo f) (List.length f) [] root).length]),(5,.box 98 false [.mp 13]),(2,.box 38 true [.p KT f]),(7,.box 185 false [.clo 105 [6,5,2,7]]),(101,.arr 3 T3 (Dy (Bo f) (List.length f) [] root)),(13,.mapo T3 T3 (mOf (Dy (Bo f) (List.length f) [] root)))],rfl,rfl,?_,?_,rfl,rfl,E7 ?_⟩
 .simp only[L6];exact eN
 .exact eN
 generalize Dy (Bo f) (List.length f) [] root=o at *;have G:=g.len;repeat'(first|exact a6|apply eS rfl|apply AD|refine rX a ?_ ?_|refine rC ?_ ?_<;>intro c<;>try(cases c;done))
 .simp only[AP];omega
 refine AI (ι:={i:Nat//i<=o.length}) (λi=>⟨[(2,.bp 2 [] 0),(4,.bp 4 [] 0),(5,.bp 5 [] 0),(8,.bp 8 [] 0),(22,.sr 101 T3 0 o.length),(23,.p (.int .i64) (o.length:Int)),(24,.p (.int .i64) (i.1:Int))],[(8,.box 38 true [.sr 20 Uj 0 o.length]),(20,.arr 66 Uj ((o.take i.1).map (Ho (Bo f) o)++List.replicate (o.length-i.1) (0,[]))),(5,.box 98 false [.mp 13]),(2,.box 38 true [.p KT f]),(101,.arr 3 T3 o),(13,.mapo T3 T3 (mOf o)),(4,.box 38 true [.raw (.slice none 0 0)])]⟩) (λi=>o.length-i.1) ⟨0,O1⟩ (eW [(8,.nm 8),(20,.nm 20),(5,.nm 5),(2,.nm 2),(101,.nm 101),(13,.nm 13),(4,.nm 4)]) (λi=>?_)
 obtain⟨i,hi⟩:=i;repeat'(first|exact a6|apply eS rfl|apply AD|refine rX a ?_ ?_|refine rC ?_ ?_<;>intro c<;>try(cases c;done))
 .exact eV
 .have m:i<o.length:=by exact eV
  have hn:=g.rng _ (AG o 0 m);have q:Ho (Bo f) o (o.getD i 0)=((f.getD (o.getD i 0).toNat (0,[])).1,(AQ (f.getD (o.getD i 0).toNat (0,[])).2).map (MG o)):=by unfold Ho;rw[ER]
  obtain⟨t,j⟩:=uF hs (o.getD i 0);have B:=j.1;refine cP 6 a ?_ ?_
  .exact hn
  have F:List.length f<=100000:=z;generalize C:o.getD i 0=n at *;generalize A:f.getD n.toNat (0,[])=x at *;obtain⟨I,d⟩:=x;simp only at t j B q;refine rW a (ZB d) [] [] [(50,.nm 1)] (.clo 141 [50]) ([(50,.box 64 false [.p Nw d])]) ?_
  refine QZ a (Od d j t) [(1,.nm 50)] [50] ?_
  rintro _ _ ⟨rfl,rfl⟩;have v:=Cl d;rw[<-v];generalize E:AQ d=L at *;refine⟨[(51,.nm 7)],.sr 51 DN 0 L.length,[(51,.arr 68 DN L)],rfl,rfl,?_,?_,rfl,rfl,?_⟩
  .exact eN
  .exact eN
  refine HE [2,4,5,8,9,10,11,22,23,24] a a1 ?_ ?_
  .trivial
  repeat'(first|exact a6|apply eS rfl|apply AD|refine rX a ?_ ?_|refine rC ?_ ?_<;>intro c<;>try(cases c;done))
  refine AI (ι:={k:Nat//k<=L.length}) (λk=>⟨[(2,.bp 2 [] 0),(4,.bp 4 [] 0),(5,.bp 5 [] 0),(8,.bp 8 [] 0),(9,.p (.int .i64) (i:Int)),(10,.p T3 n),(11,.sr 51 DN 0 L.length),(22,.sr 101 T3 0 o.length),(23,.p (.int .i64) (o.length:Int)),(24,.p (.int .i64) (i:Int)),(38,.p (.int .i64) (L.length:Int)),(39,.p (.int .i64) (k.1:Int))],[(51,.arr 68 DN ((L.take k.1).map (MG o)++L.drop k.1)),(8,.box 38 true [.sr 20 Uj 0 o.length]),(20,.arr 66 Uj ((o.take i).map (Ho (Bo f) o)++List.replicate (o.length-i) (0,[]))),(5,.box 98 false [.mp 13]),(2,.box 38 true [.p KT f]),(101,.arr 3 T3 o),(13,.mapo T3 T3 (mOf o)),(4,.box 38 true [.raw (.slice none 0 0)])]⟩) (λk=>L.length-k.1) ⟨0,O1⟩ (eW [(51,.nm 51),(8,.nm 8),(20,.nm 20),(5,.nm 5),(2,.nm 2),(101,.nm 101),(13,.nm 13),(4,.nm 4)]) (λk=>?_)
  obtain⟨k,hk⟩:=k;repeat'(first|exact a6|apply eS rfl|apply AD|refine rX a ?_ ?_|refine rC ?_ ?_<;>intro c<;>try(cases c;done))
  .exact eV
  .exact eV
  .have h:k<L.length:=by exact eV
   have e:=We (MG o) (λb=>b) L (0,0) h (MG o);refine⟨⟨k+1,O1⟩,a2,AB [(51,.nm 51),(8,.nm 8),(20,.nm 20),(5,.nm 5),(2,.nm 2),(101,.nm 101),(13,.nm 13),(4,.nm 4)] rfl rfl ?_ ?_⟩
   .refine eM ?_;rw[e.2];rw[<-e.1];unfold MG;rw[<-A6s]
   exact eN
  .exact⟨hn,eV⟩
  .exact eV
  have h:L.take k=L:=BY eV;have y:L.drop k=[]:=NO eV;refine⟨⟨i+1,O1⟩,a2,AB [(8,.nm 8),(20,.nm 20),(5,.nm 5),(2,.nm 2),(101,.nm 101),(13,.nm 13),(4,.nm 4)] rfl rfl ?_ ?_⟩
  .refine eM ?_;rw[h,y,AAW];have e:=y6 (Ho (Bo f) o) o 0 (0,[]) m;rw[C,q]at e;rw[<-e,A,BY (by simp:(L.map (MG o)).length<=L.length)]
  exact eN
 have hk:o.take i=o:=BY eV;have hz:o.length-i=0:=by exact eV
 rw[hk,hz];exact fI a [.cell 4 38] (by simp only[List.replicate_zero,AAW];first|exact eR|refine MJ ?_;exact BY (by rw[OR];exact eV))
end
def HP (n:Int) (seen:List (Int×Int)):List (Int×Int)->Int
 | []=>0
 | x :: r=>if x.1<0\/x.2<0\/n<=x.2 then 2 else if (seen.any λy=>y.1==x.1)=true then 4 else HP n (seen++[x]) r
def Hp (l:List (Int×Int)) (n:Int):Int:=HP n [] l
def jD:Ab:={ ins:=[Nw,T3],pre:=λ_=>True,out:=λ(l,n,_)=>[.p DG (Hp l n)] }
theorem Pd (n:Int) (l:List (Int×Int)) (h:k<l.length):HP n (l.take k) (l.drop k)=if (l.getD k (0,0)).1<0\/(l.getD k (0,0)).2<0\/n<=(l.getD k (0,0)).2 then 2 else if ((l.take k).any λy=>y.1==(l.getD k (0,0)).1)=true then 4 else HP n (l.take (k+1)) (l.drop (k+1)):=by
 rw[Ap l (0,0) h,OS h,AS,AT h];rfl
theorem Xz (l:List (Int×Int)) (f:Int) (h:k<l.length):((l.take (k+1)).any λy=>y.1==f)=((l.take k).any (λy=>y.1==f)||((l.getD k (0,0)).1==f)):=by
 rw[Ap l (0,0) h,ADK];simp
theorem A6x:Ag Tryz.prog 101 jD:=by
 refine fK [0,1,4,5,6,10,35,38,51] Tryz.func101 Tryz.ntmps101 AH ?_;rintro w0 O0 ⟨l,n,u⟩ b ⟨⟨h,-⟩,-⟩ -;simp only[AP]at h;simp only[jD,AL];repeat'(first|exact a6|apply eS rfl|refine rX b ?_ ?_)
 refine AI (ι:={k:Nat//k<=l.length/\HP n (l.take k) (l.drop k)=Hp l n}) (λk=>⟨[(0,.p Nw l),(1,.p T3 n),(5,.p (.int .i64) (k.1:Int))],[]⟩) (λk=>l.length-k.1) ⟨0,by simp[Hp]⟩ (AB [] rfl rfl ?_ ?_) (λk=>?_)
 .exact eN
 .exact eN
 obtain⟨k,hk,c⟩:=k;repeat'(first|exact a6|apply eS rfl|refine rX b ?_ ?_|refine rC ?_ ?_<;>intro a<;>try(cases a;done))
 .exact eV
 .have hk:k<l.length:=by exact eV
  have h1:Hp l n=2:=by
   rw[<-c,Pd n l hk,At (by rw[<-or_assoc];exact a)]
  exact fI b [.tmp 4] (by rw[h1];exact eR)
 .have hk:k<l.length:=by exact eV
  have hn:¬((l.getD k (0,0)).1<0\/(l.getD k (0,0)).2<0\/n<=(l.getD k (0,0)).2):=by
   have:=a;generalize l.getD k (0,0)=x at this;exact eV
  rw[Pd n l hk,As hn]at c;refine AI (ι:={j:Nat//j<=k/\((l.take j).any λy=>y.1==(l.getD k (0,0)).1)=false}) (λj=>⟨[(0,.p Nw l),(1,.p T3 n),(5,.p (.int .i64) (k:Int)),(6,.p (.int .i64) (j.1:Int))],[]⟩) (λj=>k-j.1) ⟨0,sc⟩ (AB [] rfl rfl ?_ ?_) (λj=>?_)
  .exact eN
  .exact eN
  obtain⟨j,i,f⟩:=j;repeat'(first|exact a6|apply eS rfl|apply AD|refine rX b ?_ ?_|refine rC ?_ ?_<;>intro a<;>try(cases a;done))
  .exact eV
  .have e:j<l.length:=by exact eV
   have h1:Hp l n=4:=by
    have d:((l.take k).any λy=>y.1==(l.getD k (0,0)).1)=true:=by
     rw[aS];refine⟨l.getD j (0,0),?_,by simpa using a⟩;rw[AS,AT e];exact ADt.2 ⟨j,eV,rfl⟩
    rw[<-c,At d]
   exact fI b [.tmp 4] (by rw[h1];exact eR)
  .exact eV
  .have e:j<l.length:=by exact eV
   refine⟨⟨j+1,eV,?_⟩,by simp only;exact eV,AB [] rfl rfl ?_ ?_⟩
   .have d:=Xz l (l.getD k (0,0)).1 e;refine d.trans ?_;rw[f];simpa using a
   .exact eN
   exact eN
  .exact eV
  have g:j=k:=by exact eV
  subst g;refine⟨⟨j+1,eV,?_⟩,by simp only;exact eV,AB [] rfl rfl ?_ ?_⟩
  .rw[<-c,As (by rw[f];simp)]
  .exact eN
  exact eN
 have h1:Hp l n=0:=by
  have hk:l.length<=k:=by exact eV
  rw[<-c,NO hk];rfl
 exact fI b [.tmp 4] (by rw[h1];exact eR)
def y8 (n:Int×List (Int×Int)):List Int:=n.1 :: (n.2.length:Int) :: n.2.flatMap λa=>[a.1,a.2]
def CL (f:List (Int×List (Int×Int))):List Int:=(f.length:Int) :: f.flatMap y8
def X0 (l:List (Int×List (Int×Int))) (k:Nat):List Int:=(l.length:Int) :: (l.take k).flatMap y8
def Wl (l:List (Int×List (Int×Int))) (k j:Nat):List Int:=X0 l k++[(l.getD k (0,[])).1,((l.getD k (0,[])).2.length:Int)]++((l.getD k (0,[])).2.take j).flatMap λa=>[a.1,a.2]
theorem Sd:∀l:List (Int×Int),(l.flatMap λa=>[a.1,a.2]).length=2*l.length
 | []=>rfl
 | x :: l=>by simp[Sd l];omega
theorem A2x (n:Int×List (Int×Int)):(y8 n).length=2+2*n.2.length:=by
 have:=Sd n.2;simp only[y8,If];omega
theorem Wm:∀l:List (Int×List (Int×Int)),(∀n∈l,n.2.length<=100000)->(l.flatMap y8).length<=l.length*200002
 | [],_=>by simp
 | x :: l,h=>by
  have h1:=h x sc;have a:=Wm l (λn hn=>h n (by simp[hn]));have b:=A2x x;simp only[ADz,IF,If];omega
theorem jE {l:List (Int×List (Int×Int))} (h:∀n∈l,n.2.length<=100000) (hk:k<=l.length):(X0 l k).length<=1+k*200002:=by
 have h1:=Wm (l.take k) (λn hn=>h n (ABI hn));rw[On,ADl hk]at h1;simp only[X0,If];omega
theorem A2y {l:List (Int×List (Int×Int))} (h:∀n∈l,n.2.length<=100000) (hk:k<l.length) (b:j<=(l.getD k (0,[])).2.length):(Wl l k j).length<=3+k*200002+2*j:=by
 have h1:=jE h (Nat.le_of_lt hk);have a:=Sd ((l.getD k (0,[])).2.take j);rw[On,ADl b]at a;simp only[Wl,IF,If,ABv];omega
theorem ZC {l:List (Int×List (Int×Int))} (hk:k<l.length):X0 l (k+1)=Wl l k (l.getD k (0,[])).2.length:=by
 unfold X0 Wl;rw[Ap l (0,[]) hk,ADm,tO];simp[y8,X0]
theorem ZD {l:List (Int×List (Int×Int))} (a:j<(l.getD k (0,[])).2.length):Wl l k (j+1)=Wl l k j++[((l.getD k (0,[])).2.getD j (0,0)).1,((l.getD k (0,[])).2.getD j (0,0)).2]:=by
 unfold Wl;rw[Ap _ (0,0) a,ADm];simp
def Wn:Ab:={ ins:=[GZ],pre:=λ(f,_)=>f.length<=100000/\∀n∈f,n.2.length<=100000,out:=λ(f,_)=>[.p DH (CL f)] }
theorem o8:Ag Tryz.prog 72 Wn:=by
 refine fK [0,1,2,3,4,5,6,15,38] Tryz.func72 Tryz.ntmps72 AH ?_;rintro w0 O0 ⟨l,u⟩ a ⟨h,-⟩ ⟨n,d⟩;simp only[Wn,AL];repeat'(first|exact a6|apply eS rfl|refine rX a ?_ ?_)
 refine AI (ι:={k:Nat//k<=l.length}) (λk=>⟨[(0,.p GZ l),(1,.bp 1 [] 0),(3,.sr 10 T3 0 (X0 l k.1).length),(4,.p (.int .i64) (k.1:Int))],[(1,.box 38 true [.p KT l]),(10,.arr 3 T3 (X0 l k.1))]⟩) (λk=>l.length-k.1) ⟨0,sc⟩ (AB [(1,.nm 1),(10,.nm 10)] rfl rfl ?_ ?_) (λk=>?_)
 .refine eM ?_;rfl
 .refine eM ?_;rfl
 obtain⟨k,hk⟩:=k;have i:=jE d hk;repeat'(first|exact a6|apply eS rfl|refine rX a ?_ ?_|refine rC ?_ ?_<;>intro c<;>try(cases c;done))
 .exact eV
 .refine⟨eV,?_⟩;simp only[AP];exact eV
 .have b:k<l.length:=by exact eV
  have o:=d _ (AG l (0,[]) b);refine AI (ι:={j:Nat//j<=(l.getD k (0,[])).2.length}) (λj=>⟨[(0,.p GZ l),(1,.bp 1 [] 0),(3,.sr 10 T3 0 (Wl l k j.1).length),(4,.p (.int .i64) (k:Int)),(5,.p Nw (l.getD k (0,[])).2),(6,.p (.int .i64) (j.1:Int))],[(1,.box 38 true [.p KT l]),(10,.arr 3 T3 (Wl l k j.1))]⟩) (λj=>(l.getD k (0,[])).2.length-j.1) ⟨0,sc⟩ (AB [(1,.nm 1),(10,.nm 10)] rfl rfl ?_ ?_) (λj=>?_)
  .refine eM ?_;simp[Wl]
  .refine eM ?_;simp[Wl]
  obtain⟨j,f⟩:=j;have m:=A2y d b f;repeat'(first|exact a6|apply eS rfl|apply AD|refine rX a ?_ ?_|refine rC ?_ ?_<;>intro c<;>try(cases c;done))
  .refine⟨eV,eV,?_⟩;simp only[AP];exact eV
  .exact eV
  .have e:j<(l.getD k (0,[])).2.length:=by exact eV
   refine⟨⟨j+1,eV⟩,by simp only;exact eV,AB [(1,.nm 1),(10,.nm 10)] rfl rfl ?_ ?_⟩
   .refine eM ?_;exact(ZD e).symm
   refine eM ?_;have:=AC4 List.length (ZD (l:=l) e);rw[IF]at this;exact this.symm
  .exact eV
  have g:j=(l.getD k (0,[])).2.length:=by exact eV
  subst g;refine⟨⟨k+1,eV⟩,by simp only;exact eV,AB [(1,.nm 1),(10,.nm 10)] rfl rfl ?_ ?_⟩
  .refine eM ?_;exact(ZC b).symm
  refine eM ?_;exact AC4 List.length (ZC b).symm
 have hk:l.take k=l:=BY eV;have h1:X0 l k=CL l:=by unfold X0 CL;rw[hk]
 exact fI a [.tmp 2] (by first|exact eR|refine MJ ?_;exact h1)
section
attribute [go_sem] Wn
def X2:List Int->List Int->Int
 | x :: xs,y :: ys=>if x<y then -1 else if y<x then 1 else X2 xs ys
 | _,_=>0
theorem Se (xs ys:List Int) (h1:k<xs.length) (a:k<ys.length):X2 (xs.drop k) (ys.drop k)=if xs.getD k 0<ys.getD k 0 then -1 else if ys.getD k 0<xs.getD k 0 then 1 else X2 (xs.drop (k+1)) (ys.drop (k+1)):=by
 rw[OS h1,OS a,AS,AT h1,AS,AT a];rfl
theorem A2z (xs ys:List Int) (h:xs.length<=k\/ys.length<=k):X2 (xs.drop k) (ys.drop k)=0:=by
 rcases h with h|h
 .rw[NO h];simp[X2]
 rw[NO h];simp[X2]
def FY (a b:List (Int×List (Int×Int))):Int:=X2 (CL a) (CL b)
def FL (f:List (Int×List (Int×Int))):Prop:=f.length<=100000/\∀n∈f,n.2.length<=100000
def Wo:Ab:={ ins:=[GZ,GZ],pre:=λ(a,b,_)=>FL a/\FL b,out:=λ(a,b,_)=>[.p T3 (FY a b)] }
theorem Q5 {f:List (Int×List (Int×Int))} (h:FL f):(CL f).length<=1+f.length*200002:=by
 have:=Wm f h.2;simp only[CL,If];omega
theorem o9:Ag Tryz.prog 38 Wo:=by
 refine fK [0,1,2,3,4,5,6,7,21,32,41] Tryz.func38 Tryz.ntmps38 (AF o8 AH) ?_;rintro w0 O0 ⟨a,b,u⟩ e-⟨⟨g,i⟩,⟨j,l⟩⟩;have m:=Q5 ⟨g,i⟩;have n:=Q5 ⟨j,l⟩;simp only[Wo,AL];repeat'(first|exact a6|apply eS rfl|refine rX e ?_ ?_)
 .exact⟨g,i⟩
 .exact⟨j,l⟩
 refine AI (ι:={k:Nat//X2 ((CL a).drop k) ((CL b).drop k)=FY a b}) (λk=>⟨[(5,.p DH (CL a)),(6,.p DH (CL b)),(7,.p (.int .i64) (k.1:Int))],[]⟩) (λk=>(CL a).length-k.1) ⟨0,by simp[FY]⟩ (AB [] rfl rfl ?_ ?_) (λk=>?_)
 .exact eN
 .exact eN
 obtain⟨k,hk⟩:=k;repeat'(first|exact a6|apply eS rfl|apply AD|refine rX e ?_ ?_|refine rC ?_ ?_<;>intro f<;>try(cases f;done))
 .exact eV
 .obtain⟨h1,c⟩:k<(CL a).length/\k<(CL b).length:=by exact eV
  have d:FY a b=-1:=by rw[<-hk,Se _ _ h1 c,At f]
  exact fI e [.tmp 4] (by rw[d];exact eR)
 .exact eV
 .obtain⟨h1,c⟩:k<(CL a).length/\k<(CL b).length:=by exact eV
  have d:FY a b=1:=by rw[<-hk,Se _ _ h1 c,As eV,At f]
  exact fI e [.tmp 4] (by rw[d];exact eR)
 .exact eV
 .obtain⟨h1,c⟩:k<(CL a).length/\k<(CL b).length:=by exact eV
  refine⟨⟨k+1,?_⟩,by simp only;exact eV,AB [] rfl rfl ?_ ?_⟩
  .rw[<-hk,Se _ _ h1 c,As eV,As eV]
  .exact eN
  exact eN
 have d:FY a b=0:=by
  rw[<-hk];apply A2z;by_cases h:k<(CL a).length
  .right;have:=f eV;exact eV
  left;exact eV
 exact fI e [.tmp 4] (by rw[d];exact eR)
def LX:Ab:={ ins:=[GZ,GZ],pre:=λ(a,b,_)=>FL a/\FL b,out:=λ(a,b,_)=>[.p .bool (FY a b==0)] }
end
section
attribute [go_sem] Wo jD
theorem jF:Ag Tryz.prog 12 LX:=by
 refine fK [0,1,2,3,4] Tryz.func12 Tryz.ntmps12 (AF o9 AH) ?_;rintro w0 O0 ⟨a,b,u⟩ c-d;simp only[LX,AL];repeat'(first|exact a6|apply eS rfl|refine rX c ?_ ?_)
 .exact d
 exact fI c [.tmp 4]
def It (m:Int):List (Int×List (Int×Int))->Int
 | []=>0
 | n :: r=>if n.1<0 then 2 else if Hp n.2 m≠0 then Hp n.2 m else It m r
def CX (f:List (Int×List (Int×Int))):Int:=if f.length=0 then 1 else if 4096<f.length then 7 else It f.length f
def uG:Ab:={ ins:=[GZ],pre:=λ_=>True,out:=λ(f,_)=>[.p DG (CX f)] }
theorem Iu (m:Int) (l:List (Int×List (Int×Int))) (h:k<l.length):It m (l.drop k)=if (l.getD k (0,[])).1<0 then 2 else if Hp (l.getD k (0,[])).2 m≠0 then Hp (l.getD k (0,[])).2 m else It m (l.drop (k+1)):=by
 rw[OS h,AS,AT h];rfl
theorem A6y:Ag Tryz.prog 57 uG:=by
 refine fK [0,1,2,3,4,8,12,17,26,38] Tryz.func57 Tryz.ntmps57 (AF A6x AH) ?_;rintro w0 O0 ⟨l,u⟩ a ⟨f,-⟩ -;simp only[uG,AL];repeat'(first|exact a6|apply eS rfl|refine rX a ?_ ?_|refine rC ?_ ?_<;>intro b<;>try(cases b;done))
 .have h1:CX l=1:=by
   have h:l.length=0:=by exact eV
   unfold CX;rw[At h]
  exact fI a [.tmp 2] (by rw[h1];exact eR)
 .have h1:CX l=7:=by
   have h:¬l.length=0:=by exact eV
   have e:4096<l.length:=by exact eV
   unfold CX;rw[As h,At e]
  exact fI a [.tmp 2] (by rw[h1];exact eR)
 have h1:CX l=It l.length l:=by
  have h:¬l.length=0:=by exact eV
  have e:¬4096<l.length:=by exact eV
  unfold CX;rw[As h,As e]
 refine AI (ι:={k:Nat//k<=l.length/\It l.length (l.drop k)=CX l}) (λk=>⟨[(1,.bp 1 [] 0),(3,.p (.int .i64) (k.1:Int))],[(1,.box 38 true [.p KT l])]⟩) (λk=>l.length-k.1) ⟨0,by simp[h1]⟩ (AB [(1,.nm 1)] rfl rfl ?_ ?_) (λk=>?_)
 .exact eN
 .exact eN
 obtain⟨k,hk,hf⟩:=k;repeat'(first|exact a6|apply eS rfl|apply AD|refine rX a ?_ ?_|refine rC ?_ ?_<;>intro b<;>try(cases b;done))
 .exact eV
 .have d:k<l.length:=by exact eV
  have c:CX l=2:=by rw[<-hf,Iu _ _ d,At b]
  exact fI a [.tmp 2] (by rw[c];exact eR)
 .exact eV
 .have d:k<l.length:=by exact eV
  have c:CX l=Hp (l.getD k (0,[])).2 l.length:=by rw[<-hf,Iu _ _ d,As eV,At b]
  exact fI a [.tmp 2] (by rw[c];exact eR)
 .exact eV
 .have d:k<l.length:=by exact eV
  refine⟨⟨k+1,eV,?_⟩,by simp only;exact eV,AB [(1,.nm 1)] rfl rfl ?_ ?_⟩
  .rw[<-hf,Iu _ _ d,As eV,As (by simpa using b)]
  .exact eN
  exact eN
 have c:CX l=0:=by
  have hk:l.length<=k:=by exact eV
  rw[<-hf,NO hk];rfl
 exact fI a [.tmp 2] (by rw[c];exact eR)
end
section
attribute [go_sem] uG oY
theorem Wp {n:Int}:∀ {l seen:List (Int×Int)},HP n seen l=0->∀a∈l,0<=a.1/\0<=a.2/\a.2<n
 | [],_,_,a,ha=>by cases ha
 | x :: l,seen,h,a,ha=>by
  simp only[HP]at h;split at h
  .cases h
  split at h
  .cases h
  rename_i h1 _;rcases By.1 ha with rfl|ha
  .omega
  exact Wp h a ha
theorem Pe {m:Int}:∀ {f:List (Int×List (Int×Int))},It m f=0->∀x∈f,0<=x.1/\∀a∈x.2,0<=a.1/\0<=a.2/\a.2<m
 | [],_,x,c=>by cases c
 | y :: f,h,x,c=>by
  simp only[It]at h;split at h
  .cases h
  split at h
  .rename_i h1 b;exact absurd h b
  rename_i h1 b;have b:Hp y.2 m=0:=Do b;rcases By.1 c with rfl|c
  .exact⟨O1,Wp b⟩
  exact Pe h x c
def NE (f:List (Int×List (Int×Int))):Prop:=∀x∈f,x.2.length<=100000
def pA (f:List (Int×List (Int×Int))):Prop:=∀x∈f,x.2.length<=8796093022207
theorem NE.big {f:List (Int×List (Int×Int))} (h:NE f):pA f:=λx a=>iN (h x a) dg
theorem Wq {f:List (Int×List (Int×Int))} (h:CX f=0) (hs:pA f):Q3 f/\0<f.length:=by
 unfold CX at h;split at h
 .cases h
 split at h
 .cases h
 refine⟨⟨O1,λx b=>⟨hs x b,λa ha=>?_⟩⟩,O1⟩;have:=(Pe h x b).2 a ha;exact⟨this.2.1,this.2.2⟩
theorem Pf {f:List (Int×List (Int×Int))} (h:CX f=0) (hs:NE f):Ae f/\0<f.length :=
 have k:=Wq h hs.big
 ⟨⟨k.1.1,λx a=>⟨hs x a,(k.1.2 x a).2⟩⟩,k.2⟩
def A8 (f:List AC):List AC×Int:=if CX f=0 then (L4 f 0,0) else ([],CX f)
def cB:Ab:={ ins:=[GZ],pre:=λ(f,_)=>NE f,out:=λ(f,_)=>[.p GZ (A8 f).1,.p DG (A8 f).2] }
def cC:Ab:={ ins:=[GZ],pre:=λ(f,_)=>pA f,out:=λ(f,_)=>[.p GZ (A8 f).1,.p DG (A8 f).2] }
theorem y9:Ag Tryz.prog 27 cC:=by
 refine fK [0,1,2,3,4,8] Tryz.func27 Tryz.ntmps27 (AF A6y (AF A2s AH)) ?_;rintro w0 O0 ⟨f,u⟩ b-hs;simp only[cC,AL];repeat'(first|exact a6|apply eS rfl|refine rX b ?_ ?_|refine rC ?_ ?_<;>intro a<;>try(cases a;done))
 .have h:¬CX f=0:=by simpa using a
  have e:A8 f=([],CX f):=As h;exact fI b [.cell 2 38,.tmp 3] (by rw[e];exact eR)
 .have h:CX f=0:=by simpa using a
  have:=Wq h hs;exact⟨this.1,eV⟩
 have h:CX f=0:=by simpa using a
 have e:A8 f=(L4 f 0,0):=At h;exact fI b [.cell 2 38,.tmp 3] (by rw[e];exact eR)
theorem jG:Ag Tryz.prog 27 cB:=A9g y9 λ_ h=>NE.big h
end
theorem uH {α:Type} (d:α) {l:List α} (h:k<l.length):l.drop k=l.getD k d :: l.drop (k+1):=by
 rw[OS h];have e:l.getD k d=l[k]:=by simp[AS,h]
 rw[e]
section
def jH (l:List (Int×Int)):List (Int×Bool):=l.foldl (λm a=>Fd T3 .bool a.1 true m) []
theorem Wr {b:Ty} (x k:Int) (v:b.den) (m:List (Int×b.den)):Bc T3 b x (Fd T3 b k v m)=if x=k then some v else Bc T3 b x m:=by
 induction m with
 | nil=>simp[Fd,Bc,Ht]
 | cons y m g =>
  simp only[Fd];by_cases c:Ht T3 k y.1=true
  .rw[At c];have d:k=y.1:=by simpa[Ht] using c
   simp only[Bc,Ht,AAv];by_cases a:x=k
   .rw[At a,At a]
   rw[As a,As a,As (by rw[<-d];exact a)]
  rw[As c];have d:¬k=y.1:=by simpa[Ht] using c
  simp only[Bc];by_cases a:Ht T3 x y.1=true
  .have f:x=y.1:=by simpa[Ht] using a
   rw[At a,At a,As (by rw[f];exact λe=>d e.symm)]
  rw[As a,As a,g]
theorem zA (x:Int) (l:List (Int×Int)):(Bc T3 .bool x (jH l)).getD false=l.any λy=>y.1==x:=by
 induction l using G6 with
 | h0=>rfl
 | h1 l a c =>
  have e:jH (l++[a])=Fd T3 .bool a.1 true (jH l):=by unfold jH;rw[AD0];rfl
  rw[e,Wr,ADK,<-c];by_cases h:x=a.1
  .rw[At h,h];simp
  rw[As h];have b:¬a.1=x:=λe=>h e.symm;simp[b]
def GN (x:AC) (n:Int):Int:=if x.1<0 then 2 else Hp x.2 n
def Ws:Ab:={ ins:=[Uj,T3],pre:=λ_=>True,out:=λ(x,n,_)=>[.p DG (GN x n)] }
attribute [go_sem] Ws
theorem pB:Ag Tryz.prog 61 Ws:=by
 refine fK [0,1,2,4,5,7,10,13,14,15,16,32,36] Tryz.func61 Tryz.ntmps61 AH ?_;rintro w0 O0 ⟨⟨t,l⟩,n,u⟩ d ⟨⟨-,⟨o,-⟩⟩,-⟩ -;simp only[AP]at o;simp only[Ws,AL];repeat'(first|exact a6|apply eS rfl|refine rX d ?_ ?_|refine rC ?_ ?_<;>intro b<;>try(cases b;done))
 .have h1:GN (t,l) n=2:=At b;exact fI d [.tmp 4] (by rw[h1];exact eR)
 have h0:GN (t,l) n=HP n [] l:=As (ACA.2 b);rw[h0];refine AI (ι:={k:Nat//k<=List.length l/\HP n [] l=HP n ((l:List (Int×Int)).take k) ((l:List (Int×Int)).drop k)}) (λk=>⟨[(1,.p T3 n),(5,.mp 11),(13,.p Nw l),(14,.p (.int .i64) (List.length l:Int)),(15,.p (.int .i64) (k.1:Int))],[(11,.mapo T3 .bool (jH ((l:List (Int×Int)).take k.1)))]⟩) (λk=>List.length l-k.1) ⟨0,DO _,rfl⟩ (AB [(11,.nm 11)] rfl rfl ?_ ?_) (λk=>?_)
 .refine eM ?_;rfl
 .exact eN
 obtain⟨k,hk,f⟩:=k;have g:=λh:k<l.length=>Pd n l h;have q:=λh:k<l.length=>Sb (λ(m:List (Int×Bool)) (a:Int×Int)=>Fd T3 .bool a.1 true m) l (0,0) [] h;have i:=λx=>zA x (List.take k (l:List (Int×Int)));simp only;repeat'(first|exact a6|apply eS rfl|apply AD|refine rX d ?_ ?_|refine rC ?_ ?_<;>intro b<;>try(cases b;done))
 .exact b
 .have c:k<List.length l:=by exact eV
  have e:HP n [] l=2:=by rw[f,g c,At O1]
  exact fI d [.tmp 4] (by rw[e];exact eR)
 .have c:k<List.length l:=by exact eV
  rw[i]at b;have e:HP n [] l=4:=by rw[f,g c,As O1,At b]
  exact fI d [.tmp 4] (by rw[e];exact eR)
 .exact eV
 .have c:k<List.length l:=by exact eV
  rw[i]at b;refine⟨⟨k+1,c,by rw[f,g c,As O1,As (by rw[b];simp)]⟩,a2,AB [(11,.nm 11)] rfl rfl ?_ ?_⟩
  .refine eM ?_;exact(q c).symm
  exact eN
 have j:List.drop k (l:List (Int×Int))=[]:=NO eV;have e:HP n [] l=0:=by rw[f,j];rfl
 exact fI d [.tmp 4] (by rw[e];exact eR)
theorem jI {n:Int}:∀ {l seen:List (Int×Int)},HP n seen l=0->(∀a∈l,∀b∈seen,b.1≠a.1)/\Wj l
 | [],_,_=>⟨λa ha=>(by cases ha),List.Pairwise.nil⟩
 | x :: l,seen,h=>by
  simp only[HP]at h;split at h
  .cases h
  split at h
  .cases h
  rename_i h1 g;obtain⟨c,f⟩:=jI h;refine⟨λa ha b d=>?_,AB3.2 ⟨λa ha e=>c a ha x sc e,f⟩⟩;rcases By.1 ha with rfl|ha
  .intro e;exact g (aS.2 ⟨b,d,by simp[e]⟩)
  exact c a ha b (by simp[d])
theorem jJ {m:Int}:∀ {f:List AC},It m f=0->∀x∈f,Wj x.2
 | [],_,x,b=>by cases b
 | y :: f,h,x,b=>by
  simp only[It]at h;split at h
  .cases h
  split at h
  .rename_i h1 a;exact absurd h a
  rename_i h1 a;have a:Hp y.2 m=0:=Do a;rcases By.1 b with rfl|b
  .exact(jI a).2
  exact jJ h x b
def Tq (f:List AC):Prop:=∀x∈f,SS x.2
theorem jK (h:CX f=0) (hs:Tq f):NdF f:=by
 unfold CX at h;split at h
 .cases h
 split at h
 .cases h
 exact λx a=>⟨jJ h x a,hs x a⟩
def Q6:Ab:={ ins:=[GZ],pre:=λ(f,_)=>Tq f,out:=λ(f,_)=>[.p GZ (A8 f).1,.p DG (A8 f).2] }
attribute [go_sem] Q6
theorem zB:Ag Tryz.prog 35 Q6:=by
 refine fK [0,1,2,3,5,6,10,15,18,19,20,21,30] Tryz.func35 Tryz.ntmps35 (AF pB (AF y7 AH)) ?_;rintro w0 O0 ⟨f,u⟩ c ⟨⟨m,-⟩,-⟩ hs;simp only[AP]at m;have hs:Tq f:=hs;have j:NE f:=λx n=>iN (hs x n).1 O1;simp only[Q6,AL];repeat'(first|exact a6|apply eS rfl|refine rX c ?_ ?_|refine rC ?_ ?_<;>intro a<;>try(cases a;done))
 .have h1:CX f=1:=by
   have h:f.length=0:=by exact eV
   unfold CX;rw[At h]
  have e:A8 f=([],1):=by unfold A8;rw[h1];rfl
  exact fI c [.cell 2 38,.tmp 3] (by rw[e];exact eR)
 .have h1:CX f=7:=by
   have h:¬f.length=0:=by exact eV
   have g:4096<f.length:=by exact eV
   unfold CX;rw[As h,At g]
  have e:A8 f=([],7):=by unfold A8;rw[h1];rfl
  exact fI c [.cell 2 38,.tmp 3] (by rw[e];exact eR)
 have h1:CX f=It f.length f:=by
  have h:¬f.length=0:=by exact eV
  have g:¬4096<f.length:=by exact eV
  unfold CX;rw[As h,As g]
 have i:0<f.length:=by exact eV
 refine AI (ι:={k:Nat//k<=f.length/\It f.length (f.drop k)=CX f}) (λk=>⟨[(1,.bp 1 [] 0),(2,.bp 2 [] 0),(18,.p KT f),(19,.p (.int .i64) (f.length:Int)),(20,.p (.int .i64) (k.1:Int))],[(1,.box 38 true [.p KT f]),(2,.box 38 true [.raw (.slice none 0 0)])]⟩) (λk=>f.length-k.1) ⟨0,by simp[h1]⟩ (eW [(1,.nm 1),(2,.nm 2)]) (λk=>?_)
 obtain⟨k,hk,hf⟩:=k;simp only;repeat'(first|exact a6|apply eS rfl|apply AD|refine rX c ?_ ?_|refine rC ?_ ?_<;>intro a<;>try(cases a;done))
 .exact a
 .have d:k<f.length:=by exact eV
  have a:¬GN (f.getD k (0,[])) f.length=0:=a;have l:CX f=GN (f.getD k (0,[])) f.length:=by
   rw[<-hf,Iu _ _ d];unfold GN at a ⊢;by_cases b:(f.getD k (0,[])).1<0
   .rw[At b,At b]
   rw[As b]at a;rw[As b,As b,At a]
  have e:A8 f=([],GN (f.getD k (0,[])) f.length):=by unfold A8;rw[l,As a]
  exact fI c [.cell 2 38,.tmp 3] (by rw[e];exact eR)
 .exact eV
 .have d:k<f.length:=by exact eV
  have a:GN (f.getD k (0,[])) f.length=0:=by simpa using a
  refine⟨⟨k+1,d,?_⟩,a2,AB [(1,.nm 1),(2,.nm 2)] rfl rfl ?_ ?_⟩
  .rw[<-hf,Iu _ _ d];unfold GN at a;by_cases b:(f.getD k (0,[])).1<0
   .rw[At b]at a;cases a
   rw[As b]at a;rw[As b,As (by rw[a];simp)]
  .exact eN
  exact eN
 .have hz:CX f=0:=by rw[<-hf,NO eV];rfl
  exact⟨(Pf hz j).1,jK hz hs,oN.2 i⟩
 have hz:CX f=0:=by rw[<-hf,NO eV];rfl
 have e:A8 f=(AO (Bo f) 0,0):=by unfold A8;rw[At hz,Jg (Pf hz j).1 (jK hz hs) (AD3 0) (oN.2 i)]
 exact fI c [.cell 2 38,.tmp 3] (by rw[e];exact eR)
end
def L7 (h:AE) (f:Int):Int:=(h.2.getD f.toNat (ByteArray.empty,0)).2
def NF (h:AE) (n:Int):List (Int×Int)->Ed->Option Ed
 | [],s=>some s
 | a :: l,s=>(DK h s n (L7 h a.1)).bind (NF h n l)
def OD (h:AE) (n:Int):List (Int×Int)->Ed->Option Ed
 | [],s=>some s
 | a :: l,s=>if (CR h (s.1.getD n.toNat 0) a.1).2=true then (DK h s a.2 (CR h (s.1.getD n.toNat 0) a.1).1).bind (OD h n l) else none
def L8 (h:AE) (f:List AC) (n:Int) (s:Ed):Option Ed:=(NF h n (f.getD n.toNat (0,[])).2 s).bind (OD h n (f.getD n.toNat (0,[])).2)
def wlF (h:AE) (f:List AC):Nat->Nat->Ed->Option (List Int)
 | 0,_,_=>none
 | k+1,i,s=>if i<s.2.length then (L8 h f (s.2.getD i 0) s).bind (wlF h f k (i+1)) else some s.1
def BU (f:List AC):List Int:=f.map λx=>x.1
def Ei (f:List AC):List Int:=(List.range f.length).map λi:Nat=>(i:Int)
def Ex (f:List AC) (ty:List Int):List AC:=(List.range f.length).map λi=>(ty.getD i 0,(f.getD i (0,[])).2)
structure eD (h:AE):Prop where
 int:∀x∈h.2,0<=x.2/\x.2<(h.1.length:Int)
 val:∀t∈h.1,∀p∈t.2.2.2,0<=p.2/\p.2<(h.1.length:Int)
structure OE (h:AE) (m:Nat) (s:Ed):Prop where
 len:s.1.length=m
 ty:∀t∈s.1,0<=t/\t<(h.1.length:Int)
 wt:∀n∈s.2,0<=n/\n<(m:Int)
theorem OE.get {m:Nat} {s:Ed} (hs:OE h m s) (n0:0<=n) (n1:n<(m:Int)):0<=s.1.getD n.toNat 0/\s.1.getD n.toNat 0<(h.1.length:Int):=by
 have a:n.toNat<s.1.length:=by rw[hs.len];omega
 rw[AS,AT a];exact hs.ty _ (AAt a)
def zC (h:AE) (t:Int):Nat:=((List.range h.1.length).filter λi:Nat=>Af h t (i:Int)).length
def ZE (h:AE) (ty:List Int):Nat:=(ty.map (zC h)).sum
theorem ZF {α:Type} {p q:α->Bool}:∀ {l:List α},(∀x∈l,q x=true->p x=true)->(∃b∈l,p b=true/\q b=false)->(l.filter q).length<(l.filter p).length
 | [],_,⟨b,c,_⟩=>by cases c
 | x :: l,h1,⟨b,c,e,f⟩=>by
  have h:∀ {l:List α},(∀x∈l,q x=true->p x=true)->(l.filter q).length<=(l.filter p).length:=by
   intro l g;induction l with
   | nil=>exact Of _
   | cons y l i =>
    have d:=i λz hz=>g z (GO _ hz);rw[AC7,AC7];by_cases a:q y=true
    .rw[At a,At (g y sc a)];simp only[If];omega
    rw[As a];split
    .simp only[If];omega
    exact d
  rw[AC7,AC7];rcases By.1 c with rfl|c
  .rw[As (by rw[f];simp),At e];have:=h λz hz=>h1 z (GO _ hz);simp only[If];omega
  have d:=ZF (λz hz=>h1 z (GO _ hz)) ⟨b,c,e,f⟩;by_cases a:q x=true
  .rw[At a,At (h1 x sc a)];simp only[If];omega
  rw[As a];split
  .simp only[If];omega
  exact d
theorem Us (hk:Gt h) {a:Int} (b:0<=a) (c:a<(h.1.length:Int)):Af h a a=true:=(B9 hk b c b c).2 λ_ h=>h
theorem Hz (hk:Gt h) {a c:Int} (d:0<=a) (e:a<(h.1.length:Int)) (f:0<=b) (b1:b<(h.1.length:Int)) (c0:0<=c) (c1:c<(h.1.length:Int)) (h1:Af h a b=true) (g:Af h b c=true):Af h a c=true :=
 (B9 hk d e c0 c1).2 λi hi=>(B9 hk d e f b1).1 h1 i ((B9 hk f b1 c0 c1).1 g i hi)
theorem A6z (hk:Gt h) (hi:J5 h) {a m:Int} (b:0<=a) (c:a<(h.1.length:Int)) (f:0<=m) (g:m<(h.1.length:Int)) (hs:Af h a m=true) (i:m≠a):zC h m<zC h a:=by
 refine ZF (λx d e=>?_) ⟨a.toNat,AAn.2 O1,?_,?_⟩
 .have d:=AAn.1 d;exact Hz hk b c f g (AC8 _) O1 hs e
 .rw[ACY b];exact Us hk b c
 rw[ACY b];cases e:Af h m a with
 | false=>rfl
 | true=>exact absurd (hi m a f g b c e hs) i
theorem uI {α:Type} (g:α->Nat) (d:α):∀ {l:List α} {i:Nat} {v:α},i<l.length->((l.set i v).map g).sum+g (l.getD i d)=(l.map g).sum+g v
 | [],i,v,h=>by simp at h
 | x :: l,0,v,h=>by simp only[AEs,gO,List.sum_cons,List.getD_cons_zero];omega
 | x :: l,i+1,v,h=>by
  have:=uI g d (l:=l) (i:=i) (v:=v) (by simpa using h);simp only[AEt,gO,List.sum_cons,List.getD_cons_succ];omega
theorem FB (hk:Gt h) (hi:J5 h) {m:Nat} {s b:Ed} (hs:OE h m s) {t:Int} (n0:0<=n) (n1:n<(m:Int)) (o:0<=t) (p:t<(h.1.length:Int)) (e:DK h s n t=some b) :
  OE h m b/\ZE h b.1+b.2.length<=ZE h s.1+s.2.length/\s.2.length<=b.2.length:=by
 obtain⟨c,d⟩:=hs.get n0 n1;unfold DK at e;split at e
 .rename_i j;obtain⟨f,g,l,u⟩:=(NA hk c d o p).1 j;generalize (C4 h (s.1.getD n.toNat 0) t).1=v at *;injection e with e
  split at e
  .subst e;exact⟨hs,Of _,Of _⟩
  rename_i k;subst e;have r:=A6z hk hi c d f g l k;have i:n.toNat<s.1.length:=by rw[hs.len];omega
  have q:=uI (zC h) 0 (v:=v) i;refine⟨⟨by simp only[AAx];exact hs.len,λx a=>?_,λx a=>?_⟩,?_,sc⟩
  .rcases ACV a with a|rfl
   .exact hs.ty x a
   exact⟨f,g⟩
  .rcases IS.1 a with a|a
   .exact hs.wt x a
   rw[oF.1 a];exact⟨n0,n1⟩
  unfold ZE;simp only[IF,oR];omega
 cases e
def Kh (h:AE) (m:Nat) (a:Int×Int):Prop:=(0<=a.1/\a.1<(h.2.length:Int))/\0<=a.2/\a.2<(m:Int)
theorem NG (hf:eD h) {f:Int} (b:0<=f) (c:f<(h.2.length:Int)):0<=L7 h f/\L7 h f<(h.1.length:Int):=by
 have a:f.toNat<h.2.length:=by omega
 unfold L7;rw[AS,AT a];exact hf.int _ (AAt a)
theorem ZG {f:Int}:∀ {l:List (Int×Int)},(EO f l).2=true->(f,(EO f l).1)∈l
 | [],h=>by cases h
 | x :: l,h=>by
  unfold EO at h ⊢;split
  .rename_i e;rw[<-e];simp
  rename_i e;rw[As e]at h;exact GO _ (ZG h)
theorem zD {t:Int} (a:0<=t) (b:t<(h.1.length:Int)):h.1.getD t.toNat Rm∈h.1:=AG h.1 Rm O1
theorem Iv (hf:eD h) {t f:Int} (a:0<=t) (b:t<(h.1.length:Int)) (e:(CR h t f).2=true):0<=(CR h t f).1/\(CR h t f).1<(h.1.length:Int) :=
 hf.val _ (zD a b) _ (ZG e)
theorem Q7 {h:AE} (hk:Gt h) (hi:J5 h) (hf:eD h) {m:Nat} {n:Int} (n0:0<=n) (n1:n<(m:Int)):∀ {l:List (Int×Int)} {s c:Ed},(∀a∈l,Kh h m a)->OE h m s->NF h n l s=some c ->
  OE h m c/\ZE h c.1+c.2.length<=ZE h s.1+s.2.length/\s.2.length<=c.2.length
 | [],s,c,_,hs,e=>by
  injection e with e
  subst e;exact⟨hs,Of _,Of _⟩
 | a :: l,s,c,f,hs,e=>by
  unfold NF at e;cases d:DK h s n (L7 h a.1) with
  | none=>rw[d]at e;cases e
  | some s1 =>
   rw[d]at e;obtain⟨⟨g,i⟩,-⟩:=f a sc;obtain⟨o,p⟩:=NG hf g i;obtain⟨j,r,t⟩:=FB hk hi hs n0 n1 o p d;obtain⟨q,u,v⟩:=Q7 hk hi hf n0 n1 (λb k=>f b (by simp[k])) j e;exact⟨q,O1,O1⟩
theorem Ut {h:AE} (hk:Gt h) (hi:J5 h) (hf:eD h) {m:Nat} {n:Int} (n0:0<=n) (n1:n<(m:Int)):∀ {l:List (Int×Int)} {s c:Ed},(∀a∈l,Kh h m a)->OE h m s->OD h n l s=some c ->
  OE h m c/\ZE h c.1+c.2.length<=ZE h s.1+s.2.length/\s.2.length<=c.2.length
 | [],s,c,_,hs,e=>by
  injection e with e
  subst e;exact⟨hs,Of _,Of _⟩
 | a :: l,s,c,g,hs,e=>by
  unfold OD at e;split at e
  .rename_i o;obtain⟨j,f⟩:=hs.get n0 n1;obtain⟨p,q⟩:=Iv hf j f o;cases d:DK h s a.2 (CR h (s.1.getD n.toNat 0) a.1).1 with
   | none=>rw[d]at e;cases e
   | some s1 =>
    rw[d]at e;obtain⟨-,i,b1⟩:=g a sc;obtain⟨f,t,u⟩:=FB hk hi hs i b1 p q d;obtain⟨r,v,w⟩:=Ut hk hi hf n0 n1 (λb k=>g b (by simp[k])) f e;exact⟨r,O1,O1⟩
  cases e
def Pg (h:AE) (f:List AC):Prop:=∀x∈f,∀a∈x.2,Kh h f.length a
theorem NH (ha:Pg h f) (n0:0<=n) (n1:n<(f.length:Int)):∀a∈(f.getD n.toNat (0,[])).2,Kh h f.length a:=ha _ (AG f (0,[]) O1)
theorem Wu (hk:Gt h) (hi:J5 h) (hf:eD h) (ha:Pg h f) (n0:0<=n) (n1:n<(f.length:Int)) {s a:Ed} (hs:OE h f.length s) (e:L8 h f n s=some a) :
  OE h f.length a/\ZE h a.1+a.2.length<=ZE h s.1+s.2.length/\s.2.length<=a.2.length:=by
 unfold L8 at e;cases b:NF h n (f.getD n.toNat (0,[])).2 s with
 | none=>rw[b]at e;cases e
 | some s1 =>
  rw[b]at e;obtain⟨c,g,i⟩:=Q7 hk hi hf n0 n1 (NH ha n0 n1) hs b;obtain⟨d,j,k⟩:=Ut hk hi hf n0 n1 (NH ha n0 n1) c e;exact⟨d,O1,O1⟩
theorem A6A (h:AE) (t:Int):zC h t<=h.1.length:=by
 unfold zC;exact iN (ADb _ _) sc
theorem A2A (h:AE):∀ty:List Int,ZE h ty<=ty.length*h.1.length
 | []=>by simp[ZE]
 | t :: ty=>by
  have h1:=A2A h ty;have a:=A6A h t;unfold ZE at h1 ⊢;simp only[gO,List.sum_cons,If,AE6,Nat.one_mul];omega
def Oe (h:AE) (f:List AC):Nat:=f.length*h.1.length+f.length+1
def Hf (h:AE) (f:List AC):Option (List Int):=wlF h f (Oe h f) 0 (BU f,Ei f)
def DL (h:AE) (f:List AC):List AC×Bool:=match Hf h f with
 | some ty=>(Ex f ty,true)
 | none=>([],false)
theorem A2B (a:∀x∈f,0<=x.1/\x.1<(h.1.length:Int)):OE h f.length (BU f,Ei f):=by
 refine⟨by simp[BU],λt h1=>?_,λn hn=>?_⟩
 .obtain⟨x,b,rfl⟩:=IN.1 h1;exact a x b
 obtain⟨i,hi,rfl⟩:=IN.1 hn;have:=AAn.1 hi;omega
theorem A2C (h:AE) (f:List AC):ZE h (BU f)+(Ei f).length+1<=Oe h f:=by
 have:=A2A h (BU f);unfold Oe;rw[show (BU f).length=f.length by simp[BU]]at this;rw[show (Ei f).length=f.length by simp[Ei]];omega
def inF (l:List Int) (n:Int):Bool:=l.any λx=>x==n
def jL:Ab:={ ins:=[T3],pre:=λ_=>True,out:=λ(t,_)=>[.p GZ [(t,[])]] }
theorem A6B:Ag Tryz.prog 19 jL:=by
 refine fK [0,2] Tryz.func19 Tryz.ntmps19 AH ?_;rintro w0 O0 ⟨t,u⟩ a - -;simp only[jL,AL];repeat'(first|exact a6|apply eS rfl|apply AD|refine rX a ?_ ?_|refine rC ?_ ?_<;>intro b<;>try(cases b;done))
 exact fI a [.cell 2 38]
section
attribute [go_sem] cB LX
theorem pC (hf:Ae f) (h0:0<=n) (h1:n<f.length):FL (L4 f n):=by
 obtain⟨⟨b,c⟩,_⟩:=A6r hf h0 h1;have d:=hf.1;refine⟨?_,λx a=>?_⟩
 .unfold L4;rw[OR];omega
 obtain⟨m,_,rfl⟩:=IN.1 a;unfold Oc;simp only[OR,Cl];exact A2r hf m
theorem jM (hs:NE f):FL (A8 f).1:=by
 unfold A8;split
 .rename_i h;obtain⟨h1,b⟩:=Pf h hs;exact pC h1 O1 O1
 exact⟨sc,λx a=>by cases a⟩
end
theorem jN (l:List (Int×Int)):OC l↔l.Pairwise (λa b=>a.1<b.1):=by
 constructor
 .intro h;rw[oS];have key:∀d i,i+d+1<l.length->(l.getD i (0,0)).1<(l.getD (i+d+1) (0,0)).1:=by
   intro d;induction d with
   | zero=>intro i hi;exact h i hi
   | succ d e =>
    intro i hi;have h1:=e i O1;have f:=h (i+d+1) O1;have:i+(d+1)+1=i+d+1+1:=by omega
    rw[this];omega
  intro i j hi c g;have h1:=key (j-i-1) i O1;rw[show i+(j-i-1)+1=j by omega]at h1;simpa[AS,hi,c] using h1
 intro h i hi;rw[oS]at h;have:=h i (i+1) O1 hi O1;simpa[AS,hi,show i<l.length by omega] using this
def L9 (l:List Int):List (Int×Bool):=l.foldl (λm x=>Fd T3 .bool x true m) []
theorem pD {b:Ty} (x k:Int) (v:b.den) (m:List (Int×b.den)):Bc T3 b x (Fd T3 b k v m)=if x=k then some v else Bc T3 b x m:=by
 induction m with
 | nil=>simp[Fd,Bc,Ht]
 | cons y m g =>
  simp only[Fd];by_cases c:Ht T3 k y.1=true
  .rw[At c];have d:k=y.1:=by simpa[Ht] using c
   simp only[Bc,Ht,AAv];by_cases a:x=k
   .rw[At a,At a]
   rw[As a,As a,As (by rw[<-d];exact a)]
  rw[As c];have d:¬k=y.1:=by simpa[Ht] using c
  simp only[Bc];by_cases a:Ht T3 x y.1=true
  .have f:x=y.1:=by simpa[Ht] using a
   rw[At a,At a,As (by rw[f];exact λe=>d e.symm)]
  rw[As a,As a,g]
theorem A6C (l:List Int) (x:Int):(Bc T3 .bool x (L9 l)).getD false=inF l x:=by
 induction l using G6 with
 | h0=>rfl
 | h1 l a c =>
  have e:L9 (l++[a])=Fd T3 .bool a true (L9 l):=by simp[L9]
  rw[e,pD];by_cases b:x=a
  .rw[At b];subst b;simp[inF]
  rw[As b,c];simp only[inF,ADK,List.any_cons,List.any_nil,AE2];have:(a==x)=false:=by simpa using λe=>b e.symm
  rw[this,AE2]
theorem ZH:∀l:List Int,X2 l l=0
 | []=>rfl
 | x :: l=>by simp[X2,ZH l]
theorem X3 (a:List AC):FY a a=0:=ZH _
def ftR (h:AE) (a:Int×Int):Bool:=decide (a.1<(h.2.length:Int))
def ndR (h:AE) (x:AC):Bool:=decide (x.1<(h.1.length:Int))&&x.2.all (ftR h)
def Fb (h:AE) (f:List AC):Int:=if (A8 f).2≠0 then (A8 f).2 else if f.all (ndR h)=false then 2 else if (FY f (A8 f).1==0)=false then 3 else 0
def LY:Ab:={ ins:=[GT,GZ],pre:=λ(_,f,_)=>FL f,out:=λ(h,f,_)=>[.p DG (Fb h f)] }
theorem zE:Ag Tryz.prog 28 LY:=by
 refine fK [0,1,2,3,4,5,6,7,8,9,16,22,35,40,52,56] Tryz.func28 Tryz.ntmps28 (AF jG (AF jF AH)) ?_;rintro w0 O0 ⟨⟨b,hf⟩,f,u⟩ d-hs;have hs:FL f:=hs;simp only[LY,AL];repeat'(first|exact a6|apply eS rfl|refine rX d ?_ ?_|refine rC ?_ ?_<;>intro a<;>try(cases a;done))
 .exact hs.2
 .have h1:Fb (b,hf) f=(A8 f).2:=by unfold Fb;rw[At a]
  exact fI d [.tmp 4] (by rw[h1];exact eR)
 have hz:(A8 f).2=0:=by simpa using a
 have o:=jM hs.2;have t:=hs.1;have g:Fb (b,hf) f=if f.all (ndR (b,hf))=false then 2 else if (FY f (A8 f).1==0)=false then 3 else 0:=by unfold Fb;rw[As (by rw[hz];simp)]
 refine AI (ι:={i:Nat//i<=f.length/\(f.take i).all (ndR (b,hf))=true}) (λi=>⟨[(2,.bp 2 [] 0),(3,.bp 3 [] 0),(5,.bp 5 [] 0),(7,.p (.int .i64) (i.1:Int))],[(2,.box 31 true [.p Px b,.p Rl hf]),(3,.box 38 true [.p KT f]),(5,.box 38 true [.p KT (A8 f).1])]⟩) (λi=>f.length-i.1) ⟨0,sc⟩ (eW [(2,.nm 2),(3,.nm 3),(5,.nm 5)]) (λi=>?_)
 obtain⟨i,hi,l⟩:=i;have q:=λh:i<f.length=>KV f (0,[]) (ndR (b,hf)) h;simp only;repeat'(first|exact a6|apply eS rfl|refine rX d ?_ ?_|refine rC ?_ ?_<;>intro a<;>try(cases a;done))
 .exact a
 .have c:i<f.length:=oN.1 a4;have e:f.all (ndR (b,hf))=false:=by
   rw[ADM];refine⟨_,AG f (0,[]) c,?_⟩;unfold ndR;rw[ADI (ACA.2 a)];simp
  rw[At e]at g;exact fI d [.tmp 4] (by rw[g];exact eR)
 .have c:i<f.length:=oN.1 a4;have n:=AG f (0,[]) c;have hnd:ndR (b,hf) (f.getD i (0,[]))=(f.getD i (0,[])).2.all (ftR (b,hf)):=by
   unfold ndR;rw[ACd (show (f.getD i (0,[])).1<(b.length:Int) from a)];rfl
  have s:(f.getD i (0,[])).2.length<=100000:=hs.2 _ n;refine AI (ι:={k:Nat//k<=(f.getD i (0,[])).2.length/\((f.getD i (0,[])).2.take k).all (ftR (b,hf))=true}) (λk=>⟨[(2,.bp 2 [] 0),(3,.bp 3 [] 0),(5,.bp 5 [] 0),(7,.p (.int .i64) (i:Int)),(8,.bp 8 [] 0),(9,.p (.int .i64) (k.1:Int))],[(2,.box 31 true [.p Px b,.p Rl hf]),(3,.box 38 true [.p KT f]),(5,.box 38 true [.p KT (A8 f).1]),(8,.box 66 true [.p T3 (f.getD i (0,[])).1,.p Nw (f.getD i (0,[])).2])]⟩) (λk=>(f.getD i (0,[])).2.length-k.1) ⟨0,sc⟩ (eW [(2,.nm 2),(3,.nm 3),(5,.nm 5),(8,.nm 8)]) (λk=>?_)
  obtain⟨k,hk,m⟩:=k;have r:=λh:k<(f.getD i (0,[])).2.length=>KV (f.getD i (0,[])).2 (0,0) (ftR (b,hf)) h;simp only;repeat'(first|exact a6|apply eS rfl|apply AD|refine rX d ?_ ?_|refine rC ?_ ?_<;>intro a<;>try(cases a;done))
  .exact a
  .have j:k<(f.getD i (0,[])).2.length:=oN.1 a4;have e:f.all (ndR (b,hf))=false:=by
    rw[ADM];refine⟨_,n,?_⟩;rw[hnd,ADM.2 ⟨_,AG (f.getD i (0,[])).2 (0,0) j,by unfold ftR;rw[ADI (ACA.2 a)];simp⟩];simp
   rw[At e]at g;exact fI d [.tmp 4] (by rw[g];exact eR)
  .exact eV
  .have j:k<(f.getD i (0,[])).2.length:=oN.1 a4;refine⟨⟨k+1,j,?_⟩,a2,AB [(2,.nm 2),(3,.nm 3),(5,.nm 5),(8,.nm 8)] rfl rfl ?_ ?_⟩
   .rw[r j,m];unfold ftR;exact ACd a
   .exact eN
   exact eN
  .exact eV
  have j:(f.getD i (0,[])).2.take k=(f.getD i (0,[])).2:=BY (AAw.1 a);rw[j]at m;refine⟨⟨i+1,c,?_⟩,a2,AB [(2,.nm 2),(3,.nm 3),(5,.nm 5)] rfl rfl ?_ ?_⟩
  .rw[q c,l,hnd,m];rfl
  .exact eN
  exact eN
 .exact⟨hs,o⟩
 .have c:f.take i=f:=BY (AAw.1 a4);rw[c]at l;rw[As (by rw[l];simp),At (by simpa using a)]at g;exact fI d [.tmp 4] (by rw[g];exact eR)
 have c:f.take i=f:=BY (AAw.1 a4);rw[c]at l;rw[As (by rw[l];simp),As (by rw[a];simp)]at g;exact fI d [.tmp 4] (by rw[g];exact eR)
section
attribute [go_sem] Oa
end
def Gy (h:AE) (f:List AC) (t:Int):List (Int×Int)->Int
 | []=>0
 | a :: l=>if (CR h t a.1).2=false then 10 else if Af h (CR h t a.1).1 (f.getD a.2.toNat (0,[])).1=false then 11 else Gy h f t l
def FZ (h:AE) (f:List AC):List AC->Int
 | []=>0
 | x :: l=>if Gy h f x.1 x.2=0 then FZ h f l else Gy h f x.1 x.2
def GP (h:AE) (f:List AC):Int:=if Fb h f=0 then FZ h f f else Fb h f
structure Chk (h:AE) (f:List AC):Prop where
 ty:∀x∈f,0<=x.1/\x.1<(h.1.length:Int)
 arc:∀x∈f,∀a∈x.2,Kh h f.length a
theorem A9k (e:Fb h f=0):Chk h f:=by
 have h1:(A8 f).2=0:=by
  refine Do λhn=>?_;unfold Fb at e;rw[At hn]at e;exact hn e
 have c:CX f=0:=by
  refine Do λhn=>?_;unfold A8 at h1;rw[As hn]at h1;exact hn h1
 have d:f.all (ndR h)=true:=by
  cases k:f.all (ndR h) with
  | true=>rfl
  | false =>
   unfold Fb at e;rw[As (by rw[h1];simp),At k]at e;cases e
 have j:It f.length f=0:=by
  unfold CX at c;split at c
  .cases c
  split at c
  .cases c
  exact c
 have g:=Pe j;rw[OF]at d;have i:∀x∈f,x.1<(h.1.length:Int)/\∀a∈x.2,a.1<(h.2.length:Int):=λx b=>by
  have:=d x b;unfold ndR at this;rw[An,Is,OF]at this;exact⟨this.1,λa ha=>by have:=this.2 a ha;unfold ftR at this;simpa using this⟩
 exact⟨λx b=>⟨(g x b).1,(i x b).1⟩,λx b a ha=>by
  obtain⟨l,m,n⟩:=(g x b).2 a ha;exact⟨⟨l,(i x b).2 a ha⟩,m,n⟩⟩
theorem X4 (h:AE) (f l:List AC) (hk:k<l.length):FZ h f (l.drop k)=if Gy h f (l.getD k (0,[])).1 (l.getD k (0,[])).2=0 then FZ h f (l.drop (k+1)) else Gy h f (l.getD k (0,[])).1 (l.getD k (0,[])).2:=by
 rw[uH (0,[]) hk];rfl
theorem jO (h:AE) (f:List AC) (t:Int) (l:List (Int×Int)) (hk:k<l.length):Gy h f t (l.drop k)=if (CR h t (l.getD k (0,0)).1).2=false then 10 else if Af h (CR h t (l.getD k (0,0)).1).1 (f.getD (l.getD k (0,0)).2.toNat (0,[])).1=false then 11 else Gy h f t (l.drop (k+1)):=by
 rw[uH (0,0) hk];rfl
theorem A2D:Ag Tryz.prog 29 Ob:=by
 refine fK [0,1,2,3,6,7,8,9,19,28] Tryz.func29 Tryz.ntmps29 AH ?_;rintro w0 O0 ⟨⟨b,hf⟩,t,f,u⟩ d q ⟨j,m⟩;simp only[Ob,AL];refine Ev.ent (σ':=⟨[(0,.p GT (b,hf)),(1,.p T3 t),(2,.p T3 f)],[]⟩) ?_ (AB [] rfl rfl ?_ ?_)
 .repeat'(first|exact a6|apply eS rfl|refine rX d ?_ ?_)
  .exact⟨j,m⟩
  have o:∀l,l=(List.getD b (Int.toNat t) (ByteArray.empty,[],[],[])).2.2.2->CR (b,hf) t f=EO f l:=λl e=>by rw[e];rfl
  have r:List.length (List.getD b (Int.toNat t) (ByteArray.empty,[],[],[])).2.2.2<=140737488355328:=(q.1.1.2 _ (AG (b:List F1) Rm ((AEx j).2 m))).2.2.2.1;generalize (List.getD b (Int.toNat t) (ByteArray.empty,[],[],[])).2.2.2=l at *;rw[o l rfl];refine AI (ι:={k:Nat//k<=List.length l/\EO f l=EO f (l.drop k)}) (λk=>⟨[(2,.p T3 f),(8,.p T84 l),(9,.p (.int .i64) (k.1:Int))],[]⟩) (λk=>List.length l-k.1) ⟨0,DO _,rfl⟩ (eW []) (λk=>?_)
  obtain⟨k,hk,a⟩:=k;have i:=λh:k<List.length l=>Wc f l h;simp only;repeat'(first|exact a6|apply eS rfl|apply AD|refine rX d ?_ ?_|refine rC ?_ ?_<;>intro c<;>try(cases c;done))
  .exact c
  .exact oN.2 eV
  .have g:k<List.length l:=by exact eV
   rw[i g,At c]at a;exact fI d [.tmp 6,.tmp 7] (by rw[a];exact eR)
  .omega
  .have g:k<List.length l:=by exact eV
   rw[i g,As c]at a;exact⟨⟨k+1,g,a⟩,a2,eW []⟩
  have n:List.drop k (l:List (Int×Int))=[]:=NO eV;rw[n]at a;have a:EO f l=(0,false):=a;exact fI d [.tmp 6,.tmp 7] (by rw[a];exact eR)
 .exact eN
 exact eN
section
attribute [go_sem] LY
theorem jP (hk:Gt h) {a:Int} (c:0<=a) (d:a<(h.1.length:Int)) (e:0<=b) (b1:b<(h.1.length:Int)):E8 (Bn h b) (Bn h a)=Af h a b:=by
 have f:=hk.1.wds _ (Ck c d);have g:=hk.1.wds _ (Ck e b1);rw[ADn,Ew g f];exact(B9 hk c d e b1).symm
def Wv:Ab:={ ins:=[GT,T3,T3],pre:=λ(h,a,b,_)=>(((0:Int)<=a/\a<(List.length (h:AE).1:Int))/\((0:Int)<=b/\b<(List.length (h:AE).1:Int)))/\Gt h,out:=λ(h,a,b,_)=>[.p .bool (Af h a b)],lend:=true }
attribute [go_sem] Wv
theorem jQ:Ag Tryz.prog 30 Wv:=by
 refine fK [0,1,2,3,6] Tryz.func30 Tryz.ntmps30 (AF SJ AH) ?_;rintro w0 O0 ⟨⟨e,hf⟩,a,b,u⟩ d-⟨⟨ha,c⟩,hk⟩;have hk:Gt (e,hf):=hk;have f:=jP hk ha.1 ha.2 c.1 c.2;have g:(Bn (e,hf) b).length<=100000:=iN (hk.1.wid _ (Ck c.1 c.2)) O1;simp only[Wv,AL];repeat'(first|exact a6|apply eS rfl|refine rX d ?_ ?_)
 .exact⟨c,ha,g⟩
 exact fI d [.tmp 6] (by rw[<-f];unfold Bn;exact eR)
def Iw:Ab:={ ins:=[GT,GZ],pre:=λ(h,f,_)=>eD h/\FL f/\Gt h,out:=λ(h,f,_)=>[.p DG (GP h f)] }
attribute [go_sem] Iw
theorem pE:Ag Tryz.prog 8 Iw:=by
 refine fK [0,1,2,3,4,5,6,7,8,9,10,15,21,33,53,67] Tryz.func8 Tryz.ntmps8 (AF zE (AF A2D (AF jQ AH))) ?_;rintro w0 O0 ⟨⟨a,hf⟩,f,u⟩ e-⟨n,hs,r⟩;have n:eD (a,hf):=n;have hs:FL f:=hs;have r:Gt (a,hf):=r;have H:=hs.1;simp only[Iw,AL];repeat'(first|exact a6|apply eS rfl|refine rX e ?_ ?_|refine rC ?_ ?_<;>intro b<;>try(cases b;done))
 .exact hs
 .have j:GP (a,hf) f=Fb (a,hf) f:=As b;exact fI e [.tmp 4] (by rw[j];exact eR)
 have hz:Fb (a,hf) f=0:=by simpa using b
 have j:GP (a,hf) f=FZ (a,hf) f f:=At hz;obtain⟨w,A⟩:=A9k hz;refine AI (ι:={i:Nat//i<=f.length/\FZ (a,hf) f f=FZ (a,hf) f (f.drop i)}) (λi=>⟨[(2,.bp 2 [] 0),(3,.bp 3 [] 0),(6,.p (.int .i64) (i.1:Int))],[(2,.box 31 true [.p Px a,.p Rl hf]),(3,.box 38 true [.p KT f])]⟩) (λi=>f.length-i.1) ⟨0,DO _,rfl⟩ (eW [(2,.nm 2),(3,.nm 3)]) (λi=>?_)
 obtain⟨i,hi,g⟩:=i;have E:=λh:i<f.length=>X4 (a,hf) f f h;have D:=λh:i<f.length=>AG f (0,[]) h;simp only;repeat'(first|exact a6|apply eS rfl|refine rX e ?_ ?_|refine rC ?_ ?_<;>intro b<;>try(cases b;done))
 .exact b
 .have o:i<f.length:=oN.1 b;have s:=E o;have q:=D o;obtain⟨x,y⟩:=w _ q;have B:=A _ q;have G:=hs.2 _ q;generalize I:(f.getD i (0,[])).2=L at *;refine AI (ι:={k:Nat//k<=L.length/\Gy (a,hf) f (f.getD i (0,[])).1 L=Gy (a,hf) f (f.getD i (0,[])).1 (L.drop k)}) (λk=>⟨[(2,.bp 2 [] 0),(3,.bp 3 [] 0),(6,.p (.int .i64) (i:Int)),(7,.p Nw L),(8,.p (.int .i64) (k.1:Int))],[(2,.box 31 true [.p Px a,.p Rl hf]),(3,.box 38 true [.p KT f])]⟩) (λk=>L.length-k.1) ⟨0,DO _,rfl⟩ (eW [(2,.nm 2),(3,.nm 3)]) (λk=>?_)
  obtain⟨k,hk,c⟩:=k;have t:=λh:k<L.length=>jO (a,hf) f (f.getD i (0,[])).1 L h;have C:=λh:k<L.length=>B _ (AG L (0,0) h);simp only;have F:=Iv (f:=(L.getD k (0,0)).1) n x y;repeat'(first|exact a6|apply eS rfl|apply AD|refine rX e ?_ ?_|refine rC ?_ ?_<;>intro b<;>try(cases b;done))
  .exact⟨a4,b,x,y⟩
  .have d:k<L.length:=by exact eV
   rw[t d,At b]at c;have l:GP (a,hf) f=10:=by rw[j,g,s,As (by rw[c];simp),c]
   exact fI e [.tmp 4] (by rw[l];exact eR)
  .have d:k<L.length:=by exact eV
   obtain⟨-,z,b1⟩:=C d;exact⟨a4,⟨z,b1⟩,⟨F b,w _ (AG f (0,[]) O1)⟩,r⟩
  .have d:k<L.length:=by exact eV
   have v:(CR (a,hf) (List.getD f i (0,[])).1 (List.getD L k (0,0)).1).2=true:=by assumption
   rw[t d,As (by rw[v];simp),At b]at c;have l:GP (a,hf) f=11:=by rw[j,g,s,As (by rw[c];simp),c]
   exact fI e [.tmp 4] (by rw[l];exact eR)
  .omega
  .have d:k<L.length:=by exact eV
   have v:(CR (a,hf) (List.getD f i (0,[])).1 (List.getD L k (0,0)).1).2=true:=by assumption
   rw[t d,As (by rw[v];simp),As (by rw[b];simp)]at c;exact⟨⟨k+1,d,c⟩,a2,eW [(2,.nm 2),(3,.nm 3)]⟩
  .omega
  have m:L.drop k=[]:=NO (AAw.1 b);rw[m]at c;have c:Gy (a,hf) f (f.getD i (0,[])).1 L=0:=c;rw[s,At c]at g;exact⟨⟨i+1,o,g⟩,a2,eW [(2,.nm 2),(3,.nm 3)]⟩
 have m:f.drop i=[]:=NO (AAw.1 b);rw[m]at g;have l:GP (a,hf) f=0:=by rw[j,g];rfl
 exact fI e [.tmp 4] (by rw[l];exact eR)
end
def BS (l:List (Int×Int)) (e:Int):Int:=match l with
 | []=>-1
 | a :: l=>if a.1=e then a.2 else BS l e
theorem ZI (e:Int) (l:List (Int×Int)) (h:k<l.length):BS (l.drop k) e=if (l.getD k (0,0)).1=e then (l.getD k (0,0)).2 else BS (l.drop (k+1)) e:=by
 rw[OS h];have e:l.getD k (0,0)=l[k]:=by simp[AS,h]
 rw[e];rfl
structure A2E (a b:List AC) (m:List Int):Prop where
 len:m.length=a.length
 rng:∀x∈m,x<(b.length:Int)
theorem Q8 {n:Int} (hn:0<=n):∀ {l:List (Int×Int)} (e:Int),(∀x∈l,x.2<n)->BS l e<n
 | [],_,_=>by simp only[BS];omega
 | x :: l,e,h=>by
  simp only[BS];split
  .exact h x sc
  exact Q8 hn e (λy a=>h y (by simp[a]))
theorem A2E.set {a b:List AC} {m:List Int} (h:A2E a b m) (k:Nat) {v:Int} (d:v<(b.length:Int)):A2E a b (m.set k v):=by
 refine⟨by simp[h.len],λx c=>?_⟩;rcases ACV c with c|c
 .exact h.rng x c
 rw[c];exact d
theorem A2E.get {a b:List AC} {m:List Int} (h:A2E a b m) (c:0<b.length) (k:Nat):m.getD k 0<(b.length:Int):=by
 rw[AS];cases hh:m[k]? with
 | none=>show (0:Int)<_;omega
 | some x=>exact h.rng x (AC5 hh)
def Dq (h:AE) (f:List AC):Prop:=∀x∈f,0<=x.1/\x.1<(h.1.length:Int)
theorem Q9 (hf:Ae f) (k:Nat):∀x∈(f.getD k (0,[])).2,0<=x.2/\x.2<(f.length:Int):=by
 intro x a;by_cases h:k<f.length
 .exact(hf.2 _ (AG f (0,[]) h)).2 x a
 rw[AS,wS O1]at a;cases a
def ZJ (s:ByteArray):Nat->List F1->Int
 | _,[]=>-1
 | k,x :: l=>if AK x.1 s=true then (k:Int) else ZJ s (k+1) l
def AW (h:AE) (s:ByteArray):Int:=ZJ s 0 h.1
def lW (s:ByteArray):Nat->List Tm->Int
 | _,[]=>-1
 | k,x :: l=>if AK x.1 s=true then (k:Int) else lW s (k+1) l
def Ao (h:AE) (s:ByteArray):Int:=lW s 0 h.2
theorem cE (s:ByteArray):∀(l:List F1) (k:Nat),ZJ s k l=-1\/((k:Int)<=ZJ s k l/\ZJ s k l<((k+l.length:Nat):Int))
 | [],_=>.inl rfl
 | x :: l,k=>by
  unfold ZJ;split
  .exact .inr ⟨AD3 _,by simp only[If];omega⟩
  have:=cE s l (k+1);simp only[If];omega
theorem uJ (s:ByteArray):∀(l:List Tm) (k:Nat),lW s k l=-1\/((k:Int)<=lW s k l/\lW s k l<((k+l.length:Nat):Int))
 | [],_=>.inl rfl
 | x :: l,k=>by
  unfold lW;split
  .exact .inr ⟨AD3 _,by simp only[If];omega⟩
  have:=uJ s l (k+1);simp only[If];omega
theorem De (h:AE) (s:ByteArray):-1<=AW h s/\AW h s<(h.1.length:Int):=by
 have:=cE s h.1 0;unfold AW;omega
theorem G7 (h:AE) (s:ByteArray):-1<=Ao h s/\Ao h s<(h.2.length:Int):=by
 have:=uJ s h.2 0;unfold Ao;omega
structure LW where
 list:Int
 cons:Int
 null:Int
 dlist:Int
 first:Int
 rest:Int
 head:Int
 last:Int
def sb (l:List UInt8):ByteArray:=⟨l.toArray⟩
def Df (h:AE):LW:=⟨AW h (sb [108,105,115,116]),AW h (sb [99,111,110,115]),AW h (sb [110,117,108,108]),AW h (sb [100,108,105,115,116]),Ao h (sb [70,73,82,83,84]),Ao h (sb [82,69,83,84]),Ao h (sb [76,73,83,84]),Ao h (sb [76,65,83,84])⟩
def Sf (h:AE):Bool:=decide (0<=(Df h).list/\0<=(Df h).cons/\0<=(Df h).null/\0<=(Df h).dlist/\0<=(Df h).first/\0<=(Df h).rest/\0<=(Df h).head/\0<=(Df h).last)&&Af h (Df h).list (Df h).cons&&Af h (Df h).list (Df h).null
def RB (w:LW) (row:List (Int×Int)):Bool:=decide (BS row w.first<0)&&decide (BS row w.rest<0)
def RC (w:LW) (row:List (Int×Int)):Bool:=decide (0<=BS row w.first)&&decide (0<=BS row w.rest)
def X5 (h:AE) (w:LW) (x:AC):Bool:=Af h w.null x.1&&RB w x.2
def Og (h:AE) (w:LW) (x:AC):Bool:=Af h w.cons x.1&&RC w x.2
def Tr (h:AE) (w:LW) (x:AC):Bool:=Af h x.1 w.cons&&RB w x.2
def ET (h:AE) (w:LW) (x:AC):Int:=if X5 h w x=true then 1 else if Og h w x=true then 2 else if Tr h w x=true then 3 else 0
theorem Sg {w:LW} {x:AC} (e:ET h w x=2):0<=BS x.2 w.first/\0<=BS x.2 w.rest:=by
 unfold ET at e;split at e
 .cases e
 split at e
 .rename_i a;unfold Og RC at a;simp only[An,Is]at a;exact a.2
 split at e<;>cases e
theorem A2F (e:Sf h=true):(0<=(Df h).first/\0<=(Df h).rest)/\0<=(Df h).cons/\0<=(Df h).null/\0<=(Df h).list/\0<=(Df h).dlist/\0<=(Df h).head/\0<=(Df h).last:=by
 unfold Sf at e;rw[An,An,Is]at e;obtain⟨⟨⟨h1,a,b,c,d,f,g,i⟩,-⟩,-⟩:=e;exact⟨⟨d,f⟩,a,b,h1,c,g,i⟩
section
theorem jR (s:ByteArray) (l:List F1) (h:k<l.length):ZJ s k (l.drop k)=if AK (l.getD k Rm).1 s=true then (k:Int) else ZJ s (k+1) (l.drop (k+1)):=by
 rw[OS h];have e:l.getD k Rm=l[k]:=by simp[AS,h]
 rw[e];rfl
theorem jS (s:ByteArray) (l:List Tm) (h:k<l.length):lW s k (l.drop k)=if AK (l.getD k (ByteArray.empty,0)).1 s=true then (k:Int) else lW s (k+1) (l.drop (k+1)):=by
 rw[OS h];have e:l.getD k (ByteArray.empty,0)=l[k]:=by simp[AS,h]
 rw[e];rfl
def NI:Ab:={ ins:=[GT,T9],pre:=λ_=>True,out:=λ(h,s,_)=>[.p T3 (AW h s)],lend:=true }
attribute [go_sem] NI
theorem LZ:Ag Tryz.prog 9 NI:=by
 refine fK [0,1,2,4,5,10,20] Tryz.func9 Tryz.ntmps9 AH ?_;rintro w0 O0 ⟨⟨a,hf⟩,s,u⟩ e ⟨⟨⟨g,-⟩,-⟩,-⟩ -;simp only[AP]at g;simp only[NI,AL];repeat'(first|exact a6|apply eS rfl|refine rX e ?_ ?_)
 refine AI (ι:={k:Nat//k<=a.length/\ZJ s k (a.drop k)=AW (a,hf) s}) (λk=>⟨[(1,.p T9 s),(2,.bp 2 [] 0),(5,.p (.int .i64) (k.1:Int))],[(2,.box 31 true [.p Px a,.p Rl hf])]⟩) (λk=>a.length-k.1) ⟨0,DO _,rfl⟩ (eW [(2,.nm 2)]) (λk=>?_)
 obtain⟨k,hk,b⟩:=k;have f:=λh:k<a.length=>jR s a h;simp only;repeat'(first|exact a6|apply eS rfl|apply AD|refine rX e ?_ ?_|refine rC ?_ ?_<;>intro d<;>try(cases d;done))
 .exact d
 .have c:k<a.length:=by exact eV
  rw[f c,At d]at b;exact fI e [.tmp 4] (by rw[<-b];exact eR)
 .omega
 .have c:k<a.length:=by exact eV
  rw[f c,As (by rw[d];simp)]at b;exact⟨⟨k+1,O1,b⟩,a2,eW [(2,.nm 2)]⟩
 have c:a.drop k=[]:=NO eV;rw[c]at b;exact fI e [.tmp 4] (by rw[<-b];first|exact eR|refine MJ ?_;rfl)
def J6:Ab:={ ins:=[GT,T9],pre:=λ_=>True,out:=λ(h,s,_)=>[.p T3 (Ao h s)],lend:=true }
attribute [go_sem] J6
theorem A2G:Ag Tryz.prog 56 J6:=by
 refine fK [0,1,2,4,5,10,20] Tryz.func56 Tryz.ntmps56 AH ?_;rintro w0 O0 ⟨⟨f,hf⟩,s,u⟩ d ⟨⟨-,g,-⟩,-⟩ -;simp only[AP]at g;simp only[J6,AL];repeat'(first|exact a6|apply eS rfl|refine rX d ?_ ?_)
 refine AI (ι:={k:Nat//k<=hf.length/\lW s k (hf.drop k)=Ao (f,hf) s}) (λk=>⟨[(1,.p T9 s),(2,.bp 2 [] 0),(5,.p (.int .i64) (k.1:Int))],[(2,.box 31 true [.p Px f,.p Rl hf])]⟩) (λk=>hf.length-k.1) ⟨0,DO _,rfl⟩ (eW [(2,.nm 2)]) (λk=>?_)
 obtain⟨k,hk,a⟩:=k;have e:=λh:k<hf.length=>jS s hf h;simp only;repeat'(first|exact a6|apply eS rfl|apply AD|refine rX d ?_ ?_|refine rC ?_ ?_<;>intro c<;>try(cases c;done))
 .exact c
 .have b:k<hf.length:=by exact eV
  rw[e b,At c]at a;exact fI d [.tmp 4] (by rw[<-a];exact eR)
 .omega
 .have b:k<hf.length:=by exact eV
  rw[e b,As (by rw[c];simp)]at a;exact⟨⟨k+1,O1,a⟩,a2,eW [(2,.nm 2)]⟩
 have b:hf.drop k=[]:=NO eV;rw[b]at a;exact fI d [.tmp 4] (by rw[<-a];first|exact eR|refine MJ ?_;rfl)
def A2H:Ab:=J6
attribute [go_sem] A2H
theorem Ww:Ag Tryz.prog 60 J6:=by
 refine fK [0,1,2,4,5,6,8,9,10,11,20] Tryz.func60 Tryz.ntmps60 AH ?_;rintro w0 O0 ⟨⟨g,hf⟩,s,u⟩ a ⟨⟨-,f,-⟩,-⟩ -;simp only[AP]at f;simp only[J6,AL];repeat'(first|exact a6|apply eS rfl|refine rX a ?_ ?_)
 refine AI (ι:={k:Nat//k<=hf.length/\lW s k (hf.drop k)=Ao (g,hf) s}) (λk=>⟨[(1,.p T9 s),(8,.p Rl hf),(9,.p (.int .i64) (hf.length:Int)),(10,.p (.int .i64) (k.1:Int))],[]⟩) (λk=>hf.length-k.1) ⟨0,DO _,rfl⟩ (eW []) (λk=>?_)
 obtain⟨k,hk,c⟩:=k;have e:=λh:k<hf.length=>jS s hf h;simp only;repeat'(first|exact a6|apply eS rfl|refine rX a ?_ ?_|refine rC ?_ ?_<;>intro b<;>try(cases b;done))
 .exact b
 .refine cP 5 a ?_ ?_
  .trivial
  refine ACw (j:=.i64) a a5 ?_;refine rL a ?_ ?_
  .trivial
  repeat'(first|exact a6|apply eS rfl|apply AD|refine rX a ?_ ?_|refine rC ?_ ?_<;>intro b<;>try(cases b;done))
  .have d:k<hf.length:=by exact eV
   rw[e d,At b]at c;exact fI a [.tmp 4] (by rw[<-c];exact eR)
  .omega
  have d:k<hf.length:=by exact eV
  rw[e d,As (by rw[b];simp)]at c;exact⟨⟨k+1,O1,c⟩,a2,eW []⟩
 have d:hf.drop k=[]:=NO eV;rw[d]at c;exact fI a [.tmp 4] (by rw[<-c];first|exact eR|refine MJ ?_;rfl)
theorem A6D (s:ByteArray) (t:F1):BB Tryz.prog 100 [.p T86 t,.bp 1 [] 0] [(1,.box 9 false [.p T9 s])] [1] (λres b=>res=.p .bool (AK t.1 s)/\b=[(1,.box 9 false [.p T9 s])]):=by
 refine JT [0,1,2,3] [] [] Tryz.func100 Tryz.ntmps100 AH ?_;intro w0 K O0 ρ0 a c d;simp only[Aq];repeat'(first|exact a6|apply eS rfl|refine rX a ?_ ?_)
 refine Ev.ent (σ':=⟨[(3,.p .bool (AK t.1 s))],[(1,.box 9 false [.p T9 s])]⟩) ?_ (AB [(1,.nm 1)] rfl rfl ?_ ?_)
 .exact fM a [.tmp 3] (.p .bool (AK t.1 s)) eT ⟨rfl,rfl⟩
 .exact eN
 exact eN
theorem zF (l:List F1) (s:ByteArray):BB Tryz.prog 99 [.p Px l,.clo 100 [1]] [(1,.box 9 false [.p T9 s])] [1] (λres g=>res=.p T3 (ZJ s 0 l)/\g=[(1,.box 9 false [.p T9 s])]):=by
 refine JT [0,1,4,5,7,8,9,16] [] [] Tryz.func99 Tryz.ntmps99 AH ?_;intro w0 K O0 ρ0 b e j;have i:l.length<=140737488355328:=e.1.1;simp only[Aq];repeat'(first|exact a6|apply eS rfl|refine rX b ?_ ?_)
 refine AI (ι:={k:Nat//k<=l.length/\ZJ s k (l.drop k)=ZJ s 0 l}) (λk=>⟨[(0,.p Px l),(1,.clo 100 [1]),(7,.p (.int .i64) (l.length:Int)),(8,.p (.int .i64) (k.1:Int))],[(1,.box 9 false [.p T9 s])]⟩) (λk=>l.length-k.1) ⟨0,DO _,rfl⟩ (eW [(1,.nm 1)]) (λk=>?_)
 obtain⟨k,hk,hf⟩:=k;have f:=λh:k<l.length=>jR s l h;simp only;repeat'(first|exact a6|apply eS rfl|refine rX b ?_ ?_|refine rC ?_ ?_<;>intro a<;>try(cases a;done))
 .have c:k<l.length:=oN.1 a;have d:=f c;refine cP 5 b ?_ ?_
  .exact a
  refine rW b (A6D s (l.getD k Rm)) [(1,.nm 1)] [] [(1,.nm 1)] (.p .bool (AK (l.getD k Rm).1 s)) ([(1,.box 9 false [.p T9 s])]) (E7 ?_)
  repeat'(first|exact a6|apply eS rfl|apply AD|refine rX b ?_ ?_|refine rC ?_ ?_<;>intro a<;>try(cases a;done))
  .rw[At a,hf]at d;refine Ev.ent (σ':=⟨[(4,.p (.int .i64) (k:Int))],[(1,.box 9 false [.p T9 s])]⟩) ?_ (AB [(1,.nm 1)] rfl rfl ?_ ?_)
   .exact fM b [.tmp 4] (.p T3 (k:Int)) eT ⟨by rw[d],rfl⟩
   .exact eN
   exact eN
  .omega
  rw[As (by rw[a];simp)]at d;exact⟨⟨k+1,c,d.symm.trans hf⟩,a2,eW [(1,.nm 1)]⟩
 have c:l.drop k=[]:=NO (AAw.1 a);rw[c]at hf;have hf:(-1:Int)=ZJ s 0 l:=hf;refine Ev.ent (σ':=⟨[(4,.p (.int .i64) (-1))],[(1,.box 9 false [.p T9 s])]⟩) ?_ (AB [(1,.nm 1)] rfl rfl ?_ ?_)
 .exact fM b [.tmp 4] (.p T3 (-1)) eT ⟨by rw[hf],rfl⟩
 .exact eN
 exact eN
def RD:Ab:={ ins:=[GT,T9],pre:=λ_=>True,out:=λ(h,s,_)=>[.p T3 (AW h s)],lend:=true }
attribute [go_sem] RD
theorem RE:Ag Tryz.prog 54 RD:=by
 refine fK [0,1,2,3,4] Tryz.func54 Tryz.ntmps54 AH ?_;rintro w0 O0 ⟨⟨b,hf⟩,s,u⟩ a - -;simp only[RD,AL];refine Ev.ent (σ':=⟨[(0,.p GT (b,hf)),(1,.p T9 s)],[]⟩) ?_ (AB [] rfl rfl ?_ ?_)
 .repeat'(first|exact a6|apply eS rfl|refine rX a ?_ ?_)
  refine cP 3 a ?_ ?_
  .trivial
  refine rW a (zF b s) [(1,.nm 3)] [] [(3,.nm 1)] (.p T3 (ZJ s 0 b)) ([(3,.box 9 false [.p T9 s])]) ?_
  refine rL a ?_ ?_
  .trivial
  repeat' apply eS rfl
  exact fI a [.tmp 4] (by unfold AW;exact eR)
 .exact eN
 exact eN
theorem A9l (h:AE):AW h ⟨#[108,105,115,116]⟩=(Df h).list/\AW h ⟨#[99,111,110,115]⟩=(Df h).cons/\AW h ⟨#[110,117,108,108]⟩=(Df h).null/\AW h ⟨#[100,108,105,115,116]⟩=(Df h).dlist/\Ao h ⟨#[70,73,82,83,84]⟩=(Df h).first/\Ao h ⟨#[82,69,83,84]⟩=(Df h).rest/\Ao h ⟨#[76,73,83,84]⟩=(Df h).head/\Ao h ⟨#[76,65,83,84]⟩=(Df h).last:=⟨rfl,rfl,rfl,rfl,rfl,rfl,rfl,rfl⟩
theorem A2I (h:AE):((Df h).list<(h.1.length:Int)/\(Df h).cons<(h.1.length:Int)/\(Df h).null<(h.1.length:Int)/\(Df h).dlist<(h.1.length:Int))/\(-1<=(Df h).list/\-1<=(Df h).cons/\-1<=(Df h).null/\-1<=(Df h).dlist) :=
 ⟨⟨(De h _).2,(De h _).2,(De h _).2,(De h _).2⟩,(De h _).1,(De h _).1,(De h _).1,(De h _).1⟩
theorem Ix {α:Type} {f:List α} (h:0<=n/\n<(f.length:Int)):n.toNat<f.length:=by omega
end
section
def wdF (h:AE) (w:LW):gL.den:=(h,w.list,w.cons,w.null,w.dlist,w.first,w.rest,w.head,w.last)
def lwO (w:gL.den):LW:=⟨w.2.1,w.2.2.1,w.2.2.2.1,w.2.2.2.2.1,w.2.2.2.2.2.1,w.2.2.2.2.2.2.1,w.2.2.2.2.2.2.2.1,w.2.2.2.2.2.2.2.2⟩
def Wx:Ab:={ ins:=[GZ,T3,T3],pre:=λ(f,n,_)=>Ae f/\(0:Int)<=n/\n<(List.length f:Int),out:=λ(f,n,e,_)=>[.p T3 (BS (List.getD (f:List AC) n.toNat (0,[])).2 e)],lend:=true }
attribute [go_sem] Wx
theorem cF:Ag Tryz.prog 146 Wx:=by
 refine fK [0,1,2,3,6,8,14,15,16,17,23] Tryz.func146 Tryz.ntmps146 AH ?_;rintro w0 O0 ⟨f,n,e,u⟩ d-⟨g,hn⟩;have g:Ae f:=g;have hn:0<=n/\n<(f.length:Int):=hn;simp only[Wx,AL];repeat'(first|exact a6|apply eS rfl|refine rX d ?_ ?_)
 .exact hn
 have j:=(g.2 _ (AG f (0,[]) (Ix hn))).1;generalize (f.getD n.toNat (0,[])).2=L at *;refine AI (ι:={k:Nat//k<=L.length/\BS L e=BS (L.drop k) e}) (λk=>⟨[(2,.p T3 e),(14,.p Nw L),(15,.p (.int .i64) (L.length:Int)),(16,.p (.int .i64) (k.1:Int))],[]⟩) (λk=>L.length-k.1) ⟨0,DO _,rfl⟩ (eW []) (λk=>?_)
 obtain⟨k,hk,a⟩:=k;have i:=λh:k<L.length=>ZI e L h;simp only;repeat'(first|exact a6|apply eS rfl|apply AD|refine rX d ?_ ?_|refine rC ?_ ?_<;>intro c<;>try(cases c;done))
 .exact c
 .have b:k<L.length:=by exact eV
  rw[i b,At c]at a;exact fI d [.tmp 6] (by rw[a];exact eR)
 .omega
 .have b:k<L.length:=by exact eV
  rw[i b,As c]at a;exact⟨⟨k+1,O1,a⟩,a2,eW []⟩
 have b:L.drop k=[]:=NO eV;rw[b]at a;exact fI d [.tmp 6] (by rw[a];first|exact eR|refine MJ ?_;rfl)
def WOk (h:AE) (w:LW):Prop:=(0<=w.cons/\w.cons<(h.1.length:Int))/\(0<=w.null/\w.null<(h.1.length:Int))
def Ph:Ab:={ ins:=[gL,GZ,T3],pre:=λ(w,f,n,_)=>WOk w.1 (lwO w)/\Ae f/\Dq w.1 f/\(0:Int)<=n/\n<(List.length f:Int),out:=λ(w,f,n,_)=>[.p T3 (ET w.1 (lwO w) (List.getD (f:List AC) n.toNat (0,[])))],lend:=true }
attribute [go_sem] Ph
theorem jT:Ag Tryz.prog 148 Ph:=by
 refine fK [0,1,2,3,4,6,7,8,9,28,43,56] Tryz.func148 Tryz.ntmps148 (AF cF (AF Qw AH)) ?_;rintro w0 O0 ⟨⟨h,l,c,d,dl,a,e,b,la⟩,f,n,u⟩ i-⟨j,k,m,hn⟩;have j:WOk h ⟨l,c,d,dl,a,e,b,la⟩:=j;have k:Ae f:=k;have m:Dq h f:=m;have hn:0<=n/\n<(f.length:Int):=hn;have o:=m _ (AG f (0,[]) (Ix hn));simp only[Ph,AL];repeat'(first|exact a6|apply eS rfl|refine rX i ?_ ?_|refine rC ?_ ?_<;>intro p<;>try(cases p;done))
 .exact hn
 .exact⟨k,hn⟩
 .exact⟨j.2,o⟩
 .have g:ET h ⟨l,c,d,dl,a,e,b,la⟩ (f.getD n.toNat (0,[]))=1:=by
   unfold ET X5 Og Tr RB RC;simp only[An,Is];grind
  exact fI i [.tmp 6] (by rw[show lwO (h,l,c,d,dl,a,e,b,la)=⟨l,c,d,dl,a,e,b,la⟩ from rfl,g];exact eR)
 .exact⟨j.1,o⟩
 .have g:ET h ⟨l,c,d,dl,a,e,b,la⟩ (f.getD n.toNat (0,[]))=2:=by
   unfold ET X5 Og Tr RB RC;simp only[An,Is];grind
  exact fI i [.tmp 6] (by rw[show lwO (h,l,c,d,dl,a,e,b,la)=⟨l,c,d,dl,a,e,b,la⟩ from rfl,g];exact eR)
 .exact⟨o,j.1⟩
 .have g:ET h ⟨l,c,d,dl,a,e,b,la⟩ (f.getD n.toNat (0,[]))=3:=by
   unfold ET X5 Og Tr RB RC;simp only[An,Is];grind
  exact fI i [.tmp 6] (by rw[show lwO (h,l,c,d,dl,a,e,b,la)=⟨l,c,d,dl,a,e,b,la⟩ from rfl,g];exact eR)
 have g:ET h ⟨l,c,d,dl,a,e,b,la⟩ (f.getD n.toNat (0,[]))=0:=by
  unfold ET X5 Og Tr RB RC;simp only[An,Is];grind
 exact fI i [.tmp 6] (by rw[show lwO (h,l,c,d,dl,a,e,b,la)=⟨l,c,d,dl,a,e,b,la⟩ from rfl,g];exact eR)
theorem A6E {a:Int}:(if b<a then b else a)<0↔a<0\/b<0:=by split<;>omega
theorem A6F {a:Int}:(0<=if b<a then b else a)↔0<=a/\0<=b:=by split<;>omega
def A8e:gL.den:=(([],[]),0,0,0,0,0,0,0,0)
def Pi:Ab:={ ins:=[GT],pre:=λ_=>True,out:=λ(h,_)=>[.p gL (if Sf h=true then wdF h (Df h) else A8e),.p DG (if Sf h=true then 0 else 5)] }
attribute [go_sem] Pi
theorem A2J:Ag Tryz.prog 145 Pi:=by
 refine fK [0,1,2,3,4,58] Tryz.func145 Tryz.ntmps145 (AF RE (AF Ww (AF Qw AH))) ?_;rintro w0 O0 ⟨⟨a,hf⟩,u⟩ b - -;obtain⟨f,g,i,j,k,l,m,n⟩:=A9l (a,hf);obtain⟨⟨s,t,v,w⟩,o,p,q,r⟩:=A2I (a,hf);simp only[Pi,AL];repeat'(first|exact a6|apply eS rfl|refine rX b ?_ ?_|refine rC ?_ ?_<;>intro e<;>try(cases e;done))
 all_goals simp only[f,g,i,j,k,l,m,n,A6E,A6F]at *
 .refine⟨λh=>?_,λh=>?_⟩<;>simp only[lU,ABs,bY,not_or]at h<;>grind
 .have c:Sf (a,hf)=false:=by
   rw[ADj];intro d;unfold Sf at d;simp only[An,Is]at d;grind
  exact fI b [.cell 2 232,.tmp 3] (by simp only[c,ACT,AD1,A8e];exact eR)
 have c:Sf (a,hf)=true:=by
  unfold Sf;simp only[An,Is];grind
 exact fI b [.cell 2 232,.tmp 3] (by simp only[c,ACk,wdF];exact eR)
end
section
attribute [go_sem] GL Ip
def N3 (d:List AJ):AE:=if d.length<=12/\(Ah d).2=0 then (Ah d).1 else (Ah BE).1
end
theorem pF (h:AE) (hk:Gt h) (hi:J5 h) (hf:eD h) (X:h.2.length<=100000) (f:List AC) (P:Ae f) (ha:Pg h f) (s:Ed) (hs:OE h f.length s) (n0:0<=n) (n1:n<(f.length:Int)) (T:ZE h s.1+s.2.length<=1000000000) :
  BB Tryz.prog 63 [.bp 1 [] 0,.p GZ f,.p T3 n] (EC h s) [1]
  (λres z=>(L8 h f n s=none/\res=.p .bool false/\∃A,z=EC h A)\/∃A,L8 h f n s=some A/\res=.p .bool true/\z=EC h A):=by
 have H:=NH ha n0 n1;have Z:(f.getD n.toNat (0,[])).2.length<=100000:=(P.2 _ (AG f (0,[]) O1)).1;have O:L8 h f n s=(NF h n (f.getD n.toNat (0,[])).2 s).bind (OD h n (f.getD n.toNat (0,[])).2):=rfl;rw[O];refine JT [0,1,2,4,6,8,10,11,12,18,19,20,21,37,44,45,46,47,76] [] [] Tryz.func63 Tryz.ntmps63 (AF A6o AH) ?_;intro w0 K O0 ρ0 a aa ab;simp only[EC,Aq];repeat'(first|exact a6|apply eS rfl|refine rX a ?_ ?_)
 .exact⟨n0,n1⟩
 have Y:f.getD n.toNat (0,[])=f.getD n.toNat (0,[]):=rfl;generalize M:(f.getD n.toNat (0,[])).2=L at *;refine AI (ι:={x:Nat×Ed//x.1<=L.length/\OE h f.length x.2/\ZE h x.2.1+x.2.2.length<=1000000000/\NF h n L s=NF h n (L.drop x.1) x.2}) (λx=>⟨[(0,.bp 1 [] 0),(2,.p T3 n),(4,.bp 4 [] 0),(18,.p Nw L),(19,.p (.int .i64) (L.length:Int)),(20,.p (.int .i64) (x.1.1:Int))],[(4,.box 38 true [.p KT f]),(1,.box 139 true [.p GT h,.sr 2 T3 0 x.1.2.1.length,.p DH x.1.2.2]),(2,.arr 3 T3 x.1.2.1)]⟩) (λx=>L.length-x.1.1) ⟨(0,s),DO _,hs,T,rfl⟩ (eW [(4,.nm 4),(1,.nm 1),(2,.nm 2)]) (λx=>?_)
 obtain⟨⟨k,s1⟩,R,r,C,i⟩:=x;simp only at R r C i ⊢;repeat'(first|exact a6|apply eS rfl|refine rX a ?_ ?_|refine rC ?_ ?_<;>intro b<;>try(cases b;done))
 .exact b
 .have l:k<L.length:=oN.1 b;have d:NF h n (L.drop k) s1=(DK h s1 n (L7 h (L.getD k (0,0)).1)).bind (NF h n (L.drop (k+1))):=by rw[uH (0,0) l];rfl
  obtain⟨⟨F,G⟩,u,b1⟩:=H _ (AG L (0,0) l);obtain⟨o,q⟩:=NG hf F G;obtain⟨w,y⟩:=r.get n0 n1;refine cD 12 a ?_ ?_
  .exact⟨F,G⟩
  refine rM a (i5 h hk s1 n0 (by rw[r.len];exact n1) w y o q O1) [(1,.nm 1),(2,.nm 2)] [2] ?_ ?_ ?_
  .refine eM ?_;rfl
  .simp only[EC];exact eN
  rintro res z (⟨c,rfl,rfl⟩|⟨s2,c,rfl,rfl⟩)
  .refine⟨[(1,.nm 1),(2,.nm 2)],.p .bool false,EC h s1,rfl,rfl,?_,?_,rfl,rfl,?_⟩
   .simp only[EC];exact eN
   .exact eN
   simp only[EC];refine rL a ?_ ?_
   .trivial
   repeat'(first|exact a6|apply eS rfl|refine rX a ?_ ?_|refine rC ?_ ?_<;>intro b<;>try(cases b;done))
   refine Ev.ent (σ':=⟨[(6,.p .bool false)],EC h s1⟩) ?_ (AB [(1,.nm 1),(2,.nm 2)] rfl rfl ?_ ?_)
   .exact fM a [.tmp 6] (.p .bool false) eT (.inl ⟨by rw[i,d,c];rfl,rfl,s1,rfl⟩)
   .unfold EC;exact eN
   exact eN
  refine⟨[(1,.nm 1),(2,.nm 2)],.p .bool true,EC h s2,rfl,rfl,?_,?_,rfl,rfl,?_⟩
  .simp only[EC];exact eN
  .exact eN
  simp only[EC];refine rL a ?_ ?_
  .trivial
  obtain⟨D,E,U⟩:=FB hk hi r n0 n1 o q c;repeat'(first|apply eS rfl|apply AD|refine rX a ?_ ?_|refine rC ?_ ?_<;>intro b<;>try(cases b;done))
  .omega
  exact⟨⟨(k+1,s2),l,D,iN E C,by rw[i,d,c];rfl⟩,a2,eW [(4,.nm 4),(1,.nm 1),(2,.nm 2)]⟩
 .exact⟨n0,n1⟩
 have B:L.drop k=[]:=NO (AAw.1 b);rw[B]at i;have i:NF h n L s=some s1:=i;rw[i];have N:(List.getD f n.toNat (0,[])).2=L:=M;rw[N];refine AI (ι:={x:Nat×Ed//x.1<=L.length/\OE h f.length x.2/\ZE h x.2.1+x.2.2.length<=1000000000/\(some s1).bind (OD h n L)=OD h n (L.drop x.1) x.2}) (λx=>⟨[(0,.bp 1 [] 0),(2,.p T3 n),(44,.p Nw L),(45,.p (.int .i64) (L.length:Int)),(46,.p (.int .i64) (x.1.1:Int))],[(1,.box 139 true [.p GT h,.sr 2 T3 0 x.1.2.1.length,.p DH x.1.2.2]),(2,.arr 3 T3 x.1.2.1)]⟩) (λx=>L.length-x.1.1) ⟨(0,s1),DO _,r,C,rfl⟩ (eW [(1,.nm 1),(2,.nm 2)]) (λx=>?_)
 obtain⟨⟨j,s2⟩,Q,m,I,g⟩:=x;simp only at Q m I g ⊢;obtain⟨w,y⟩:=m.get n0 n1;repeat'(first|exact a6|apply eS rfl|refine rX a ?_ ?_|refine rC ?_ ?_<;>intro b<;>try(cases b;done))
 .exact b
 .exact⟨⟨n0,by rw[m.len];exact n1⟩,w,y⟩
 .have l:j<L.length:=oN.1 b;have d:OD h n (L.drop j) s2=if (CR h (s2.1.getD n.toNat 0) (L.getD j (0,0)).1).2=true then (DK h s2 (L.getD j (0,0)).2 (CR h (s2.1.getD n.toNat 0) (L.getD j (0,0)).1).1).bind (OD h n (L.drop (j+1))) else none:=by rw[uH (0,0) l];rfl
  obtain⟨-,u,b1⟩:=H _ (AG L (0,0) l);have S:=λe=>Iv (f:=(L.getD j (0,0)).1) hf w y e;generalize CR h (s2.1.getD n.toNat 0) (L.getD j (0,0)).1=v at *;obtain⟨t,ok⟩:=v;refine evP a 3 ?_ ?_
  .trivial
  cases ok with
  | false =>
   rw[As sc]at d;refine rL a ?_ ?_
   .trivial
   repeat'(first|exact a6|apply eS rfl|refine rX a ?_ ?_|refine rC ?_ ?_<;>intro b<;>try(cases b;done))
   refine Ev.ent (σ':=⟨[(6,.p .bool false)],EC h s2⟩) ?_ (AB [(1,.nm 1),(2,.nm 2)] rfl rfl ?_ ?_)
   .exact fM a [.tmp 6] (.p .bool false) eT (.inl ⟨by rw[g,d],rfl,s2,rfl⟩)
   .unfold EC;exact eN
   exact eN
  | true =>
   rw[At rfl]at d;obtain⟨o,q⟩:=S rfl;simp only at o q d;obtain⟨V,W⟩:=m.get u b1;refine rN 4 a ?_ ?_
   .trivial
   refine clG a (i5 h hk s2 u (by rw[m.len];exact b1) V W o q O1) [(1,.nm 1),(2,.nm 2)] [2] ?_ ?_ ?_
   .exact eN
   .simp only[EC];exact eN
   rintro res z (⟨c,rfl,rfl⟩|⟨J,c,rfl,rfl⟩)
   .refine⟨[(1,.nm 1),(2,.nm 2)],.p .bool false,EC h s2,rfl,rfl,?_,?_,rfl,rfl,?_⟩
    .simp only[EC];exact eN
    .exact eN
    simp only[EC];refine rL a ?_ ?_
    .trivial
    repeat'(first|exact a6|apply eS rfl|refine rX a ?_ ?_|refine rC ?_ ?_<;>intro b<;>try(cases b;done))
    refine Ev.ent (σ':=⟨[(6,.p .bool false)],EC h s2⟩) ?_ (AB [(1,.nm 1),(2,.nm 2)] rfl rfl ?_ ?_)
    .exact fM a [.tmp 6] (.p .bool false) eT (.inl ⟨by rw[g,d,c];rfl,rfl,s2,rfl⟩)
    .unfold EC;exact eN
    exact eN
   refine⟨[(1,.nm 1),(2,.nm 2)],.p .bool true,EC h J,rfl,rfl,?_,?_,rfl,rfl,?_⟩
   .simp only[EC];exact eN
   .exact eN
   simp only[EC];refine rL a ?_ ?_
   .trivial
   obtain⟨D,E,U⟩:=FB hk hi m u b1 o q c;repeat'(first|apply eS rfl|apply AD|refine rX a ?_ ?_|refine rC ?_ ?_<;>intro b<;>try(cases b;done))
   .omega
   exact⟨⟨(j+1,J),l,D,iN E I,by rw[g,d,c];rfl⟩,a2,eW [(1,.nm 1),(2,.nm 2)]⟩
 have B:L.drop j=[]:=NO (AAw.1 b);rw[B]at g;have g:(some s1).bind (OD h n L)=some s2:=g;refine Ev.ent (σ':=⟨[(6,.p .bool true)],EC h s2⟩) ?_ (AB [(1,.nm 1),(2,.nm 2)] rfl rfl ?_ ?_)
 .exact fM a [.tmp 6] (.p .bool true) eT (.inr ⟨s2,g,rfl,rfl⟩)
 .unfold EC;exact eN
 exact eN
section
def cH:Ab:={ ins:=[KT],pre:=λ(l,_)=>List.length l<=100000,out:=λ(l,_)=>[.own 66 Uj l] }
attribute [go_sem] cH
theorem zG:Ag Tryz.prog 64 cH:=by
 refine fK [0,2,4] Tryz.func64 Tryz.ntmps64 AH ?_;rintro w0 O0 ⟨l,u⟩ a-d;have d:List.length l<=100000:=d;simp only[cH,AL];repeat'(first|exact a6|apply eS rfl|refine rX a ?_ ?_)
 refine cP 1 a ?_ ?_
 .trivial
 refine xZ a false rfl rfl ?_;intro b e;refine rL a ?_ ?_
 .trivial
 repeat'(first|exact a6|apply eS rfl|refine rX a ?_ ?_|refine rC ?_ ?_<;>intro c<;>try(cases c;done))
 .have f:l=[]:=e c;subst f;refine Ev.ent (σ':=⟨[(2,.sr 5 Uj 0 0)],[(5,.arr 66 Uj [])]⟩) ?_ (AB [(5,.nil)] rfl rfl ?_ ?_)
  .exact O4 a (.inl rfl) (rv:=.tmp 2) rfl (by simp only[Lv,Jw,Hl,go_sem,Nat.reduceEqDiff,reduceCtorEq,Nat.reduceAdd,Nat.reduceSub,Nat.reduceMul,Nat.reduceLeDiff,Nat.reduceLT,Int.reduceLE,Int.reduceToNat,Int.reduceNeg,↓reduceIte])
  .exact eN
  exact eN
 .simp only[AP];omega
 exact O4 a (.inl rfl) (rv:=.tmp 2) rfl (by simp only[Lv,Jw,Hl,go_sem,Nat.reduceEqDiff,reduceCtorEq,Nat.reduceAdd,Nat.reduceSub,Nat.reduceMul,Nat.reduceLeDiff,Nat.reduceLT,Int.reduceLE,Int.reduceToNat,Int.reduceNeg,↓reduceIte])
structure A2K (h:AE) (f:List AC):Prop where
 ok:Gt h
 inj:J5 h
 ft:eD h
 fl:h.2.length<=100000
 good:Ae f
 arcs:Pg h f
 ty:∀x∈f,0<=x.1/\x.1<(h.1.length:Int)
def Wy:Ab:={ ins:=[GT,GZ],pre:=λ(h,f,_)=>A2K h f,out:=λ(h,f,_)=>[.p GZ (DL h f).1,.p .bool (DL h f).2] }
theorem DR (f:List AC) (ty:List Int):(Ex f ty).length=f.length:=by simp[Ex]
theorem Gz (f:List AC) (ty:List Int) {i:Nat} (h:i<f.length):(Ex f ty).getD i (0,[])=(ty.getD i 0,(f.getD i (0,[])).2):=by
 unfold Ex;simp[AS,h]
theorem zH {α:Type} (F f:List α) (d:α) (b:F.length=f.length) {j:Nat} (h:j<f.length):(F.take j++f.drop j).set j (F.getD j d)=F.take (j+1)++f.drop (j+1)/\(F.take j++f.drop j).getD j d=f.getD j d:=by
 have h1:(F.take j).length=j:=by rw[On];omega
 have a:f.drop j=f.getD j d :: f.drop (j+1):=by
  rw[OS h,AS,AT h];rfl
 constructor
 .rw[Ap F d O1,AEc _ _ O1,h1,AD9,a];simp
 rw[AS,AAd O1,h1,AD9,a];rfl
theorem A2L:Ag Tryz.prog 36 Wy:=by
 refine fK [0,1,2,3,4,5,6,7,8,9,10,11,16,17,18,19,51,64,72,73,74] Tryz.func36 Tryz.ntmps36 (AF zG AH) ?_;rintro w0 O0 ⟨⟨a,hf⟩,f,u⟩ c-d;have d:A2K (a,hf) f:=d;have E:=A2C (a,hf) f;have y:=d.good.1;have T:Oe (a,hf) f<=30000000:=by
  have h1:a.length<=256:=d.ok.2;have D:f.length*a.length<=100000*256:=Nat.mul_le_mul y h1;have S:f.length*(a,hf).1.length<=100000*256:=D;unfold Oe;omega
 have K:=A2B d.ty;simp only[Wy,AL];repeat'(first|exact a6|apply eS rfl|refine rX c ?_ ?_)
 refine AI (ι:={i:Nat//i<=f.length}) (λi=>⟨[(3,.bp 3 [] 0),(4,.bp 4 [] 0),(6,.bp 14 [] 0),(16,.p KT f),(17,.p (.int .i64) (f.length:Int)),(18,.p (.int .i64) (i.1:Int))],[(3,.box 38 true [.p KT f]),(4,.box 38 true [.raw (.slice none 0 0)]),(14,.box 139 true [.p GT (a,hf),.sr 31 T3 0 i.1,.sr 41 T3 0 i.1]),(31,.arr 3 T3 ((BU f).take i.1)),(41,.arr 3 T3 ((Ei f).take i.1))]⟩) (λi=>f.length-i.1) ⟨0,DO _⟩ (eW [(3,.nm 3),(4,.nm 4),(14,.nm 14),(31,.nil),(41,.nil)]) (λi=>?_)
 obtain⟨i,hi⟩:=i;have tl:((BU f).take i).length=i:=by rw[On];simp[BU];omega
 have Y:((Ei f).take i).length=i:=by rw[On];simp[Ei];omega
 have ts:i<f.length->(BU f).take i++[(f.getD i (0,[])).1]=(BU f).take (i+1):=λh=>by
  rw[Ap (BU f) 0 (by simpa[BU] using h)];simp[BU,AS,h]
 have Q:i<f.length->(Ei f).take i++[(i:Int)]=(Ei f).take (i+1):=λh=>by
  rw[Ap (Ei f) 0 (by simpa[Ei] using h)];simp[Ei,AS,h]
 repeat'(first|exact a6|apply eS rfl|refine rX c ?_ ?_|refine rC ?_ ?_<;>intro b<;>try(cases b;done))
 .exact b
 .have l:i<f.length:=oN.1 b;have P:=ts l;have R:=Q l;refine Gl drawsAny c 9 [([1,2,3,4,5,6,7],8)] [0] a5 (xV ?_ ?_)
  .trivial
  refine mxL c [31] ?_ ?_
  .simp only[AP];omega
  refine xW c ?_ ?_ ?_
  .trivial
  .trivial
  repeat'(first|apply eS rfl|apply AD|refine rX c ?_ ?_)
  .simp only[AP];omega
  .omega
  refine⟨⟨i+1,l⟩,a2,AB [(3,.nm 3),(4,.nm 4),(14,.nm 14),(31,.nm 31),(41,.nm 41)] rfl rfl ?_ ?_⟩
  .simp only[<-P,<-R];refine eM ?_;simp only[ACU,ADB,and_self]
  exact eN
 have l:i=f.length:=by
  have:=AAw.1 b;omega
 subst l;have et:(BU f).take f.length=BU f:=BY (by simp[BU]);have w:(Ei f).take f.length=Ei f:=BY (by simp[Ei]);have O:(BU f).length=f.length:=by simp[BU]
 have Z:(Ei f).length=f.length:=by simp[Ei]
 rw[et,w];have C:(Ei f).take f.length=Ei f:=w;refine CO [41] ?_;rw[C];refine AI (ι:={x:Nat×Ed//OE (a,hf) f.length x.2/\ZE (a,hf) x.2.1+x.2.2.length+1<=Oe (a,hf) f/\x.1<=x.2.2.length/\∃k,ZE (a,hf) x.2.1+x.2.2.length+1<=k+x.1/\wlF (a,hf) f k x.1 x.2=Hf (a,hf) f}) (λx=>⟨[(3,.bp 3 [] 0),(4,.bp 4 [] 0),(6,.bp 14 [] 0),(9,.p (.int .i64) (x.1.1:Int))],[(3,.box 38 true [.p KT f]),(4,.box 38 true [.raw (.slice none 0 0)]),(14,.box 139 true [.p GT (a,hf),.sr 31 T3 0 x.1.2.1.length,.p DH x.1.2.2]),(31,.arr 3 T3 x.1.2.1)]⟩) (λx=>ZE (a,hf) x.1.2.1+x.1.2.2.length-x.1.1) ⟨(0,BU f,Ei f),K,E,DO _,Oe (a,hf) f,a2,rfl⟩ (AB [(3,.nm 3),(4,.nm 4),(14,.nm 14),(31,.nm 31)] rfl rfl ?_ ?_) (λx=>?_)
 .simp only[O];exact eN
 .exact eN
 obtain⟨⟨i,s⟩,hs,J,hi,k,hk,g⟩:=x;simp only at hs J hi hk g ⊢;repeat'(first|exact a6|apply eS rfl|refine rX c ?_ ?_|refine rC ?_ ?_<;>intro b<;>try(cases b;done))
 .have n:i<s.2.length:=oN.1 b;obtain⟨A,B⟩:=hs.wt _ (AG s.2 (0:Int) n);obtain⟨k,rfl⟩:∃v,k=v+1:=⟨k-1,O1⟩;have t:wlF (a,hf) f (k+1) i s=(L8 (a,hf) f (s.2.getD i 0) s).bind (wlF (a,hf) f k (i+1)):=At n;rw[t]at g;refine cD 9 c ?_ ?_
  .exact b
  refine rM c (pF (a,hf) d.ok d.inj d.ft d.fl f d.good d.arcs s hs A B O1) [(1,.nm 14),(2,.nm 31)] [31] ?_ ?_ ?_
  .exact eN
  .simp only[EC];exact eN
  rintro res X (⟨m,rfl,e,rfl⟩|⟨e,m,rfl,rfl⟩)
  .refine⟨[(14,.nm 1),(31,.nm 2)],.p .bool false,[(14,.box 139 true [.p GT (a,hf),.sr 31 T3 0 e.1.length,.p DH e.2]),(31,.arr 3 T3 e.1)],rfl,rfl,?_,?_,rfl,rfl,?_⟩
   .simp only[EC];exact eN
   .exact eN
   refine rL c ?_ ?_
   .trivial
   repeat'(first|exact a6|apply eS rfl|refine rX c ?_ ?_|refine rC ?_ ?_<;>intro b<;>try(cases b;done))
   have q:DL (a,hf) f=([],false):=by unfold DL;rw[<-g,m];rfl
   exact fI c [.cell 4 38,.tmp 5] (by rw[q];exact eR)
  obtain⟨N,V,W⟩:=Wu d.ok d.inj d.ft d.arcs A B hs m;rw[m]at g;refine⟨[(14,.nm 1),(31,.nm 2)],.p .bool true,[(14,.box 139 true [.p GT (a,hf),.sr 31 T3 0 e.1.length,.p DH e.2]),(31,.arr 3 T3 e.1)],rfl,rfl,?_,?_,rfl,rfl,?_⟩
  .simp only[EC];exact eN
  .exact eN
  refine rL c ?_ ?_
  .trivial
  repeat'(first|apply eS rfl|apply AD|refine rX c ?_ ?_|refine rC ?_ ?_<;>intro b<;>try(cases b;done))
  .omega
  exact⟨⟨(i+1,e),N,a2,a2,k,a2,g⟩,a2,eW [(3,.nm 3),(4,.nm 4),(14,.nm 14),(31,.nm 31)]⟩
 .exact y
 have n:¬i<s.2.length:=λh=>by
  have:=AAw.1 b;omega
 obtain⟨k,rfl⟩:∃v,k=v+1:=⟨k-1,O1⟩;have t:wlF (a,hf) f (k+1) i s=some s.1:=As n;have q:DL (a,hf) f=(Ex f s.1,true):=by unfold DL;rw[<-g,t]
 have r:=DR f s.1;have L:=λi h=>Gz f s.1 (i:=i) h;generalize hT:Ex f s.1=F at *;have M:=hs.len;refine AI (ι:={j:Nat//j<=f.length}) (λj=>⟨[(4,.bp 4 [] 0),(6,.bp 14 [] 0),(10,.bp 10 [] 0),(72,.p (.int .i64) (f.length:Int)),(73,.p (.int .i64) (j.1:Int))],[(10,.box 38 true [.sr 68 Uj 0 f.length]),(68,.arr 66 Uj (F.take j.1++f.drop j.1)),(4,.box 38 true [.raw (.slice none 0 0)]),(14,.box 139 true [.p GT (a,hf),.sr 31 T3 0 s.1.length,.p DH s.2]),(31,.arr 3 T3 s.1)]⟩) (λj=>f.length-j.1) ⟨0,DO _⟩ (eW [(10,.nm 10),(68,.nm 68),(4,.nm 4),(14,.nm 14),(31,.nm 31)]) (λj=>?_)
 obtain⟨j,U⟩:=j;have I:=λh:j<f.length=>zH F f (0,[]) r h;repeat'(first|exact a6|apply eS rfl|apply AD|refine rX c ?_ ?_|refine rC ?_ ?_<;>intro b<;>try(cases b;done))
 .exact⟨by rw[M];exact b,b⟩
 .omega
 .have o:j<f.length:=oN.1 b;obtain⟨z,H⟩:=I o;rw[L j o]at z;refine⟨⟨j+1,o⟩,a2,AB [(10,.nm 10),(68,.nm 68),(4,.nm 4),(14,.nm 14),(31,.nm 31)] rfl rfl ?_ ?_⟩
  .simp only[<-z];refine eM ?_;rw[H]
  exact eN
 have hF:F.take j=F:=BY (by rw[r];exact AAw.1 b);have G:List.drop j f=[]:=NO (AAw.1 b);rw[hF,G,AAW];exact fI c [.cell 4 38,.tmp 5] (by rw[q];first|exact eR|refine MJ ?_;exact BY (by rw[r];exact Of _))
end
structure MI (m:List (Int×Bool)) (l:List Bool):Prop where
 nd:(m.map (·.1)).Nodup
 get:∀k:Int,Bc T3 .bool k m=if 0<=k/\l.getD k.toNat false=true then some true else none
theorem uK (k:Int) (v:Bool):∀ {m:List (Int×Bool)},(m.map (·.1)).Nodup->((Fd T3 .bool k v m).map (·.1)).Nodup/\∀x,x∈(Fd T3 .bool k v m).map (·.1)->x=k\/x∈m.map (·.1)
 | [],_=>by simp[Fd]
 | y :: m,h=>by
  rw[gO,AC2]at h;unfold Fd;split
  .rename_i e;have e:k=y.1:=by simpa[Ht] using e
   refine⟨?_,λx a=>?_⟩
   .rw[gO,AC2,e];exact h
   rcases By.1 a with a|a
   .exact .inl a
   exact .inr (GO _ a)
  rename_i e;have e:¬k=y.1:=by simpa[Ht] using e
  obtain⟨c,b⟩:=uK k v h.2;refine⟨?_,λx a=>?_⟩
  .rw[gO,AC2];refine⟨λd=>?_,c⟩;rcases b _ d with a|a
   .exact e a.symm
   exact h.1 a
  rcases By.1 a with a|a
  .exact .inr (by rw[a];simp)
  exact(b x a).imp id λg=>GO _ g
theorem jU (k:Int):∀m:List (Int×Bool),(nB T3 .bool k m).Sublist m
 | []=>List.Sublist.refl _
 | y :: m=>by
  unfold nB;split
  .exact List.sublist_cons_self _ _
  exact(jU k m).cons_cons _
theorem ZK {x:Int}:∀ {m:List (Int×Bool)},x∉m.map (·.1)->Bc T3 .bool x m=none
 | [],_=>rfl
 | y :: m,h=>by
  unfold Bc;rw[As (by
   intro e;have e:x=y.1:=by simpa[Ht] using e
   exact h (by rw[e];simp))]
  exact ZK λa=>h (GO _ a)
theorem ZL (x k:Int):∀ {m:List (Int×Bool)},(m.map (·.1)).Nodup->Bc T3 .bool x (nB T3 .bool k m)=if x=k then none else Bc T3 .bool x m
 | [],_=>by simp[nB,Bc]
 | y :: m,h=>by
  rw[gO,AC2]at h;unfold nB;split
  .rename_i e;have e:k=y.1:=by simpa[Ht] using e
   by_cases a:x=k
   .rw[At a,a,e];exact ZK h.1
   rw[As a];have c:¬x=y.1:=by rw[<-e];exact a
   simp[Bc,Ht,c]
  rename_i e;have e:¬k=y.1:=by simpa[Ht] using e
  have f:=ZL x k h.2;by_cases b:x=y.1
  .have d:¬x=k:=by rw[b];exact λg=>e g.symm
   rw[As d];simp[Bc,Ht,b]
  have hn:¬Ht T3 x y.1=true:=by simpa[Ht] using b
  simp only[Bc];rw[As hn,As hn,f]
theorem MI.zero:MI [] (List.replicate 0 true):=⟨List.nodup_nil,λk=>by simp[Bc]⟩
theorem MI.put {m:List (Int×Bool)} {i:Nat} (h:MI m (List.replicate i true)):MI (Fd T3 .bool (i:Int) true m) (List.replicate (i+1) true):=by
 refine⟨(uK _ _ h.nd).1,λ(k:Int)=>?_⟩;rw[Wr,h.get];by_cases hk:k=(i:Int)
 .rw[At hk,At];subst hk;refine⟨AC8 _,?_⟩;simp[AS,ADg]
 rw[As hk];have e:(0<=k/\(List.replicate i true).getD k.toNat false=true)↔(0<=k/\(List.replicate (i+1) true).getD k.toNat false=true):=by
  simp only[AS,ADg];constructor
  .rintro⟨a,b⟩;refine⟨a,?_⟩;split at b
   .rw[At O1];rfl
   simp at b
  rintro⟨a,b⟩;refine⟨a,?_⟩;split at b
  .rw[At O1];rfl
  simp at b
 by_cases c:0<=k/\(List.replicate i true).getD k.toNat false=true
 .rw[At c,At (e.1 c)]
 rw[As c,As λg=>c (e.2 g)]
theorem MI.del {m:List (Int×Bool)} {l:List Bool} (h:MI m l) (i:Nat):MI (nB T3 .bool (i:Int) m) (l.set i false):=by
 refine⟨h.nd.sublist ((jU _ m).map _),λ(k:Int)=>?_⟩;rw[ZL _ _ h.nd,h.get];by_cases hk:k=(i:Int)
 .subst hk;rw[At rfl,As];rintro⟨-,b⟩;rw[S8]at b;simp only[AS,ACs]at b;rw[At trivial]at b;split at b<;>simp at b
 rw[As hk];by_cases a:0<=k
 .have c:¬i=k.toNat:=by omega
  simp only[AS,ACs];rw[As c]
 rw[As λg=>a g.1,As λg=>a g.1]
theorem N4 {x:Int}:∀ {m:List (Int×Bool)},x∈m.map (·.1)->Bc T3 .bool x m≠none
 | y :: m,h=>by
  unfold Bc;split
  .simp
  rename_i e;rcases By.1 h with h|h
  .exact absurd (by simp[Ht,h]) e
  exact N4 h
theorem MI.len {m:List (Int×Bool)} {l:List Bool} (h:MI m l):m.length<=l.length:=by
 have h1:((m.map (·.1)).map Int.toNat).Nodup:=by
  rw[List.Nodup,AC6];refine h.nd.imp_of_mem λ{a b:Int} ha d i e=>i ?_;have h1:=N4 ha;have c:=N4 d;rw[h.get]at h1 c;have n:0<=a:=Do λg=>h1 (As λq=>g q.1);have o:0<=b:=Do λg=>c (As λq=>g q.1);omega
 have:=Dw l.length _ h1 (λj f=>by
  obtain⟨x,k,rfl⟩:=IN.1 f;have h1:=N4 k;rw[h.get]at h1;refine Do λhn=>h1 (As λg=>?_);have:=g.2;rw[AS,wS O1]at this;cases this)
 simpa using this
def zI (N:List AC) (i:Nat) (v:Int×Int):List AC:=N.set i ((N.getD i (0,[])).1,(N.getD i (0,[])).2++[(v.1,(N.length:Int))])++[(v.2,[])]
theorem A2M (N:List AC) (i:Nat) (v:Int×Int):(zI N i v).length=N.length+1:=by simp[zI]
structure TI2 (h:AE) (m i k:Nat) (N:List AC):Prop where
 len:N.length<=m
 ty:∀x∈N,0<=x.1/\x.1<(h.1.length:Int)
 lo:∀j,j<i->(N.getD j (0,[])).2.length<=200
 at':(N.getD i (0,[])).2.length<=100+k
 hi:∀j,i<j->(N.getD j (0,[])).2.length<=100
theorem A2N {α:Type} (l:List α) (x d:α) (j:Nat):(l++[x]).getD j d=if j<l.length then l.getD j d else if j=l.length then x else d:=by
 simp only[AS];by_cases h:j<l.length
 .rw[At h,AAr h]
 rw[As h,AAd O1];by_cases e:j=l.length
 .rw[At e,e,AD9];rfl
 rw[As e,wS (by simp only[oR];omega)];rfl
theorem N5 {α:Type} (l:List α) (x d:α) {i:Nat} (h:i<l.length) (j:Nat):(l.set i x).getD j d=if j=i then x else l.getD j d:=by
 simp only[AS,ACs];by_cases e:i=j
 .rw[At e,At h,At e.symm];rfl
 rw[As e,As (show ¬j=i by omega)]
theorem A2O {N:List AC} {i:Nat} (h:i<N.length) (v:Int×Int) (j:Nat):(zI N i v).getD j (0,[])=if j=i then ((N.getD i (0,[])).1,(N.getD i (0,[])).2++[(v.1,(N.length:Int))]) else if j=N.length then (v.2,[]) else N.getD j (0,[]):=by
 unfold zI;rw[A2N,N5 _ _ _ h,AAx];by_cases a:j=i
 .rw[At a,At O1,At a]
 rw[As a,As a];by_cases c:j<N.length
 .rw[At c,As O1]
 rw[As c];by_cases b:j=N.length
 .rw[At b,At b]
 rw[As b,As b,AS,wS O1];rfl
theorem TI2.add {m i k:Nat} {N:List AC} (b:TI2 h m i k N) (hi:i<N.length) (f:4096<=m) (e:N.length<4096) (v0:0<=v.2) (v1:v.2<(h.1.length:Int)):TI2 h m i (k+1) (zI N i v):=by
 have c:=λj=>A2O hi v j;refine⟨by rw[A2M];omega,λx a=>?_,λj d=>?_,?_,λj d=>?_⟩
 .unfold zI at a;rcases IS.1 a with a|a
  .rcases ACV a with a|rfl
   .exact b.ty x a
   exact(b.ty (N.getD i (0,[])) (AG N (0,[]) hi) :)
  rw[oF.1 a];exact⟨v0,v1⟩
 .rw[c,As O1,As O1];exact b.lo j d
 .rw[c,At rfl];have:=b.at';simp only[IF,oR];omega
 rw[c,As O1];split
 .simp
 exact b.hi j d
theorem TI2.skip {m i k:Nat} {N:List AC} (a:TI2 h m i k N):TI2 h m i (k+1) N:=⟨a.len,a.ty,a.lo,by have:=a.at';omega,a.hi⟩
theorem TI2.next {m i k:Nat} {N:List AC} (a:TI2 h m i k N) (hk:k<=100):TI2 h m (i+1) 0 N:=⟨a.len,a.ty,λj b=>by
 by_cases e:j=i
 .have:=a.at';rw[e];omega
 exact a.lo j O1,a.hi (i+1) O1,λj b=>a.hi j O1⟩
theorem getD_set_ne {α:Type} (l:List α) (d v:α) {i:Nat} (h:i≠j):(l.set i v).getD j d=l.getD j d:=by
 simp only[AS];rw[ADw h]
theorem X6 {α:Type} (l:List α) (d v:α) {i:Nat} (h:i<l.length):(l.set i v).getD i d=v:=by
 simp only[AS];rw[ADo h];rfl
def toF (l:List (Int×Int)) (x:Int):Int:=l.foldl (λt a=>if a.1=x then a.2 else t) (-1)
section
attribute [go_sem] jL
end
abbrev Am (f:List AC) (n:Int):List (Int×Int):=(f.getD n.toNat (0,[])).2
def A8f (f:List AC):Int->List Int->Option Int
 | n,[]=>some n
 | n,x :: r=>if toF (Am f n) x<0 then none else A8f f (toF (Am f n) x) r
theorem jV {f:List AC} (hf:Ae f):∀(k:Nat) (o:List Int) (n:Int),ML f o->0<=n->n<f.length->n∉o->f.length-o.length<=k->Dy f (k+1) o n=Dy f k o n
 | 0,o,n,h,h0,h1,c,hk=>by
  have:=(h.snoc h0 h1 c).len;grind
 | k+1,o,n,h,h0,h1,c,hk=>by
  rw[Cu,Cu];have key:∀(l:List (Int×Int)) (t:List Int),(∀a∈l,0<=a.2/\a.2<(f.length:Int))->ML f t->f.length-t.length<=k->l.foldl (BF f (k+1)) t=l.foldl (BF f k) t:=by
   intro l;induction l with
   | nil=>intros;rfl
   | cons a l p =>
    intro t e m j;have g:=e a sc;have hs:BF f (k+1) t a=BF f k t a:=by
     unfold BF;split
     .rfl
     rename_i hn;exact jV hf k t a.2 m g.1 g.2 hn j
    have d:ML f (BF f k t a)/\t <+: BF f k t a:=by grind [BF,Gu]
    rw[ON,ON,hs];have:=d.2.length_le;exact p _ (λb i=>e b (by simp[i])) d.1 O1
  exact key _ _ (λa ha=>CS hf ha) (h.snoc h0 h1 c) (by simp only[IF,oR];omega)
theorem La (f:List AC):ML f []:=⟨sc,λx a=>by cases a⟩
theorem Wz {f:List AC} (hf:Ae f) {n:Int} (h0:0<=n) (h1:n<f.length):∀m,Dy f (f.length+m) [] n=Dy f f.length [] n
 | 0=>rfl
 | m+1=>by
  rw[<-AEj,jV hf _ [] n (La f) h0 h1 sc (by simp only[ABv];omega)];exact Wz hf h0 h1 m
structure Iso (Q R:List AC) (ψ:Int->Int) (C:Int->Prop):Prop where
 arc:∀i,C i->Am R (ψ i)=(Am Q i).map λa=>(a.1,ψ a.2)
 cl:∀i,C i->∀a∈Am Q i,C a.2
 inj:∀i j,C i->C j->ψ i=ψ j->i=j
theorem Uu {Q R:List AC} {ψ:Int->Int} {C:Int->Prop} (h:Iso Q R ψ C):∀(k:Nat) (t:List Int) (i:Int),(∀x∈t,C x)->C i->Dy R k (t.map ψ) (ψ i)=(Dy Q k t i).map ψ/\∀x∈Dy Q k t i,C x
 | 0,t,i,c,hi=>⟨rfl,c⟩
 | k+1,t,i,c,hi=>by
  have key:∀(l:List (Int×Int)) (t:List Int),(∀a∈l,C a.2)->(∀x∈t,C x) ->
    (l.map λa=>(a.1,ψ a.2)).foldl (BF R k) (t.map ψ)=(l.foldl (BF Q k) t).map ψ/\∀x∈l.foldl (BF Q k) t,C x:=by
   intro l;induction l with
   | nil=>intro t _ c;exact⟨rfl,c⟩
   | cons a l o =>
    intro t f c;have ha:=f a sc;have hs:BF R k (t.map ψ) (a.1,ψ a.2)=(BF Q k t a).map ψ/\∀x∈BF Q k t a,C x:=by
     unfold BF;by_cases g:a.2∈t
     .grind
     have n:¬ψ a.2∈t.map ψ:=by
      intro hh;obtain⟨x,d,e⟩:=IN.1 hh;exact g (h.inj x a.2 (c x d) ha e▸d)
     rw[As g];simp only[As n];exact Uu h k t a.2 c ha
    rw[gO,ON,ON,hs.1];exact o _ (λb m=>f b (by simp[m])) hs.2
  rw[Cu,Cu];have e:t.map ψ++[ψ i]=(t++[i]).map ψ:=by simp
  have j:(R.getD (ψ i).toNat (0,[])).2=(Am Q i).map λa=>(a.1,ψ a.2):=h.arc i hi;rw[j,e];refine key _ _ (h.cl i hi) λx d=>?_;grind
theorem A2P {o:List Int} {ψ:Int->Int} {x:Int} (h:∀y∈o,ψ y=ψ x->y=x):EP (o.map ψ) (ψ x)=EP o x:=by
 have hi:(o.map ψ).idxOf (ψ x)=o.idxOf x:=by
  induction o with
  | nil=>rfl
  | cons y o b =>
   rw[gO,List.idxOf_cons,List.idxOf_cons];have a:=h y sc;by_cases e:y=x
   .subst e;simp
   grind
 grind [EP]
theorem X7 {Q R:List AC} {ψ:Int->Int} {C:Int->Prop} (h:Iso Q R ψ C) (g:Ae Q) (f:C 0) (h0:ψ 0=0) (p:0<Q.length) (q:Q.length<=R.length)
  (j:∀i,C i->(R.getD (ψ i).toNat (0,[])).1=(Q.getD i.toNat (0,[])).1):AO R 0=AO Q 0:=by
 have c:Dy R R.length [] 0=(Dy Q Q.length [] 0).map ψ/\∀x∈Dy Q Q.length [] 0,C x:=by
  have h1:=Uu h R.length [] 0 (λx k=>by cases k) f;rw[h0]at h1;have m:=Wz g (n:=0) O1 O1 (R.length-Q.length)
  simp_all
 unfold AO;rw[c.1];generalize Dy Q Q.length [] 0=o at *;rw[AC0];refine iF λi hi=>?_;have b:=c.2 i hi;show Ho R (o.map ψ) (ψ i)=Ho Q o i;unfold Ho;have d:(R.getD (ψ i).toNat (0,[])).2=(Am Q i).map λa=>(a.1,ψ a.2):=h.arc i b;rw[j i b,d,AC0];refine AC4 _ (iF λa ha=>?_);show (a.1,EP (o.map ψ) (ψ a.2))=(a.1,EP o a.2);rw[A2P λy l e=>h.inj y a.2 (c.2 y l) (h.cl i b a ha) e]
theorem Iy {o:List Int} (hn:o.Nodup) {i:Nat} (hi:i<o.length):EP o (o.getD i 0)=(i:Int):=by grind [EP]
theorem Ey {o:List Int} {x:Int} (h:x∈o):0<=EP o x/\EP o x<(o.length:Int)/\o.getD (EP o x).toNat 0=x:=by
 unfold EP;rw[At h];have a:=List.idxOf_lt_length_of_mem h
 simp_all
theorem A2Q (hs:Wf f) (n:Int):(Am f n).Pairwise (λa b=>a.1<b.1):=(jN _).1 (oZ hs n).1
structure UK (h:AE) (a b:List AC) (m:Int->Int):Prop where
 zero:m 0=0
 rng:∀i,0<=i->i<(a.length:Int)->0<=m i/\m i<(b.length:Int)
 ty:∀i,0<=i->i<(a.length:Int)->Af h (a.getD i.toNat (0,[])).1 (b.getD (m i).toNat (0,[])).1=true
 arc:∀i,0<=i->i<(a.length:Int)->∀x∈Am a i,BS (Am b (m i)) x.1=m x.2
theorem NJ (h:l.Pairwise (λa b=>a.1<b.1)) {a:Int×Int} (ha:a∈l):BS l a.1=a.2:=by
 induction l with
 | nil=>cases ha
 | cons b l d =>
  obtain⟨h1,c⟩:=AB3.1 h;simp only[BS];rcases By.1 ha with rfl|ha
  .rw[At rfl]
  grind
theorem jW {e:Int} (h:0<=BS l e):∃a∈l,a.1=e/\a.2=BS l e:=by
 induction l with
 | nil=>simp only[BS]at h;omega
 | cons b l c =>
  simp only[BS]at h ⊢;split
  .grind
  grind
theorem A9p (hs:Wf f) {a:Int×Int} (ha:a∈Am f n):BS (Am f n) a.1=a.2:=NJ (A2Q hs n) ha
def RO (f:List AC):Prop:=∀i:Int,0<i->i<(f.length:Int)->∃j,0<=j/\j<i/\∃x∈Am f j,x.2=i
theorem A6H {M:List Int} {v:Int} (hk:k<M.length):(M.set k v).getD j 0=if k=j then v else M.getD j 0:=by grind
theorem W2 {f:List AC} (hf:Ae f):∀(k:Nat) (t:List Int) (n:Int),ML f t->0<=n->n<f.length->n∉t ->
  ∀q,t.length<q->q<(Dy f k t n).length->∃j,j<q/\∃a∈Am f ((Dy f k t n).getD j 0),a.2=(Dy f k t n).getD q 0
 | 0,t,n,h,h0,h1,x,q,A,d=>by simp only[Dy]at d;omega
 | k+1,t,n,h,h0,h1,x,q,A,d=>by
  have key:∀(l:List (Int×Int)) (u:List Int),(∀a∈l,a∈Am f n)->ML f u->t++[n] <+: u ->
    (∀q,t.length<q->q<u.length->∃j,j<q/\∃a∈Am f (u.getD j 0),a.2=u.getD q 0) ->
    ∀q,t.length<q->q<(l.foldl (BF f k) u).length->∃j,j<q/\∃a∈Am f ((l.foldl (BF f k) u).getD j 0),a.2=(l.foldl (BF f k) u).getD q 0:=by
   intro l;induction l with
   | nil=>intro u _ _ _ hu q o c;exact hu q o c
   | cons a l H =>
    intro u y hu s E;have ha:=y a sc;have g:=CS hf ha;rw[ON];by_cases p:a.2∈u
    .grind [BF]
    have hs:BF f k u a=Dy f k u a.2:=by unfold BF;rw[As p]
    rw[hs];obtain⟨C,w⟩:=Gu hf k u a.2 hu g.1 g.2 p;have r:∀j,j<u.length->(Dy f k u a.2).getD j 0=u.getD j 0:=λj D=>by
     obtain⟨v,m⟩:=w;rw[<-m];simp only[AS];rw[AAr D]
    have G:u.getD t.length 0=n:=by
     obtain⟨v,m⟩:=s;rw[<-m];simp[AS]
    have B:t.length<u.length:=by
     have:=s.length_le;simp at this;omega
    refine H (Dy f k u a.2) (λb i=>y b (by simp[i])) C (s.trans w) (λq o c=>?_);by_cases z:q<u.length
    .obtain⟨j,I,b,i,e⟩:=E q o z;refine⟨j,I,b,?_,?_⟩
     .rw[r j O1];exact i
     rw[r q z];exact e
    by_cases d:q=u.length
    .subst d;refine⟨t.length,B,a,?_,?_⟩
     .rw[r _ B,G];exact ha
     cases k with
     | zero=>simp only[Dy]at c;omega
     | succ k =>
      have F:u++[a.2] <+: Dy f (k+1) u a.2:=by
       rw[Cu];exact(Ir (Gu hf k) _ _ (λb i=>CS hf i) (hu.snoc g.1 g.2 p)).2
      obtain⟨v,m⟩:=F;rw[<-m];simp[AS]
    exact W2 hf k u a.2 hu g.1 g.2 p q O1 c
  rw[Cu]at d ⊢;exact key _ (t++[n]) (λa ha=>ha) (h.snoc h0 h1 x) (AD4 _) (λq o c=>by simp only[IF,oR]at c;omega) q A d
theorem pG (x:List Int):M9 x x=true:=by grind [M9,H8,Ti]
theorem Sh (h:AE) (t:Int):Af h t t=true:=pG _
abbrev RF (p:List Int) (n:Int):Int:=p.getD n.toNat 0
structure Fo (p:List Int) (rk:Int->Nat):Prop where
 rng:∀n,0<=n->n<(p.length:Int)->0<=RF p n/\RF p n<(p.length:Int)
 dec:∀n,0<=n->n<(p.length:Int)->RF p n≠n->rk (RF p n)<rk n
inductive Rt (p:List Int):Int->Int->Prop
 | base {n:Int} (h:RF p n=n):Rt p n n
 | step {n r:Int} (h:RF p n≠n) (h2:Rt p (RF p n) r):Rt p n r
theorem Rt.det {r s:Int} (h:Rt p n r) (g:Rt p n s):r=s:=by
 induction h with
 | base h =>
  cases g with
  | base g=>rfl
  | step g _=>exact absurd h g
 | step h _ b =>
  cases g with
  | base g=>exact absurd g h
  | step _ a=>exact b a
theorem Rt.root {r:Int} (h:Rt p n r):RF p r=r:=by
 induction h with
 | base h=>exact h
 | step _ _ a=>exact a
theorem Fo.ex {b:Int->Nat} (h:Fo p b):∀(k:Nat) (n:Int),b n<=k->0<=n->n<(p.length:Int)->∃r,Rt p n r/\0<=r/\r<(p.length:Int)
 | 0,n,hk,h0,h1=>by
  by_cases e:RF p n=n
  .exact⟨n,.base e,h0,h1⟩
  have:=h.dec n h0 h1 e;omega
 | k+1,n,hk,h0,h1=>by
  by_cases e:RF p n=n
  .exact⟨n,.base e,h0,h1⟩
  have g:=h.dec n h0 h1 e;have a:=h.rng n h0 h1;obtain⟨r,c,d,f⟩:=h.ex k (RF p n) O1 a.1 a.2;exact⟨r,.step e c,d,f⟩
theorem Fo.root (h:Fo p a) (h0:0<=n) (h1:n<(p.length:Int)):∃r,Rt p n r/\0<=r/\r<(p.length:Int):=h.ex (a n) n (Of _) h0 h1
theorem H0 {v:Int} (h0:0<=n) (h1:n<(p.length:Int)) (x:Int) (a:0<=x):RF (p.set n.toNat v) x=if x=n then v else RF p x:=by
 unfold RF;rw[A6H O1];by_cases e:x=n
 .subst e;rw[At rfl,At rfl]
 rw[As O1,As e]
def Si (p q:List Int):Prop:=p.length=q.length/\∀x r,0<=x->x<(p.length:Int)->(Rt p x r↔Rt q x r)
theorem Si.refl (p:List Int):Si p p:=⟨rfl,λ_ _ _ _=>Iff.rfl⟩
theorem Si.trans {s:List Int} (h:Si p q) (g:Si q s):Si p s :=
 ⟨h.1.trans g.1,λx r a b=>(h.2 x r a b).trans (g.2 x r a (by rw[<-h.1];exact b))⟩
def Ts (b n:Nat):List Int:=(List.range n).map λi=>((b+i:Nat):Int)
def EE (b:Nat) (l:List (Int×Int)):List (Int×Int):=l.map λa=>(a.1,a.2+(b:Int))
theorem zJ (b n:Nat):(Ts b n).length=n:=by simp[Ts]
def Ez:List (Int×Int)->List (Int×Int)->List (Int×Int)×List (Int×Int)
 | [],y=>(y,[])
 | a :: x,[]=>(a :: x,[])
 | a :: x,b :: y =>
  if a.1<b.1 then (a :: (Ez x (b :: y)).1,(Ez x (b :: y)).2)
  else if b.1<a.1 then (b :: (Ez (a :: x) y).1,(Ez (a :: x) y).2)
  else (a :: (Ez x y).1,(a.2,b.2) :: (Ez x y).2)
termination_by x y=>x.length+y.length
theorem Pj (hk:Gt h) {a c:Int} (d:0<=a) (e:a<(h.1.length:Int)) (f:0<=b) (b1:b<(h.1.length:Int)) (c0:0<=c) (c1:c<(h.1.length:Int)) (h1:Af h a b=true) (g:Af h b c=true):Af h a c=true :=
 (B9 hk d e c0 c1).2 λi hi=>(B9 hk d e f b1).1 h1 i ((B9 hk f b1 c0 c1).1 g i hi)
theorem RG:∀ {x y:List (Int×Int)} {a:Int×Int},a∈x->a∈(Ez x y).1
 | [],_,_,h=>by cases h
 | b :: x,[],a,h=>by simpa[Ez] using h
 | b :: x,c :: y,a,h=>by
  rw[Ez];split
  .rcases By.1 h with rfl|h
   .simp
   exact GO _ (RG h)
  split
  .exact GO _ (RG h)
  rcases By.1 h with rfl|h
  .simp
  exact GO _ (RG h)
termination_by x y=>x.length+y.length
theorem N6:∀ {x y:List (Int×Int)} {a:Int×Int},a∈y->a∈(Ez x y).1\/∃t,(a.1,t)∈(Ez x y).1/\(t,a.2)∈(Ez x y).2
 | [],y,a,h=>by
  left;simpa[Ez] using h
 | b :: x,[],a,h=>by cases h
 | b :: x,c :: y,a,h=>by
  rw[Ez];split
  .rcases N6 (x:=x) h with g|⟨t,d,e⟩
   .exact .inl (GO _ g)
   exact .inr ⟨t,GO _ d,e⟩
  split
  .rcases By.1 h with rfl|h
   .left;simp
   rcases N6 (x:=b :: x) h with g|⟨t,d,e⟩
   .exact .inl (GO _ g)
   exact .inr ⟨t,GO _ d,e⟩
  rcases By.1 h with rfl|h
  .right;exact⟨b.2,by rw[show a.1=b.1 by omega];simp,sc⟩
  rcases N6 (x:=x) h with g|⟨t,d,e⟩
  .exact .inl (GO _ g)
  exact .inr ⟨t,GO _ d,GO _ e⟩
termination_by x y=>x.length+y.length
theorem Jh:∀ {x y:List (Int×Int)} {a:Int×Int},a∈(Ez x y).1->a∈x\/a∈y
 | [],y,a,h=>by
  right;simpa[Ez] using h
 | b :: x,[],a,h=>by
  left;simpa[Ez] using h
 | b :: x,c :: y,a,h=>by
  rw[Ez]at h;split at h
  .rcases By.1 h with rfl|h
   .left;simp
   rcases Jh h with g|g
   .exact .inl (GO _ g)
   exact .inr g
  split at h
  .rcases By.1 h with rfl|h
   .right;simp
   rcases Jh h with g|g
   .exact .inl g
   exact .inr (GO _ g)
  rcases By.1 h with rfl|h
  .left;simp
  rcases Jh h with g|g
  .exact .inl (GO _ g)
  exact .inr (GO _ g)
termination_by x y=>x.length+y.length
theorem RH:∀ {x y:List (Int×Int)} {q:Int×Int},q∈(Ez x y).2->∃e,(e,q.1)∈x/\(e,q.2)∈y
 | [],y,q,h=>by simp[Ez]at h
 | b :: x,[],q,h=>by simp[Ez]at h
 | b :: x,c :: y,q,h=>by
  rw[Ez]at h;split at h
  .obtain⟨e,h1,a⟩:=RH h;exact⟨e,GO _ h1,a⟩
  split at h
  .obtain⟨e,h1,a⟩:=RH h;exact⟨e,h1,GO _ a⟩
  rcases By.1 h with rfl|h
  .exact⟨b.1,sc,by rw[show b.1=c.1 by omega];simp⟩
  obtain⟨e,h1,a⟩:=RH h;exact⟨e,GO _ h1,GO _ a⟩
termination_by x y=>x.length+y.length
theorem Uv:∀ {x y:List (Int×Int)},(Ez x y).2.length<=x.length
 | [],y=>by simp[Ez]
 | b :: x,[]=>by simp[Ez]
 | b :: x,c :: y=>by
  rw[Ez];split
  .have:=Uv (x:=x) (y:=c :: y);simp only[If];omega
  split
  .exact Uv (x:=b :: x) (y:=y)
  have:=Uv (x:=x) (y:=y);simp only[If];omega
termination_by x y=>x.length+y.length
abbrev Xj (l:List (Int×Int)):Prop:=l.Pairwise (λa b=>a.1<b.1)
theorem Uw:∀ {x y:List (Int×Int)},Xj x->Xj y->Xj (Ez x y).1
 | [],y,_,h=>by simpa[Ez] using h
 | b :: x,[],h,_=>by simpa[Ez] using h
 | b :: x,c :: y,i,j=>by
  have d:=AB3.1 i;have e:=AB3.1 j;rw[Ez];split
  .rename_i f;refine AB3.2 ⟨λa ha=>?_,Uw d.2 j⟩;rcases Jh ha with g|g
   .exact d.1 a g
   rcases By.1 g with rfl|g
   .exact f
   have:=e.1 a g;omega
  split
  .rename_i f;refine AB3.2 ⟨λa ha=>?_,Uw i e.2⟩;rcases Jh ha with g|g
   .rcases By.1 g with rfl|g
    .exact f
    have:=d.1 a g;omega
   exact e.1 a g
  refine AB3.2 ⟨λa ha=>?_,Uw d.2 e.2⟩;rcases Jh ha with g|g
  .exact d.1 a g
  have:=e.1 a g;omega
termination_by x y=>x.length+y.length
theorem A6I {q:Int->Nat} (m:Fo p q) {a:Int} (j:0<=a) (c:0<=b) (b1:b<(p.length:Int)) (ha:RF p a=a) (k:RF p b=b) (f:a≠b) {x r:Int} (d:0<=x) (s:x<(p.length:Int)) (h:Rt p x r):Rt (p.set b.toNat a) x (if r=b then a else r):=by
 have l:Rt (p.set b.toNat a) a a:=.base (by rw[H0 c b1 a j,As f];exact ha);induction h with
 | @base n hn =>
  split
  .rename_i e;rw[e];exact .step (by rw[H0 c b1 b c,At rfl];exact f) (by rw[H0 c b1 b c,At rfl];exact l)
  rename_i e;exact .base (by rw[H0 c b1 n d,As e];exact hn)
 | @step n r hn _ o =>
  have g:n≠b:=λe=>hn (e▸k);have i:=m.rng n d s;exact .step (by rw[H0 c b1 n d,As g];exact hn) (by rw[H0 c b1 n d,As g];exact o i.1 i.2)
theorem A6J {c:Int->Nat} (h:Fo p c) {a:Int} (i:0<=a) (j:a<(p.length:Int)) (d:0<=b) (b1:b<(p.length:Int)) (ha:RF p a=a) (m:RF p b=b) (l:a≠b):∃q,Fo (p.set b.toNat a) q:=by
 classical
 refine⟨λx=>if Rt p x b then c x+c a+1 else c x,λn n0 n1=>?_,λn n0 n1 hn=>?_⟩
 .rw[AAx]at n1 ⊢;rw[H0 d b1 n n0];split
  .exact⟨i,j⟩
  exact h.rng n n0 n1
 rw[AAx]at n1;rw[H0 d b1 n n0]at hn ⊢;by_cases e:n=b
 .subst e;rw[At rfl];have h1:¬Rt p a n:=λg=>l (g.det (.base ha)).symm;rw[As h1,At (.base m)];omega
 rw[As e]at hn ⊢;have o:=h.dec n n0 n1 hn;have f:Rt p n b↔Rt p (RF p n) b:=by
  constructor
  .intro g;cases g with
   | base g=>exact absurd g hn
   | step _ g=>exact g
  exact λg=>.step hn g
 by_cases g:Rt p n b
 .rw[At g,At (f.1 g)];omega
 rw[As g,As (λk=>g (f.2 k))];exact o
inductive EG (n:Nat) (p:List Int) (W:List (Int×Int)):Int->Int->Prop
 | cls {x y r:Int} (x0:0<=x) (x1:x<(n:Int)) (y0:0<=y) (y1:y<(n:Int)) (h:Rt p x r) (g:Rt p y r):EG n p W x y
 | wt {x y:Int} (h:(x,y)∈W):EG n p W x y
 | symm {x y:Int} (h:EG n p W x y):EG n p W y x
 | trans {x y z:Int} (h:EG n p W x y) (g:EG n p W y z):EG n p W x z
theorem EG.mono {n:Nat} {V:List (Int×Int)} (h1:∀x y r,0<=x->x<(n:Int)->0<=y->y<(n:Int)->Rt p x r->Rt p y r->EG n q V x y) (a:∀x y,(x,y)∈l->EG n q V x y) {x y:Int} (h:EG n p l x y):EG n q V x y:=by
 induction h with
 | cls e f i j h g=>exact h1 _ _ _ e f i j h g
 | wt h=>exact a _ _ h
 | symm _ b=>exact .symm b
 | trans _ _ c d=>exact .trans c d
structure zK (h:AE) (N:List AC) (P:List (Int×Int)) (X:List AC) (v:Int->Int):Prop where
 rng:∀x,0<=x->x<(N.length:Int)->0<=v x/\v x<(X.length:Int)
 ty:∀x,0<=x->x<(N.length:Int)->Af h (N.getD x.toNat (0,[])).1 (X.getD (v x).toNat (0,[])).1=true
 arc:∀x,0<=x->x<(N.length:Int)->∀a∈Am N x,BS (Am X (v x)) a.1=v a.2
 eq:∀q∈P,v q.1=v q.2
structure JX (h:AE) (X:List AC) (v:Int->Int) (n:Nat) (p ty:List Int) (ar:List (List (Int×Int))) (W:List (Int×Int)):Prop where
 cls:∀x r,0<=x->x<(n:Int)->Rt p x r->v x=v r
 wt:∀w∈W,v w.1=v w.2
 ty:∀r,0<=r->r<(n:Int)->RF p r=r->Af h (ty.getD r.toNat 0) (X.getD (v r).toNat (0,[])).1=true
 arc:∀r,0<=r->r<(n:Int)->RF p r=r->∀a∈ar.getD r.toNat [],BS (Am X (v r)) a.1=v a.2
def Lb (N:List AC):List Int:=N.flatMap λx=>x.2.map (·.1)
structure JI (h:AE) (N:List AC) (P:List (Int×Int)) (p ty:List Int) (ar:List (List (Int×Int))) (W:List (Int×Int)):Prop where
 nty:Dq h N
 fo:∃rk,Fo p rk
 lp:p.length=N.length
 lt:ty.length=N.length
 la:ar.length=N.length
 wr:∀w∈W,(0<=w.1/\w.1<(N.length:Int))/\(0<=w.2/\w.2<(N.length:Int))
 tyr:∀x,0<=x->x<(N.length:Int)->0<=ty.getD x.toNat 0/\ty.getD x.toNat 0<(h.1.length:Int)
 arr:∀k,∀a∈ar.getD k [],(0<=a.2/\a.2<(N.length:Int))/\a.1∈Lb N
 srt:∀k,Xj (ar.getD k [])
 sp:∀q∈P,EG N.length p W q.1 q.2
 st:∀x r,0<=x->x<(N.length:Int)->Rt p x r->Af h (N.getD x.toNat (0,[])).1 (ty.getD r.toNat 0)=true
 sa:∀x r,0<=x->x<(N.length:Int)->Rt p x r->∀a∈Am N x,∃t,(a.1,t)∈ar.getD r.toNat []/\EG N.length p W a.2 t
 co:∀X v,Dq h X->zK h N P X v->JX h X v N.length p ty ar W
theorem Iz {b:Int->Nat} (a:Fo p b) {x r:Int} (d:0<=x) (e:x<(p.length:Int)) (h:Rt p x r):0<=r/\r<(p.length:Int):=by
 obtain⟨s,hs,c,s1⟩:=a.root d e;rw[h.det hs];exact⟨c,s1⟩
section
variable {h:AE} {N:List AC} {P:List (Int×Int)} {p ty:List Int} {ar:List (List (Int×Int))} {W:List (Int×Int)} {s t a b:Int}
theorem A6K (n:JI h N P p ty ar (W++[(s,t)])) (hs:Rt p s a) (u:Rt p t a):JI h N P p ty ar W:=by
 obtain⟨nty,fo,lp,lt,la,wr,tyr,arr,srt,sp,st,sa,co⟩:=n;have b:=wr (s,t) sc;have l:∀ {x y},EG N.length p (W++[(s,t)]) x y->EG N.length p W x y:=λ{x y} g=>g.mono (λx y r d f A B h1 k=>.cls d f A B h1 k) (λx y c=>by
  rcases IS.1 c with c|c
  .exact .wt c
  have e:(x,y)=(s,t):=by simpa using c
  cases e;exact .cls b.1.1 b.1.2 b.2.1 b.2.2 hs u)
 refine⟨nty,fo,lp,lt,la,λw b=>wr w (AAh _ b),tyr,arr,srt,λq o=>l (sp q o),st,λx r d f C a ha=>?_,λX v m z=>?_⟩
 .grind
 obtain⟨c1,c2,i,j⟩:=co X v m z;exact⟨c1,λw b=>c2 w (AAh _ b),i,j⟩
theorem uL (hk:Gt h) (c:JI h N P p ty ar (W++[(s,t)])) (hs:Rt p s a) (g:Rt p t b) {X:List AC} {v:Int->Int} (o:Dq h X) (q:zK h N P X v) :
  v a=v b/\(C4 h (ty.getD a.toNat 0) (ty.getD b.toNat 0)).2=true/\Af h (C4 h (ty.getD a.toNat 0) (ty.getD b.toNat 0)).1 (X.getD (v a).toNat (0,[])).1=true:=by
 obtain⟨D,fo⟩:=c.fo;obtain⟨⟨i,s1⟩,j,l⟩:=c.wr (s,t) sc;simp only at i s1 j l;have d:=Iz fo i (by rw[c.lp];exact s1) hs;have f:=Iz fo j (by rw[c.lp];exact l) g;rw[c.lp]at d f;obtain⟨c1,c2,m,B⟩:=c.co X v o q;have u:=c1 s a i s1 hs;have w:=c1 t b j l g;have x:v s=v t:=c2 (s,t) sc;have e:v a=v b:=by rw[<-u,<-w,x]
 have y:=m a d.1 d.2 hs.root;have n:=m b f.1 f.2 g.root;rw[<-e]at n;have C:=q.rng a d.1 d.2;have r:=o _ (AG X (0,[]) (k:=(v a).toNat) O1);have ta:=c.tyr a d.1 d.2;have tb:=c.tyr b f.1 f.2;obtain⟨z,A⟩:=(NA hk ta.1 ta.2 tb.1 tb.2).2 _ r.1 r.2 y n;exact⟨e,z,A⟩
theorem ZM {α:Type} {l:List α} {d v:α} {a r:Int} (b:0<=a) (c:a<(l.length:Int)) (e:0<=r):(l.set a.toNat v).getD r.toNat d=if r=a then v else l.getD r.toNat d:=by grind
theorem A2R (hk:Gt h) (ae:JI h N P p ty ar (W++[(s,t)])) (hs:Rt p s a) (L:Rt p t b) (Y:a≠b) (al:(C4 h (ty.getD a.toNat 0) (ty.getD b.toNat 0)).2=true) :
  JI h N P (p.set b.toNat a) (ty.set a.toNat (C4 h (ty.getD a.toNat 0) (ty.getD b.toNat 0)).1) (ar.set a.toNat (Ez (ar.getD a.toNat []) (ar.getD b.toNat [])).1) (W++(Ez (ar.getD a.toNat []) (ar.getD b.toNat [])).2):=by
 have am:=λX v J M=>uL (X:=X) (v:=v) hk ae hs L J M;obtain⟨nty,⟨bb,fo⟩,lp,lt,la,wr,tyr,arr,srt,sp,st,sa,co⟩:=ae;obtain⟨⟨Q,s1⟩,R,S⟩:=wr (s,t) sc;simp only at Q s1 R S;have n:=Iz fo Q (by rw[lp];exact s1) hs;have A:=Iz fo R (by rw[lp];exact S) L;have ha:=hs.root;have Z:=L.root;have F:=λ{x r:Int} (c:0<=x) (i:x<(N.length:Int)) (O:Rt p x r)=>A6I fo n.1 A.1 A.2 ha Z Y c (by rw[lp];exact i) O;have aa:∀ {x r:Int},0<=x->x<(N.length:Int)->Rt (p.set b.toNat a) x r->∃j,Rt p x j/\r=if j=b then a else j:=λ{x r} c i O=>by
  obtain⟨j,h1,-,-⟩:=fo.root c (by rw[lp];exact i);exact⟨j,h1,O.det (F c i h1)⟩
 have ta:=tyr a n.1 (by rw[<-lp];exact n.2);have tb:=tyr b A.1 (by rw[<-lp];exact A.2);obtain⟨ax,ay,az,ba⟩:=(NA hk ta.1 ta.2 tb.1 tb.2).1 al;generalize aq:(C4 h (ty.getD a.toNat 0) (ty.getD b.toNat 0)).1=m at *;generalize ag:ar.getD a.toNat []=xs at *;generalize ah:ar.getD b.toNat []=ys at *;have ao:EG N.length (p.set b.toNat a) (W++(Ez xs ys).2) s t:=by
  have h1:=F Q s1 hs;have I:=F R S L;rw[As Y]at h1;rw[At rfl]at I;exact .cls Q s1 R S h1 I
 have E:∀ {x y},EG N.length p (W++[(s,t)]) x y->EG N.length (p.set b.toNat a) (W++(Ez xs ys).2) x y:=λ{x y} g=>g.mono (λx y r c i aj ak h1 I=>.cls c i aj ak (F c i h1) (F aj ak I)) (λx y G=>by
  rcases IS.1 G with G|G
  .exact .wt (AAh _ G)
  have e:(x,y)=(s,t):=by simpa using G
  cases e;exact ao)
 have av:=λ{r:Int} (D:0<=r)=>ZM (l:=ty) (d:=0) (v:=m) n.1 (by rw[lt,<-lp];exact n.2) D;have K:=λ{r:Int} (D:0<=r)=>ZM (l:=ar) (d:=[]) (v:=(Ez xs ys).1) n.1 (by rw[la,<-lp];exact n.2) D;refine⟨nty,A6J fo n.1 n.2 A.1 A.2 ha Z Y,by rw[AAx];exact lp,by rw[AAx];exact lt,by rw[AAx];exact la,λw o=>?_,λx c i=>?_,λk y C=>?_,λk=>?_,λq an=>E (sp q an),λx r c i z=>?_,λx r c i z y C=>?_,λX v J M=>?_⟩
 .rcases IS.1 o with o|o
  .exact wr w (AAh _ o)
  grind [RH]
 .grind
 .have h1:=K (r:=(k:Int)) O1;rw[S8]at h1;rw[h1]at C;split at C
  .grind [Jh]
  exact arr _ _ C
 .have h1:=K (r:=(k:Int)) O1;rw[S8]at h1;rw[h1];split
  .grind [Uw]
  exact srt k
 .obtain⟨j,h1,rfl⟩:=aa c i z;have O:=nty _ (AG N (0,[]) (k:=x.toNat) O1);have af:=Iz fo c (by rw[lp];exact i) h1;by_cases e:j=b
  .grind [Pj]
  grind [Pj]
 .obtain⟨j,h1,rfl⟩:=aa c i z;have af:=Iz fo c (by rw[lp];exact i) h1;obtain⟨u,H,T⟩:=sa x j c i h1 y C;by_cases e:j=b
  .rw[At e,K n.1,At rfl];rw[e,ah]at H;rcases N6 (x:=xs) H with g|⟨w,U,V⟩
   .exact⟨u,g,E T⟩
   exact⟨w,U,.trans (E T) (.symm (.wt (ACi _ V)))⟩
  rw[As e,K af.1];split
  .rename_i B;rw[B,ag]at H;exact⟨u,RG H,E T⟩
  exact⟨u,H,E T⟩
 obtain⟨c1,c2,ap,ab⟩:=co X v J M;obtain⟨e,-,aw⟩:=am X v J M;have au:∀r,0<=r->r<(N.length:Int)->RF (p.set b.toNat a) r=r->r≠b/\RF p r=r:=λr D ai z=>by grind [H0]
 refine⟨λx r c i z=>?_,λw o=>?_,λr D ai z=>?_,λr D ai z y C=>?_⟩
 .obtain⟨j,h1,rfl⟩:=aa c i z;have:=c1 x j c i h1;split
  .rename_i B;rw[this,B,e]
  exact this
 .rcases IS.1 o with o|o
  .exact c2 w (AAh _ o)
  obtain⟨f,ad,B⟩:=RH o;rw[<-ag]at ad;rw[<-ah]at B;have U:=ab a n.1 (by rw[<-lp];exact n.2) ha _ ad;have V:=ab b A.1 (by rw[<-lp];exact A.2) Z _ B;rw[<-U,<-V,e]
 .grind
 grind [Jh]
end
theorem jX {l:List Nat} {f g:Nat->Bool} {b:Nat} (hn:l.Nodup) (c:b∈l) (h1:f b=true) (d:g b=false) (h:∀x∈l,x≠b->g x=f x):(l.filter g).length+1=(l.filter f).length:=by
 induction l with
 | nil=>cases c
 | cons x l m =>
  obtain⟨k,j⟩:=AC2.1 hn;by_cases e:x=b
  .subst e;have:l.filter g=l.filter f:=List.filter_congr λy a=>h y (by simp[a]) (λe=>k (e▸a));rw[AC7,AC7,As (by rw[d];simp),At h1,this];rfl
  have i:b∈l:=by
   rcases By.1 c with g|g
   .exact absurd g.symm e
   exact g
  have n:=m j i (λy a=>h y (by simp[a]));rw[AC7,AC7,h x sc e];split
  .simp only[If];omega
  exact n
def nR (p:List Int):Nat:=((List.range p.length).filter λk=>p.getD k 0==(k:Int)).length
theorem A6L {a:Int} (d:0<=b) (b1:b<(p.length:Int)) (c:RF p b=b) (e:a≠b):nR (p.set b.toNat a)+1=nR p:=by
 unfold nR;rw[AAx];refine jX (b:=b.toNat) List.nodup_range (AAn.2 O1) ?_ ?_ λx _ f=>?_
 .rw[AAv];unfold RF at c;omega
 .rw[X6 _ _ _ O1,ACX];omega
 rw[getD_set_ne _ _ _ O1]
theorem Sj {α:Type} [DecidableEq α]:∀ {l l':List α},l.Nodup->(∀x∈l,x∈l')->l.length<=l'.length
 | [],_,_,_=>by simp
 | x :: l,l',hn,h=>by
  obtain⟨d,c⟩:=AC2.1 hn;have a:=h x sc;have:=Sj (l:=l) (l':=l'.erase x) c (λy b=>(AEh (λe:y=x=>d (by rw[<-e];exact b))).2 (h y (by simp[b])));rw[List.length_erase_of_mem a]at this;have:=AE3 a;simp only[If];omega
theorem uM (h:Xj l) {S:List Int} (hs:∀a∈l,a.1∈S):l.length<=S.length:=by
 have hn:(l.map (·.1)).Nodup:=by
  unfold List.Nodup;rw[AC6];exact h.imp λg=>by omega
 have:=Sj hn (l':=S) (λx b=>by
  obtain⟨a,ha,rfl⟩:=IN.1 b;exact hs a ha)
 rwa [OR]at this
theorem A2S {N:List AC} {P:List (Int×Int)} {ty:List Int} {ar:List (List (Int×Int))} (t:JI h N P p ty ar []) {a:Int} (ha:0<=a/\a<(N.length:Int)) (s:0<=b/\b<(N.length:Int)):JI h N (P++[(a,b)]) p ty ar [(a,b)]:=by
 obtain⟨nty,fo,lp,lt,la,wr,tyr,arr,srt,sp,st,sa,co⟩:=t;have l:∀ {x y},EG N.length p [] x y->EG N.length p [(a,b)] x y:=λ{x y} g=>g.mono (λx y r j k C D h1 f=>.cls j k C D h1 f) (λx y A=>by cases A);refine⟨nty,fo,lp,lt,la,λw i=>?_,tyr,arr,srt,λq c=>?_,st,λx r j k z y B=>?_,λX v o d=>?_⟩
 .have e:w=(a,b):=by simpa using i
  subst e;exact⟨ha,s⟩
 .rcases IS.1 c with c|c
  .exact l (sp q c)
  have e:q=(a,b):=by simpa using c
  subst e;exact .wt sc
 .obtain⟨u,h1,f⟩:=sa x r j k z y B;exact⟨u,h1,l f⟩
 obtain⟨c1,c2,m,n⟩:=co X v o ⟨d.rng,d.ty,d.arc,λq c=>d.eq q (AAh _ c)⟩;refine⟨c1,λw i=>?_,m,n⟩;have e:w=(a,b):=by simpa using i
 subst e;exact d.eq _ sc
open Classical in
noncomputable def I7 (p:List Int) (x:Int):Int:=if h:∃r,Rt p x r then h.choose else x
theorem pH {x r:Int} (h:Rt p x r):I7 p x=r:=by
 unfold I7;rw[dif_pos ⟨r,h⟩];exact(Exists.choose_spec (p:=λr=>Rt p x r) ⟨r,h⟩).det h
theorem Sk {b:Int->Nat} (a:Fo p b) {x:Int} (c:0<=x) (d:x<(p.length:Int)):Rt p x (I7 p x):=by
 obtain⟨r,h,-,-⟩:=a.root c d;rw[pH h];exact h
noncomputable def quo (p ty:List Int) (ar:List (List (Int×Int))):List AC:=(List.range p.length).map λk=>(ty.getD k 0,(ar.getD k []).map λa=>(a.1,I7 p a.2))
theorem Ux (p ty:List Int) (ar:List (List (Int×Int))):(quo p ty ar).length=p.length:=by simp[quo]
theorem RI {ty:List Int} {ar:List (List (Int×Int))} (n0:0<=n) (n1:n<(p.length:Int)):(quo p ty ar).getD n.toNat (0,[])=(ty.getD n.toNat 0,(ar.getD n.toNat []).map λa=>(a.1,I7 p a.2)):=by
 unfold quo;rw[AS,ABL,ACC O1];rfl
theorem ZN {α β:Type} (f:α->β) {l:List α} (d:α) (e:β) {i:Nat} (h:i<l.length):(l.map f).getD i e=f (l.getD i d):=by
 simp[AS,AT h]
structure ABw (f:List AC) (r:Int) (o:List Int):Prop where
 ok:ML f o
 zero:o.getD 0 0=r/\0<o.length
 cl:∀n∈o,∀a∈Am f n,a.2∈o
theorem G8 (hf:Ae f) {r:Int} (b:0<=r) (c:r<(f.length:Int)):ABw f r (Dy f f.length [] r):=by
 have h1:=Gu hf f.length [] r (La f) b c sc;have d:=Pc hf f.length [] r (La f) b c sc sc;have e:[r] <+: Dy f f.length [] r:=by
  obtain⟨k,hk⟩:∃k,f.length=k+1:=⟨f.length-1,O1⟩;rw[hk,Cu];exact(Ir (Gu hf k) _ _ (λa ha=>CS hf ha) ((La f).snoc b c sc)).2
 refine⟨h1.1,?_,λn hn a ha=>?_⟩
 .obtain⟨t,g⟩:=e;rw[<-g];exact⟨rfl,sc⟩
 rcases d.2 n hn with h|h
 .cases h
 exact h a ha
theorem Ki {r:Int} {i:Nat} (hi:i<(Dy f f.length [] r).length):(AO f r).getD i (0,[])=Ho f (Dy f f.length [] r) ((Dy f f.length [] r).getD i 0):=by
 unfold AO;simp[AS,hi]
theorem HQ (f:List AC) (r:Int):(AO f r).length=(Dy f f.length [] r).length:=by simp[AO]
def FG (f g:List AC):List AC:=f++g.map λx=>(x.1,EE f.length x.2)
theorem IA (f g:List AC):(FG f g).length=f.length+g.length:=by simp[FG]
theorem Pk {x:Int} (a:0<=x) (b:x<(f.length:Int)):(FG f g).getD x.toNat (0,[])=f.getD x.toNat (0,[]):=by
 unfold FG;rw[AS,AS,AAr O1]
theorem NK {y:Int} (a:0<=y) (b:y<(g.length:Int)):(FG f g).getD ((f.length:Int)+y).toNat (0,[])=((g.getD y.toNat (0,[])).1,EE f.length (g.getD y.toNat (0,[])).2):=by
 unfold FG;have e:((f.length:Int)+y).toNat=f.length+y.toNat:=by omega
 rw[e,AS,AAd O1,AD2];rw[<-AS];exact ZN (λx:AC=>(x.1,EE f.length x.2)) (0,[]) (0,[]) O1
theorem uN {n:Nat} {x y:Int} (h:EG n p [] x y):I7 p x=I7 p y:=by
 induction h with
 | cls _ _ _ _ h g=>rw[pH h,pH g]
 | wt h=>cases h
 | symm _ a=>exact a.symm
 | trans _ _ b c=>exact b.trans c
noncomputable abbrev Sl (p ty:List Int) (ar:List (List (Int×Int))):List Int:=Dy (quo p ty ar) (quo p ty ar).length [] (I7 p 0)
structure A8g (h:AE) (N:List AC) (P:List (Int×Int)) (U:List AC) (v:Int->Int):Prop where
 good:Ae U
 pos:0<U.length
 str:∀x∈U,Xj x.2
 feat:∀x∈U,∀a∈x.2,a.1∈Lb N
 ty:Dq h U
 ro:RO U
 zero:v 0=0
 proj:zK h N P U v
 least:∀X w,Dq h X->zK h N P X w->w 0=0->∃m,UK h U X m
 len:U.length<=N.length
section
variable {h:AE} {N:List AC} {P:List (Int×Int)} {p ty:List Int} {ar:List (List (Int×Int))}
theorem Sm (a:JI h N P p ty ar []) (b:Ae (quo p ty ar)) (c:0<N.length):ABw (quo p ty ar) (I7 p 0) (Sl p ty ar):=by
 obtain⟨d,fo⟩:=a.fo;have lp:=a.lp;have:=Iz fo (x:=0) O1 O1 (Sk fo O1 O1);exact G8 b this.1 (by rw[Ux];exact this.2)
theorem W3 (d:JI h N P p ty ar []) (c:Ae (quo p ty ar)) (b:0<N.length):I7 p 0∈Sl p ty ar:=by
 have a:=Sm d c b;have:=AG (Sl p ty ar) 0 a.zero.2;rw[a.zero.1]at this;exact this
theorem A2T (a:JI h N P p ty ar []) {x y:Int} (b:(x,y)∈P) (c:I7 p x∈Sl p ty ar):I7 p y∈Sl p ty ar:=by
 rw[<-uN (a.sp (x,y) b)];exact c
theorem pI (b:JI h N P p ty ar []) (f:Ae (quo p ty ar)) (e:0<N.length) {x:Int} (c:0<=x) (k:x<(N.length:Int)) (j:I7 p x∈Sl p ty ar) {a:Int×Int} (ha:a∈Am N x):I7 p a.2∈Sl p ty ar:=by
 obtain⟨l,fo⟩:=b.fo;have lp:=b.lp;obtain⟨t,i,g⟩:=b.sa x _ c k (Sk fo c O1) a ha;rw[uN g];have d:=Iz fo c O1 (Sk fo c O1);refine(Sm b f e).cl _ j (a.1,I7 p t) ?_;rw[Am,RI d.1 d.2];exact IN.2 ⟨(a.1,t),i,rfl⟩
def zL (N:List AC) (k:Nat) (g:List AC):Prop:=∀i:Int,0<=i->i<(g.length:Int)->(k:Int)+i<(N.length:Int)/\N.getD ((k:Int)+i).toNat (0,[])=((g.getD i.toNat (0,[])).1,EE k (g.getD i.toNat (0,[])).2)
theorem W4 (m:JI h N P p ty ar []) (f:Ae (quo p ty ar)) (e:0<N.length) {g:List AC} (l:zL N k g) (r:RO g) (hk:I7 p (k:Int)∈Sl p ty ar):∀(n:Nat) (i:Int),i.toNat<=n->0<=i->i<(g.length:Int)->I7 p ((k:Int)+i)∈Sl p ty ar:=by
 intro n;induction n with
 | zero =>
  intro i hn o c;have:i=0:=by omega
  subst this;rw[AEz];exact hk
 | succ n q =>
  intro i hn o c;by_cases hi:i=0
  .subst hi;rw[AEz];exact hk
  obtain⟨j,d,s,a,ha,rfl⟩:=r i O1 c;have b:=l j d O1;have:=pI m f e (x:=(k:Int)+j) O1 b.1 (q j O1 d O1) (a:=(a.1,a.2+(k:Int))) (by
   rw[Am,b.2];exact IN.2 ⟨a,ha,rfl⟩)
  rw[Int.add_comm];exact this
end
theorem jY {N:List AC} {P:List (Int×Int)} {U:List AC} {v:Int->Int} (e:zK h N P U v) {g:List AC} (d:zL N k g) (hz:v (k:Int)=0):UK h g U λi=>v ((k:Int)+i):=by
 refine⟨by show v ((k:Int)+0)=0;rw[AEz];exact hz,λi b c=>?_,λi b c=>?_,λi b c a ha=>?_⟩
 .exact e.rng _ O1 (d i b c).1
 .have:=e.ty _ O1 (d i b c).1;rw[(d i b c).2]at this;exact this
 have:=e.arc _ O1 (d i b c).1 (a.1,a.2+(k:Int)) (by
  rw[Am,(d i b c).2];exact IN.2 ⟨a,ha,rfl⟩)
 rw[Int.add_comm (k:Int) a.2];exact this
theorem Uy {g X:List AC} (a:UK h g X m):zK h g [] X m:=⟨a.rng,a.ty,a.arc,λq b=>by cases b⟩
theorem jZ {X:List AC} (hf:Ae f) (m:Ae g) {v:Int->Int} (h1:zK h f [] X v) (i:zK h g [] X w):zK h (FG f g) [] X (λx=>if x<(f.length:Int) then v x else w (x-(f.length:Int))):=by
 have j:=IA f g;refine⟨λx d e=>?_,λx d e=>?_,λx d e a ha=>?_,λq n=>by cases n⟩
 .rw[j]at e;show _/\_;try simp only
  split
  .exact h1.rng x d a4
  exact i.rng _ O1 O1
 .rw[j]at e;try simp only
  by_cases c:x<(f.length:Int)
  .rw[At c,Pk d c];exact h1.ty x d c
  rw[As c];have:=NK (f:=f) (g:=g) (y:=x-(f.length:Int)) O1 O1;rw[show (f.length:Int)+(x-(f.length:Int))=x by omega]at this;rw[this];exact i.ty _ O1 O1
 rw[j]at e;try simp only
 by_cases c:x<(f.length:Int)
 .rw[At c];rw[Am,Pk d c]at ha;have l:=CS hf ha;rw[At l.2];exact h1.arc x d c a ha
 rw[As c];have:=NK (f:=f) (g:=g) (y:=x-(f.length:Int)) O1 O1;rw[show (f.length:Int)+(x-(f.length:Int))=x by omega]at this;rw[Am,this]at ha;obtain⟨b,k,rfl⟩:=IN.1 ha;have l:=CS m k;rw[As a2];try simp only
 rw[show b.2+(f.length:Int)-(f.length:Int)=b.2 by omega];exact i.arc _ O1 O1 b k
theorem A2U {N X:List AC} {P:List (Int×Int)} {v:Int->Int} (h1:zK h N [] X v) (a:∀q∈P,v q.1=v q.2):zK h N P X v:=⟨h1.rng,h1.ty,h1.arc,a⟩
theorem ZO {N f g:List AC} (h:zL f k N):zL (FG f g) k N:=by
 intro i a b;have:=h i a b;rw[IA,Pk O1 this.1];exact⟨O1,this.2⟩
theorem ZP:zL f 0 f:=by
 intro i c b;rw[show ((0:Nat):Int)+i=i by omega];refine⟨b,?_⟩;have:EE 0 (f.getD i.toNat (0,[])).2=(f.getD i.toNat (0,[])).2:=by
  unfold EE;rw[iF (g:=id) (λa _=>by show (a.1,a.2+((0:Nat):Int))=a;rw[Int.natCast_zero,AEz]),List.map_id]
 rw[this]
theorem W5:zL (FG f g) f.length g:=by
 intro i a b;rw[IA,NK a b];exact⟨O1,rfl⟩
set_option maxHeartbeats 1000000 in
theorem A9q {h:AE} {N:List AC} {P:List (Int×Int)} {p ty:List Int} {ar:List (List (Int×Int))} (K:JI h N P p ty ar []) (E:Ae (quo p ty ar)) (M:0<N.length) (G:∀x,0<=x->x<(N.length:Int)->I7 p x∈Sl p ty ar) :
  A8g h N P (AO (quo p ty ar) (I7 p 0)) (λx=>EP (Sl p ty ar) (I7 p x)):=by
 have s:=Sm K E M
 have af:=W3 K E M
 obtain⟨nty,⟨au,fo⟩,lp,lt,la,wr,tyr,arr,srt,sp,st,sa,co⟩:=K
 have aj:=Ux p ty ar
 have w:=λ{x:Int} (C:0<=x) (D:x<(N.length:Int))=>Sk fo C (by rw[lp];exact D)
 have I:=λ{x:Int} (C:0<=x) (D:x<(N.length:Int))=>Iz fo C (by rw[lp];exact D) (w C D)
 have J:=HQ (quo p ty ar) (I7 p 0)
 have aa:=λi=>Ki (f:=quo p ty ar) (r:=I7 p 0) (i:=i)
 have L:∀x:Int,0<=x->x<(N.length:Int)->Am (quo p ty ar) x=(ar.getD x.toNat []).map λa=>(a.1,I7 p a.2):=λx C D=>by
  rw[Am,RI C (by rw[lp];exact D)]
 have u:∀x∈Sl p ty ar,(0<=x/\x<(N.length:Int))/\RF p x=x:=by
  have ag:Iso (quo p ty ar) (quo p ty ar) id (λx=>(0<=x/\x<(N.length:Int))/\RF p x=x):=by
   refine⟨λi _=>by simp,λi hi a ha=>?_,λi j _ _ e=>e⟩
   rw[L i hi.1.1 hi.1.2]at ha
   obtain⟨b,m,rfl⟩:=List.mem_map.1 ha
   have c:=(arr _ b m).1
   have:=I c.1 c.2
   rw[lp]at this
   exact⟨this,(w c.1 c.2).root⟩
  have Q:=I (x:=0) O1 O1
  rw[lp]at Q
  exact(Uu ag _ [] _ (λx d=>by cases d) ⟨Q,(w (x:=0) O1 O1).root⟩).2
 have ah:=λ(q:Nat)=>W2 E (quo p ty ar).length [] (I7 p 0) (La _) (I (x:=0) O1 O1).1 (by rw[aj];exact(I (x:=0) O1 O1).2) sc q
 unfold Sl at s af G u ⊢
 generalize an:AO (quo p ty ar) (I7 p 0)=U at *
 generalize ap:Dy (quo p ty ar) (quo p ty ar).length [] (I7 p 0)=o at *
 have z:∀i:Int,0<=i->i<(o.length:Int)->o.getD i.toNat 0∈o/\EP o (o.getD i.toNat 0)=i:=λi g l=>by
  refine⟨AG o 0 O1,?_⟩
  rw[Iy s.ok.nd O1]
  omega
 have A:∀x∈o,U.getD (EP o x).toNat (0,[])=(ty.getD x.toNat 0,(ar.getD x.toNat []).map λa=>(a.1,EP o (I7 p a.2))):=λx d=>by
  have hz:=Ey d
  have c:=(u x d).1
  rw[aa _ O1,hz.2.2]
  unfold Ho
  rw[RI c.1 (by rw[lp];exact c.2),List.map_map]
  rfl
 have O:∀x∈o,∀a∈ar.getD x.toNat [],I7 p a.2∈o:=λx d a ha=>by
  have c:=(u x d).1
  exact s.cl x d (a.1,I7 p a.2) (by rw[L x c.1 c.2];exact List.mem_map.2 ⟨a,ha,rfl⟩)
 have R:∀k,Xj ((ar.getD k []).map λa=>(a.1,EP o (I7 p a.2))):=λk=>by
  unfold Xj
  rw[List.pairwise_map]
  exact srt k
 have F:∀x∈U,∃y∈o,x=(ty.getD y.toNat 0,(ar.getD y.toNat []).map λa=>(a.1,EP o (I7 p a.2))):=λx d=>by
  obtain⟨i,hi,rfl⟩:=CJ (0,[]) d
  have h1:=z (i:Int) O1 O1
  refine⟨_,h1.1,?_⟩
  rw[<-A _ h1.1,h1.2]
  rw[Int.toNat_natCast]
 have ae:EP o (I7 p 0)=0:=by
  have:=Iy s.ok.nd s.zero.2
  rw[s.zero.1]at this
  exact this
 have ao:=s.ok.len
 have am:=E.1
 refine⟨⟨O1,λx d=>?_⟩,by rw[J];exact s.zero.2,λx d=>?_,λx d a ha=>?_,λx d=>?_,λi g l=>?_,ae,⟨λi g l=>?_,λi g l=>?_,λi g l a ha=>?_,λq ai=>?_⟩,λX v ab S al=>?_,O1⟩
 .obtain⟨y,B,rfl⟩:=F x d
  have c:=(u y B).1
  refine⟨?_,λa ha=>?_⟩
  .have:=(E.2 _ (AG (quo p ty ar) (0,[]) (k:=y.toNat) O1)).1
   rw[RI c.1 (by rw[lp];exact c.2),List.length_map]at this
   simp only[List.length_map]
   exact this
  obtain⟨b,m,rfl⟩:=List.mem_map.1 ha
  have:=Ey (O y B b m)
  rw[J]
  exact⟨this.1,this.2.1⟩
 .obtain⟨y,B,rfl⟩:=F x d
  exact R _
 .obtain⟨y,B,rfl⟩:=F x d
  obtain⟨b,m,rfl⟩:=List.mem_map.1 ha
  exact(arr _ b m).2
 .obtain⟨y,B,rfl⟩:=F x d
  have c:=(u y B).1
  exact tyr y c.1 c.2
 . -- in order
  obtain⟨j,aq,a,ha,e⟩:=ah i.toNat (by simp only[List.length_nil];omega) O1
  have h1:=z (j:Int) O1 O1
  have W:=z i O1 O1
  rw[Int.toNat_natCast]at h1
  have c:=(u _ h1.1).1
  rw[L _ c.1 c.2]at ha
  obtain⟨b,m,rfl⟩:=List.mem_map.1 ha
  refine⟨(j:Int),O1,O1,(b.1,EP o (I7 p b.2)),?_,?_⟩
  .have:=A _ h1.1
   rw[h1.2]at this
   rw[Am,this]
   exact List.mem_map.2 ⟨b,m,rfl⟩
  show EP o (I7 p b.2)=i
  simp only at e
  rw[e,W.2]
 .have:=Ey (G i g l)
  rw[J]
  exact⟨this.1,this.2.1⟩
 .show Af h _ (U.getD (EP o (I7 p i)).toNat (0,[])).1=true
  rw[A _ (G i g l)]
  exact st i _ g l (w g l)
 .obtain⟨t,ak,ad⟩:=sa i _ g l (w g l) a ha
  have e:=uN ad
  show BS (Am U (EP o (I7 p i))) a.1=EP o (I7 p a.2)
  rw[e,Am,A _ (G i g l)]
  exact NJ (R _) (a:=(a.1,EP o (I7 p t))) (List.mem_map.2 ⟨(a.1,t),ak,rfl⟩)
 .show EP o (I7 p q.1)=EP o (I7 p q.2)
  rw[uN (sp q ai)]
 obtain⟨c1,c2,T,V⟩:=co X v ab S
 refine⟨λi=>v (o.getD i.toNat 0),?_,λi g l=>?_,λi g l=>?_,λi g l a ha=>?_⟩
 .show v (o.getD 0 0)=0
  rw[s.zero.1,<-c1 0 _ O1 O1 (w O1 O1)]
  exact al
 .have n:=z i g O1
  have c:=(u _ n.1).1
  exact S.rng _ c.1 c.2
 .have n:=z i g O1
  have c:=u _ n.1
  have hn:=A _ n.1
  rw[n.2]at hn
  rw[hn]
  exact T _ c.1.1 c.1.2 c.2
 have n:=z i g O1
 have c:=u _ n.1
 have hn:=A _ n.1
 rw[n.2]at hn
 rw[Am,hn]at ha
 obtain⟨b,m,rfl⟩:=List.mem_map.1 ha
 have Y:=V _ c.1.1 c.1.2 c.2 b m
 have H:=(arr _ b m).1
 have Z:=Ey (O _ n.1 b m)
 simp only
 rw[Z.2.2,<-c1 b.2 _ H.1 H.2 (w H.1 H.2)]
 exact Y
structure VF (h:AE) (f:List AC):Prop where
 good:Ae f
 pos:0<f.length
 ty:Dq h f
 str:∀x∈f,Xj x.2
 ft:∀x∈f,∀a∈x.2,0<=a.1/\a.1<(h.2.length:Int)
 can:AO f 0=f
 ro:RO f
structure HU (h:AE):Prop where
 ok:Gt h
 inj:J5 h
 ft:h.2.length<=64
def j5 (U:List AC):Prop:=(Dy U U.length [] 0).length=U.length/\∀k,(hk:k<(Dy U U.length [] 0).length)->(Dy U U.length [] 0)[k]=(k:Int)
theorem cI {Q:List AC} (h:Ae Q) {r:Int} (J:0<=r) (K:r<(Q.length:Int)):Ae (AO Q r)/\j5 (AO Q r):=by
 have c:=G8 h J K;have C:=HQ Q r;have B:=λi=>Ki (f:=Q) (r:=r) (i:=i);generalize M:AO Q r=U at *;generalize G:Dy Q Q.length [] r=o at *;have O:=c.ok.len;have L:=h.1;have d:∀i:Int,0<=i->i<(o.length:Int)->o.getD i.toNat 0∈o/\EP o (o.getD i.toNat 0)=i:=λi H I=>by
  refine⟨AG o 0 O1,?_⟩;rw[Iy c.ok.nd O1];omega
 have m:∀i:Int,0<=i->i<(o.length:Int)->Am U i=(Am Q (o.getD i.toNat 0)).map (MG o):=λi H I=>by
  rw[Am,B i.toNat O1];rfl
 have E:Iso U Q (λi=>o.getD i.toNat 0) (λi=>0<=i/\i<(o.length:Int)):=by
  refine⟨λi hi=>?_,λi hi a ha=>?_,λi j hi A e=>?_⟩
  .rw[m i hi.1 hi.2,AC0];have:∀a∈Am Q (o.getD i.toNat 0),((λa:Int×Int=>(a.1,o.getD a.2.toNat 0))∘MG o) a=a:=λa ha=>by
    show (a.1,o.getD (EP o a.2).toNat 0)=a;rw[(Ey (c.cl _ (d i hi.1 hi.2).1 a ha)).2.2]
   rw[iF this,ADU]
  .rw[m i hi.1 hi.2]at ha;obtain⟨b,p,rfl⟩:=IN.1 ha;have:=Ey (c.cl _ (d i hi.1 hi.2).1 b p);exact⟨this.1,this.2.1⟩
  have h1:=(d i hi.1 hi.2).2;have g:=(d j A.1 A.2).2;have e:o.getD i.toNat 0=o.getD j.toNat 0:=e;rw[<-h1,<-g,e]
 have h0:(0:Int)<(o.length:Int):=by have:=c.zero.2;omega
 have u:Ae U:=by
  refine⟨O1,λx t=>?_⟩;obtain⟨i,hi,rfl⟩:=CJ (0,[]) t;have h1:=m (i:Int) O1 O1;rw[Am,S8]at h1;rw[h1];have s:=d (i:Int) O1 O1;rw[S8]at s;have P:=c.ok.rng _ s.1;refine⟨?_,λa ha=>?_⟩
  .rw[OR];exact(h.2 _ (AG Q (0,[]) (k:=(o.getD i 0).toNat) O1)).1
  obtain⟨b,p,rfl⟩:=IN.1 ha;have:=Ey (c.cl _ s.1 b p);rw[C];exact⟨this.1,this.2.1⟩
 have q:=Uu E Q.length [] 0 (λx t=>by cases t) ⟨O1,h0⟩;have hz:o.getD (0:Int).toNat 0=r:=c.zero.1;rw[ACS,hz,G]at q;have y:=Wz u (n:=0) O1 O1 (Q.length-U.length);rw[show U.length+(Q.length-U.length)=Q.length by omega]at y;rw[y]at q;unfold j5;refine⟨u,?_⟩;generalize Dy U U.length [] 0=l at *;obtain⟨w,D⟩:=q;have N:l.length=o.length:=by
  have:=AC4 List.length w;rw[OR]at this;exact this.symm
 have F:∀k,(hk:k<l.length)->l[k]=(k:Int):=λk hk=>by
  have v:=D l[k] (AAt hk);have h1:=(d l[k] v.1 v.2).2;have g:=(d (k:Int) O1 O1).2;have e:o.getD k 0=o.getD (l[k]).toNat 0:=by
   exact(AC4 (λz:List Int=>z.getD k 0) w).trans (by simp[AS,hk])
  rw[S8,e]at g;rw[<-h1,g]
 exact⟨O1,F⟩
theorem W6 {U:List AC} (f:Ae U) (h:j5 U):AO U 0=U:=by
 unfold AO;obtain⟨o,b⟩:=h;generalize Dy U U.length [] 0=l at *;have hnd:l.Nodup:=by
  unfold List.Nodup;rw[oS];intro i j hi m n e;rw[b i hi,b j m]at e;omega
 have k:∀x,0<=x->x<(l.length:Int)->EP l x=x:=λx p q=>by
  have:=Iy hnd (i:=x.toNat) O1;have e:l.getD x.toNat 0=x:=by
   rw[AS,AT O1];show l[x.toNat]=x;rw[b _ O1];omega
  rw[e]at this;rw[this];omega
 apply AAy
 .rw[OR];omega
 intro i h1 c;rw[ADe,b i (by simpa using h1)];have d:U.getD (i:Int).toNat (0,[])=U[i]:=by simp[AS,c]
 unfold Ho;rw[d];have:∀a∈U[i].2,MG l a=a:=λa ha=>by
  have g:=(f.2 _ (AAt c)).2 a ha;unfold MG;rw[k a.2 g.1 O1]
 rw[iF this,ADU]
theorem j6 {Q:List AC} (a:Ae Q) {r:Int} (b:0<=r) (c:r<(Q.length:Int)):AO (AO Q r) 0=AO Q r :=
 W6 (cI a b c).1 (cI a b c).2
theorem A2V {a X:List AC} (g:RO a) {f:Int->Int} (h1:UK h a X m) (b:UK h a X f):∀(k:Nat) (i:Int),i.toNat<=k->0<=i->i<(a.length:Int)->m i=f i:=by
 intro k;induction k with
 | zero =>
  intro i hk l e;have:i=0:=by omega
  subst this;rw[h1.zero,b.zero]
 | succ k n =>
  intro i hk l e;by_cases hi:i=0
  .subst hi;rw[h1.zero,b.zero]
  obtain⟨j,c,o,x,d,rfl⟩:=g i O1 e;rw[<-h1.arc j c O1 x d,<-b.arc j c O1 x d,n j O1 c O1]
theorem W7 (hk:Gt h) {a b:List AC} (w:Ae a) (ta:Dq h a) (tb:Dq h b) (A:Dq h c) {n:Int->Int} (h1:UK h a b m) (j:UK h b c n):UK h a c λi=>n (m i):=by
 refine⟨by show n (m 0)=0;rw[h1.zero,j.zero],λi f g=>?_,λi f g=>?_,λi f g x p=>?_⟩
 .have:=h1.rng i f g;exact j.rng _ this.1 this.2
 .have d:=h1.rng i f g;have B:=j.rng _ d.1 d.2;have r:=ta _ (AG a (0,[]) (k:=i.toNat) O1);have s:=tb _ (AG b (0,[]) (k:=(m i).toNat) O1);have t:=A _ (AG c (0,[]) (k:=(n (m i)).toNat) O1);exact Pj hk r.1 r.2 s.1 s.2 t.1 t.2 (h1.ty i f g) (j.ty _ d.1 d.2)
 have d:=h1.rng i f g;have q:=CS w p;have o:=h1.arc i f g x p;obtain⟨y,z,u,v⟩:=jW (l:=Am b (m i)) (e:=x.1) (by rw[o];exact(h1.rng _ q.1 q.2).1);have:=j.arc (m i) d.1 d.2 y z;rw[u,v,o]at this;exact this
theorem cJ {a:List AC} (hs:∀x∈a,Xj x.2) (n:Int):Xj (Am a n):=by
 unfold Am;by_cases h:n.toNat<a.length
 .exact hs _ (AG a (0,[]) h)
 rw[AS,wS O1];exact .nil
theorem A2W {a:List AC} (hs:∀x∈a,Xj x.2):UK h a a id :=
 ⟨rfl,λi c d=>⟨c,d⟩,λi _ _=>Sh h _,λi _ _ x b=>NJ (cJ hs i) b⟩
structure pJ (h:AE) (a b U:List AC):Prop where
 vf:VF h U
 left:∃m,UK h a U m
 right:∃m,UK h b U m
 least:∀X,Dq h X->∀m1,UK h a X m1->∀m2,UK h b X m2->∃m,UK h U X m
 len:U.length<=a.length+b.length
open Classical in
noncomputable def Lc (h:AE) (a b:List AC):List AC×Bool:=if H:∃U,pJ h a b U then (H.choose,true) else ([],false)
theorem j7 {a b:List AC} (h1:(Lc h a b).2=true):pJ h a b (Lc h a b).1:=by
 unfold Lc at h1 ⊢;split at h1
 .rename_i H;rw[dif_pos H];exact H.choose_spec
 cases h1
theorem W8 {e:Int} (h:e∈Lb f):∃x∈f,∃a∈x.2,a.1=e:=by
 unfold Lb at h;obtain⟨x,c,b⟩:=ABQ.1 h;obtain⟨a,ha,e⟩:=IN.1 b;exact⟨x,c,a,ha,e⟩
theorem A9r {N:List AC} {P:List (Int×Int)} {ty:List Int} {ar:List (List (Int×Int))} (d:JI h N P p ty ar []) (g:Ae (quo p ty ar)) (m:0<N.length) (j:∀x∈N,∀a∈x.2,0<=a.1/\a.1<(h.2.length:Int)) {v:Int->Int} (c:A8g h N P (AO (quo p ty ar) (I7 p 0)) v):VF h (AO (quo p ty ar) (I7 p 0)):=by
 have f:0<=I7 p 0/\I7 p 0<((quo p ty ar).length:Int):=by
  obtain⟨n,fo⟩:=d.fo;have:=d.lp;have:=Iz fo (x:=0) O1 O1 (Sk fo O1 O1);rw[Ux];exact this
 refine⟨c.good,c.pos,c.ty,c.str,λx k a ha=>?_,j6 g f.1 f.2,c.ro⟩;obtain⟨y,l,b,i,e⟩:=W8 (c.feat x k a ha);rw[<-e];exact j y l b i
theorem zN (hf:VF h f) (e:VF h g):∀x∈FG f g,∀a∈x.2,0<=a.1/\a.1<(h.2.length:Int):=by
 intro x c;unfold FG at c;rcases IS.1 c with c|c
 .exact hf.ft x c
 obtain⟨y,i,rfl⟩:=IN.1 c;intro a ha;obtain⟨b,d,rfl⟩:=IN.1 ha;exact e.ft y i b d
theorem A6M (hf:VF h f) (i:VF h g) {ty:List Int} {ar:List (List (Int×Int))} (b:JI h (FG f g) [(0,(f.length:Int))] p ty ar []) (d:Ae (quo p ty ar)):pJ h f g (AO (quo p ty ar) (I7 p 0)):=by
 have v:=hf.pos;have u:=IA f g;have c:0<(FG f g).length:=by omega
 have h0:=W3 b d c;have l:=W4 b d c (ZO (g:=g) ZP) hf.ro h0;have n:=W4 b d c (W5 (f:=f)) i.ro (A2T b sc h0);have a:=A9q b d c λx t w=>by
  by_cases o:x<(f.length:Int)
  .have:=l x.toNat x (Of _) t o
   rwa [show ((0:Nat):Int)+x=x by omega]at this
  have:=n _ (x-(f.length:Int)) (Of _) O1 O1
  rwa [show (f.length:Int)+(x-(f.length:Int))=x by omega]at this
 refine⟨A9r b d c (zN hf i) a,⟨_,jY a.proj (ZO (g:=g) ZP) a.zero⟩,⟨_,jY a.proj (W5 (f:=f)) (by rw[<-a.proj.eq (0,(f.length:Int)) sc];exact a.zero)⟩,λX k r h1 s j=>?_,by have:=a.len;omega⟩;refine a.least X _ k (A2U (jZ hf.good i.good (Uy h1) (Uy j)) λq m=>?_) ?_
 .have e:q=(0,(f.length:Int)):=by simpa using m
  subst e;try simp only
  rw[At O1,As O1,Int.sub_self,h1.zero,j.zero]
 show (if (0:Int)<(f.length:Int) then r 0 else s (0-(f.length:Int)))=0;rw[At O1];exact h1.zero
theorem zO {n k:Nat} (h:k<n):(Ts 0 n).getD k 0=(k:Int):=by
 unfold Ts;rw[AS,ABL,ACC h];show ((0+k:Nat):Int)=k;rw[ACf]
theorem NL {n:Nat} {x:Int} (a:0<=x) (b:x<(n:Int)):RF (Ts 0 n) x=x:=by
 unfold RF;rw[zO O1];omega
def cK (N:List AC):List Int:=N.map (·.1)
def uO (N:List AC):List (List (Int×Int)):=N.map (·.2)
theorem Pl (N:List AC) (k:Nat):(cK N).getD k 0=(N.getD k (0,[])).1:=by
 unfold cK;rw[AS,ABL,AS];cases N[k]?<;>rfl
theorem N7 (N:List AC) (k:Nat):(uO N).getD k []=(N.getD k (0,[])).2:=by
 unfold uO;rw[AS,ABL,AS];cases N[k]?<;>rfl
theorem cL {n:Nat} {x r:Int} (a:0<=x) (b:x<(n:Int)) (h:Rt (Ts 0 n) x r):r=x:=h.det (.base (NL a b))
theorem A6N {N:List AC} (l:Ae N) (m:Dq h N) (hs:∀x∈N,Xj x.2):JI h N [] (Ts 0 N.length) (cK N) (uO N) []:=by
 have f:(Ts 0 N.length).length=N.length:=zJ 0 N.length;refine⟨m,⟨λ_=>0,λn n0 n1=>?_,λn n0 n1 hn=>?_⟩,f,by simp[cK],by simp[uO],λw g=>(by cases g),λx c d=>?_,λk a ha=>?_,λk=>?_,λq p=>(by cases p),λx r c d e=>?_,λx r c d e a ha=>?_,λX v s o=>?_⟩
 .rw[f]at n1 ⊢;rw[NL n0 n1];exact⟨n0,n1⟩
 .rw[f]at n1;exact absurd (NL n0 n1) hn
 .rw[Pl];exact m _ (AG N (0,[]) O1)
 .rw[N7]at ha;refine⟨Q9 l k a ha,?_⟩;by_cases hk:k<N.length
  .exact ABQ.2 ⟨_,AG N (0,[]) hk,IN.2 ⟨a,ha,rfl⟩⟩
  rw[AS,wS O1]at ha;cases ha
 .rw[N7];have:=cJ hs (k:Int)
  rwa [Am,S8]at this
 .rw[cL c d e,Pl];exact Sh h _
 .rw[cL c d e,N7];have b:=CS l ha;exact⟨a.2,ha,.cls b.1 b.2 b.1 b.2 (.base (NL b.1 b.2)) (.base (NL b.1 b.2))⟩
 refine⟨λx r c d e=>by rw[cL c d e],λw g=>(by cases g),λr i j _=>?_,λr i j _ a ha=>?_⟩
 .rw[Pl];exact o.ty r i j
 rw[N7]at ha;exact o.arc r i j a ha
theorem pK (hf:Ae f) (d:Ae g) (j:f.length+g.length<=100000):Ae (FG f g):=by
 have i:=IA f g;refine⟨O1,λx c=>?_⟩;unfold FG at c;rcases IS.1 c with c|c
 .refine⟨(hf.2 x c).1,λa ha=>?_⟩;have:=(hf.2 x c).2 a ha;omega
 obtain⟨y,e,rfl⟩:=IN.1 c;refine⟨by simp only[EE,OR];exact(d.2 y e).1,λa ha=>?_⟩;obtain⟨b,h,rfl⟩:=IN.1 ha;have:=(d.2 y e).2 b h;simp only;omega
theorem zP (hf:∀x∈f,Xj x.2) (b:∀x∈g,Xj x.2):∀x∈FG f g,Xj x.2:=by
 intro x a;unfold FG at a;rcases IS.1 a with a|a
 .exact hf x a
 obtain⟨y,c,rfl⟩:=IN.1 a;unfold Xj EE;rw[AC6];exact b y c
theorem A2X (hf:Dq h f) (b:Dq h g):Dq h (FG f g):=by
 intro x a;unfold FG at a;rcases IS.1 a with a|a
 .exact hf x a
 obtain⟨y,c,rfl⟩:=IN.1 a;exact b y c
def zQ (N:List AC):Prop:=∀x∈N,∀a∈x.2,0<=a.1/\a.1<64
theorem A2Y (hf:zQ f) (e:zQ g):zQ (FG f g):=by
 intro x c;unfold FG at c;rcases IS.1 c with c|c
 .exact hf x c
 obtain⟨y,h,rfl⟩:=IN.1 c;intro a ha;obtain⟨b,d,rfl⟩:=IN.1 ha;exact e y h b d
theorem A2Z (h:Xj l) (hf:∀a∈l,0<=a.1/\a.1<64):l.length<=64:=by
 have:=uM h (S:=(List.range 64).map λ(i:Nat)=>(i:Int)) (λa ha=>IN.2 ⟨a.1.toNat,AAn.2 (by have:=hf a ha;omega),by have:=hf a ha;omega⟩)
 rwa [OR,AE8]at this
theorem zR {N:List AC} (h:zQ N) {e:Int} (b:e∈Lb N):0<=e/\e<64:=by
 obtain⟨x,c,a,ha,rfl⟩:=W8 b;exact h x c a ha
theorem A30 {N:List AC} {P:List (Int×Int)} {ty:List Int} {ar:List (List (Int×Int))} (c:JI h N P p ty ar []) (k:N.length<=100000) (hf:zQ N):Ae (quo p ty ar):=by
 have g:=Ux p ty ar;obtain⟨l,fo⟩:=c.fo;have lp:=c.lp;refine⟨O1,λx j=>?_⟩;obtain⟨i,hi,rfl⟩:=CJ (0,[]) j;have e:=RI (p:=p) (ty:=ty) (ar:=ar) (n:=(i:Int)) O1 O1;rw[S8]at e;rw[e];refine⟨?_,λa ha=>?_⟩
 .simp only[OR];have:=A2Z (c.srt i) (λa ha=>zR hf (c.arr i a ha).2);omega
 obtain⟨b,f,rfl⟩:=IN.1 ha;have d:=(c.arr i b f).1;have:=Iz fo (x:=b.2) d.1 O1 (Sk fo d.1 O1);rw[g];exact this
theorem VF.ft64 (b:VF h f) (hu:HU h):zQ f:=λx c a ha=>by
 have h1:=b.ft x c a ha;have d:=hu.ft;omega
def ABx (d:List AJ) (o:List ByteArray) (i:Nat):Prop:=∀j,j<i->∀x∈d,Ac x.2.1 (o.getD j ByteArray.empty)=true->Ac o x.1=true
theorem A31 {c:ByteArray} {o:List ByteArray} {x:AJ} (h:Ac x.2.1 c=true):Ac (FU c o x) x.1=true:=by grind [FU,PK,B5]
theorem ZQ {c:ByteArray} {x:AJ} (h:Ac x.2.1 c=true):∀ {l:List AJ} {o:List ByteArray},x∈l->Ac (l.foldl (FU c) o) x.1=true
 | [],_,a=>by cases a
 | y :: l,o,a=>by
  rw[ON];rcases By.1 a with rfl|a
  .grind [H9,N1,A31]
  exact ZQ h a
theorem W9 {d:List AJ}:∀ {n i:Nat} {o:List ByteArray},bJ d o->d.length<=n+i->ABx d o i->i<=o.length->∃m,ABx d (C0 d n i o) m/\(C0 d n i o).length<=m
 | 0,i,o,ha,f,a,hi=>⟨i,a,by
  have:=ha.len;show o.length<=i;omega⟩
 | n+1,i,o,ha,f,a,hi=>by
  unfold C0;split
  .rename_i p;obtain⟨c,g⟩:=WB (o.getD i ByteArray.empty) (l:=d) (o:=o) (λ_ h=>h) ha;refine W9 c O1 (λj k x b hs=>?_) O1;rw[SL _ O1]at hs;by_cases e:j=i
   .subst e;exact ZQ hs b
   exact H9 (λz hz=>N1 hz) (a j O1 x b hs)
  exact⟨i,a,O1⟩
theorem Sn {α:Type} {p:α->Bool}:∀ {l:List α},l.countP p=1->∀x∈l,p x=true->∀y∈l,p y=true->x=y
 | [],h,x,a,_,_,_,_=>by cases a
 | z :: l,h,x,a,d,y,b,e=>by
  rw[ADq]at h;by_cases c:p z=true
  .rw[At c]at h;grind
  rw[As c]at h;have a:x∈l:=by grind
  have b:y∈l:=by grind
  exact Sn O1 x a d y b e
theorem XA (s:ByteArray):∀(l:List AJ) (k:Nat),0<=C9 s k l->∃x∈l,AK x.1 s=true
 | [],k,h=>by
  simp only[C9]at h;omega
 | y :: l,k,h=>by
  simp only[C9]at h;split at h
  .rename_i e;exact⟨y,sc,e⟩
  obtain⟨x,a,e⟩:=XA s l (k+1) h;exact⟨x,by simp[a],e⟩
theorem pL {d:List AJ} (q:BH d=0):∃r∈d,∀x∈d,Ac (C1 d r.1) x.1=true:=by
 obtain⟨hs,H,h1,hn,h⟩:=A2 q;have B:0<d.countP λx=>x.2.1.length==0:=by grind [Ic]
 obtain⟨r,c,p⟩:=List.countP_pos_iff.1 B;refine⟨r,c,?_⟩;have C:=Dk c;have t:bJ d [r.1]:=⟨λs hs=>by
  have:s=r.1:=by simpa using hs
  rw[this];exact C,sc⟩
 obtain⟨m,A,I⟩:=W9 (d:=d) (n:=d.length) (i:=0) t O1 (λj v=>by omega) O1;have l:r.1∈C0 d d.length 0 [r.1]:=LP sc;have u:C1 d r.1=KX (C0 d d.length 0 [r.1]):=by unfold C1;rw[As O1]
 rw[u];generalize C0 d d.length 0 [r.1]=o at *;have key:∀(k:Nat) (x:AJ),x∈d->Gb d x.1<=k->Ac o x.1=true:=by
  intro k;induction k with
  | zero =>
   intro x a hk;by_cases g:x.2.1.length=0
   .have e:=Sn h1 x a (by simpa using g) r c p;rw[e];exact Fz l
   obtain⟨s,b⟩:∃s,s∈x.2.1:=AEg O1;have:=LO hn h a (Fz b);omega
  | succ k G =>
   intro x a hk;by_cases g:x.2.1.length=0
   .have e:=Sn h1 x a (by simpa using g) r c p;rw[e];exact Fz l
   obtain⟨s,b⟩:∃s,s∈x.2.1:=AEg O1;have D:=LO hn h a (Fz b);obtain⟨y,F,e⟩:=XA s d 0 (hs x a s b);rw[<-Ik d e]at D;obtain⟨z,hz,f⟩:=aS.1 (G y F O1);obtain⟨j,v,rfl⟩:=CJ ByteArray.empty hz;refine A j O1 x a ?_;exact aS.2 ⟨s,b,Bt (BQ f e)⟩
 intro x a;obtain⟨z,hz,e⟩:=aS.1 (key _ x a (Of _));obtain⟨w,E,f⟩:=aS.1 (Qq (o:=[]) hz);exact aS.2 ⟨w,E,BQ f e⟩
abbrev cnt (c:List Int):Nat:=(IZ c).length
theorem A32 {w:Int} (a:U64 w) {r:Nat} (d:r<64):A1F w (r:Int)=w.toNat.testBit r:=by
 have h0:=a.1;have h1:=a.2;have b:w.toNat / 2 ^ r<=w.toNat:=Nat.div_le_self _ _;have e:eG .u64 w (r:Int)=((w.toNat / 2 ^ r:Nat):Int):=by
  unfold eG;have c:min ((r:Int)).toNat IntKind.u64.bits=r:=by
   show min ((r:Int)).toNat 64=r;omega
  grind
 unfold A1F;rw[Nat.testBit_eq_decide_div_mod_eq,e];generalize w.toNat / 2 ^ r=z at *;rw[Ii ⟨O1,O1⟩ ⟨dg,dg⟩,S8,show (1:Int).toNat=1 from rfl,Nat.and_one_is_mod,ADn,AAv,Is];omega
theorem Uz {b:List Int} (d:Ij b) (i:Nat):UH b (i:Int)=BO b i:=by
 have a:Int.tdiv (i:Int) 64=((i / 64:Nat):Int):=by rw[AD7 O1];omega
 have c:Int.tmod (i:Int) 64=((i % 64:Nat):Int):=by rw[ADp O1];omega
 unfold UH BO;rw[a,c,S8];by_cases hk:i / 64<b.length
 .rw[As (by rw[AAo,Is,Is];omega),A32 (BV d _) O1]
 rw[At (by rw[AAo,Is,Is];omega),HL hk];simp
theorem j8 (c:List Int):(IZ c).Nodup:=by
 unfold IZ OX List.Nodup;rw[AC6];refine List.Pairwise.imp (λh e=>h ?_) (List.Pairwise.filter _ List.nodup_range);exact Int.ofNat.inj e
theorem ZR {c:List Int} (b:Ij c) {x:Int}:x∈IZ c↔∃i:Nat,x=(i:Int)/\BO c i=true:=by
 unfold IZ OX;rw[IN];constructor
 .grind [Uz]
 rintro⟨i,rfl,a⟩;refine⟨i,ACB.2 ⟨AAn.2 ?_,by rw[Uz b];exact a⟩,rfl⟩;refine Do λd=>?_;unfold BO at a;rw[HL O1]at a;simp at a
theorem A9s {a b:List Int} (ha:Ij a) (d:Ij b) (h:∀i,BO a i=true->BO b i=true) (e:cnt b<=cnt a) (i:Nat) (hi:BO b i=true):BO a i=true:=by
 refine Do λhn=>?_;have c:(i:Int)∉IZ a:=λf=>by grind [ZR]
 have:=Sj (l:=(i:Int) :: IZ a) (l':=IZ b) (AC2.2 ⟨c,j8 a⟩) λx c=>by grind [ZR]
 grind
theorem XB (x:AU) (out:List AU):∀n,(F0 x out n=0->n=0\/GI x (out.getD 0 c0)=true)/\∀k,F0 x out n=k+1->GI x (out.getD k c0)=false
 | 0=>⟨λ_=>.inl rfl,λk h=>by simp[F0]at h⟩
 | n+1=>by
  obtain⟨h1,a⟩:=XB x out n;grind [F0]
theorem j9 {a b:AU} (h:GI a b=true):cnt b.2<=cnt a.2:=by
 unfold GI at h;grind
theorem cM {a b:AU} (h:GI a b=false):cnt a.2<=cnt b.2:=by
 unfold GI at h;grind
def HM (out:List AU):Prop:=∀y∈out,cnt y.2<=cnt (out.getD 0 c0).2
theorem A6O {out:List AU} (h:HM out) (x:AU):HM (bT out x):=by
 obtain⟨s1,s2⟩:=XB x out out.length;have c:=iI x out out.length;intro y a;rw[iM]at a;unfold bT;cases hk:F0 x out out.length with
 | zero =>
  rw[ACQ,ACe,nO];have e:([x]++out).getD 0 c0=x:=rfl;rw[e];rcases a with rfl|a
  .exact Of _
  have h1:=h y a;rcases s1 hk with e|e
  .grind
  exact iN h1 (j9 e)
 | succ k =>
  have b:=cM (s2 k hk);rw[hk]at c;have e:(out.take (k+1)++[x]++out.drop (k+1)).getD 0 c0=out.getD 0 c0:=by grind
  rw[e];rcases a with rfl|a
  .exact iN b (h _ (Ad O1))
  exact h y a
theorem kA {d:List AJ}:∀ {l:List (List Int)} {o:List AU},HM o->HM (l.foldl (SR d) o)
 | [],_,h=>h
 | b :: l,o,h=>by
  rw[ON];exact kA (A6O h _)
def In (n:Nat) (c:List Int):Prop:=Ij c/\∀i,BO c i=true->i<n
theorem A9t (n:Nat):In n []:=⟨λx a=>(by cases a),λi hi=>by unfold BO at hi;simp at hi⟩
theorem A9u {n:Nat} {a b:List Int} (ha:In n a) (c:In n b):In n (El a b) :=
 ⟨Q0 ha.1 c.1,λi hi=>by
  rw[Qz ha.1 c.1,An]at hi;exact ha.2 i hi.1⟩
theorem A6P {n:Nat} {l:List (List Int)} (h:∀c∈l,In n c) (k:Nat):In n (l.getD k []):=by grind [Ad,SW,A9t]
theorem A6Q {n:Nat} {l:List (List Int)} (h:∀c∈l,In n c) (i k:Nat):∀c∈Gp l i k,In n c:=by grind [Gp,El,A9u,A6P]
theorem uP {q i:Nat}:∀ {n k:Nat} {l:List (List Int)},(∀c∈l,In q c)->∀c∈Gq i n k l,In q c
 | 0,_,_,h=>h
 | n+1,k,l,h=>by
  unfold Gq;split
  .exact uP (A6Q h i k)
  exact h
theorem cN {q:Nat}:∀ {n i:Nat} {l:List (List Int)},(∀c∈l,In q c)->∀c∈Ie n i l,In q c
 | 0,_,_,h=>h
 | n+1,i,l,h=>by
  unfold Ie;split
  .exact cN (uP h)
  exact h
def ABy (h:AE):Prop:=∀t,0<=t->t<(h.1.length:Int)->Af h 0 t=true
theorem kB (d:List AJ):ABy (Ah d).1:=by
 have hk:=HN d;unfold Ah at hk ⊢;split
 .intro t h0 h1;simp at h1;omega
 rename_i g;rw[As g]at hk;have g:(BD d).2=0:=Do g;have A:Ax d=0:=by grind [BD]
 obtain⟨hz,-,-⟩:=B8 A;obtain⟨j,O,-⟩:=Bd hz;obtain⟨-,z,-,hn,N⟩:=A2 j;have G:=EA d d.length;rw[tO]at G;have k:(AN d).length<=4096:=by omega
 obtain⟨r,I,M⟩:=pL j;have a:∀c∈A4 (AZ d),In (AN d).length c:=cN λc f=>by
  obtain⟨s,hs,rfl⟩:=IN.1 f;exact⟨(Bm (d:=d) k s 0).2.1,λi hi=>((Bm (d:=d) k s i).1.1 hi).1⟩
 obtain⟨s,hs,es⟩:=aS.1 (PU I);have J:s=r.1:=by grind [Dm,M6]
 subst J;have n:Ef d (AN d) r.1∈A4 (AZ d):=by
  have H:AZ d <+: A4 (AZ d):=Qx 257 0 (AZ d);exact H.subset (IN.2 ⟨_,hs,rfl⟩)
 have l:∀i,i<(AN d).length->BO (Ef d (AN d) r.1) i=true:=λi hi=>by grind [Bm,Dm,Ad]
 have B:HM (AM d):=kA λy L=>by cases L
 have q:=Dn.2 ⟨_,n,rfl⟩;have u:0<(AM d).length:=AE3 q;have p:=B _ q;obtain⟨b,m,h⟩:=Dn.1 (Ad (d:=c0) u);rw[h]at p;have E:=A9s (a b m).1 (a _ n).1 (λi hi=>l i ((a b m).2 i hi)) p;have D:Bn (BW d) 0=b:=by
  show ((Eg (AM d) _ _).getD 0 Rm).2.1=b;have:(Eg (AM d) (BD d).1 (AM d).length).getD 0 Rm=(((AM d).getD 0 c0).1,((AM d).getD 0 c0).2,Yx (AM d) ((0:Nat):Int),(BD d).1.getD 0 []):=by
   unfold Eg;rw[AS,ABL,ACC u];rfl
  rw[this,h]
 have P:(BW d).1.length=(AM d).length:=Ke _ _ _;intro t v w;refine(B9 hk O1 (by show (0:Int)<((BW d).1.length:Int);omega) v w).2 λi hi=>?_;show BO (Bn (BW d) 0) i=true;rw[D];refine E i (l i ?_);have C:=Ck v w;have F:Bn (BW d) t∈A4 (AZ d):=by
  have e:((BW d).1.map λt=>t.2.1)=(AM d).map λx=>x.2:=by
   show ((Eg _ _ _).map λt=>t.2.1)=_;unfold Eg;rw[AC0];apply AAy
   .simp
   intro i h1 z;simp[AS,show i<(AM d).length by simpa using h1]
  have o:Bn (BW d) t∈(BW d).1.map λt=>t.2.1:=C;rw[e]at o;obtain⟨x,K,ex⟩:=IN.1 o;obtain⟨c,f,rfl⟩:=Dn.1 K;rw[<-ex];exact f
 exact(a _ F).2 i hi
theorem XC (d:List AJ):Nd ((Ah d).1.1.map λt=>t.2.1):=by
 unfold Ah;split
 .exact⟨.nil,λc h=>(by cases h)⟩
 rename_i a;have a:(BD d).2=0:=Do a;have g:Ax d=0:=by
  unfold BD at a;split at a
  .rename_i h;exact absurd a h
  rename_i h;exact Do h
 obtain⟨hz,-,-⟩:=B8 g;obtain⟨f,n,-⟩:=Bd hz;have hf:Nd (A4 (AZ d)):=Uo (SX f);have e:((BW d).1.map λt=>t.2.1)=(AM d).map λx=>x.2:=by
  show ((Eg _ _ _).map λt=>t.2.1)=_;unfold Eg;rw[AC0];apply AAy
  .simp
  intro i h1 m;simp[AS,show i<(AM d).length by simpa using h1]
 show Nd ((BW d).1.map λt=>t.2.1);rw[e];refine⟨NB (by simpa using hf.nd),λc k=>?_⟩;obtain⟨x,l,rfl⟩:=IN.1 k;obtain⟨b,j,rfl⟩:=Dn.1 l;exact hf.nrm b j
structure CI (n:Nat) (o:List Int) (ar:List (List (Int×Int))) (W:List (Int×Int)):Prop where
 lo:o.length=n
 la:ar.length=n
 rep:∀k:Nat,k<n->0<=o.getD k 0/\o.getD k 0<=(k:Int)/\o.getD (o.getD k 0).toNat 0=o.getD k 0
 wr:∀w∈W,(0<=w.1/\w.1<(n:Int))/\(0<=w.2/\w.2<(n:Int))
 ta:∀k,∀a∈ar.getD k [],0<=a.2/\a.2<(n:Int)
theorem CI.rng {n:Nat} {o:List Int} {ar:List (List (Int×Int))} (h:CI n o ar l) {x:Int} (c:0<=x) (d:x<(n:Int)):0<=o.getD x.toNat 0/\o.getD x.toNat 0<(n:Int)/\o.getD (o.getD x.toNat 0).toNat 0=o.getD x.toNat 0:=by
 obtain⟨h1,b,a⟩:=h.rep x.toNat O1;exact⟨h1,O1,a⟩
def A8i (b:List Int):List F1->Nat->Int×Bool
 | [],_=>(0,false)
 | t :: r,k=>if t.2.1=b then ((k:Int),true) else A8i b r (k+1)
def A33 (h:AE) (a b:Int):Int×Bool:=A8i (El (Bn h a) (Bn h b)) h.1 0
section
def ABz (h:AE) (l:List AC) (c:List Int):Nat->Option (List Int)
 | 0=>some (List.replicate l.length 0)
 | i+1=>match ABz h l c i with
  | none=>none
  | some o=>if (A33 h (o.getD (c.getD i 0).toNat 0) (l.getD i (0,[])).1).2=true then some (o.set (c.getD i 0).toNat (A33 h (o.getD (c.getD i 0).toNat 0) (l.getD i (0,[])).1).1) else none
def A34 (h:AE) (l:List AC) (c:List Int):List Int×Bool:=match ABz h l c l.length with
 | none=>([],false)
 | some o=>((List.range l.length).map λ(k:Nat)=>o.getD (c.getD k 0).toNat 0,true)
def ACD (n:Nat) (c:List Int):Prop:=c.length=n/\∀k:Nat,k<n->0<=c.getD k 0/\c.getD k 0<=(k:Int)/\c.getD (c.getD k 0).toNat 0=c.getD k 0
def A35:Ab:={ ins:=[GT,KT,DH],pre:=λ(h,l,c,_)=>ACD (List.length l) c/\Dq h l/\0<List.length (h:AE).1/\List.length l<=100000/\(∀x∈(h:AE).1,x.2.1.length<=100000),out:=λ(h,l,c,_)=>[.p DH (A34 h l c).1,.p .bool (A34 h l c).2] }
attribute [go_sem] A35
end
inductive EQ (n:Nat) (o:List Int) (W:List (Int×Int)):Int->Int->Prop
 | cls {x y:Int} (x0:0<=x) (x1:x<(n:Int)) (y0:0<=y) (y1:y<(n:Int)) (h:o.getD x.toNat 0=o.getD y.toNat 0):EQ n o W x y
 | wt {x y:Int} (h:(x,y)∈W):EQ n o W x y
 | symm {x y:Int} (h:EQ n o W x y):EQ n o W y x
 | trans {x y z:Int} (h:EQ n o W x y) (g:EQ n o W y z):EQ n o W x z
theorem EQ.mono {n:Nat} {o b:List Int} {a:List (Int×Int)} (h1:∀x y,0<=x->x<(n:Int)->0<=y->y<(n:Int)->o.getD x.toNat 0=o.getD y.toNat 0->EQ n b a x y) (c:∀x y,(x,y)∈l->EQ n b a x y) {x y:Int} (h:EQ n o l x y):EQ n b a x y:=by
 induction h with
 | cls g i j k h=>exact h1 _ _ g i j k h
 | wt h=>exact c _ _ h
 | symm _ d=>exact .symm d
 | trans _ _ e f=>exact .trans e f
theorem EQ.nil {n:Nat} {o:List Int} {x y:Int} (h:EQ n o [] x y):o.getD x.toNat 0=o.getD y.toNat 0:=by
 induction h with
 | cls _ _ _ _ h=>exact h
 | wt h=>cases h
 | symm _ a=>exact a.symm
 | trans _ _ b c=>exact b.trans c
def A9v (h:AE):Prop:=∀t∈h.1,Nrm t.2.1
section
variable {d:List AJ}
theorem Kj (d:List AJ):((BW d).1.map λt=>t.2.1)=(AM d).map λx=>x.2:=by
 show ((Eg _ _ _).map λt=>t.2.1)=_;unfold Eg;rw[AC0];apply AAy
 .simp
 intro i h1 a;simp[AS,show i<(AM d).length by simpa using h1]
theorem So (d:List AJ):(BW d).1.length=(AM d).length:=Ke _ _ _
theorem pM (d:List AJ) (hk:k<(AM d).length):(BW d).1.getD k Rm=(((AM d).getD k c0).1,((AM d).getD k c0).2,Yx (AM d) (k:Int),(BD d).1.getD k []):=by
 unfold BW Eg;simp[AS,hk]
theorem Ld (d:List AJ) {t:Int} (a:0<=t) (b:t<((AM d).length:Int)):Bn (BW d) t=((AM d).getD t.toNat c0).2:=by
 unfold Bn;rw[pM d O1]
theorem kC (a:Ax d=0):(BD d).2=0/\(BD d).1=Kd d (AM d) (BR d) (AM d).length:=by
 unfold BD;rw[As (by rw[a];simp)];exact⟨rfl,rfl⟩
theorem H1 (a:Ax d=0):(Ah d).1=BW d:=by
 unfold Ah;rw[As (by rw[(kC a).1];simp)]
theorem A36 (b:Ax d=0):Gt (BW d)/\Nd ((BW d).1.map λt=>t.2.1):=by
 have h1:=HN d;have a:=XC d;rw[H1 b]at h1 a;exact⟨h1,a⟩
theorem NM (a:Ax d=0):(BW d).2=(BR d).map (M8 d):=by
 unfold BW DQ;rw[As (by rw[a];simp)]
theorem A37 (a:Ax d=0) {t:Int} (b:0<=t) (c:t<((AM d).length:Int)):b6 (BW d) t=UJ d (AM d) (BR d) t.toNat (BR d).length:=by
 unfold b6;rw[pM d O1];show (BD d).1.getD t.toNat []=_;rw[(kC a).2];unfold Kd;simp[AS,show t.toNat<(AM d).length by omega]
theorem Pm (a:Ax d=0):BH d=0/\(CK d).1=AM d/\LR d=0/\(∀s∈BR d,(Dp d s).2=true)/\Io d (AM d) (BR d) (AM d).length=false:=by
 obtain⟨hz,-,e⟩:=B8 a;obtain⟨c,-,b⟩:=Bd hz;refine⟨c,b,e,?_,?_⟩
 .unfold Ax at a;split at a
  .rename_i h;exact absurd hz h
  split at a
  .cases a
  split at a
  .rename_i h;exact absurd a h
  split at a
  .cases a
  rename_i h;exact OF.1 (by simpa using h)
 unfold Ax at a;split at a
 .rename_i h;exact absurd hz h
 split at a
 .cases a
 split at a
 .rename_i h;exact absurd a h
 split at a
 .cases a
 split at a
 .cases a
 rename_i h;rw[b]at h;simpa using h
def Cd (l:List (List Int)) (c:List Int):Prop:=c=[]\/c∈l
theorem A38 {l:List (List Int)} (hk:Hy l) {c:List Int} (h:Cd l c):Ij c:=by
 rcases h with rfl|h
 .exact λx a=>by cases a
 exact hk.wds c h
theorem A9w {l:List (List Int)} (hk:Hy l) (hn:Nd l) {a b:List Int} (ha:Cd l a) (j:b∈l):Cd l (El a b):=by
 have f:=A38 hk ha;have g:=hk.wds b j;have m:Nrm (El a b):=by unfold El;exact Pb _
 have k:=λi=>Qz f g i;by_cases hi:∃i,BO a i=true/\BO b i=true
 .rcases ha with rfl|ha
  .obtain⟨i,h1,-⟩:=hi;unfold BO at h1;simp at h1
  obtain⟨t,d,e⟩:=hk.meet a ha b j hi;right;rw[oU (Q0 f g) (hk.wds t d) m (hn.nrm t d) λi=>by rw[k,e]];exact d
 left;refine Do λn=>?_;unfold El at n;have o:Ij (El a b):=Q0 f g;have:∃i,BO (El a b) i=true:=by
  have c:=m;rcases c with c|c
  .exact absurd (AAs c) n
  exact iY o c
 obtain⟨i,h⟩:=this;rw[k,An]at h;exact hi ⟨i,h⟩
def UsD (d:List AJ) (t:Int) (s:ByteArray) (x:AJ):Prop:=(DJ x s).2=true/\Af (BW d) (BT (AM d) x.1) t=true
def vcD (d:List AJ) (s:ByteArray) (x:AJ):List Int:=((AM d).getD (BT (AM d) (DJ x s).1).toNat c0).2
theorem U0 (hn:oE d (AM d)) {x:AJ} (a:x∈d):0<=BT (AM d) x.1/\BT (AM d) x.1<((AM d).length:Int):=⟨hn.1 x a,Im _ _⟩
theorem A39 (hn:oE d (AM d)) {x:AJ} (b:x∈d) (a:(DJ x s).2=true):0<=BT (AM d) (DJ x s).1/\BT (AM d) (DJ x s).1<((AM d).length:Int):=⟨hn.value b a,Im _ _⟩
theorem uQ (d:List AJ) {k:Int} (a:0<=k) (b:k<((AM d).length:Int)):((AM d).getD k.toNat c0).2∈(AM d).map λx=>x.2:=IN.2 ⟨_,Ad O1,rfl⟩
theorem zS (hk:Gt (BW d)) {a t:Int} (b:0<=a) (g:a<((AM d).length:Int)) (c:0<=t) (h:t<((AM d).length:Int)):Ly (AM d) a t=Af (BW d) a t:=by
 have j:=So d;have e:a<((BW d).1.length:Int):=by omega
 have f:t<((BW d).1.length:Int):=by omega
 have i:=hk.1.wds _ (Ck b e);have wt:=hk.1.wds _ (Ck c f);rw[ADn];unfold Ly;rw[<-Ld d b g,<-Ld d c h,Ew wt i];exact(B9 hk b e c f).symm
theorem cO (hk:Gt (BW d)) (hnd:Nd ((BW d).1.map λt=>t.2.1)) (hn:oE d (AM d)) {t:Int} (n:0<=t) (p:t<((AM d).length:Int)) (s:ByteArray):∀(r:List AJ) (o:List Int×Bool),(∀x∈r,x∈d)->Cd ((AM d).map λx=>x.2) o.1 ->
  Cd ((AM d).map λx=>x.2) (r.foldl (Kb (AM d) t s) o).1/\((r.foldl (Kb (AM d) t s) o).2=true↔o.2=true\/∃x∈r,UsD d t s x)/\∀i,BO (r.foldl (Kb (AM d) t s) o).1 i=true↔BO o.1 i=true/\∀x∈r,UsD d t s x->BO (vcD d s x) i=true
 | [],o,_,g=>⟨g,sc,λi=>by simp⟩
 | x :: r,o,m,g=>by
  rw[Kj]at hnd;have l:Hy ((AM d).map λx=>x.2):=by have:=hk.1;rwa [Kj]at this
  have v:=m x sc;obtain⟨n0,n1⟩:=U0 hn v;have q:=zS hk n0 n1 n p;rw[ON];by_cases hu:UsD d t s x
  .obtain⟨v0,v1⟩:=A39 hn v hu.1;have e:Kb (AM d) t s o x=(El o.1 (vcD d s x),true):=by
    unfold Kb;rw[As]
    .rfl
    rw[hu.1,q,hu.2];simp
   have u:vcD d s x∈(AM d).map λx=>x.2:=uQ d v0 v1;obtain⟨h1,j,k⟩:=cO hk (by rw[Kj];exact hnd) hn n p s r (Kb (AM d) t s o x) (λy f=>m y (by simp[f])) (by rw[e];exact A9w l hnd g u);refine⟨h1,?_,λi=>?_⟩
   .rw[j,e];exact⟨λ_=>.inr ⟨x,sc,hu⟩,λ_=>.inl rfl⟩
   rw[k,e];simp only;rw[Qz (A38 l g) (l.wds _ u),An];constructor
   .rintro⟨⟨a,b⟩,c⟩;refine⟨a,λy f h=>?_⟩;rcases By.1 f with rfl|f
    .exact b
    exact c y f h
   rintro⟨a,b⟩;exact⟨⟨a,b x sc hu⟩,λy f=>b y (by simp[f])⟩
  have e:Kb (AM d) t s o x=o:=by
   unfold Kb;rw[At];rw[q];unfold UsD at hu;cases h1:(DJ x s).2 with
   | false=>simp
   | true =>
    rw[h1]at hu;have:Af (BW d) (BT (AM d) x.1) t=false:=by simpa using hu
    rw[this];simp
  obtain⟨h1,j,k⟩:=cO hk (by rw[Kj];exact hnd) hn n p s r (Kb (AM d) t s o x) (λy f=>m y (by simp[f])) (by rw[e];exact g);refine⟨h1,?_,λi=>?_⟩
  .rw[j,e];constructor
   .rintro (a|⟨y,f,a⟩)
    .exact .inl a
    exact .inr ⟨y,by simp[f],a⟩
   rintro (a|⟨y,f,a⟩)
   .exact .inl a
   rcases By.1 f with rfl|f
   .exact absurd a hu
   exact .inr ⟨y,f,a⟩
  rw[k,e];constructor
  .rintro⟨a,b⟩;refine⟨a,λy f h=>?_⟩;rcases By.1 f with rfl|f
   .exact absurd h hu
   exact b y f h
  rintro⟨a,b⟩;exact⟨a,λy f=>b y (by simp[f])⟩
theorem XD {b:List Int}:∀ {l:List AU} {k:Nat},(∃x∈l,x.2=b)->∃j:Nat,j<l.length/\Qj b k l=((k+j:Nat):Int)/\(l.getD j c0).2=b
 | [],k,⟨x,a,_⟩=>by cases a
 | y :: l,k,⟨x,a,e⟩=>by
  unfold Qj;by_cases h:Hm y.2 b=true
  .rw[At h];exact⟨0,sc,rfl,by simpa[Hm] using h⟩
  rw[As h];rcases By.1 a with rfl|a
  .exact absurd (by simpa[Hm] using e) h
  obtain⟨j,h1,c,d⟩:=XD (k:=k+1) ⟨x,a,e⟩;exact⟨j+1,by simp only[If];omega,by rw[c];congr 1;omega,by simpa using d⟩
theorem pO {b:List Int} (h:Nrm b):BZ b=b:=by
 unfold BZ;have:Cs b b.length=b.length:=by
  rcases h with h|h
  .rw[h];rfl
  cases e:b.length with
  | zero=>rfl
  | succ m =>
   rw[e]at h;show (if b.getD m 0=0 then Cs b m else m+1)=m+1;rw[As (by simpa using h)]
 rw[this,tO]
theorem RJ (b:Ax d=0) {t:Int} (w:0<=t) (H:t<((AM d).length:Int)) (hs:s∈BR d) :
  ((Fj d (AM d) t s).2=true↔∃x∈d,UsD d t s x)/\((Fj d (AM d) t s).2=true->(0<=He (AM d) (Fj d (AM d) t s).1/\He (AM d) (Fj d (AM d) t s).1<((AM d).length:Int)) /\
   ∀i,BO (Bn (BW d) (He (AM d) (Fj d (AM d) t s).1)) i=true↔∀x∈d,UsD d t s x->BO (vcD d s x) i=true):=by
 obtain⟨n,-,C,-,r⟩:=Pm b;obtain⟨hk,hnd⟩:=A36 b;have hn:=Qu n C;have J:=tW n;have q:=kB d;rw[H1 b]at q;have I:Hy ((AM d).map λx=>x.2):=by have:=hk.1;rwa [Kj]at this
 have p:=hnd;rw[Kj]at p;have z:=uQ d (AD3 0) (by omega:(0:Int)<((AM d).length:Int));obtain⟨g,a,m⟩:=cO hk hnd hn w H s d (((AM d).getD 0 c0).2,false) (λx f=>f) (.inr z);have e:Fj d (AM d) t s=d.foldl (Kb (AM d) t s) (((AM d).getD 0 c0).2,false):=rfl;rw[<-e]at g a m;refine⟨by rw[a];simp,λhu=>?_⟩;have D:(Fj d (AM d) t s).1≠[]:=by
  intro hz;have h1:LT d (AM d) t.toNat s=true:=by
   unfold LT;rw[ACY w,hu,hz];rfl
  have A:Io d (AM d) (BR d) (AM d).length=true:=by
   unfold Io;refine aS.2 ⟨t.toNat,AAn.2 O1,?_⟩;unfold bV;exact aS.2 ⟨s,hs,h1⟩
  rw[A]at r;cases r
 have o:(Fj d (AM d) t s).1∈(AM d).map λx=>x.2:=g.resolve_left D;obtain⟨x,f,ex⟩:=IN.1 o;obtain⟨j,K,F,G⟩:=XD (l:=AM d) (k:=0) ⟨x,f,ex⟩;have hf:He (AM d) (Fj d (AM d) t s).1=(j:Int):=by
  unfold He;rw[pO (p.nrm _ o),F];simp
 rw[hf];refine⟨⟨AC8 _,O1⟩,λi=>?_⟩;rw[Ld d (AC8 _) O1,S8,G,m];constructor
 .exact λh=>h.2
 intro h;refine⟨?_,h⟩;obtain⟨y,u,v⟩:=(a.1 hu).resolve_left sc;obtain⟨v0,v1⟩:=A39 hn u v.1;have B:=h y u v;have c:=So d;have E:=q _ v0 (by rw[c];exact v1);have:=(B9 hk (AD3 0) (by rw[c];omega) v0 (by rw[c];exact v1)).1 E i;unfold Tb2 at this;rw[Ld d (AD3 0) O1,Ld d v0 v1]at this;exact this B
theorem Sp {s:ByteArray}:∀ {r:List AJ} {o:List ByteArray} {y:ByteArray},y∈r.foldl (Hn s) o->y∈o\/∃x∈r,x.1=y/\(DJ x s).2=true
 | [],_,_,h=>.inl h
 | x :: r,o,y,h=>by
  rw[ON]at h;rcases Sp h with h|⟨z,hz,h⟩
  .unfold Hn at h;split at h
   .rename_i a;rcases GK h with h|h
    .exact .inl h
    exact .inr ⟨x,sc,h.symm,a⟩
   exact .inl h
  exact .inr ⟨z,by simp[hz],h⟩
theorem XE (h:(Dp d s).2=true):∃x∈d,x.1=(Dp d s).1/\(DJ x s).2=true:=by
 unfold Dp at h ⊢;split
 .rename_i h1;have a:(BC d (Fi d s)).getD 0 ByteArray.empty∈BC d (Fi d s):=Ad O1;exact(Sp (Hx a)).resolve_left sc
 rename_i h1;rw[As h1]at h;cases h
theorem pP (d:List AJ):eD (Ah d).1:=by
 by_cases a:Ax d=0
 .rw[H1 a];obtain⟨l,-,m,n,-⟩:=Pm a;have hn:=Qu l m;have h:=So d;refine⟨λx b=>?_,λt g p c=>?_⟩
  .rw[NM a]at b;obtain⟨s,hs,rfl⟩:=IN.1 b;obtain⟨y,o,e,-⟩:=XE (n s hs);rw[h];show 0<=BT (AM d) (Dp d s).1/\BT (AM d) (Dp d s).1<((AM d).length:Int);rw[<-e];exact U0 hn o
  obtain⟨k,hk,e⟩:=CJ Rm g;rw[h]at hk ⊢;have f:=A37 a (t:=(k:Int)) (AC8 _) O1;unfold b6 at f;rw[S8,e]at f;rw[f]at c;unfold UJ at c;obtain⟨i,hi,rfl⟩:=IN.1 c;obtain⟨h1,j⟩:=ACB.1 hi;have h1:=AAn.1 h1;exact((RJ a (t:=(k:Int)) (AC8 _) O1 (Ad h1)).2 j).1
 have:(Ah d).1=([],[]):=by
  unfold Ah BD;rw[At a,At a]
 rw[this];exact⟨λx b=>(by cases b),λt g=>(by cases g)⟩
end
structure HAp (h:AE):Prop where
 iff:∀t f,0<=t->t<(h.1.length:Int)->0<=f->f<(h.2.length:Int)->((CR h t f).2=true↔Af h (L7 h f) t=true)
 mono:∀t t' f,0<=t->t<(h.1.length:Int)->0<=t'->t'<(h.1.length:Int)->0<=f->f<(h.2.length:Int)->Af h t t'=true->(CR h t f).2=true->Af h (CR h t f).1 (CR h t' f).1=true
def UL (h:AE) (m:Nat) (u:List Int):Prop:=u.length=m/\∀t∈u,0<=t/\t<(h.1.length:Int)
theorem UL.get {m:Nat} {u:List Int} (hu:UL h m u) {n:Nat} (n1:n<m):0<=u.getD n 0/\u.getD n 0<(h.1.length:Int):=by
 have a:n<u.length:=by rw[hu.1];exact n1
 rw[AS,AT a];exact hu.2 _ (AAt a)
theorem OE.tyl {m:Nat} {s:Ed} (hs:OE h m s):UL h m s.1:=⟨hs.len,hs.ty⟩
def Py (h:AE) (m:Nat) (u v:List Int):Prop:=∀i,i<m->Af h (u.getD i 0) (v.getD i 0)=true
def pQ (h:AE) (u:List Int) (n:Int) (l:List (Int×Int)):Prop:=∀a∈l,(CR h (u.getD n.toNat 0) a.1).2=true/\Af h (CR h (u.getD n.toNat 0) a.1).1 (u.getD a.2.toNat 0)=true
def WTy (h:AE) (f:List AC) (u:List Int):Prop:=∀i,i<f.length->pQ h u (i:Int) (f.getD i (0,[])).2
theorem Py.refl (hk:Gt h) {m:Nat} {u:List Int} (hu:UL h m u):Py h m u u:=λi hi=>Us hk (hu.get hi).1 (hu.get hi).2
theorem Py.trans (hk:Gt h) {m:Nat} {u v w:List Int} (hu:UL h m u) (a:UL h m v) (b:UL h m w) (h1:Py h m u v) (c:Py h m v w):Py h m u w:=λi hi =>
 Hz hk (hu.get hi).1 (hu.get hi).2 (a.get hi).1 (a.get hi).2 (b.get hi).1 (b.get hi).2 (h1 i hi) (c i hi)
theorem Py.anti (hi:J5 h) {m:Nat} {u v:List Int} (hu:UL h m u) (b:UL h m v) (h1:Py h m u v) (d:Py h m v u):u=v:=by
 refine AAy (by rw[hu.1,b.1]) λi c e=>?_;have a:i<m:=by rw[<-hu.1];exact c
 have:=hi _ _ (hu.get a).1 (hu.get a).2 (b.get a).1 (b.get a).2 (h1 i a) (d i a)
 rwa [AS,AT c,AS,AT e]at this
structure uR (h:AE) (m:Nat) (s s':Ed):Prop where
 up:Py h m s.1 s'.1
 pre:s.2 <+: s'.2
 ch:∀k:Nat,k<m->s'.1.getD k 0=s.1.getD k 0\/(k:Int)∈s'.2.drop s.2.length
theorem uR.refl (hk:Gt h) {m:Nat} {s:Ed} (hs:OE h m s):uR h m s s:=⟨Py.refl hk hs.tyl,AD4 _,λ_ _=>.inl rfl⟩
theorem Sq {l l':List Int} (a:l <+: l') {n:Nat} {x:Int} (h:x∈l.drop n):x∈l'.drop n:=by
 obtain⟨r,rfl⟩:=a;rw[AEN];exact AAh _ h
theorem RK {l:List Int} {a b:Nat} (c:a<=b) {x:Int} (h:x∈l.drop b):x∈l.drop a:=by
 have:l.drop b=(l.drop a).drop (b-a):=by rw[ADP];congr 1;omega
 rw[this]at h;exact ADf h
theorem uR.trans (hk:Gt h) {m:Nat} {a b c:Ed} (ha:OE h m a) (i:OE h m b) (j:OE h m c) (h1:uR h m a b) (d:uR h m b c):uR h m a c:=by
 refine⟨h1.up.trans hk ha.tyl i.tyl j.tyl d.up,h1.pre.trans d.pre,λk g=>?_⟩;rcases d.ch k g with f|f
 .rcases h1.ch k g with e|e
  .exact .inl (f.trans e)
  exact .inr (Sq d.pre e)
 exact .inr (RK h1.pre.length_le f)
theorem Sr (hk:Gt h) (hi:J5 h) {m:Nat} {s c:Ed} (hs:OE h m s) {t:Int} (n0:0<=n) (n1:n<(m:Int)) (f:0<=t) (g:t<(h.1.length:Int)) (e:DK h s n t=some c) :
  uR h m s c/\Af h t (c.1.getD n.toNat 0)=true:=by
 have r:=(FB hk hi hs n0 n1 f g e).1;obtain⟨i,j⟩:=hs.get n0 n1;unfold DK at e;split at e
 .rename_i o;obtain⟨u,w,q,d⟩:=(NA hk i j f g).1 o;generalize (C4 h (s.1.getD n.toNat 0) t).1=v at *;injection e with e
  split at e
  .rename_i p;subst e;exact⟨uR.refl hk hs,by rw[<-p];exact d⟩
  subst e;have l:n.toNat<s.1.length:=by rw[hs.len];omega
  have a:∀k:Nat,(s.1.set n.toNat v).getD k 0=if k=n.toNat then v else s.1.getD k 0:=λk=>N5 _ _ _ l k
  refine⟨⟨λk b=>?_,AEu _ _,λk b=>?_⟩,?_⟩
  .simp only;rw[a];split
   .rename_i e;rw[e];exact q
   exact Us hk (hs.tyl.get b).1 (hs.tyl.get b).2
  .simp only;rw[a];split
   .rename_i e;right;rw[AEN,AD9,ACe];exact ACi _ (by simp;omega)
   exact .inl rfl
  simp only;rw[a,At rfl];exact d
 cases e
theorem ZS (hk:Gt h) (hi:J5 h) {m:Nat} {s:Ed} (hs:OE h m s) {t:Int} (n0:0<=n) (n1:n<(m:Int)) (p:0<=t) (q:t<(h.1.length:Int)) {u:List Int} (hu:UL h m u) (a:Py h m s.1 u) (j:Af h t (u.getD n.toNat 0)=true) :
  ∃c,DK h s n t=some c/\Py h m c.1 u:=by
 obtain⟨d,f⟩:=hs.get n0 n1;have b:n.toNat<m:=by omega
 obtain⟨r,v⟩:=hu.get b;obtain⟨l,o⟩:=(NA hk d f p q).2 _ r v (a _ b) j;unfold DK;rw[At l];refine⟨_,rfl,?_⟩;split
 .exact a
 intro k g;have i:n.toNat<s.1.length:=by rw[hs.len];omega
 simp only;rw[N5 _ _ _ i k];split
 .rename_i e;rw[e];exact o
 exact a k g
section
variable {h:AE} (hk:Gt h) (hi:J5 h) (hf:eD h) (hap:HAp h) {m:Nat} {n:Int} (n0:0<=n) (n1:n<(m:Int))
include hk hi hf n0 n1
theorem cQ:∀ {l:List (Int×Int)} {s c:Ed},(∀a∈l,Kh h m a)->OE h m s->NF h n l s=some c->uR h m s c/\∀a∈l,Af h (L7 h a.1) (c.1.getD n.toNat 0)=true
 | [],s,c,_,hs,e=>by
  injection e with e
  subst e;exact⟨uR.refl hk hs,λa ha=>by cases ha⟩
 | a :: l,s,c,o,hs,e=>by
  unfold NF at e;cases g:DK h s n (L7 h a.1) with
  | none=>rw[g]at e;cases e
  | some s1 =>
   rw[g]at e;obtain⟨⟨r,t⟩,-⟩:=o a sc;obtain⟨j,k⟩:=NG hf r t;obtain⟨d,-,-⟩:=FB hk hi hs n0 n1 j k g;obtain⟨v,w⟩:=Sr hk hi hs n0 n1 j k g;have p:∀b∈l,Kh h m b:=λb f=>o b (GO _ f);have e:NF h n l s1=some c:=e;obtain⟨q,u⟩:=cQ p d e;have i:=(Q7 hk hi hf n0 n1 p d e).1;refine⟨v.trans hk hs d i q,λb f=>?_⟩;rcases By.1 f with rfl|f
   .exact Hz hk j k (d.get n0 n1).1 (d.get n0 n1).2 (i.get n0 n1).1 (i.get n0 n1).2 w (q.up _ O1)
   exact u b f
theorem uS:∀ {l:List (Int×Int)} {s c:Ed},(∀a∈l,Kh h m a)->OE h m s->OD h n l s=some c->uR h m s c/\(n∈c.2.drop s.2.length\/(c.1.getD n.toNat 0=s.1.getD n.toNat 0/\∀a∈l,(CR h (s.1.getD n.toNat 0) a.1).2=true/\Af h (CR h (s.1.getD n.toNat 0) a.1).1 (c.1.getD a.2.toNat 0)=true))
 | [],s,c,_,hs,e=>by
  injection e with e
  subst e;exact⟨uR.refl hk hs,.inr ⟨rfl,λa ha=>by cases ha⟩⟩
 | a :: l,s,c,t,hs,e=>by
  unfold OD at e;split at e
  .rename_i v;obtain⟨w,x⟩:=hs.get n0 n1;obtain⟨o,p⟩:=Iv hf w x v;cases j:DK h s a.2 (CR h (s.1.getD n.toNat 0) a.1).1 with
   | none=>rw[j]at e;cases e
   | some s1 =>
    rw[j]at e;obtain⟨-,d,b1⟩:=t a sc;obtain⟨g,-,-⟩:=FB hk hi hs d b1 o p j;obtain⟨r,A⟩:=Sr hk hi hs d b1 o p j;have u:∀b∈l,Kh h m b:=λb f=>t b (GO _ f);have e:OD h n l s1=some c:=e;obtain⟨q,i⟩:=uS u g e;have k:=(Ut hk hi hf n0 n1 u g e).1;refine⟨r.trans hk hs g k q,?_⟩;have y:((n.toNat:Nat):Int)=n:=ACY n0;rcases r.ch n.toNat O1 with c1|c1
    .rcases i with i|⟨i,z⟩
     .exact .inl (RK r.pre.length_le i)
     refine .inr ⟨i.trans c1,λb f=>?_⟩;rcases By.1 f with rfl|f
     .exact⟨v,Hz hk o p (g.get d b1).1 (g.get d b1).2 (k.get d b1).1 (k.get d b1).2 A (q.up _ O1)⟩
     have:=z b f
     rwa [c1]at this
    rw[y]at c1;exact .inl (Sq q.pre c1)
  cases e
include hap
theorem uT {u:List Int} (hu:UL h m u):∀ {l:List (Int×Int)} {s:Ed},(∀a∈l,Kh h m a)->OE h m s->Py h m s.1 u->(∀a∈l,(CR h (u.getD n.toNat 0) a.1).2=true)->∃c,NF h n l s=some c/\Py h m c.1 u
 | [],s,_,_,e,_=>⟨s,rfl,e⟩
 | a :: l,s,j,hs,e,k=>by
  obtain⟨⟨f,g⟩,-⟩:=j a sc;obtain⟨o,p⟩:=NG hf f g;obtain⟨v,w⟩:=hu.get (show n.toNat<m by omega);obtain⟨s1,i,h1⟩:=ZS hk hi hs n0 n1 o p hu e ((hap.iff _ _ v w f g).1 (k a sc));obtain⟨r,-,-⟩:=FB hk hi hs n0 n1 o p i;obtain⟨c,q,t⟩:=uT hu (λb d=>j b (GO _ d)) r h1 λb d=>k b (GO _ d);exact⟨c,by unfold NF;rw[i];exact q,t⟩
theorem uU {u:List Int} (hu:UL h m u):∀ {l:List (Int×Int)} {s:Ed},(∀a∈l,Kh h m a)->OE h m s->Py h m s.1 u->(∀a∈l,Af h (L7 h a.1) (s.1.getD n.toNat 0)=true)->pQ h u n l->∃j,OD h n l s=some j/\Py h m j.1 u
 | [],s,_,_,f,_,_=>⟨s,rfl,f⟩
 | a :: l,s,p,hs,f,y,z=>by
  obtain⟨⟨v,w⟩,k,b1⟩:=p a sc;obtain⟨d,e⟩:=hs.get n0 n1;have q:n.toNat<m:=by omega
  have x:a.2.toNat<m:=by omega
  obtain⟨A,B⟩:=hu.get q;have r:=(hap.iff _ _ d e v w).2 (y a sc);obtain⟨g,i⟩:=Iv hf d e r;obtain⟨I,J⟩:=z a sc;obtain⟨v0,v1⟩:=Iv hf A B I;have E:=hap.mono _ _ a.1 d e A B v w (f _ q) r;obtain⟨s1,o,h1⟩:=ZS hk hi hs k b1 g i hu f (Hz hk g i v0 v1 (hu.get x).1 (hu.get x).2 E J);obtain⟨t,-,-⟩:=FB hk hi hs k b1 g i o;obtain⟨H,-⟩:=Sr hk hi hs k b1 g i o;obtain⟨j,C,D⟩:=uU hu (λb c=>p b (GO _ c)) t h1 (λb c=>by
   obtain⟨⟨c0,c1⟩,-⟩:=p b (GO _ c);obtain⟨F,G⟩:=NG hf c0 c1;exact Hz hk F G d e (t.get n0 n1).1 (t.get n0 n1).2 (y b (GO _ c)) (H.up _ q)) λb c=>z b (GO _ c)
  exact⟨j,by unfold OD;rw[At r,o];exact C,D⟩
end
section
variable {h:AE} (hk:Gt h) (hi:J5 h) (hf:eD h) (hap:HAp h) {f:List AC} (ha:Pg h f)
include hk hi hf hap ha
theorem A3b (n0:0<=n) (n1:n<(f.length:Int)) {s c:Ed} (hs:OE h f.length s) (e:L8 h f n s=some c):uR h f.length s c/\(n∈c.2.drop s.2.length\/pQ h c.1 n (f.getD n.toNat (0,[])).2):=by
 have _:=hap;have g:=NH ha n0 n1;unfold L8 at e;cases d:NF h n (f.getD n.toNat (0,[])).2 s with
 | none=>rw[d]at e;cases e
 | some s1 =>
  rw[d]at e;have i:=(Q7 hk hi hf n0 n1 g hs d).1;obtain⟨j,-⟩:=cQ hk hi hf n0 n1 g hs d;have e:OD h n (f.getD n.toNat (0,[])).2 s1=some c:=e;have k:=(Ut hk hi hf n0 n1 g i e).1;obtain⟨l,b⟩:=uS hk hi hf n0 n1 g i e;refine⟨j.trans hk hs i k l,?_⟩;rcases b with b|⟨b,m⟩
  .exact .inl (RK j.pre.length_le b)
  refine .inr λa ha=>?_;rw[b];exact m a ha
theorem A3c (n0:0<=n) (n1:n<(f.length:Int)) {s:Ed} (hs:OE h f.length s) {u:List Int} (hu:UL h f.length u) (d:pQ h u n (f.getD n.toNat (0,[])).2) (j:Py h f.length s.1 u):∃e,L8 h f n s=some e/\Py h f.length e.1 u:=by
 have b:=NH ha n0 n1;obtain⟨s1,c,h1⟩:=uT hk hi hf hap n0 n1 hu b hs j λa ha=>(d a ha).1;have k:=(Q7 hk hi hf n0 n1 b hs c).1;obtain⟨-,l⟩:=cQ hk hi hf n0 n1 b hs c;obtain⟨s2,g,i⟩:=uU hk hi hf hap n0 n1 hu b k h1 l d;exact⟨s2,by unfold L8;rw[c];exact g,i⟩
def ABA (h:AE) (f:List AC) (i:Nat) (s:Ed):Prop:=∀n:Nat,n<f.length->pQ h s.1 (n:Int) (f.getD n (0,[])).2\/(n:Int)∈s.2.drop i
theorem A6R {n:Nat} (hn:n<f.length) {s:Ed} (hs:OE h f.length s) (i:OE h f.length d) (j:uR h f.length s d) (p:pQ h s.1 (n:Int) (f.getD n (0,[])).2):pQ h d.1 (n:Int) (f.getD n (0,[])).2\/(n:Int)∈d.2.drop s.2.length:=by
 have _:=hap;have _:=hi;have o:∀a∈(f.getD n (0,[])).2,Kh h f.length a:=ha _ (AG f (0,[]) hn);rcases j.ch n hn with c|c
 .left;intro a g;obtain⟨e,k⟩:=p a g;obtain⟨-,b,b1⟩:=o a g;rw[S8]at e k ⊢;rw[c];obtain⟨l,m⟩:=hs.tyl.get hn;obtain⟨q,r⟩:=Iv hf l m e;exact⟨e,Hz hk q r (hs.get b b1).1 (hs.get b b1).2 (i.get b b1).1 (i.get b b1).2 k (j.up _ O1)⟩
 exact .inr c
theorem uV:∀ {k i:Nat} {s:Ed} {ty:List Int},OE h f.length s->ABA h f i s->wlF h f k i s=some ty->WTy h f ty/\Py h f.length s.1 ty/\UL h f.length ty
 | 0,_,_,_,_,_,e=>by cases e
 | k+1,i,s,ty,hs,m,e=>by
  unfold wlF at e;split at e
  .rename_i d;have q:=AG s.2 (0:Int) d;obtain⟨n0,n1⟩:=hs.wt _ q;generalize hn:s.2.getD i 0=n at *;cases c:L8 h f n s with
   | none=>rw[c]at e;cases e
   | some s1 =>
    rw[c]at e;have g:=(Wu hk hi hf ha n0 n1 hs c).1;obtain⟨j,b⟩:=A3b hk hi hf hap ha n0 n1 hs c;have t:ABA h f (i+1) s1:=by
     intro o l;rcases m o l with r|a
     .rcases A6R hk hi hf hap ha l hs g j r with h1|h1
      .exact .inl h1
      exact .inr (RK O1 h1)
     have u:s.2.drop i=n :: s.2.drop (i+1):=by
      rw[OS d,<-hn,AS,AT d];rfl
     rw[u]at a;rcases By.1 a with a|a
     .rcases b with b|b
      .exact .inr (by rw[a];exact RK O1 b)
      left;rw[a];have:n.toNat=o:=by omega
      rw[this]at b;exact b
     exact .inr (Sq j.pre a)
    have e:wlF h f k (i+1) s1=some ty:=e;obtain⟨v,w,p⟩:=uV g t e;exact⟨v,j.up.trans hk hs.tyl g.tyl p w,p⟩
  rename_i d;injection e with e
  subst e;refine⟨λn hn=>?_,Py.refl hk hs.tyl,hs.tyl⟩;rcases m n hn with h1|h1
  .exact h1
  rw[NO O1]at h1;cases h1
theorem A3d {u:List Int} (hu:UL h f.length u) (d:WTy h f u):∀ {k i:Nat} {s:Ed},OE h f.length s->i<=s.2.length->ZE h s.1+s.2.length+1<=k+i->Py h f.length s.1 u->∃ty,wlF h f k i s=some ty/\Py h f.length ty u
 | 0,i,s,hs,j,l,b=>by omega
 | k+1,i,s,hs,j,l,b=>by
  unfold wlF;by_cases a:i<s.2.length
  .rw[At a];obtain⟨n0,n1⟩:=hs.wt _ (AG s.2 (0:Int) a);have e:=d (s.2.getD i 0).toNat O1;rw[ACY n0]at e;obtain⟨s1,c,h1⟩:=A3c hk hi hf hap ha n0 n1 hs hu e b;obtain⟨g,m,n⟩:=Wu hk hi hf ha n0 n1 hs c;rw[c];exact A3d hu d g O1 O1 h1
  rw[As a];exact⟨s.1,rfl,b⟩
theorem XF (a:∀x∈f,0<=x.1/\x.1<(h.1.length:Int)) {ty:List Int} (e:Hf h f=some ty):WTy h f ty/\Py h f.length (BU f) ty/\UL h f.length ty:=by
 have e:wlF h f (Oe h f) 0 (BU f,Ei f)=some ty:=e;refine uV hk hi hf hap ha (k:=Oe h f) (i:=0) (s:=(BU f,Ei f)) (A2B a) (λn hn=>.inr ?_) e;rw[ACe];exact IN.2 ⟨n,AAn.2 hn,rfl⟩
theorem Tt (b:∀x∈f,0<=x.1/\x.1<(h.1.length:Int)) {u:List Int} (hu:UL h f.length u) (c:WTy h f u) (a:Py h f.length (BU f) u):∃ty,Hf h f=some ty/\Py h f.length ty u :=
 A3d hk hi hf hap ha hu c (k:=Oe h f) (i:=0) (s:=(BU f,Ei f)) (A2B b) (DO _) (A2C h f) a
end
inductive Up (d:List AJ) (m:ByteArray):ByteArray->Prop
 | base {x:ByteArray}:AK m x=true->Up d m x
 | step {x s:ByteArray} {y:AJ}:y∈d->AK y.1 x=true->Ac y.2.1 s=true->Up d m s->Up d m x
section
variable {d:List AJ}
theorem XG {m:ByteArray} (h:Up d m x) (e:AK x y=true):Up d m y:=by
 cases h with
 | base h=>exact .base (BQ h e)
 | step h1 a b c=>exact .step h1 (BQ a e) b c
theorem A9y {c s:ByteArray} (h:Up d c x) {y:AJ} (f:y∈d) (e:AK y.1 c=true) (hs:Ac y.2.1 s=true):Up d s x:=by
 induction h with
 | base h=>exact .step f (BQ e h) hs (.base (B5 s))
 | step h1 a b i g=>exact .step h1 a b g
theorem RL {a b c:ByteArray} (h1:Up d a b) (i:Up d b c):Up d a c:=by
 induction i with
 | base h=>exact XG h1 h
 | step e f g k j=>exact .step e f g j
theorem A6S {m a x:ByteArray} (e:AK a m=true) (h:Up d m x):Up d a x:=RL (.base e) h
theorem A6T (hn:Cj d=0) (f:d.length<=(Bw d).length) {m:ByteArray} (h:Up d m x):AK m x=true\/Gb d m<Gb d x:=by
 induction h with
 | base h=>exact .inl h
 | step h1 c e g a =>
  right;have b:=LO hn f h1 e;rw[Ik d c]at b;rcases a with a|a
  .rw[Ik d a];exact b
  omega
theorem A3e {o:List ByteArray} {t:ByteArray} (h:t∈KW o s):t∈o\/t=s:=by
 unfold KW at h;split at h
 .exact .inl h
 rcases IS.1 h with h|h
 .exact .inl h
 exact .inr (by simpa using h)
theorem ZT:∀ {l o:List ByteArray} {t:ByteArray},t∈l.foldl KW o->t∈o\/t∈l
 | [],_,_,h=>.inl h
 | s :: l,o,t,h=>by
  rw[ON]at h;rcases ZT h with h|h
  .rcases A3e h with h|h
   .exact .inl h
   exact .inr (by simp[h])
  exact .inr (by simp[h])
theorem Ss (h:0<=Ar d s):d.getD (Ar d s).toNat d0∈d/\AK (d.getD (Ar d s).toNat d0).1 s=true:=by
 rcases Da d s with g|⟨b,c,a⟩
 .omega
 exact⟨Ad O1,a⟩
theorem ZU (hs:Qd d) {x:ByteArray}:∀ {n i:Nat} {o:List ByteArray},(∀t∈o,0<=Ar d t/\Up d t x)->∀t∈Id d n i o,0<=Ar d t/\Up d t x
 | 0,_,_,b=>b
 | n+1,i,o,b=>by
  unfold Id;split
  .rename_i hi;refine ZU hs λt a=>?_;rcases ZT a with a|a
   .exact b t a
   obtain⟨c1,c2⟩:=b _ (Ad (d:=ByteArray.empty) hi);obtain⟨c,e⟩:=Ss c1;exact⟨hs _ c t a,A9y c2 c e (Fz a)⟩
  exact b
theorem ZV {l:List ByteArray} {t:ByteArray} (h:t∈KX l):t∈l:=(WI (o:=[]) h).resolve_left sc
theorem A3f (hs:Qd d) {x t:ByteArray} (b:0<=Ar d x) (h:Ac (LL d x) t=true):Up d t x:=by
 obtain⟨u,hu,e⟩:=aS.1 h;unfold LL at hu;rw[As O1]at hu;have:=(ZU hs (x:=x) (n:=d.length) (i:=0) (o:=[x]) (λt a=>by
  have:t=x:=by simpa using a
  subst this;exact⟨b,.base (B5 _)⟩) u (ZV hu)).2
 exact A6S (Bt e) this
theorem ZW {m:ByteArray}:∀ {n i:Nat} {o:List ByteArray},(∀t∈o,Up d m t)->∀t∈C0 d n i o,Up d m t
 | 0,_,_,a=>a
 | n+1,i,o,a=>by
  unfold C0;split
  .rename_i hi;have f:=a _ (Ad (d:=ByteArray.empty) hi);generalize o.getD i ByteArray.empty=c at *;have key:∀(l:List AJ) (o:List ByteArray),(∀y∈l,y∈d)->(∀t∈o,Up d m t)->∀t∈l.foldl (FU c) o,Up d m t:=by
    intro l;induction l with
    | nil=>exact λo _ a=>a
    | cons y l g =>
     intro o e a;rw[ON];refine g _ (λz hz=>e z (by simp[hz])) λt b=>?_;unfold FU at b;split at b
     .rename_i h;rw[An]at h;rcases IS.1 b with b|b
      .exact a t b
      have:t=y.1:=by simpa using b
      subst this;exact .step (e y sc) (B5 _) h.1 f
     exact a t b
   exact ZW (key d o (λ_ h=>h) a)
  exact a
theorem RM {m:ByteArray} (h:Ac (C1 d m) x=true):Up d m x:=by
 obtain⟨u,hu,e⟩:=aS.1 h;unfold C1 at hu;split at hu
 .cases hu
 exact XG (ZW (m:=m) (n:=d.length) (i:=0) (o:=[m]) (λt a=>by
  have:t=m:=by simpa using a
  subst this;exact .base (B5 _)) u (ZV hu)) e
theorem RN {m:ByteArray} (t:0<=Ar d m) (h:Up d m x):Ac (C1 d m) x=true:=by
 have p:bJ d [m]:=⟨λs hs=>by
  have:s=m:=by simpa using hs
  rw[this];exact t,sc⟩
 obtain⟨k,u,C⟩:=W9 (d:=d) (n:=d.length) (i:=0) p O1 (λj r=>by omega) O1;have y:m∈C0 d d.length 0 [m]:=LP sc;have q:C1 d m=KX (C0 d d.length 0 [m]):=by unfold C1;rw[As O1]
 rw[q];generalize C0 d d.length 0 [m]=o at *;have key:Ac o x=true:=by
  induction h with
  | base h=>exact aS.2 ⟨m,y,h⟩
  | step h1 g l B A =>
   obtain⟨z,hz,a⟩:=aS.1 A;obtain⟨j,r,rfl⟩:=CJ ByteArray.empty hz;obtain⟨s,v,c⟩:=aS.1 l;obtain⟨w,b,f⟩:=aS.1 (u j O1 _ h1 (aS.2 ⟨s,v,BQ c (Bt a)⟩));exact aS.2 ⟨w,b,BQ f g⟩
 obtain⟨z,hz,e⟩:=aS.1 key;obtain⟨w,b,a⟩:=aS.1 (Qq (o:=[]) hz);exact aS.2 ⟨w,b,BQ a e⟩
theorem ZX:∀ {l o:List ByteArray} {x:ByteArray},Ac o x=true->Ac (l.foldl (FW d) o) x=true
 | [],_,_,h=>h
 | s :: l,o,x,h=>by
  rw[ON];refine ZX ?_;unfold FW;split
  .exact H9 (λz hz=>Ka hz) h
  exact h
theorem RP:∀ {l o:List ByteArray} {x:ByteArray},x∈l->0<=Ar d x->Ac (l.foldl (FW d) o) x=true
 | s :: l,o,x,h,a=>by
  rw[ON];rcases By.1 h with rfl|h
  .refine ZX ?_;unfold FW;rw[At a];exact M7
  exact RP h a
theorem Oh:∀ {l o:List ByteArray},(∀x∈o,0<=Ar d x)->∀x∈l.foldl (FW d) o,0<=Ar d x
 | [],_,b=>b
 | s :: l,o,b=>by
  rw[ON];refine Oh λx a=>?_;unfold FW at a;split at a
  .rcases GK a with a|rfl
   .exact b x a
   assumption
  exact b x a
theorem A9z {l:List ByteArray} (h:t8 l) {i:Nat} (hi:i<l.length) (a:j<l.length) (d:i≠j):AK (l.getD i ByteArray.empty) (l.getD j ByteArray.empty)=false:=by
 have c:∀k (h:k<l.length),l.getD k ByteArray.empty=l[k]:=λk h=>by rw[AS,AT h];rfl
 rw[c i hi,c j a];rcases Nat.lt_or_gt_of_ne d with b|b
 .exact(oS.1 h) i j hi a b
 exact Je ((oS.1 h) j i a hi b)
theorem RQ:∀ {l o:List ByteArray},t8 o->(∀s∈l,∀x∈o,AK x s=false)->t8 l->t8 (l.foldl (FW d) o)
 | [],_,h,_,_=>h
 | s :: l,o,h,b,f=>by
  rw[ON];have e:=AB3.1 f;refine RQ ?_ (λy c x a=>?_) e.2
  .unfold FW;split
   .exact Wa h (b s sc)
   exact h
  unfold FW at a;split at a
  .rcases GK a with a|rfl
   .exact b y (by simp[c]) x a
   exact e.1 y c
  exact b y (by simp[c]) x a
theorem zT (hn:Cj d=0) (s:ByteArray):t8 (Fi d s):=by
 have key:∀(r:List AJ) (o:List ByteArray),t8 o->(∀y∈r,∀x∈o,AK x y.1=false)->r.Pairwise (λa b=>AK a.1 b.1=false)->t8 (r.foldl (Hn s) o):=by
  intro r;induction r with
  | nil=>exact λo h _ _=>h
  | cons y r q =>
   intro o h f p;rw[ON];have k:=AB3.1 p;refine q _ ?_ (λz hz x c=>?_) k.2
   .unfold Hn;split
    .exact Wa h (f y sc)
    exact h
   unfold Hn at c;split at c
   .rcases GK c with c|rfl
    .exact f z (by simp[hz]) x c
    exact k.1 z hz
   exact f z (by simp[hz]) x c
 refine key d [] .nil (λy _ x c=>by cases c) (oS.2 λi j hi g t=>?_);cases e:AK d[i].1 d[j].1 with
 | false=>rfl
 | true =>
  have h1:=M5 hn hi;have n:=M5 hn g;have l:d.getD i d0=d[i]:=by rw[AS,AT hi];rfl
  have m:d.getD j d0=d[j]:=by rw[AS,AT g];rfl
  rw[l,Ja d e]at h1;rw[m]at n;omega
theorem Su (r:BH d=0) {l:List ByteArray} (t:t8 l) {x:ByteArray} (g:x∈l) (w:0<=Ar d x):∃m∈BC d l,Up d m x:=by
 obtain⟨hs,C,-,hn,A⟩:=A2 r;have z:∀y∈Bq d l,0<=Ar d y:=Oh λy c=>by cases c
 obtain⟨q,n,ex⟩:=aS.1 (RP (d:=d) (o:=[]) g w);have n:q∈Bq d l:=n;have v:t8 (Bq d l):=RQ .nil (λs _ x g=>by cases g) t;have u:BC d l=Qh d (Bq d l) (Bq d l).length:=rfl;rw[u];generalize Bq d l=all at *;have key:∀(k:Nat) (y:ByteArray),Gb d y<k->y∈all->Up d y x->∃m∈Qh d all all.length,Up d m x:=by
  intro k;induction k with
  | zero=>exact λy h=>by omega
  | succ k B =>
   intro y D c hu;obtain⟨i,hi,rfl⟩:=CJ ByteArray.empty c;by_cases a:Qg d all i all.length=true
   .exact⟨_,IN.2 ⟨i,ACB.2 ⟨AAn.2 hi,a⟩,rfl⟩,hu⟩
   have a:Qg d all i all.length=false:=by simpa using a
   unfold Qg at a;obtain⟨j,b,hf⟩:=ADM.1 a;have b:=AAn.1 b;unfold tK at hf;simp only[AAo,AAv,lU,not_or,Bool.not_eq_false]at hf;obtain⟨f,ha⟩:=hf;have f:j≠i:=λe=>f (by rw[e]);have p:=A3f hs (z _ c) ha;rcases A6T hn A p with e|e
   .exact absurd e (by rw[A9z v b hi f];simp)
   exact B _ O1 (Ad b) (RL p hu)
 exact key _ q (ACW _) n (.base ex)
theorem Le (hs:s∈AN d):0<=Ar d s:=by
 obtain⟨x,a,rfl⟩:=Dm hs;exact Dk a
theorem Lf {x:AJ} (a:x∈d) (hn:Cj d=0):x.1∈AN d:=by
 obtain⟨s,hs,e⟩:=aS.1 (PU a);obtain⟨y,b,rfl⟩:=Dm hs;rw[<-M6 hn b a e];exact hs
theorem uW (b:BH d=0) {m:ByteArray} (c:0<=Ar d m) (h:Up d m x) {i:Nat} (hi:BO (Ef d (AN d) x) i=true):BO (Ef d (AN d) m) i=true:=by
 obtain⟨-,j,-,hn,k⟩:=A2 b;have e:=EA d d.length;rw[tO]at e;have a:(AN d).length<=4096:=by omega
 obtain⟨f,g⟩:=(Bm (d:=d) a x i).1.1 hi;exact(Bm (d:=d) a m i).1.2 ⟨f,RN c (RL h (RM g))⟩
end
section
variable {d:List AJ}
def Dc (d:List AJ) (c:List Int):Prop:=Ij c/\∀i j,BO c i=true->j<(AN d).length->Up d ((AN d).getD i ByteArray.empty) ((AN d).getD j ByteArray.empty)->BO c j=true
theorem A9A:Dc d []:=⟨λx a=>(by cases a),λi j hi=>by unfold BO at hi;simp at hi⟩
theorem A9B {a b:List Int} (ha:Dc d a) (c:Dc d b):Dc d (El a b) :=
 ⟨Q0 ha.1 c.1,λi j hi e hu=>by
  rw[Qz ha.1 c.1,An]at hi ⊢;exact⟨ha.2 i j hi.1 e hu,c.2 i j hi.2 e hu⟩⟩
theorem A6U {l:List (List Int)} (h:∀c∈l,Dc d c) (k:Nat):Dc d (l.getD k []):=by grind [Ad,SW,A9A]
theorem A6V {l:List (List Int)} (h:∀c∈l,Dc d c) (i k:Nat):∀c∈Gp l i k,Dc d c:=by grind [Gp,El,A9B,A6U]
theorem uX {i:Nat}:∀ {n k:Nat} {l:List (List Int)},(∀c∈l,Dc d c)->∀c∈Gq i n k l,Dc d c
 | 0,_,_,h=>h
 | n+1,k,l,h=>by
  unfold Gq;split
  .exact uX (A6V h i k)
  exact h
theorem uY:∀ {n i:Nat} {l:List (List Int)},(∀c∈l,Dc d c)->∀c∈Ie n i l,Dc d c
 | 0,_,_,h=>h
 | n+1,i,l,h=>by
  unfold Ie;split
  .exact uY (uX h)
  exact h
theorem NN (a:BH d=0):(AN d).length<=4096:=by
 obtain⟨-,c,-⟩:=A2 a;have b:=EA d d.length;rw[tO]at b;omega
theorem A6W (a:BH d=0) (hs:0<=Ar d s):Dc d (Ef d (AN d) s):=by
 have b:=NN a;refine⟨(Bm (d:=d) b s 0).2.1,λi j hi c hu=>?_⟩;grind [Bm,RN,RL,RM]
theorem A9C (a:BH d=0):∀c∈A4 (AZ d),Dc d c:=uY λc b=>by
 obtain⟨s,hs,rfl⟩:=IN.1 b;exact A6W a (Le hs)
theorem uZ {all:List ByteArray} {codes:List (List Int)} {b:List Int} {u:ByteArray}:∀ {m i:Nat} {l:List ByteArray},tS d all codes b m i l=.inl u->∃j,i<=j/\j<i+m/\DZ (codes.getD j []) b=true/\u=all.getD j ByteArray.empty
 | 0,_,_,h=>by cases h
 | m+1,i,l,h=>by
  unfold tS at h;split at h
  .grind
  obtain⟨j,e,f,a,c⟩:=uZ h;exact⟨j,O1,O1,a,c⟩
theorem u3 {all:List ByteArray} {codes:List (List Int)} {b:List Int} {r:List ByteArray}:∀ {m i:Nat} {l:List ByteArray},tS d all codes b m i l=.inr r->(∀j,i<=j->j<i+m->DZ (codes.getD j []) b=false)/\r=l++((List.range' i m).filter λj:Nat=>UH b (j:Int)).map λj=>all.getD j ByteArray.empty
 | 0,i,l,h=>by grind [tS]
 | m+1,i,l,h=>by
  unfold tS at h;split at h
  .cases h
  rename_i f;obtain⟨c,a⟩:=u3 h;refine⟨λj h1 e=>?_,?_⟩
  .grind
  rw[a,AEJ,AC7];grind
theorem u4 {a b:ByteArray} {x:UInt8}:x∈(a++b).toList↔x∈a.toList\/x∈b.toList:=by
 rw[ByteArray.toList_eq,ByteArray.toList_eq,ByteArray.toList_eq];simp
theorem zU {l:List ByteArray}:∀ {n:Nat},2<=n->(38:UInt8)∈(Qr l n).toList
 | n+1,hn=>by
  rw[PW];unfold Yv;rw[At O1];rw[u4,u4]
  simp_all
theorem pR (hn:Cj d=0) (hs:s∈AN d):(38:UInt8)∉s.toList:=by
 obtain⟨x,g,rfl⟩:=Dm hs;obtain⟨j,c,e⟩:=CJ d0 g;have h1:=(Jb (d:=d) (r:=d) (k:=0) hn j c).2;rw[e]at h1;intro a;unfold BK at h1;rw[An,OF]at h1;rw[ByteArray.toList_eq]at a;obtain⟨k,hk,h⟩:=AAq.1 a;have f:k<x.1.data.size:=by simpa using hk
 have:=h1.2 k (AAn.2 f);unfold OW at this;have b:x.1.data.getD k 0=38:=by simp_all
 rw[b]at this;revert this;decide
theorem zV (h:BH d=0) {y:AU} (U:y∈AM d) (hf:Hy (A4 (AZ d))) (hs:s∈AN d) (e:AK y.1 s=true):y.2=Ef d (AN d) s:=by
 obtain⟨ag,aa,-,hn,ae⟩:=A2 h;have o:=NN h;have hnd:Nd (A4 (AZ d)):=Uo (SX h);have ad:(AZ d).length=(AN d).length:=by simp[AZ]
 have L:AZ d <+: A4 (AZ d):=Qx 257 0 (AZ d);have T:∀ {t:ByteArray},t∈AN d->AK t s=true->t=s:=λ{t} x e=>by grind [Dm,M6]
 have heq:∀j,j<(AN d).length->∀b∈A4 (AZ d),DZ ((AZ d).getD j []) b=true->b=Ef d (AN d) ((AN d).getD j ByteArray.empty):=λj Q b f p=>by
  have g:(AZ d).getD j []∈A4 (AZ d):=L.subset (Ad O1);unfold DZ at p;rw[An,Ew (hf.wds _ g) (hf.wds b f),Ew (hf.wds b f) (hf.wds _ g)]at p;rw[<-Jc d Q];refine oU (hf.wds b f) (hf.wds _ g) (hnd.nrm b f) (hnd.nrm _ g) λi=>?_;rw[ADn];exact⟨p.2 i,p.1 i⟩
 obtain⟨b,f,rfl⟩:=Dn.1 U;show b=_;have e:AK (HI d (AN d) (AZ d) b) s=true:=e;unfold HI at e;cases w:tS d (AN d) (AZ d) b (AN d).length 0 [] with
 | inl u =>
  rw[w]at e;obtain⟨j,-,C,W,rfl⟩:=uZ w;rw[ACf]at C;rw[<-T (Ad C) e];exact heq j C b f W
 | inr l =>
  exfalso;rw[w]at e;have e:AK (iH (BC d l)) s=true:=e;obtain⟨N,D⟩:=u3 w;rw[nO]at D;have M:=hf.wds b f;have v:∀i,i<(AN d).length->BO b i=true->(AN d).getD i ByteArray.empty∈l:=λi hi ab=>by grind [Uz]
  have K:∀t∈l,∃i,i<(AN d).length/\t=(AN d).getD i ByteArray.empty/\BO b i=true:=λt x=>by grind [Uz]
  have S:(List.range' 0 (AN d).length).map (λj=>(AN d).getD j ByteArray.empty)=AN d:=by
   apply AAy
   .simp
   intro i ah V;simp[AS,V]
  have E:t8 l:=by
   rw[D];have:=Wb hn;rw[<-S]at this;exact this.sublist (List.filter_sublist.map _)
  obtain⟨z,r⟩:=hf.some b f;have B:∀i,BO b i=true->i<(AN d).length:=by
   have:=cN (q:=(AN d).length) (n:=257) (i:=0) (l:=AZ d) (λc P=>by
    obtain⟨t,x,rfl⟩:=IN.1 P;exact⟨(Bm (d:=d) o t 0).2.1,λi hi=>((Bm (d:=d) o t i).1.1 hi).1⟩) b f
   exact this.2
  have F:∀t∈l,0<=Ar d t:=λt x=>by
   obtain⟨i,hi,rfl,-⟩:=K t x;exact Le (Ad hi)
  obtain⟨m,g,-⟩:=Su h E (v z (B z r) r) (F _ (v z (B z r) r));have af:0<(BC d l).length:=AE3 g;have R:iH (BC d l)=Qr (BC d l) (BC d l).length:=rfl;rw[R]at e;by_cases h1:(BC d l).length=1
  .obtain⟨k,H,rfl,O⟩:=K m (Hx g);have G:DZ ((AZ d).getD k []) b=true:=by
    have J:(AZ d).getD k []∈A4 (AZ d):=L.subset (Ad O1);unfold DZ;rw[An,Ew (hf.wds _ J) M,Ew M (hf.wds _ J),Jc d H];refine⟨λi hi=>?_,λi hi=>?_⟩
    .obtain⟨Y,Z⟩:=(Bm (d:=d) o _ i).1.1 hi;exact(A9C h b f).2 k i O Y (RM Z)
    have A:=B i hi;obtain⟨X,I,hu⟩:=Su h E (v i A hi) (F _ (v i A hi));have:X=(AN d).getD k ByteArray.empty:=by
     obtain⟨a,ha⟩:=ACz.1 h1;rw[ha]at g I;rw[oF.1 I,oF.1 g]
    rw[this]at hu;exact(Bm (d:=d) o _ i).1.2 ⟨A,RN (Le (Ad H)) hu⟩
   rw[N k (DO _) O1]at G;cases G
  grind [zU,BC,FA,pR]
theorem ZY (s:ByteArray):∀(l:List AU) (k:Nat),0<=LN s k l->∃j,j<l.length/\LN s k l=((k+j:Nat):Int)/\AK (l.getD j c0).1 s=true
 | [],k,h=>by simp only[LN]at h;omega
 | x :: l,k,h=>by
  simp only[LN]at h ⊢;split
  .grind
  rename_i e;rw[As e]at h;obtain⟨j,c,a,b⟩:=ZY s l (k+1) h;exact⟨j+1,by simp only[If];omega,by rw[a];congr 1;omega,by simpa using b⟩
theorem kD (a:BH d=0) (hf:Hy (A4 (AZ d))) (hs:s∈AN d):((AM d).getD (BT (AM d) s).toNat c0).2=Ef d (AN d) s:=by
 have h0:0<=BT (AM d) s:=HJ a (Fz hs);grind [ZY,AM,BT,zV,Ad]
theorem ZZ {s:ByteArray} (hn:Cj d=0):∀ {r:List AJ} {o:List ByteArray} {x:AJ},(∀y∈r,y∈d)->x∈d->((∃z∈o,AK z x.1=true)\/(x∈r/\(DJ x s).2=true))->∃z∈r.foldl (Hn s) o,AK z x.1=true
 | [],o,x,_,_,h=>h.resolve_right λg=>by cases g.1
 | y :: r,o,x,c,f,h=>by
  rw[ON];refine ZZ hn (λz hz=>c z (by simp[hz])) f ?_;rcases h with ⟨z,hz,e⟩|⟨a,b⟩
  .grind [Hn,Ka]
  rcases By.1 a with rfl|a
  .left;unfold Hn;rw[At b];exact aS.1 (M7 (l:=o) (s:=x.1))
  exact .inr ⟨a,b⟩
theorem Za (f:Int):∀(a b:List (Int×Int)),EO f (a++b)=if (EO f a).2=true then EO f a else EO f b
 | [],_=>rfl
 | x :: a,b=>by
  have h1:EO f (x :: a++b)=if x.1=f then (x.2,true) else EO f (a++b):=rfl
  have c:EO f (x :: a)=if x.1=f then (x.2,true) else EO f a:=rfl
  rw[h1,c];split
  .rfl
  exact Za f a b
theorem u5 (l:List AU) (fs:List ByteArray) (t:Nat) (f:Int):∀n,EO f (UJ d l fs t n)=if 0<=f/\f<(n:Int)/\(Fj d l (t:Int) (fs.getD f.toNat ByteArray.empty)).2=true then (He l (Fj d l (t:Int) (fs.getD f.toNat ByteArray.empty)).1,true) else (0,false)
 | 0=>by
  rw[As O1];rfl
 | n+1=>by
  rw[Y0,Za,u5 l fs t f n];grind [Fj,EO]
theorem XH (c:Ax d=0) {t f:Int} (e:0<=t) (g:t<((AM d).length:Int)) (a:0<=f) (b:f<((BR d).length:Int)):CR (BW d) t f=if (Fj d (AM d) t ((BR d).getD f.toNat ByteArray.empty)).2=true then (He (AM d) (Fj d (AM d) t ((BR d).getD f.toNat ByteArray.empty)).1,true) else (0,false):=by
 unfold CR;grind [A37,u5,Fj,AM,BR]
theorem A6X (c:Ax d=0) {f:Int} (a:0<=f) (b:f<((BR d).length:Int)):L7 (BW d) f=BT (AM d) (Dp d ((BR d).getD f.toNat ByteArray.empty)).1:=by grind [L7,NM,BR,M8]
theorem ABB (b:Ax d=0):HAp (BW d):=by
 obtain⟨j,-,S,E,-⟩:=Pm b;obtain⟨hz,-,-⟩:=B8 b;obtain⟨-,T,-⟩:=Bd hz;have ak:=Pa j T;obtain⟨am,aj,-,hn,al⟩:=A2 j;obtain⟨hk,hnd⟩:=A36 b;have H:=Qu j S;have n:=So d;have hF:(BW d).2.length=(BR d).length:=by rw[NM b,OR]
 have D:∀s∈AN d,Bn (BW d) (BT (AM d) s)=Ef d (AN d) s:=λs hs=>by grind [Ld,HJ,Fz,Im,kD]
 refine⟨λt f g l k c=>?_,λt v f g l w ah k c W q=>?_⟩
 .rw[n]at l;rw[hF]at c;have hs:=Ad (d:=ByteArray.empty) (show f.toNat<(BR d).length by omega);rw[XH b g l k c,A6X b k c];generalize (BR d).getD f.toNat ByteArray.empty=s at *;obtain⟨u,-⟩:=RJ b g l hs;obtain⟨ai,Z,R,X⟩:=XE (E s hs);have hi:(if (Fj d (AM d) t s).2=true then (He (AM d) (Fj d (AM d) t s).1,true) else ((0:Int),false)).2=true↔(Fj d (AM d) t s).2=true:=by
   split<;>simp[*]
  rw[hi,u];constructor
  .rintro⟨x,a,Y,V⟩;have hint:=E s hs;unfold Dp at hint ⊢;split at hint
   .rename_i h1;rw[At h1];obtain⟨an,U⟩:=ACz.1 h1;obtain⟨z,hz,B⟩:=ZZ (d:=d) (s:=s) hn (r:=d) (o:=[]) (λy ab=>ab) a (.inr ⟨a,Y⟩);have ad:0<=Ar d z:=by rw[Ja d B];exact Dk a
    obtain⟨m,p,hu⟩:=Su j (zT hn s) hz ad;have hu:=XG hu B;have e:(BC d (Fi d s)).getD 0 ByteArray.empty=m:=by
     rw[U]at p ⊢;rw[oF.1 p];rfl
    rw[show ((BC d (Fi d s)).getD 0 ByteArray.empty,true).1=m from e];obtain⟨ap,J,A,-⟩:=(Sp (Hx p)).resolve_left sc;have G:m∈AN d:=by rw[<-A];exact Lf J hn
    have aa:=Lf a hn;obtain⟨n0,n1⟩:=U0 H a;have K:0<=BT (AM d) m:=HJ j (Fz G);have ao:=Im (AM d) m;refine Hz hk K O1 n0 O1 g O1 ((B9 hk K O1 n0 O1).2 λi hi=>?_) V;unfold Tb2 at hi ⊢;rw[D x.1 aa]at hi;rw[D m G];exact uW j (by rw[<-A];exact Dk J) hu hi
   cases hint
  intro h;rw[<-R]at h;exact⟨ai,Z,X,h⟩
 have L:t<((AM d).length:Int):=by omega
 have M:v<((AM d).length:Int):=by omega
 rw[hF]at c;have hs:=Ad (d:=ByteArray.empty) (show f.toNat<(BR d).length by omega);rw[XH b g L k c]at q ⊢;rw[XH b w M k c];generalize (BR d).getD f.toNat ByteArray.empty=s at *;obtain⟨u,ae⟩:=RJ b g L hs;obtain⟨af,ag⟩:=RJ b w M hs;have hi:(Fj d (AM d) t s).2=true:=by
  split at q
  .assumption
  cases q
 have I:∀x∈d,UsD d t s x->UsD d v s x:=λx a hu=>by
  obtain⟨n0,n1⟩:=U0 H a;exact⟨hu.1,Hz hk n0 O1 g l w ah hu.2 W⟩
 have F:(Fj d (AM d) v s).2=true:=by
  obtain⟨x,a,hu⟩:=u.1 hi;exact af.2 ⟨x,a,I x a hu⟩
 rw[At hi,At F];obtain⟨⟨N,O⟩,P⟩:=ae hi;obtain⟨⟨Q,b1⟩,b2⟩:=ag F;refine(B9 hk N (by rw[n];exact O) Q (by rw[n];exact b1)).2 λi C=>?_;unfold Tb2 at C ⊢;exact(P i).2 λx a hu=>(b2 i).1 C x a (I x a hu)
theorem pS (d:List AJ):HAp (Ah d).1:=by
 by_cases a:Ax d=0
 .rw[H1 a];exact ABB a
 have:(Ah d).1=([],[]):=by
  unfold Ah BD;rw[At a,At a]
 rw[this];exact⟨λt f c b=>by simp at b;omega,λt e f c b=>by simp at b;omega⟩
end
theorem NP (d:List AJ):(Ah d).1.1.length<=256/\(Ah d).1.2.length<=64:=by
 unfold Ah;split
 .exact⟨sc,sc⟩
 rename_i a;have a:(BD d).2=0:=Do a;have b:Ax d=0:=by
  unfold BD at a;split at a
  .rename_i h;exact absurd a h
  rename_i h;exact Do h
 obtain⟨hz,c,-⟩:=B8 b;obtain⟨-,e,-⟩:=Bd hz;refine⟨?_,?_⟩
 .show (Eg _ _ _).length<=256;rw[Ke,Il];exact e
 show (DQ d).1.length<=64;unfold DQ;rw[As (by rw[b];simp)];show ((BR d).map (M8 d)).length<=64;rw[OR];exact c
theorem pT (hf:Ae f):FL f:=⟨hf.1,λx a=>(hf.2 x a).1⟩
structure H14 (h:AE):Prop where
 ok:Gt h
 inj:J5 h
 ft:eD h
 nrm:A9v h
 ap:HAp h
 b1:h.1.length<=256
 b2:h.2.length<=64
theorem XI (d:List AJ):H14 (Ah d).1:=⟨HN d,Tn d,pP d,λt a=>(XC d).nrm _ (IN.2 ⟨t,a,rfl⟩),pS d,(NP d).1,(NP d).2⟩
theorem h14 (d:List AJ):H14 (N3 d):=by
 unfold N3;split
 .exact XI d
 exact XI BE
theorem Sv {ty:List Int} {x:AC} (b:x∈Ex f ty):∃i,i<f.length/\x=(ty.getD i 0,(f.getD i (0,[])).2):=by
 obtain⟨i,hi,rfl⟩:=List.getElem_of_mem b;have a:i<f.length:=by rw[DR]at hi;exact hi
 refine⟨i,a,?_⟩;rw[<-Gz f ty a,AS,AT hi];rfl
theorem Kk {α:Type} {f:List α} {i:Nat} (h:i<f.length) (d:α):f.getD i d∈f:=by
 rw[AS,AT h];exact AAt _
def XJ (p:List Int) (n:Nat):List AC:=(List.range n).map λ(i:Nat)=>((0:Int),[(p.getD i 0,(i:Int)+1)])
def CM (p:List Int) (g:List AC):List AC:=XJ p p.length++g.map λx=>(x.1,EE p.length x.2)
theorem Pn (p:List Int) (n:Nat):(XJ p n).length=n:=by simp[XJ]
def FtP (h:AE) (p:List Int):Prop:=∀e∈p,0<=e/\e<(h.2.length:Int)
theorem VF.srt (hu:HU h) (a:VF h f):Wf f:=λx b=>by
 have:=A2Z (a.str x b) (a.ft64 hu x b);exact⟨(jN _).2 (a.str x b),O1⟩
theorem VF.small (a:VF h f):FL f:=pT a.good
theorem cR (a b:List AC):(∃U,pJ h a b U/\Lc h a b=(U,true))\/(Lc h a b=([],false)/\∀U,¬pJ h a b U):=by
 unfold Lc;by_cases H:∃U,pJ h a b U
 .left;rw[dif_pos H];exact⟨_,H.choose_spec,rfl⟩
 right;rw[dif_neg H];exact⟨rfl,λU c=>H ⟨U,c⟩⟩
theorem I0 (f:List AC) (ty:List Int) (n:Nat):((Ex f ty).getD n (0,[])).2=(f.getD n (0,[])).2:=by
 by_cases h:n<f.length
 .rw[Gz f ty h]
 rw[AS,wS (by rw[DR];omega),AS,wS O1]
theorem kE {f g:List AC} (h:∀n:Nat,(f.getD n (0,[])).2=(g.getD n (0,[])).2):∀(k:Nat) (o:List Int) (n:Int),Dy f k o n=Dy g k o n
 | 0,_,_=>rfl
 | k+1,o,n=>by
  have e:BF f k=BF g k:=by
   funext o a;unfold BF;rw[kE h k o a.2]
  rw[Cu,Cu,h,e]
theorem pU (hf:Ae f) (h0:0<f.length) (a:AO f 0=f):j5 f:=by
 have:=(cI hf (r:=0) O1 O1).2
 rwa [a]at this
theorem A3g (b:VF h f) {ty:List Int} (l:UL h f.length ty):VF h (Ex f ty):=by
 have c:=DR f ty;have g:Ae (Ex f ty):=by
  refine⟨by rw[c];exact b.good.1,λx a=>?_⟩;obtain⟨i,hi,rfl⟩:=Sv a;rw[c];exact b.good.2 (f.getD i (0,[])) (Kk hi (0,[]))
 have k:∀x∈Ex f ty,∃y∈f,x.2=y.2:=λx a=>by
  obtain⟨i,hi,rfl⟩:=Sv a;exact⟨_,Kk hi (0,[]),rfl⟩
 refine⟨g,by rw[c];exact b.pos,λx a=>?_,λx a=>?_,λx a=>?_,W6 g ?_,λi m n=>?_⟩
 .obtain⟨i,hi,rfl⟩:=Sv a;exact l.get hi
 .obtain⟨y,d,e⟩:=k x a;rw[e];exact b.str y d
 .obtain⟨y,d,e⟩:=k x a;rw[e];exact b.ft y d
 .have:=pU b.good b.pos b.can;unfold j5 at this ⊢;rw[c,kE (I0 f ty)];exact this
 obtain⟨j,o,p,x,a,e⟩:=b.ro i m (by rw[<-c];exact n);exact⟨j,o,p,x,by show x∈((Ex f ty).getD j.toNat (0,[])).2;rw[I0];exact a,e⟩
theorem Dr (f:List AC) (i:Nat):(BU f).getD i 0=(f.getD i (0,[])).1:=by
 unfold BU;rw[AS,ABL,AS];cases f[i]?<;>rfl
theorem pV (a:Dq h f):UL h f.length (BU f):=⟨by simp[BU],λt h1=>by
 obtain⟨x,b,rfl⟩:=IN.1 h1;exact a x b⟩
theorem pW {ty:List Int} (a:ty.length=f.length):BU (Ex f ty)=ty:=by
 refine AAy (by simp[BU,DR,a]) λi b c=>?_;have:=Dr (Ex f ty) i;rw[Gz f ty O1]at this;simpa[AS,b,c] using this
theorem pX (f:List AC):Ex f (BU f)=f:=by
 refine AAy (DR _ _) λi b a=>?_;have:=Gz f (BU f) a;rw[Dr]at this;simpa[AS,b,a] using this
theorem Tu {h:AE} {f:List AC} {t:Int}:∀ {l:List (Int×Int)},Gy h f t l=0↔∀a∈l,(CR h t a.1).2=true/\Af h (CR h t a.1).1 (f.getD a.2.toNat (0,[])).1=true
 | []=>⟨λ_ a ha=>(by cases ha),λ_=>rfl⟩
 | a :: l=>by
  unfold Gy;rw[List.forall_mem_cons,<-Tu (l:=l)];cases h1:(CR h t a.1).2
  .simp
  cases b:Af h (CR h t a.1).1 (f.getD a.2.toNat (0,[])).1<;>simp
theorem Oi {h:AE} {f:List AC}:∀ {l:List AC},FZ h f l=0↔∀x∈l,∀a∈x.2,(CR h x.1 a.1).2=true/\Af h (CR h x.1 a.1).1 (f.getD a.2.toNat (0,[])).1=true
 | []=>⟨λ_ a ha=>(by cases ha),λ_=>rfl⟩
 | x :: l=>by
  unfold FZ;rw[List.forall_mem_cons,<-Oi (l:=l),<-Tu];by_cases h1:Gy h f x.1 x.2=0
  .simp[h1]
  simp[h1]
theorem A6Z:FZ h f f=0↔WTy h f (BU f):=by
 rw[Oi];constructor
 .intro h1 i hi a ha;have:=h1 _ (Kk hi (0,[])) a ha
  rwa [Dr,Dr,S8]
 intro h1 x b a ha;obtain⟨i,hi,rfl⟩:=CJ (0,[]) b;have:=h1 i hi a ha
 rwa [Dr,Dr,S8]at this
theorem kF {n:Int}:∀ {l seen:List (Int×Int)},(∀a∈l,0<=a.1/\0<=a.2/\a.2<n)->(l.map (·.1)).Nodup->(∀y∈seen,∀x∈l,y.1≠x.1)->HP n seen l=0
 | [],_,_,_,_=>rfl
 | x :: l,seen,h,c,hs=>by
  rw[gO,AC2]at c;have h1:=h x sc;have d:(seen.any λy=>y.1==x.1)=false:=by
   rw[AEE];intro y b;have:=hs y b x sc;simpa using this
  unfold HP;rw[As O1,As (by rw[d];simp)];refine kF (λa ha=>h a (by simp[ha])) c.2 λy b z hz=>?_;rcases IS.1 b with b|b
  .exact hs y b z (by simp[hz])
  rw[oF.1 b];exact λe=>c.1 (IN.2 ⟨z,hz,e.symm⟩)
theorem A3h {m:Int} (hs:(l.map (·.1)).Nodup) (h:∀a∈l,0<=a.1/\0<=a.2/\a.2<m):Hp l m=0:=kF h hs λy b=>by cases b
theorem kG {m:Int}:∀ {l:List AC},(∀x∈l,0<=x.1/\Hp x.2 m=0)->It m l=0
 | [],_=>rfl
 | x :: l,h=>by
  have:=h x sc;unfold It;rw[As O1,As (by rw[this.2];simp)];exact kG λy a=>h y (by simp[a])
section
variable {h:AE} (hh:H14 h)
include hh
theorem H14.hu:HU h:=⟨hh.ok,hh.inj,hh.b2⟩
omit hh in
theorem RR {f:List AC} (b:VF h f):Pg h f:=λx c a ha=>⟨b.ft x c a ha,(b.good.2 x c).2 a ha⟩
theorem kH (a:VF h f) {ty:List Int} (e:Hf h f=some ty):VF h (Ex f ty)/\WTy h f ty/\UL h f.length ty/\UK h f (Ex f ty) id:=by
 obtain⟨h1,g,d⟩:=XF hh.ok hh.inj hh.ft hh.ap (RR a) a.ty e;refine⟨A3g a d,h1,d,rfl,λi b c=>⟨b,by rw[DR];exact c⟩,λi b c=>?_,λi b c x j=>?_⟩
 .have:=g i.toNat O1;rw[Dr]at this;show Af h _ ((Ex f ty).getD i.toNat (0,[])).1=true
  rwa [Gz f ty O1]
 show BS ((Ex f ty).getD i.toNat (0,[])).2 x.1=x.2;rw[I0];exact A9p (a.srt hh.hu) j
theorem u6 (n:VF h f) (p:VF h g) (E:WTy h g (BU g)) (c:UK h f g m):∃ty,Hf h f=some ty/\UK h (Ex f ty) g m:=by
 have H:=p.pos
 let u:List Int:=(List.range f.length).map λi:Nat=>(g.getD (m (i:Int)).toNat (0,[])).1
 have k:∀i:Nat,i<f.length->u.getD i 0=(g.getD (m (i:Int)).toNat (0,[])).1:=λi hi=>by
  simp[u,AS,hi]
 have q:∀i:Nat,i<f.length->(m (i:Int)).toNat<g.length/\0<=m (i:Int):=λi hi=>by
  have:=c.rng (i:Int) O1 O1;omega
 have D:UL h f.length u:=⟨by simp[u],λt C=>by
  obtain⟨i,hi,rfl⟩:=IN.1 C;exact p.ty _ (Kk (q i (AAn.1 hi)).1 (0,[]))⟩
 have F:WTy h f u:=λi hi a ha=>by
  have z:a∈Am f (i:Int):=by show a∈(f.getD (i:Int).toNat (0,[])).2;rwa [S8]
  have h1:=c.arc (i:Int) O1 O1 a z;obtain⟨s,G⟩:=(n.good.2 _ (Kk hi (0,[]))).2 a ha;have y:=c.rng a.2 s G;obtain⟨b,A,v,w⟩:=jW (l:=Am g (m (i:Int))) (e:=a.1) (by rw[h1];exact y.1);have o:=E _ (q i hi).1 b (by exact A);rw[Dr,Dr,v,w,h1,S8]at o;rw[S8,k i hi,k a.2.toNat O1,ACY s];exact o
 obtain⟨ty,e,B⟩:=Tt hh.ok hh.inj hh.ft hh.ap (RR n) n.ty D F λi hi=>by
  rw[Dr,k i hi];have:=c.ty (i:Int) O1 O1
  rwa [S8]at this
 refine⟨ty,e,c.zero,λi j d=>c.rng i j (by rw[DR]at d;exact d),λi j d=>?_,λi j d x r=>?_⟩
 .rw[DR]at d;have:=B i.toNat O1;rw[k _ O1,ACY j]at this
  rwa [Gz f ty O1]
 rw[DR]at d;exact c.arc i j d x (by rw[Am,I0]at r;exact r)
theorem A70 (a:VF h f) (i:WTy h f (BU f)):Hf h f=some (BU f):=by
 have b:=pV a.ty;obtain⟨ty,e,g⟩:=Tt hh.ok hh.inj hh.ft hh.ap (RR a) a.ty b i (Py.refl hh.ok b);obtain⟨-,c,d⟩:=XF hh.ok hh.inj hh.ft hh.ap (RR a) a.ty e;rw[e,Py.anti hh.inj d b g c]
omit hh in
theorem Zb {f:List AC} (e:GP h f=0):WTy h f (BU f):=by
 unfold GP at e
 split at e
 .exact A6Z.1 e
 rename_i hn;exact absurd e hn
end
theorem NQ {ty:List Int} (e:Hf h f=some ty):DL h f=(Ex f ty,true):=by unfold DL;rw[e]
theorem Tv (e:Hf h f=none):DL h f=([],false):=by unfold DL;rw[e]
theorem UL.set {m:Nat} {u:List Int} (hu:UL h m u) {t:Int} (b:0<=t) (c:t<(h.1.length:Int)) (i:Nat):UL h m (u.set i t):=⟨by rw[AAx];exact hu.1,λx a=>by
 rcases ACV a with a|rfl
 .exact hu.2 x a
 exact⟨b,c⟩⟩
theorem Py.set (hk:Gt h) {m:Nat} {u:List Int} (hu:UL h m u) {t:Int} {i:Nat} (hi:i<m) (hs:Af h (u.getD i 0) t=true):Py h m u (u.set i t):=λk a=>by
 rw[N5 _ _ _ (by rw[hu.1];exact hi) k];split
 .rename_i e;rw[e];exact hs
 exact Us hk (hu.get a).1 (hu.get a).2
section
variable {h:AE} (hk:Gt h) (hn:A9v h) (hi:J5 h) (hf:eD h) (hap:HAp h) {m:Nat}
include hk hn hi hf hap
end
section
variable {h:AE} (hk:Gt h) (hn:A9v h) (hi:J5 h) (hf:eD h) (hap:HAp h) {f:List AC} (ha:Pg h f)
include hk hn hi hf hap ha
end
section
attribute [go_sem] Wy
theorem A9D (hh:H14 h) (a:VF h f):A2K h f:=⟨hh.ok,hh.inj,hh.ft,iN hh.b2 dg,a.good,RR a,a.ty⟩
noncomputable def cS (h:AE) (a b:List AC):List AC×Bool:=if (Lc h a b).2=true then DL h (Lc h a b).1 else ([],false)
end
theorem A3i (hk:Gt h) {N:List AC} {P:List (Int×Int)}:∀(k:Nat) (p ty:List Int) (ar:List (List (Int×Int))) (W:List (Int×Int)),JI h N P p ty ar W->nR p*((Lb N).length+1)+W.length<=k ->
  (∃E G o,JI h N P E G o [])\/(∀X v,Dq h X->¬zK h N P X v):=by
 intro k;induction k with
 | zero =>
  intro p ty ar W c g;have:W=[]:=AAs O1;subst this;exact .inl ⟨p,ty,ar,c⟩
 | succ k l =>
  intro p ty ar W c g;cases j:W.getLast? with
  | none =>
   have:W=[]:=List.getLast?_eq_none_iff.1 j;subst this;exact .inl ⟨p,ty,ar,c⟩
  | some w =>
   have r:W=W.dropLast++[w]:=by
    obtain⟨K,e⟩:=List.getLast?_eq_some_iff.1 j;rw[e];simp
   obtain⟨s,t⟩:=w;rw[r]at c g;rw[IF,oR]at g;generalize W.dropLast=V at *;obtain⟨⟨m,s1⟩,n,F⟩:=c.wr (s,t) sc;simp only at m s1 n F;obtain⟨M,fo⟩:=c.fo;have lp:=c.lp;obtain⟨a,ha,H,I⟩:=fo.root m O1;obtain⟨b,d,q,b1⟩:=fo.root n O1;by_cases f:a=b
   .subst f;exact l p ty ar V (A6K c ha d) O1
   cases i:(C4 h (ty.getD a.toNat 0) (ty.getD b.toNat 0)).2 with
   | false =>
    right;intro X v u C;have:=(uL hk c ha d u C).2.1;rw[i]at this;cases this
   | true =>
    have z:=A2R hk c ha d f i;refine l _ _ _ _ z ?_;have B:=A6L (a:=a) q b1 d.root f;have A:=uM (c.srt a.toNat) (λx D=>(c.arr a.toNat x D).2);have L:=iN (Uv (x:=ar.getD a.toNat []) (y:=ar.getD b.toNat [])) A;have J:nR p*((Lb N).length+1)=nR (p.set b.toNat a)*((Lb N).length+1)+((Lb N).length+1):=by rw[<-B,AE6,Nat.one_mul]
    rw[IF];omega
theorem Zc {h:AE} (hk:Gt h) {N:List AC}:∀(R P:List (Int×Int)) (p ty:List Int) (ar:List (List (Int×Int))),(∀q∈R,(0<=q.1/\q.1<(N.length:Int))/\(0<=q.2/\q.2<(N.length:Int)))->JI h N P p ty ar [] ->
  (∃l r g,JI h N (P++R) l r g [])\/(∀X v,Dq h X->¬zK h N (P++R) X v)
 | [],P,p,ty,ar,f,e=>.inl ⟨p,ty,ar,by rw[AAW];exact e⟩
 | q :: R,P,p,ty,ar,f,e=>by
  obtain⟨a,b⟩:=q;have c:=f (a,b) sc;have i:P++(a,b) :: R=P++[(a,b)]++R:=by simp
  rw[i];rcases A3i hk _ _ _ _ _ (A2S e c.1 c.2) (Of _) with ⟨m,o,n,h1⟩|k
  .exact Zc hk R (P++[(a,b)]) m o n (λq c=>f q (by simp[c])) h1
  exact .inr λX v j d=>k X v j ⟨d.rng,d.ty,d.arc,λq c=>d.eq q (AAh _ c)⟩
theorem A71 (hu:HU h) {a b X:List AC} (va:VF h a) (c:VF h b) (k:a.length+b.length<=100000) (i:Dq h X) {n:Int->Int} (h1:UK h a X m) (f:UK h b X n):∃U,pJ h a b U:=by
 have o:=IA a b;have hap:=va.pos;have r:=c.pos;have j:=pK va.good c.good k;rcases Zc hu.ok (N:=FG a b) [(0,(a.length:Int))] [] _ _ _ (λq d=>by
  have e:q=(0,(a.length:Int)):=by simpa using d
  subst e;simp only;omega) (A6N j (A2X va.ty c.ty) (zP va.str c.str)) with ⟨p,ty,ar,g⟩|l
 .exact⟨_,A6M va c g (A30 g O1 (A2Y (va.ft64 hu) (c.ft64 hu)))⟩
 exfalso;refine l X _ i (A2U (jZ va.good c.good (Uy h1) (Uy f)) λq d=>?_);have e:q=(0,(a.length:Int)):=by simpa using d
 subst e;try simp only
 rw[At O1,As O1,Int.sub_self,h1.zero,f.zero]
abbrev Wt (h:AE) (f:List AC):Prop:=VF h f/\WTy h f (BU f)
def u7 (h:AE) (l:List (List AC)) (X:List AC):Prop:=∀x∈l,∃m,UK h x X m
structure TU (h:AE) (l:List (List AC)) (U:List AC):Prop where
 wt:Wt h U
 hom:u7 h l U
 least:∀X,Wt h X->u7 h l X->∃m,UK h U X m
def NR (h:AE) (l:List (List AC)) (r:List AC×Bool):Prop:=(r.2=true/\TU h l r.1)\/(r=([],false)/\∀X,Wt h X->¬u7 h l X)
theorem NR.congr {l l':List (List AC)} {r:List AC×Bool} (H:NR h l r) (d:∀X,Wt h X->(u7 h l X↔u7 h l' X)):NR h l' r:=by
 rcases H with ⟨h1,a⟩|⟨h1,a⟩
 .exact .inl ⟨h1,a.wt,(d _ a.wt).1 a.hom,λX b c=>a.least X b ((d X b).2 c)⟩
 exact .inr ⟨h1,λX b c=>a X b ((d X b).2 c)⟩
theorem A3j (hk:Gt h) {l:List (List AC)} (b:∀x∈l,VF h x) {U X:List AC} (c:VF h U) (d:VF h X) (e:u7 h l U) (f:UK h U X m):u7 h l X:=λx a=>by
 obtain⟨k,q⟩:=e x a;exact⟨_,W7 hk (b x a).good (b x a).ty c.ty d.ty q f⟩
theorem H2 {x X:List AC}:u7 h [x] X↔∃m,UK h x X m:=by simp[u7]
theorem XK {x X:List AC} {l:List (List AC)}:u7 h (x :: l) X↔(∃m,UK h x X m)/\u7 h l X:=by simp[u7]
section
variable {h:AE} (hh:H14 h)
include hh
theorem A9E (c:VF h f) {ty:List Int} (e:Hf h f=some ty):Wt h (Ex f ty):=by
 obtain⟨h1,a,b,-⟩:=kH hh c e;refine⟨h1,?_⟩;rw[pW b.1];intro i hi;rw[I0];exact a i (by rw[<-DR f ty];exact hi)
theorem A72 (c:VF h f):NR h [f] (DL h f):=by
 cases e:Hf h f with
 | some ty =>
  rw[NQ e];refine .inl ⟨rfl,A9E hh c e,H2.2 ⟨_,(kH hh c e).2.2.2⟩,λX b d=>?_⟩;obtain⟨m,g⟩:=H2.1 d;obtain⟨i,a,q⟩:=u6 hh c b.1 b.2 g;rw[e]at a;cases a;exact⟨m,q⟩
 | none =>
  rw[Tv e];refine .inr ⟨rfl,λX b d=>?_⟩;obtain⟨m,g⟩:=H2.1 d;obtain⟨i,a,q⟩:=u6 hh c b.1 b.2 g;rw[e]at a;cases a
theorem A73 {a b:List AC} (va:VF h a) (k:VF h b) (p:a.length+b.length<=10000):NR h [a,b] (cS h a b):=by
 unfold cS;rcases cR (h:=h) a b with ⟨U,c,e⟩|⟨e,o⟩
 .rw[e,At rfl];refine(A72 hh c.vf).congr λX g=>?_;rw[H2,XK,H2];constructor
  .rintro⟨m,n⟩;obtain⟨i,d⟩:=c.left;obtain⟨j,f⟩:=c.right;exact⟨⟨_,W7 hh.ok va.good va.ty c.vf.ty g.1.ty d n⟩,_,W7 hh.ok k.good k.ty c.vf.ty g.1.ty f n⟩
  rintro⟨⟨i,d⟩,j,f⟩;exact c.least X g.1.ty i d j f
 rw[e,As Bool.false_ne_true];refine .inr ⟨rfl,λX g l=>?_⟩;rw[XK,H2]at l;obtain⟨⟨i,d⟩,j,f⟩:=l;obtain⟨U,c⟩:=A71 hh.hu va k O1 g.1.ty d f;exact o U c
omit hh in
theorem A3k {l l':List (List AC)} (c:∀x,x∈l↔x∈l') (X:List AC):u7 h l X↔u7 h l' X:=⟨λa x b=>a x ((c x).2 b),λa x b=>a x ((c x).1 b)⟩
omit hh in
theorem NR.perm {l l':List (List AC)} {r:List AC×Bool} (H:NR h l r) (a:∀x,x∈l↔x∈l'):NR h l' r:=H.congr λX _=>A3k a X
omit hh in
theorem u9 {a b:List AC}:(cS h a b).1.length<=a.length+b.length:=by
 unfold cS
 split
 .rename_i e
  have:=(j7 e).len
  cases c:Hf h (Lc h a b).1 with
  | none=>rw[Tv c];simp
  | some ty=>rw[NQ c,DR];exact this
 simp
omit hh in
theorem NR.vf {l:List (List AC)} {r:List AC×Bool} (H:NR h l r) (e:r.2=true):TU h l r.1:=by
 rcases H with ⟨-,b⟩|⟨a,-⟩
 .exact b
 rw[a]at e;cases e
end
theorem Lg (p:List Int) (g:List AC):(CM p g).length=p.length+g.length:=by simp[CM,XJ]
theorem Tw {g:List AC} {i:Int} (a:0<=i) (b:i<(p.length:Int)):(CM p g).getD i.toNat (0,[])=(0,[(p.getD i.toNat 0,i+1)]):=by grind [CM,Pn,XJ]
theorem RS {g:List AC} {y:Int} (a:0<=y) (b:y<(g.length:Int)):(CM p g).getD ((p.length:Int)+y).toNat (0,[])=((g.getD y.toNat (0,[])).1,EE p.length (g.getD y.toNat (0,[])).2):=by
 unfold CM;have e:((p.length:Int)+y).toNat=p.length+y.toNat:=by omega
 rw[e,AS,AAd (by rw[Pn];omega),Pn,AD2];rw[<-AS];exact ZN (λx:AC=>(x.1,EE p.length x.2)) (0,[]) (0,[]) O1
theorem Lh {g:List AC} {x:AC} (a:x∈CM p g):(∃i,i<p.length/\x=(0,[(p.getD i 0,(i:Int)+1)]))\/∃y∈g,x=(y.1,EE p.length y.2):=by
 rcases IS.1 a with h|h
 .obtain⟨i,hi,rfl⟩:=IN.1 h;exact .inl ⟨i,by simpa using hi,rfl⟩
 obtain⟨y,b,rfl⟩:=IN.1 h;exact .inr ⟨y,b,rfl⟩
theorem pY {b:Nat} (h:Xj l):Xj (EE b l):=by
 unfold EE Xj;rw[AC6];exact h
theorem Tx {g:List AC} (l:p.length<=1000) (c:Ae g) (j:0<g.length) (k:g.length<=10000):Ae (CM p g):=by
 have d:=Lg p g;refine⟨O1,λx h=>?_⟩;rcases Lh h with ⟨i,hi,rfl⟩|⟨y,e,rfl⟩
 .refine⟨sc,λa ha=>?_⟩;have:a=(p.getD i 0,(i:Int)+1):=by simpa using ha
  subst this;rw[d];simp only;omega
 refine⟨by unfold EE;rw[OR];exact(c.2 y e).1,λa ha=>?_⟩;obtain⟨b,f,rfl⟩:=IN.1 ha;have:=(c.2 y e).2 b f;rw[d];simp only;omega
theorem zW (vf:VF h f):Dy f f.length [] 0=(List.range f.length).map λ(i:Nat)=>(i:Int):=by
 have q:=vf.pos;have d:=G8 vf.good (r:=0) O1 O1;have l:=HQ f 0;have c:=λi=>Ki (f:=f) (r:=0) (i:=i);rw[vf.can]at l;simp only[vf.can]at c;generalize p:Dy f f.length [] 0=o at *;have m:UK h f f (λi=>o.getD i.toNat 0):=by
  refine⟨d.zero.1,λi g j=>d.ok.rng _ (AG o 0 O1),λi g j=>?_,λi g j a ha=>?_⟩
  .rw[c i.toNat O1];exact Sh h _
  rw[Am,c i.toNat O1]at ha;obtain⟨b,e,rfl⟩:=IN.1 ha;have k:=d.cl _ (AG o 0 O1) b e;show BS (Am f (o.getD i.toNat 0)) b.1=o.getD (EP o b.2).toNat 0;rw[(Ey k).2.2];exact NJ (cJ vf.str _) e
 have hu:=A2V vf.ro m (A2W vf.str);apply AAy
 .rw[OR,AE8];omega
 intro i h1 n;rw[ADe,ADZ];have:=hu i (i:Int) O1 O1 O1;simp only[S8,id]at this;rw[<-this,AS,AT h1];rfl
theorem zX (hf:Ae f) (h:Dy f f.length [] 0=(List.range f.length).map λ(i:Nat)=>(i:Int)):AO f 0=f:=by
 unfold AO;generalize p:Dy f f.length [] 0=l at *;have q:l.length=f.length:=by rw[h];simp
 have b:∀k,(hk:k<l.length)->l[k]=(k:Int):=λk hk=>by subst h;simp
 clear h;have hnd:l.Nodup:=by
  unfold List.Nodup;rw[oS];intro i j hi n o e;rw[b i hi,b j n]at e;omega
 have m:∀x,0<=x->x<(l.length:Int)->EP l x=x:=λx r s=>by
  have:=Iy hnd (i:=x.toNat) O1;have e:l.getD x.toNat 0=x:=by
   rw[AS,AT O1];show l[x.toNat]=x;rw[b _ O1];omega
  rw[e]at this;rw[this];omega
 apply AAy
 .rw[OR];omega
 intro i h1 c;rw[ADe,b i (by simpa using h1)];have d:f.getD (i:Int).toNat (0,[])=f[i]:=by simp[AS,c]
 unfold Ho;rw[d];have:∀a∈f[i].2,MG l a=a:=λa ha=>by
  have g:=(hf.2 _ (AAt c)).2 a ha;unfold MG;rw[m a.2 g.1 O1]
 rw[iF this,ADU]
theorem vA {Q R:List AC} {ψ:Int->Int} {C:Int->Prop} (h:Iso Q R ψ C) {pre:List Int} (j:∀i,C i->ψ i∉pre):∀(k:Nat) (t:List Int) (i:Int),(∀x∈t,C x)->C i->Dy R k (pre++t.map ψ) (ψ i)=pre++(Dy Q k t i).map ψ/\∀x∈Dy Q k t i,C x
 | 0,t,i,c,hi=>⟨rfl,c⟩
 | k+1,t,i,c,hi=>by
  have key:∀(l:List (Int×Int)) (t:List Int),(∀a∈l,C a.2)->(∀x∈t,C x) ->
    (l.map λa=>(a.1,ψ a.2)).foldl (BF R k) (pre++t.map ψ)=pre++(l.foldl (BF Q k) t).map ψ/\∀x∈l.foldl (BF Q k) t,C x:=by
   intro l;induction l with
   | nil=>intro t _ c;exact⟨rfl,c⟩
   | cons a l p =>
    intro t g c;have ha:=g a sc;have hs:BF R k (pre++t.map ψ) (a.1,ψ a.2)=pre++(BF Q k t a).map ψ/\∀x∈BF Q k t a,C x:=by
     unfold BF;by_cases f:a.2∈t
     .rw[At f,At (IS.2 (.inr (IN.2 ⟨_,f,rfl⟩)))];exact⟨rfl,c⟩
     have o:¬ψ a.2∈pre++t.map ψ:=by
      intro hh;rcases IS.1 hh with hh|hh
      .exact j _ ha hh
      obtain⟨x,d,e⟩:=IN.1 hh;exact f (h.inj x a.2 (c x d) ha e▸d)
     rw[As f];simp only[As o];exact vA h j k t a.2 c ha
    rw[gO,ON,ON,hs.1];exact p _ (λb n=>g b (by simp[n])) hs.2
  rw[Cu,Cu];have e:pre++t.map ψ++[ψ i]=pre++(t++[i]).map ψ:=by simp
  have m:(R.getD (ψ i).toNat (0,[])).2=(Am Q i).map λa=>(a.1,ψ a.2):=h.arc i hi;rw[m,e];refine key _ _ (h.cl i hi) λx d=>?_;rcases IS.1 d with d|d
  .exact c x d
  have:x=i:=by simpa using d
  rw[this];exact hi
abbrev cU (n:Nat):List Int:=(List.range n).map λ(i:Nat)=>(i:Int)
theorem kI {n:Nat} {x:Int} (h:x∈cU n):0<=x/\x<(n:Int):=by grind
theorem zY (n:Nat):cU (n+1)=cU n++[(n:Int)]:=by unfold cU;rw[ABV,ABX];rfl
theorem XL {p:List Int} {g:List AC}:∀(r j:Nat) (k:Nat),j+r=p.length->Dy (CM p g) (r+k) (cU j) (j:Int)=Dy (CM p g) k (cU p.length) (p.length:Int)
 | 0,j,k,h=>by rw[show j=p.length by omega,ACf]
 | r+1,j,k,h=>by
  rw[show r+1+k=(r+k)+1 by omega,Cu,Tw O1 O1,S8];show BF (CM p g) (r+k) (cU j++[(j:Int)]) (p.getD j 0,(j:Int)+1)=_;rw[<-zY];unfold BF;rw[As (λa=>by have:=kI a;simp only at this;omega)];have e:((j:Int)+1)=((j+1:Nat):Int):=by omega
  simp only[e];exact XL r (j+1) k O1
theorem zZ {g:List AC} (b:VF h g) (n:p.length<=1000) (l:g.length<=10000):AO (CM p g) 0=CM p g:=by
 have f:=b.pos;refine zX (Tx n b.good f l) ?_;rw[Lg];have d:=XL (p:=p) (g:=g) p.length 0 g.length O1;rw[show cU 0=[] from rfl,show ((0:Nat):Int)=0 from rfl]at d;rw[d];have k:Iso g (CM p g) (λi=>(p.length:Int)+i) (λi=>0<=i/\i<(g.length:Int)):=by
  refine⟨λi hi=>?_,λi hi a ha=>CS b.good ha,λi j hi q e=>by have e:(p.length:Int)+i=(p.length:Int)+j:=e;omega⟩;rw[Am,RS hi.1 hi.2];show EE p.length (Am g i)=_;unfold EE;refine iF λa _=>?_;show (a.1,a.2+(p.length:Int))=(a.1,(p.length:Int)+a.2);rw[Int.add_comm]
 have c:=(vA k (pre:=cU p.length) (λi hi m=>by have:=kI m;omega) g.length [] 0 (λx o=>by cases o) ⟨O1,O1⟩).1;rw[ACS,AAW,AEz,zW b]at c;rw[c];rw[List.range_add,ABX,AC0,AC0];refine AC4 _ (iF λi _=>?_);show (p.length:Int)+(i:Int)=((p.length+i:Nat):Int);omega
theorem A3l (h0:0<h.1.length) {g:List AC} (d:VF h g) (m:FtP h p) (l:p.length<=1000) (k:g.length<=10000):VF h (CM p g):=by
 have o:=d.pos;have r:=Lg p g;refine⟨Tx l d.good o k,O1,λx c=>?_,λx c=>?_,λx c a ha=>?_,zZ d l k,λi s t=>?_⟩
 .rcases Lh c with ⟨i,hi,rfl⟩|⟨y,f,rfl⟩
  .exact⟨sc,a2⟩
  exact d.ty y f
 .rcases Lh c with ⟨i,hi,rfl⟩|⟨y,f,rfl⟩
  .exact List.pairwise_singleton _ _
  exact pY (d.str y f)
 .rcases Lh c with ⟨i,hi,rfl⟩|⟨y,f,rfl⟩
  .have:a=(p.getD i 0,(i:Int)+1):=by simpa using ha
   rw[this];exact m _ (Ad hi)
  obtain⟨b,n,rfl⟩:=IN.1 ha;exact d.ft y f b n
 by_cases hi:i<=(p.length:Int)
 .refine⟨i-1,O1,O1,(p.getD (i-1).toNat 0,i-1+1),?_,a2⟩;rw[Am,Tw O1 O1];exact oF.2 rfl
 obtain⟨j,q,u,x,c,e⟩:=d.ro (i-p.length) O1 O1;refine⟨(p.length:Int)+j,O1,O1,(x.1,x.2+(p.length:Int)),?_,a2⟩;rw[Am,RS q O1];exact IN.2 ⟨x,c,rfl⟩
theorem z0 (hf:Ae f) {r:Int} (l:0<=r) (m:r<(f.length:Int)):Ae (AO f r)/\0<(AO f r).length:=by
 have c:=G8 hf l m;have h:=HQ f r;have g:=λi=>Ki (f:=f) (r:=r) (i:=i);generalize p:Dy f f.length [] r=o at *;have q:=c.ok.len;have n:=hf.1;have hz:=c.zero.2;refine⟨⟨O1,λx j=>?_⟩,O1⟩;obtain⟨i,hi,rfl⟩:=CJ (0,[]) j;rw[g i O1];have d:o.getD i 0∈o:=AG o 0 O1;have s:=c.ok.rng _ d;refine⟨?_,λa ha=>?_⟩
 .show (List.map (MG o) _).length<=_;rw[OR];exact(hf.2 _ (AG f (0,[]) (k:=(o.getD i 0).toNat) O1)).1
 obtain⟨b,e,rfl⟩:=IN.1 ha;have:=Ey (c.cl _ d b e);rw[h];exact⟨this.1,this.2.1⟩
theorem A74 (hf:Ae f) (b:Dq h f) {r:Int} (d:0<=r) (e:r<(f.length:Int)):Dq h (AO f r):=by
 have a:=G8 hf d e;intro x c;obtain⟨n,hn,rfl⟩:=IN.1 c;have g:=a.ok.rng n hn;exact b (f.getD n.toNat (0,[])) (AG f (0,[]) (k:=n.toNat) O1)
structure PF (h:AE) (S:List AC):Prop where
 good:Ae S
 pos:0<S.length
 ty:Dq h S
 str:∀x∈S,Xj x.2
 ft:∀x∈S,∀a∈x.2,0<=a.1/\a.1<(h.2.length:Int)
theorem kJ {S:List AC} (a:Ae S) {r:Int} (c:0<=r) (d:r<(S.length:Int)):∀x∈AO S r,∃n∈Dy S S.length [] r,(0<=n/\n<(S.length:Int))/\x=Ho S (Dy S S.length [] r) n:=λx b=>by
 obtain⟨n,hn,rfl⟩:=IN.1 b;exact⟨n,hn,(G8 a c d).ok.rng n hn,rfl⟩
theorem A75 {S:List AC} (b:Ae S) {r:Int} (c:0<=r) (d:r<(S.length:Int)):RO (AO S r):=by
 have k:=G8 b c d;have h:=W2 b S.length [] r (La _) c d sc;have n:=HQ S r;have g:=λi=>Ki (f:=S) (r:=r) (i:=i);generalize AO S r=C at *;generalize Dy S S.length [] r=o at *;intro i l m;obtain⟨j,p,a,ha,e⟩:=h i.toNat (by simp only[ABv];omega) O1;refine⟨(j:Int),O1,O1,MG o a,?_,?_⟩
 .rw[Am,S8,g j O1];exact IN.2 ⟨a,ha,rfl⟩
 show EP o a.2=i;rw[e,Iy k.ok.nd O1];omega
theorem A9F {S:List AC} (p:PF h S) {r:Int} (c:0<=r) (d:r<(S.length:Int)):VF h (AO S r):=by
 have f:=z0 p.good c d;refine⟨f.1,f.2,A74 p.good p.ty c d,λx e=>?_,λx e a ha=>?_,j6 p.good c d,A75 p.good c d⟩
 .obtain⟨n,-,hn,rfl⟩:=kJ p.good c d x e;show List.Pairwise _ (List.map _ _);rw[AC6];exact(cJ p.str n).imp λh=>h
 obtain⟨n,-,hn,rfl⟩:=kJ p.good c d x e;obtain⟨b,g,rfl⟩:=IN.1 ha;exact p.ft _ (AG S (0,[]) O1) b g
def ABC (f:List AC) (e:Int):List (Int×Int):=(f.getD 0 (0,[])).2.filter λa=>a.1 != e
def ABD (f:List AC) (e:Int):List AC:=((f.getD 0 (0,[])).1,EE 1 (ABC f e)) :: f.map λx=>(x.1,EE 1 x.2)
def A8k (f:List AC) (e:Int):List AC:=AO (ABD f e) 0
def Gd (l:List (Int×Int)) (e:Int):Int×Bool:=match l with
 | []=>(0,false)
 | a :: l=>if a.1=e then (a.2,true) else Gd l e
theorem XM (e:Int) (l:List (Int×Int)) (h:k<l.length):Gd (l.drop k) e=if (l.getD k (0,0)).1=e then ((l.getD k (0,0)).2,true) else Gd (l.drop (k+1)) e:=by
 rw[OS h];have e:l.getD k (0,0)=l[k]:=by simp[AS,h]
 rw[e];rfl
def A3m:Ab:={ ins:=[GZ,T3,T3],pre:=λ(f,n,_,_)=>FL f/\0<=n/\n<(List.length f:Int),out:=λ(f,n,e,_)=>[.p T3 (Gd (List.getD f n.toNat (0,[])).2 e).1,.p .bool (Gd (List.getD f n.toNat (0,[])).2 e).2] }
theorem A76:Ag Tryz.prog 111 A3m:=by
 refine fK [0,1,2,3,6,7,9,15,16,17,18,24] Tryz.func111 Tryz.ntmps111 AH ?_;rintro w0 O0 ⟨f,n,e,u⟩ c-⟨hf,h0,h1⟩;simp only[A3m,AL];repeat'(first|exact a6|apply eS rfl|apply AD|refine rX c ?_ ?_|refine rC ?_ ?_<;>intro a<;>try(cases a;done))
 .exact⟨h0,h1⟩
 generalize g:(f.getD n.toNat (0,[])).2=xs at *;have i:xs.length<=100000:=by
  rw[<-g];have hn:n.toNat<f.length:=by
   have h0:(0:Int)<=n:=h0;have h1:(n:Int)<(List.length f:Int):=h1;exact(AEx h0).2 h1
  exact hf.2 _ (AG f (0,[]) hn)
 refine AI (ι:={k:Nat//k<=xs.length/\Gd xs e=Gd (xs.drop k) e}) (λk=>⟨[(2,.p T3 e),(15,.p Nw xs),(16,.p (.int .i64) (xs.length:Int)),(17,.p (.int .i64) (k.1:Int))],[]⟩) (λk=>xs.length-k.1) ⟨0,DO _,rfl⟩ (AB [] rfl rfl ?_ ?_) (λk=>?_)
 .first|exact eN|refine eM ?_
 .first|exact eN|refine eM ?_
 obtain⟨k,hk,d⟩:=k;repeat'(first|exact a6|apply eS rfl|apply AD|refine rX c ?_ ?_|refine rC ?_ ?_<;>intro a<;>try(cases a;done))
 .exact a
 .have b:k<xs.length:=oN.1 a4;have h:=XM e xs b;rw[At a]at h;rw[d,h];exact fI c [.tmp 6,.tmp 7]
 .omega
 .have b:k<xs.length:=oN.1 a4;have h:=XM e xs b;rw[As a]at h;refine⟨⟨k+1,b,d.trans h⟩,a2,AB [] rfl rfl ?_ ?_⟩
  .first|exact eN|refine eM ?_
  first|exact eN|refine eM ?_
 have b:xs.drop k=[]:=NO (AAw.1 a);rw[b]at d;rw[d];exact fI c [.tmp 6,.tmp 7] (by first|exact eR|refine MJ ?_;exact⟨rfl,rfl⟩)
section
attribute [go_sem] A3m
def UM (f:List AC):Int->List Int->Int×Bool
 | n,[]=>(n,true)
 | n,e :: p=>if (Gd (Am f n) e).2=true then UM f (Gd (Am f n) e).1 p else (0,false)
theorem Zd (h:k<p.length):p.drop k=p.getD k 0 :: p.drop (k+1):=by
 rw[OS h];simp[AS,h]
theorem A3n {e:Int} (h:(Gd l e).2=true):∃a∈l,a.1=e/\a.2=(Gd l e).1:=by
 induction l with
 | nil=>simp[Gd]at h
 | cons a l g =>
  simp only[Gd]at h ⊢;split
  .rename_i c;exact⟨a,sc,c,rfl⟩
  rename_i c;rw[As c]at h;obtain⟨b,f,h1,d⟩:=g h;exact⟨b,by simp[f],h1,d⟩
def atS:Ab:={ ins:=[GZ,DH],pre:=λ(f,_,_)=>Ae f/\0<List.length f,out:=λ(f,p,_)=>[.p T3 (UM f 0 p).1,.p .bool (UM f 0 p).2] }
attribute [go_sem] atS
theorem ABE:Ag Tryz.prog 65 atS:=by
 refine fK [0,1,2,4,5,6,8,9,10,11,12,13,14,25] Tryz.func65 Tryz.ntmps65 (AF A76 AH) ?_;rintro w0 O0 ⟨f,p,u⟩ e ⟨-,⟨i,-⟩,-⟩ ⟨hf,h0⟩;simp only[AP]at i;simp only[atS,AL];have j:FL f:=⟨hf.1,λx l=>(hf.2 x l).1⟩;have h0:0<f.length:=h0;repeat'(first|exact a6|apply eS rfl|apply AD|refine rX e ?_ ?_|refine rC ?_ ?_<;>intro b<;>try(cases b;done))
 refine AI (ι:={s:Nat×Int//s.1<=p.length/\(0<=s.2/\s.2<(f.length:Int))/\UM f 0 p=UM f s.2 (p.drop s.1)}) (λs=>⟨[(2,.bp 2 [] 0),(6,.p T3 s.1.2),(11,.p DH p),(12,.p (.int .i64) (p.length:Int)),(13,.p (.int .i64) (s.1.1:Int))],[(2,.box 38 true [.p KT f])]⟩) (λs=>p.length-s.1.1) ⟨(0,0),DO _,⟨AD3 0,by show (0:Int)<_;omega⟩,rfl⟩ (AB [(2,.nm 2)] rfl rfl ?_ ?_) (λs=>?_)
 .first|exact eN|refine eM ?_
 .first|exact eN|refine eM ?_
 obtain⟨⟨k,n⟩,hk,hn,d⟩:=s;simp only at hk hn d ⊢;repeat'(first|exact a6|apply eS rfl|apply AD|refine rX e ?_ ?_|refine rC ?_ ?_<;>intro b<;>try(cases b;done))
 .exact b
 .exact⟨j,hn⟩
 .have c:k<p.length:=oN.1 a4;have h1:UM f 0 p=(0,false):=by
   rw[d,Zd c];simp only[UM];rw[As (by rw[b];simp)]
  exact fI e [.tmp 4,.tmp 5] (by rw[h1];exact eR)
 .omega
 .have c:k<p.length:=oN.1 a4;have h1:=d;rw[Zd c]at h1;simp only[UM]at h1;rw[At b]at h1;obtain⟨a,ha,-,h⟩:=A3n b;have g:=CS hf ha;rw[h]at g;refine⟨⟨(k+1,(Gd (f.getD n.toNat (0,[])).2 (p.getD k 0)).1),c,g,h1⟩,a2,AB [(2,.nm 2)] rfl rfl ?_ ?_⟩
  .first|exact eN|refine eM ?_
  first|exact eN|refine eM ?_
 have c:p.drop k=[]:=NO (AAw.1 b);rw[c]at d;exact fI e [.tmp 4,.tmp 5] (by rw[d];first|exact eR|refine MJ ?_;exact⟨rfl,rfl⟩)
end
def kK (h:AE):Int:=Ao h (sb [65,82,71,83])
def pZ (h:AE) (i:Nat):List Int:=kK h :: (List.replicate i (Df h).rest++[(Df h).first])
theorem A77 (h:AE) (i:Nat):(pZ h i).length=i+2:=by simp[pZ]
def I1 (pl:Nat->List Int):Nat->List (List AC)->List (List AC)
 | _,[]=>[]
 | i,k :: l=>CM (pl i) k :: I1 pl (i+1) l
noncomputable def G0 (h:AE) (pl:Nat->List Int):Nat->List AC->List (List AC)->List AC×Bool
 | _,f,[]=>(f,true)
 | i,f,k :: l=>if (cS h f (CM (pl i) k)).2=true then G0 h pl (i+1) (cS h f (CM (pl i) k)).1 l else ([],false)
theorem XN {pl:Nat->List Int} {x:List AC}:∀ {l:List (List AC)} {i:Nat},x∈I1 pl i l->∃j,j<l.length/\x=CM (pl (i+j)) (l.getD j [])
 | k :: l,i,h=>by
  rcases By.1 h with rfl|h
  .exact⟨0,sc,rfl⟩
  obtain⟨j,a,rfl⟩:=XN h;exact⟨j+1,by simpa using a,by rw[show i+(j+1)=i+1+j by omega];rfl⟩
theorem XO {h:AE} {pl:Nat->List Int}:∀ {l:List (List AC)} {i:Nat} {f:List AC},(∀x∈I1 pl i l,x.length<=100)->(G0 h pl i f l).1.length<=f.length+100*l.length
 | [],i,f,_=>Of _
 | k :: l,i,f,c=>by
  unfold G0;split
  .have h1:=u9 (h:=h) (a:=f) (b:=CM (pl i) k);have e:=c _ (TO (a:=CM (pl i) k) (l:=I1 pl (i+1) l));have g:=XO (h:=h) (pl:=pl) (l:=l) (i:=i+1) (f:=(cS h f (CM (pl i) k)).1) λx d=>c x (GO _ d);simp only[If];omega
  simp
section
variable {h:AE} (hh:H14 h)
include hh
theorem XP {pl:Nat->List Int}:∀(l:List (List AC)) (i:Nat) (f:List AC) (L:List (List AC)),NR h L (f,true)->(∀x∈L,VF h x)->(∀x∈I1 pl i l,VF h x/\x.length<=100)->f.length+100*l.length<=10000->NR h (L++I1 pl i l) (G0 h pl i f l)
 | [],i,f,L,H,o,q,r=>by
  show NR h (L++[]) (f,true);rw[AAW];exact H
 | k :: l,i,f,L,H,o,q,r=>by
  have hu:=q _ (TO (a:=CM (pl i) k) (l:=I1 pl (i+1) l));have g:=H.vf rfl;simp only[If]at r;have v:=u9 (h:=h) (a:=f) (b:=CM (pl i) k);have hs:NR h (L++[CM (pl i) k]) (cS h f (CM (pl i) k)):=by
   refine(A73 hh g.wt.1 hu.1 (by have:=hu.2;show f.length+_<=10000;omega)).congr λX j=>?_;rw[XK,H2];constructor
   .rintro⟨⟨m,d⟩,s⟩ x t;rcases IS.1 t with c|c
    .exact A3j hh.ok o g.wt.1 j.1 g.hom d x c
    rw[oF.1 c];exact s
   intro n;exact⟨g.least X j λx d=>n x (AAh _ d),n _ (ACi _ (oF.2 rfl))⟩
  show NR h (L++CM (pl i) k :: I1 pl (i+1) l) (G0 h pl i f (k :: l));unfold G0;split
  .rename_i p;have:=XP l (i+1) (cS h f (CM (pl i) k)).1 (L++[CM (pl i) k]) (by rw[<-p];exact hs) (λx d=>by
    rcases IS.1 d with c|c
    .exact o x c
    rw[oF.1 c];exact hu.1) (λx d=>q x (GO _ d)) O1
   rwa [AAp,ADa]at this
  rename_i p;refine .inr ⟨rfl,λX j n=>?_⟩;rcases hs with ⟨e,-⟩|⟨-,u⟩
  .exact p e
  refine u X j λx d=>n x ?_;rcases IS.1 d with c|c
  .exact AAh _ c
  exact ACi _ (by rw[oF.1 c];exact TO)
omit hh in
theorem z4 {f:List AC} (a:Wt h f):NR h [f] (f,true):=.inl ⟨rfl,a,H2.2 ⟨id,A2W a.1.str⟩,λ_ _ b=>H2.1 b⟩
end
theorem A9G (e:Sf h=true) (ha:0<=kK h) (i:Nat):FtP h (pZ h i):=by
 obtain⟨⟨h1,b⟩,-⟩:=A2F e;have c:=G7 h (sb [70,73,82,83,84]);have d:=G7 h (sb [82,69,83,84]);have f:=G7 h (sb [65,82,71,83]);intro x a;rcases By.1 a with rfl|a
 .exact⟨ha,f.2⟩
 rcases IS.1 a with a|a
 .rw[(List.mem_replicate.1 a).2];exact⟨b,d.2⟩
 rw[oF.1 a];exact⟨h1,c.2⟩
structure A9H (h:AE) (ar:Int) (f:List AC):Prop where
 arb:1<=ar/\ar<=2
 chk:GP h f=0
 args:0<=kK h
 lw:Sf h=true
 walk:∀i:Nat,(i:Int)<ar->∃n,A8f f 0 (pZ h i)=some n
def Dz (h:AE) (w:LW):Obj:=.box 232 true [.p GT h,.p T3 w.list,.p T3 w.cons,.p T3 w.null,.p T3 w.dlist,.p T3 w.first,.p T3 w.rest,.p T3 w.head,.p T3 w.last]
theorem A3o (h:AE) (w:LW) (f:List AC) (n:Int):BB Tryz.prog 147 [.p gL (wdF h w),.p GZ f,.p T3 n] [] [] (λres b=>res=.clo 163 [5,3,4]/\b=[(5,.box 3 false [.p T3 n]),(4,.box 38 true [.p KT f]),(3,Dz h w)]):=by
 refine JT [0,1,2,3,4,5,6] [] [] Tryz.func147 Tryz.ntmps147 AH ?_;intro w0 K O0 ρ0 a c d;simp only[Aq,wdF];repeat'(first|exact a6|apply eS rfl|refine rX a ?_ ?_)
 exact fM a [.tmp 6] (.clo 163 [5,3,4]) eT ⟨rfl,rfl⟩
abbrev WS:=List Int×List Int×Bool×Int
def Aa (f:List AC) (n:Int):AC:=f.getD n.toNat (0,[])
def Ze (h:AE) (w:LW) (f:List AC) (s:WS):WS:=(s.1++[s.2.2.2],if ET h w (Aa f s.2.2.2)=2 then s.2.1++[BS (Aa f s.2.2.2).2 w.first] else s.2.1,decide (ET h w (Aa f s.2.2.2)=1),BS (Aa f s.2.2.2).2 w.rest)
def Cf (h:AE) (w:LW) (f:List AC) (n:Int):Nat->WS
 | 0=>([],[],false,n)
 | i+1=>Ze h w f (Cf h w f n i)
def WGo (h:AE) (w:LW) (f:List AC) (n:Int) (i:Nat):Prop:=∀j,j<i->ET h w (Aa f (Cf h w f n j).2.2.2)=2/\(Cf h w f n j).2.2.2∉(Cf h w f n j).1
theorem U1 {h:AE} {w:LW} {f:List AC} {n:Int} (hf:Ae f) (n0:0<=n) (n1:n<(f.length:Int)):∀i,WGo h w f n i->ML f (Cf h w f n i).1/\(Cf h w f n i).1.length=i/\(0<=(Cf h w f n i).2.2.2/\(Cf h w f n i).2.2.2<(f.length:Int))/\(Cf h w f n i).2.1.length=i
 | 0,_=>⟨La f,rfl,⟨n0,n1⟩,rfl⟩
 | i+1,c=>by
  obtain⟨h1,d,a,e⟩:=U1 hf n0 n1 i (λj l=>c j O1);obtain⟨b,g⟩:=c i O1;have hk:=Sg b;refine⟨h1.snoc a.1 a.2 g,?_,⟨hk.2,?_⟩,?_⟩
  .show ((Cf h w f n i).1++_).length=_;rw[IF,d];rfl
  .exact Q8 O1 _ λx k=>(CS hf (n:=(Cf h w f n i).2.2.2) k).2
  show (if _ then _ else _:List Int).length=_;rw[At b,IF,e];rfl
def Hq (L:Go.Loop):Go.Loop:={ L with state:=.done,pending:=some .ret }
section
theorem Fc (h:AE) (s:ByteArray):AW h s<(h.1.length:Int):=by
 have:=cE s h.1 0;unfold AW;omega
def I8 (h:AE) (s:ByteArray) (t:Int):Bool:=decide (0<=AW h s)&&Af h (AW h s) t
def kL:Ab:={ ins:=[GT,T9,T3],pre:=λ(h,_,t,_)=>Gt h/\(0:Int)<=t/\t<(List.length (h:AE).1:Int),out:=λ(h,s,t,_)=>[.p .bool (I8 h s t)],lend:=true }
attribute [go_sem] kL
theorem A9I:Ag Tryz.prog 55 kL:=by
 refine fK [0,1,2,3,6,7] Tryz.func55 Tryz.ntmps55 (AF LZ (AF jQ AH)) ?_;rintro w0 O0 ⟨h,s,t,u⟩ a-⟨hk,h0,h1⟩;have hk:Gt h:=hk;have b:(h.1,h.2)=h:=rfl;have c:=Fc h s;simp only[kL,AL];repeat'(first|exact a6|apply eS rfl|refine rX a ?_ ?_)
 all_goals try simp only[b]at *
 .exact λd=>⟨⟨⟨d,c⟩,h0,h1⟩,hk⟩
 exact fI a [.tmp 6] (by first|exact eR|refine MJ ?_;rfl)
def CN (h:AE) (t:Int):ByteArray :=
 if I8 h ⟨#[104,97,110,100,108,101]⟩ t=true then ⟨#[104]⟩ else if I8 h ⟨#[101,118,101,110,116]⟩ t=true then ⟨#[101]⟩
 else if I8 h ⟨#[101,110,116,105,116,121]⟩ t=true then ⟨#[120]⟩ else if I8 h ⟨#[105,110,100,101,120]⟩ t=true then ⟨#[105]⟩ else ⟨#[]⟩
def AY (h:AE) (f:List AC) (n:Int) (s:ByteArray):Int:=if 0<=Ao h s then BS (Aa f n).2 (Ao h s) else -1
def Dt (h:AE) (f:List AC) (n:Int):ByteArray:=if n<0 then ⟨#[]⟩ else CN h (Aa f n).1
end
section
def XQ:Ab:={ ins:=[GT],pre:=λ(h,_)=>Gt h,out:=λ(h,_)=>[.p .bool (Sf h)],lend:=true }
attribute [go_sem] XQ
def p5:Ab:={ ins:=[GT,GZ,T3,T9],pre:=λ(_,f,n,_)=>Ae f/\(0:Int)<=n/\n<(List.length f:Int),out:=λ(h,f,n,s,_)=>[.p T3 (BS (List.getD (f:List AC) n.toNat (0,[])).2 (Ao h s))],lend:=true }
attribute [go_sem] p5
def cV:Ab:={ ins:=[GT,GZ,T3],pre:=λ(h,f,n,_)=>(Sf h=true/\Gt h)/\Ae f/\Dq h f/\(0:Int)<=n/\n<(List.length f:Int),out:=λ(h,f,n,_)=>[.p .bool (X5 h (Df h) (List.getD (f:List AC) n.toNat (0,[])))],lend:=true }
attribute [go_sem] cV
def cW:Ab:={ ins:=[GT,GZ,T3],pre:=λ(h,f,n,_)=>(Sf h=true/\Gt h)/\Ae f/\Dq h f/\(0:Int)<=n/\n<(List.length f:Int),out:=λ(h,f,n,_)=>[.p .bool (Og h (Df h) (List.getD (f:List AC) n.toNat (0,[])))],lend:=true }
attribute [go_sem] cW
def XR:Ab:={ ins:=[GT,GZ,T3],pre:=λ(h,f,n,_)=>(Sf h=true/\Gt h)/\Ae f/\Dq h f/\(0:Int)<=n/\n<(List.length f:Int),out:=λ(h,f,n,_)=>[.p .bool (!X5 h (Df h) (List.getD (f:List AC) n.toNat (0,[]))&&Tr h (Df h) (List.getD (f:List AC) n.toNat (0,[])))],lend:=true }
attribute [go_sem] XR
def A3p:Ab:={ ins:=[DH,T3],pre:=λ_=>True,out:=λ(l,n,_)=>[.p .bool (inF l n)],lend:=true }
attribute [go_sem] A3p
end
theorem VF.h0 (vf:VF h f):0<h.1.length:=by
 have a:=vf.pos;have:=vf.ty _ (AG f (0,[]) (k:=0) O1);omega
noncomputable def p6 (h:AE) (ar:Int) (f:List AC) (A:List (List AC)):List AC×Bool :=
 if (A.length:Int)≠ar then ([],false) else if (G0 h (pZ h) 0 f A).2=true then (A8k (G0 h (pZ h) 0 f A).1 (kK h),true) else ([],false)
structure RA (h:AE) (ar:Int) (f:List AC) (A:List (List AC)):Prop where
 hh:H14 h
 top:ABy h
 vf:VF h f
 lf:f.length<=12
 ok:A9H h ar f
 va:∀x∈A,VF h x/\x.length<=12
 la:A.length<=3
theorem RA.wt {ar:Int} (r:RA h ar f A):Wt h f:=⟨r.vf,Zb r.ok.chk⟩
theorem RA.un {ar:Int} (r:RA h ar f A):∀x∈I1 (pZ h) 0 A,VF h x/\x.length<=100:=λx b=>by
 obtain⟨j,a,rfl⟩:=XN b;have d:=A77 h (0+j);have hk:=r.va _ (AG A [] a);have c:=r.la;exact⟨A3l r.vf.h0 hk.1 (A9G r.ok.lw r.ok.args _) O1 O1,by rw[Lg];omega⟩
theorem RA.all {ar:Int} (r:RA h ar f A):NR h (f :: I1 (pZ h) 0 A) (G0 h (pZ h) 0 f A) :=
 XP r.hh A 0 f [f] (z4 r.wt) (by simp[r.vf]) r.un (by have:=r.lf;have:=r.la;omega)
theorem RA.len {ar:Int} (r:RA h ar f A):(G0 h (pZ h) 0 f A).1.length<=312:=by
 have:=XO (h:=h) (pl:=pZ h) (l:=A) (i:=0) (f:=f) λx a=>(r.un x a).2;have:=r.lf;have:=r.la;omega
theorem RA.res {ar:Int} (r:RA h ar f A) (a:(p6 h ar f A).2=true):(A.length:Int)=ar/\TU h (f :: I1 (pZ h) 0 A) (G0 h (pZ h) 0 f A).1/\p6 h ar f A=(A8k (G0 h (pZ h) 0 f A).1 (kK h),true):=by
 unfold p6 at a ⊢;by_cases h1:(A.length:Int)≠ar
 .rw[At h1]at a;cases a
 rw[As h1]at a ⊢;by_cases b:(G0 h (pZ h) 0 f A).2=true
 .rw[At b];exact⟨O1,r.all.vf b,rfl⟩
 rw[As b]at a;cases a
def OG (h:AE) (w:LW) (f:List AC) (la:Int) (a out:List Int) (m:Int):Option (List Int×Int) :=
 if m=la then some (if ET h w (Aa f m)=3 then (out,0) else ([],13)) else if m∈a then some ([],6) else if ET h w (Aa f m)=2 then none else some ([],13)
def DM (h:AE) (w:LW) (f:List AC) (la:Int):Nat->List Int->List Int->Int->List Int×Int
 | 0,_,_,_=>([],6)
 | k+1,a,out,m=>match OG h w f la a out m with
  | some r=>r
  | none=>DM h w f la k (a++[m]) (out++[BS (Aa f m).2 w.first]) (BS (Aa f m).2 w.rest)
def AR (h:AE) (f:List AC) (n:Int):List Int×Int :=
 if Sf h=true then
  if BS (Aa f n).2 (Df h).head<0\/BS (Aa f n).2 (Df h).last<0 then ([],13)
  else DM h (Df h) f (BS (Aa f n).2 (Df h).last) (f.length+1) [] [] (BS (Aa f n).2 (Df h).head)
 else ([],5)
def Oj (h:AE) (w:LW) (f:List AC) (la:Int) (s:WS):Option (List Int×Int):=OG h w f la s.1 s.2.1 s.2.2.2
def DGo (h:AE) (w:LW) (f:List AC) (la n:Int) (i:Nat):Prop:=∀j,j<i->Oj h w f la (Cf h w f n j)=none
theorem IB {w:LW} {la:Int} {a out:List Int} {m:Int} (e:OG h w f la a out m=none):m≠la/\m∉a/\ET h w (Aa f m)=2:=by
 unfold OG at e;split at e
 .cases e
 split at e
 .cases e
 split at e
 .exact⟨a4,a4,a4⟩
 cases e
theorem cX {w:LW} {la n:Int} {i:Nat} (a:DGo h w f la n i):WGo h w f n i:=λj b=>⟨(IB (a j b)).2.2,(IB (a j b)).2.1⟩
theorem Zf {h:AE} {w:LW} {f:List AC} {la n:Int} (k:Nat):∀i,DGo h w f la n i->DM h w f la (k+i) [] [] n=DM h w f la k (Cf h w f n i).1 (Cf h w f n i).2.1 (Cf h w f n i).2.2.2
 | 0,_=>rfl
 | i+1,b=>by
  have c:=Zf (h:=h) (w:=w) (f:=f) (la:=la) (n:=n) (k+1) i (λj d=>b j O1);have a:OG h w f la (Cf h w f n i).1 (Cf h w f n i).2.1 (Cf h w f n i).2.2.2=none:=b i O1;rw[show k+(i+1)=k+1+i by omega,c];rw[DM,a];show _=DM h w f la k (Ze h w f (Cf h w f n i)).1 (Ze h w f (Cf h w f n i)).2.1 (Ze h w f (Cf h w f n i)).2.2.2;unfold Ze;rw[At (IB a).2.2]
theorem Zg {w:LW} {la n:Int} (hf:Ae f) (n0:0<=n) (n1:n<(f.length:Int)) {i:Nat} (a:DGo h w f la n i) {r:List Int×Int} (b:Oj h w f la (Cf h w f n i)=some r):DM h w f la (f.length+1) [] [] n=r:=by
 obtain⟨h1,c,d,-⟩:=U1 hf n0 n1 i (cX a);have e:=h1.len;rw[show f.length+1=(f.length-i)+1+i by omega,Zf _ _ a,DM,show OG h w f la (Cf h w f n i).1 (Cf h w f n i).2.1 (Cf h w f n i).2.2.2=some r from b]
def dE:List (Nat×AV):=[(4,.bp 4 [] 0),(6,.bp 6 [] 0),(7,.bp 7 [] 0),(8,.bp 8 [] 0),(11,.bp 11 [] 0),(12,.bp 12 [] 0),(13,.bp 13 [] 0)]
def dO (h:AE) (w:LW) (f:List AC) (L:Go.Loop) (a:Array Value) (la:Int) (s:WS) (m:Int) (c:AV) (e:Int):List (Nat×Obj):=[(50,.box 3 false [.p T3 m]),(51,Dz h w),(52,.box 38 true [.p KT f]),(101,.loop L),(102,.frame a dE),(6,.box 71 false [c]),(7,.box 39 false [.p DG e]),(8,Dz h w),(4,.box 38 true [.p KT f]),(11,.box 3 false [.p T3 la]),(12,.box 71 false [.sr 60 T3 0 s.2.1.length]),(60,.arr 3 T3 s.2.1),(13,.box 188 false [.mp 24]),(24,.mapo T3 .bool (L9 s.1))]
def DRd (h:AE) (w:LW) (f:List AC) (la n:Int) (L:Go.Loop) (a:Array Value) (i:Nat) (b:Bool) (O:List (Nat×Obj)):Prop :=
 (Oj h w f la (Cf h w f n i)=some ((Cf h w f n i).2.1,0)/\b=false/\O=dO h w f (Hq L) a la (Cf h w f n i) (Cf h w f n i).2.2.2 (.sr 60 T3 0 (Cf h w f n i).2.1.length) 0) \/
 (∃e,Oj h w f la (Cf h w f n i)=some ([],e)/\b=false/\O=dO h w f (Hq L) a la (Cf h w f n i) (Cf h w f n i).2.2.2 (.raw (.slice none 0 0)) e) \/
 (Oj h w f la (Cf h w f n i)=none/\b=true/\O=dO h w f L a la (Cf h w f n (i+1)) (Cf h w f n i).2.2.2 (.raw (.slice none 0 0)) 0)
theorem z5 (h:AE) (w:LW) (f:List AC) (la n:Int) (D:WOk h w) (hf:Ae f) (C:Dq h f) (n0:0<=n) (n1:n<(f.length:Int)) (L:Go.Loop) (a:Array Value)
  (m:∀i,DGo h w f la n i->Yb Tryz.prog 101 [.p T3 (Cf h w f n i).2.2.2] (dO h w f L a la (Cf h w f n i) (Cf h w f n i).2.2.2 (.raw (.slice none 0 0)) 0) [50,51,52,101,102,6,7,8,4,11,12,13,24] (λres l=>∃b,res=.p .bool b/\DRd h w f la n L a i b l)) :
  BB Tryz.prog 163 [.yl 101,.bp 50 [] 0,.bp 51 [] 0,.bp 52 [] 0] (dO h w f L a la (Cf h w f n 0) n (.raw (.slice none 0 0)) 0) [50,51,52,101,102,6,7,8,4,11,12,13,24] (λres l=>res=.raw (.tuple #[])/\∃i,DGo h w f la n i/\DRd h w f la n L a i false l):=by
 refine JT [0,1,2,3,14] [] [] Tryz.func163 Tryz.ntmps163 (AF jT (AF cF AH)) ?_;intro w0 K O0 ρ0 c A B;simp only[Aq,dO,Dz];have t:=m;clear m;repeat' apply eS rfl
 refine AI (ι:={i:Nat//DGo h w f la n i}) (λi=>⟨[(0,.yl 101),(1,.bp 50 [] 0),(2,.bp 51 [] 0),(3,.bp 52 [] 0)],dO h w f L a la (Cf h w f n i.1) (Cf h w f n i.1).2.2.2 (.raw (.slice none 0 0)) 0⟩) (λi=>f.length+1-i.1) ⟨0,λj o=>by omega⟩ (AB [(50,.nm 50),(51,.nm 51),(52,.nm 52),(101,.nm 101),(102,.nm 102),(6,.nm 6),(7,.nm 7),(8,.nm 8),(4,.nm 4),(11,.nm 11),(60,.nm 60),(12,.nm 12),(13,.nm 13),(24,.nm 24)] rfl rfl ?_ ?_) (λi=>?_)
 .simp only[dO,Dz,dE,Cf];exact eN
 .simp only[dO,Dz,dE,Cf];exact eN
 obtain⟨i,hi⟩:=i;obtain⟨q,v,r,x⟩:=U1 hf n0 n1 i (cX hi);have u:=t i hi;have y:=q.len;have z:Cf h w f n (i+1)=Ze h w f (Cf h w f n i):=rfl;simp only[dO,Dz,dE];repeat' apply eS rfl
 refine cG 2 c ?_ ?_
 .trivial
 refine rY 101 101 c (u) [(50,.nm 50),(51,.nm 51),(52,.nm 52),(101,.nm 101),(102,.nm 102),(6,.nm 6),(7,.nm 7),(8,.nm 8),(4,.nm 4),(11,.nm 11),(60,.nm 60),(12,.nm 12),(13,.nm 13),(24,.nm 24)] [60] ?_ ?_ ?_
 .exact eN
 .simp only[dO,Dz,dE];exact eN
 rintro _ _ ⟨b,rfl,k⟩;have s:=k;rcases s with ⟨g,rfl,rfl⟩|⟨e,g,rfl,rfl⟩|⟨g,rfl,rfl⟩
 .refine⟨[(50,.nm 50),(51,.nm 51),(52,.nm 52),(101,.nm 101),(102,.nm 102),(6,.nm 6),(7,.nm 7),(8,.nm 8),(4,.nm 4),(11,.nm 11),(60,.nm 60),(12,.nm 12),(13,.nm 13),(24,.nm 24)],.p .bool false,dO h w f (Hq L) a la (Cf h w f n i) (Cf h w f n i).2.2.2 (.sr 60 T3 0 (Cf h w f n i).2.1.length) 0,rfl,rfl,?_,?_,rfl,rfl,?_⟩
  .simp only[dO,Dz,dE];exact eN
  .exact eN
  simp only[dO,Dz,dE];refine rL c ?_ ?_
  .trivial
  repeat'(first|apply eS rfl|refine rC ?_ ?_<;>intro d<;>try(cases d;done))
  refine Ev.ent (σ':=⟨[],dO h w f (Hq L) a la (Cf h w f n i) (Cf h w f n i).2.2.2 (.sr 60 T3 0 (Cf h w f n i).2.1.length) 0⟩) ?_ (AB [(50,.nm 50),(51,.nm 51),(52,.nm 52),(101,.nm 101),(102,.nm 102),(6,.nm 6),(7,.nm 7),(8,.nm 8),(4,.nm 4),(11,.nm 11),(60,.nm 60),(12,.nm 12),(13,.nm 13),(24,.nm 24)] rfl rfl ?_ ?_)
  .exact fM c [] (.raw (.tuple #[])) rfl ⟨rfl,i,hi,k⟩
  .simp only[dO,Dz,dE];exact eN
  exact eN
 .refine⟨[(50,.nm 50),(51,.nm 51),(52,.nm 52),(101,.nm 101),(102,.nm 102),(6,.nm 6),(7,.nm 7),(8,.nm 8),(4,.nm 4),(11,.nm 11),(60,.nm 60),(12,.nm 12),(13,.nm 13),(24,.nm 24)],.p .bool false,dO h w f (Hq L) a la (Cf h w f n i) (Cf h w f n i).2.2.2 (.raw (.slice none 0 0)) e,rfl,rfl,?_,?_,rfl,rfl,?_⟩
  .simp only[dO,Dz,dE];exact eN
  .exact eN
  simp only[dO,Dz,dE];refine rL c ?_ ?_
  .trivial
  repeat'(first|apply eS rfl|refine rC ?_ ?_<;>intro d<;>try(cases d;done))
  refine Ev.ent (σ':=⟨[],dO h w f (Hq L) a la (Cf h w f n i) (Cf h w f n i).2.2.2 (.raw (.slice none 0 0)) e⟩) ?_ (AB [(50,.nm 50),(51,.nm 51),(52,.nm 52),(101,.nm 101),(102,.nm 102),(6,.nm 6),(7,.nm 7),(8,.nm 8),(4,.nm 4),(11,.nm 11),(60,.nm 60),(12,.nm 12),(13,.nm 13),(24,.nm 24)] rfl rfl ?_ ?_)
  .exact fM c [] (.raw (.tuple #[])) rfl ⟨rfl,i,hi,k⟩
  .simp only[dO,Dz,dE];exact eN
  exact eN
 have hk:=IB g;refine⟨[(50,.nm 50),(51,.nm 51),(52,.nm 52),(101,.nm 101),(102,.nm 102),(6,.nm 6),(7,.nm 7),(8,.nm 8),(4,.nm 4),(11,.nm 11),(60,.nm 60),(12,.nm 12),(13,.nm 13),(24,.nm 24)],.p .bool true,dO h w f L a la (Cf h w f n (i+1)) (Cf h w f n i).2.2.2 (.raw (.slice none 0 0)) 0,rfl,rfl,?_,?_,rfl,rfl,?_⟩
 .simp only[dO,Dz,dE];exact eN
 .exact eN
 simp only[dO,Dz,dE];refine rL c ?_ ?_
 .trivial
 repeat'(first|apply eS rfl|apply AD|refine rX c ?_ ?_|refine rC ?_ ?_<;>intro d<;>try(cases d;done))
 .exact⟨hf,r⟩
 .refine⟨⟨i+1,λj o=>(Nat.lt_succ_iff_lt_or_eq.1 o).elim (hi j) λe=>by rw[e];exact g⟩,a2,AB [(50,.nm 50),(51,.nm 51),(52,.nm 52),(101,.nm 101),(102,.nm 102),(6,.nm 6),(7,.nm 7),(8,.nm 8),(4,.nm 4),(11,.nm 11),(60,.nm 60),(12,.nm 12),(13,.nm 13),(24,.nm 24)] rfl rfl ?_ ?_⟩
  .simp only[dO,Dz,dE];refine eM ?_;rfl
  exact eN
 exact absurd hk.2.2 d
theorem p7 (h:AE) (f:List AC) (n:Int) (k:Ae f) (H:Dq h f) (n0:0<=n) (n1:n<(f.length:Int)):BB Tryz.prog 113 [.p GT h,.p GZ f,.p T3 n] [] [] (λres am=>res=.tup [.p DH (AR h f n).1,.p DG (AR h f n).2]):=by
 refine fKR [0,1,2,3,4,6,7,8,9,10,11,12,13,14,15,22,39,44,45,50,59,63,67] [78] [] Tryz.func113 Tryz.ntmps113 (AF A2J (AF jT (AF cF AH))) ?_;intro w0 K O0 ρ0 c ah ai;simp only[Aq];have S:(h.1,h.2)=h:=rfl;repeat'(first|exact a6|apply eS rfl|refine rX c ?_ ?_|refine rC ?_ ?_<;>intro d<;>try(cases d;done))
 all_goals simp only[S]at *
 .have l:Sf h=false:=by
   cases j:Sf h with
   | true=>rw[j]at d;exact absurd rfl d
   | false=>rfl
  have s:AR h f n=([],5):=by unfold AR;rw[l,As sc]
  simp only[l,ACT,AD1,s];exact Ye c [.cell 6 71,.cell 7 39] rfl (.inl rfl) (.tup [.p DH [],.p DG 5]) eT rfl
 .exact⟨k,n0,n1⟩
 .have l:Sf h=true:=by
   have q:((if Sf h=true then (0:Int) else 5) != 0)=false:=by assumption
   cases j:Sf h with
   | false=>rw[j]at q;exact absurd q dg
   | true=>rfl
  simp only[At l,wdF]at *;have s:AR h f n=([],13):=by unfold AR;rw[At l];exact At d
  rw[s];exact Ye c [.cell 6 71,.cell 7 39] rfl (.inl rfl) (.tup [.p DH [],.p DG 13]) eT rfl
 have l:Sf h=true:=by
  have q:((if Sf h=true then (0:Int) else 5) != 0)=false:=by assumption
  cases j:Sf h with
  | false=>rw[j]at q;exact absurd q dg
  | true=>rfl
 simp only[At l,wdF]at *;have E:=A2F l;have D:=A2I h;have I:WOk h (Df h):=⟨⟨E.2.1,D.1.2.1⟩,E.2.2.1,D.1.2.2.1⟩;have C:AR h f n=DM h (Df h) f (BS (Aa f n).2 (Df h).last) (f.length+1) [] [] (BS (Aa f n).2 (Df h).head):=by
  unfold AR;rw[At l];exact As (λq=>q.elim (λq=>absurd d.1 (AEl.2 q)) λq=>absurd d.2 (AEl.2 q))
 have u:BS (Aa f n).2 (Df h).head<(f.length:Int):=Q8 O1 _ λx Z=>(Q9 k n.toNat x Z).2;have t:0<=BS (Aa f n).2 (Df h).head:=d.1;have G:f.getD n.toNat (0,[])=Aa f n:=rfl;simp only[G]at *;rw[C];generalize af:Df h=w at *;generalize BS (Aa f n).2 w.head=a at *;generalize BS (Aa f n).2 w.last=la at *;clear G C d n0 n1;refine Ev.ent (σ':=⟨[(10,.p T3 a),(4,.bp 4 [] 0),(6,.bp 6 [] 0),(7,.bp 7 [] 0),(8,.bp 8 [] 0),(11,.bp 11 [] 0),(12,.bp 12 [] 0),(13,.bp 13 [] 0)],[(6,.box 71 false [.raw (.slice none 0 0)]),(7,.box 39 false [.p DG 0]),(8,Dz h w),(4,.box 38 true [.p KT f]),(11,.box 3 false [.p T3 la]),(12,.box 71 false [.raw (.slice none 0 0)]),(13,.box 188 false [.mp 24]),(24,.mapo T3 .bool [])]⟩) ?_ (AB [(6,.nm 6),(7,.nm 7),(8,.nm 8),(4,.nm 4),(11,.nm 11),(12,.nm 12),(13,.nm 13),(24,.nm 40)] rfl rfl ?_ ?_)
 .simp only[Dz];refine cP 3 c ?_ ?_
  .trivial
  refine rM c (A3o h w f a) [] [] ?_ ?_ ?_
  .simp only[wdF];exact eN
  .exact eN
  rintro _ _ ⟨rfl,rfl⟩;refine⟨[(50,.nm 5),(52,.nm 4),(51,.nm 3)],.clo 163 [50,51,52],[(50,.box 3 false [.p T3 a]),(52,.box 38 true [.p KT f]),(51,Dz h w)],rfl,rfl,?_,?_,rfl,rfl,E7 ?_⟩
  .simp only[Dz];exact eN
  .exact eN
  simp only[Dz];repeat' apply eS rfl
  refine gG c rfl rfl a1 101 103 102 rfl rfl rfl rfl ?_;intro L o B M N O P Q Y;refine⟨_,dO h w f L o la (Cf h w f a 0) a (.raw (.slice none 0 0)) 0,[50,51,52,101,102,6,7,8,4,11,12,13,24],_,[(50,.nm 50),(51,.nm 51),(52,.nm 52),(101,.nm 101),(102,.nm 102),(6,.nm 6),(7,.nm 7),(8,.nm 8),(4,.nm 4),(11,.nm 11),(60,.nil),(12,.nm 12),(13,.nm 13),(24,.nm 24)],[60],z5 h w f la a I k H t u L o ?_,rfl,rfl,?_,?_,rfl,?_⟩
  .intro i hi;obtain⟨J,ad,A,ae⟩:=U1 k t u i (cX hi);have ag:=J.len;have v:=A6C (Cf h w f a i).1 (Cf h w f a i).2.2.2;have V:lwO (h,w.list,w.cons,w.null,w.dlist,w.first,w.rest,w.head,w.last)=w:=rfl;have W:L9 (Cf h w f a (i+1)).1=Fd T3 .bool (Cf h w f a i).2.2.2 true (L9 (Cf h w f a i).1):=by
    show L9 ((Cf h w f a i).1++[(Cf h w f a i).2.2.2])=_;simp[L9]
   have hT:=c.T;have hF:=c.F;refine gE (fr:=102) rfl rfl B O P Q N Y rfl a5 sc rfl rfl a5 a5 hT hF ?_;intro an aa ab ao al c aj ak j;simp only[dO,Dz,dE,Hb];repeat'(first|exact a6|apply AD|refine rX c ?_ ?_)
   refine⟨rfl,?_⟩;repeat'(first|exact a6|apply eS rfl|refine rX c ?_ ?_|refine rC ?_ ?_<;>intro d<;>try(cases d;done))
   all_goals try simp only[V]at *
   all_goals try simp only[show ∀m:Int,f.getD m.toNat (0,[])=Aa f m from λ_=>rfl]at *
   .exact⟨I,k,H,A⟩
   .have g:Oj h w f la (Cf h w f a i)=some ((Cf h w f a i).2.1,0):=(At d.1).trans (by rw[At d.2]);refine Ev.ent (σ':=⟨[],dO h w f { L with state:=.busy } o la (Cf h w f a i) (Cf h w f a i).2.2.2 (.sr 60 T3 0 (Cf h w f a i).2.1.length) 0⟩) ?_ (AB [(50,.nm 50),(51,.nm 51),(52,.nm 52),(101,.nm 101),(102,.nm 102),(6,.nm 6),(7,.nm 7),(8,.nm 8),(4,.nm 4),(11,.nm 11),(60,.nm 60),(12,.nm 12),(13,.nm 13),(24,.nm 24)] rfl rfl ?_ ?_)
    .refine Nu c (yn:=101) rfl rfl sc j ⟨false,rfl,.inl ⟨g,rfl,?_⟩⟩;simp only[dO,Dz,dE,Hq,go_sem,Nat.reduceEqDiff,reduceCtorEq,Nat.reduceAdd,Nat.reduceSub,Nat.reduceMul,Nat.reduceLeDiff,Nat.reduceLT,Int.reduceLE,Int.reduceToNat,Int.reduceNeg,↓reduceIte]
    .simp only[dO,Dz,dE];exact eN
    exact eN
   .have g:Oj h w f la (Cf h w f a i)=some ([],13):=(At a4).trans (by rw[As (d a4)]);refine Ev.ent (σ':=⟨[],dO h w f { L with state:=.busy } o la (Cf h w f a i) (Cf h w f a i).2.2.2 (.raw (.slice none 0 0)) 13⟩) ?_ (AB [(50,.nm 50),(51,.nm 51),(52,.nm 52),(101,.nm 101),(102,.nm 102),(6,.nm 6),(7,.nm 7),(8,.nm 8),(4,.nm 4),(11,.nm 11),(60,.nm 60),(12,.nm 12),(13,.nm 13),(24,.nm 24)] rfl rfl ?_ ?_)
    .refine Nu c (yn:=101) rfl rfl sc j ⟨false,rfl,.inr (.inl ⟨13,g,rfl,?_⟩)⟩;simp only[dO,Dz,dE,Hq,go_sem,Nat.reduceEqDiff,reduceCtorEq,Nat.reduceAdd,Nat.reduceSub,Nat.reduceMul,Nat.reduceLeDiff,Nat.reduceLT,Int.reduceLE,Int.reduceToNat,Int.reduceNeg,↓reduceIte]
    .simp only[dO,Dz,dE];exact eN
    exact eN
   .have U:(Cf h w f a i).2.2.2∈(Cf h w f a i).1:=by
     have r:(Bc T3 .bool (Cf h w f a i).2.2.2 (L9 (Cf h w f a i).1)).getD false=true:=by assumption
     rw[v]at r;simpa[inF] using r
    have g:Oj h w f la (Cf h w f a i)=some ([],6):=(As a4).trans (At U);refine Ev.ent (σ':=⟨[],dO h w f { L with state:=.busy } o la (Cf h w f a i) (Cf h w f a i).2.2.2 (.raw (.slice none 0 0)) 6⟩) ?_ (AB [(50,.nm 50),(51,.nm 51),(52,.nm 52),(101,.nm 101),(102,.nm 102),(6,.nm 6),(7,.nm 7),(8,.nm 8),(4,.nm 4),(11,.nm 11),(60,.nm 60),(12,.nm 12),(13,.nm 13),(24,.nm 24)] rfl rfl ?_ ?_)
    .refine Nu c (yn:=101) rfl rfl sc j ⟨false,rfl,.inr (.inl ⟨6,g,rfl,?_⟩)⟩;simp only[dO,Dz,dE,Hq,go_sem,Nat.reduceEqDiff,reduceCtorEq,Nat.reduceAdd,Nat.reduceSub,Nat.reduceMul,Nat.reduceLeDiff,Nat.reduceLT,Int.reduceLE,Int.reduceToNat,Int.reduceNeg,↓reduceIte]
    .simp only[dO,Dz,dE];exact eN
    exact eN
   .have z:(Cf h w f a i).2.2.2∉(Cf h w f a i).1:=by
     have r:(Bc T3 .bool (Cf h w f a i).2.2.2 (L9 (Cf h w f a i).1)).getD false=false:=by assumption
     rw[v]at r;intro y;have:=AEE.1 r _ y;simp at this
    have g:Oj h w f la (Cf h w f a i)=some ([],13):=(As a4).trans ((As z).trans (As a4));refine Ev.ent (σ':=⟨[],dO h w f { L with state:=.busy } o la (Cf h w f a i) (Cf h w f a i).2.2.2 (.raw (.slice none 0 0)) 13⟩) ?_ (AB [(50,.nm 50),(51,.nm 51),(52,.nm 52),(101,.nm 101),(102,.nm 102),(6,.nm 6),(7,.nm 7),(8,.nm 8),(4,.nm 4),(11,.nm 11),(60,.nm 60),(12,.nm 12),(13,.nm 13),(24,.nm 24)] rfl rfl ?_ ?_)
    .refine Nu c (yn:=101) rfl rfl sc j ⟨false,rfl,.inr (.inl ⟨13,g,rfl,?_⟩)⟩;simp only[dO,Dz,dE,Hq,go_sem,Nat.reduceEqDiff,reduceCtorEq,Nat.reduceAdd,Nat.reduceSub,Nat.reduceMul,Nat.reduceLeDiff,Nat.reduceLT,Int.reduceLE,Int.reduceToNat,Int.reduceNeg,↓reduceIte]
    .simp only[dO,Dz,dE];exact eN
    exact eN
   .refine⟨⟨k,A⟩,?_⟩;have:=k.1;simp only[AP];omega
   have z:(Cf h w f a i).2.2.2∉(Cf h w f a i).1:=by
    have r:(Bc T3 .bool (Cf h w f a i).2.2.2 (L9 (Cf h w f a i).1)).getD false=false:=by assumption
    rw[v]at r;intro y;have:=AEE.1 r _ y;simp at this
   have hk:ET h w (Aa f (Cf h w f a i).2.2.2)=2:=by simpa using d
   have g:Oj h w f la (Cf h w f a i)=none:=(As a4).trans ((As z).trans (At hk));have X:(Cf h w f a (i+1)).2.1=(Cf h w f a i).2.1++[BS (Aa f (Cf h w f a i).2.2.2).2 w.first]:=At hk;refine Ev.ent (σ':=⟨[],dO h w f { L with state:=.busy } o la (Cf h w f a (i+1)) (Cf h w f a i).2.2.2 (.raw (.slice none 0 0)) 0⟩) ?_ (AB [(50,.nm 50),(51,.nm 51),(52,.nm 52),(101,.nm 101),(102,.nm 102),(6,.nm 6),(7,.nm 7),(8,.nm 8),(4,.nm 4),(11,.nm 11),(60,.nm 60),(12,.nm 12),(13,.nm 13),(24,.nm 24)] rfl rfl ?_ ?_)
   .refine Yc c (yn:=101) rfl rfl sc j ⟨true,rfl,.inr (.inr ⟨g,rfl,?_⟩)⟩;simp only[dO,Dz,dE,go_sem,Nat.reduceEqDiff,reduceCtorEq,Nat.reduceAdd,Nat.reduceSub,Nat.reduceMul,Nat.reduceLeDiff,Nat.reduceLT,Int.reduceLE,Int.reduceToNat,Int.reduceNeg,↓reduceIte,jB B M]
   .simp only[dO,Dz,dE,W,X];exact eN
   exact eN
  .simp only[Bk,dO,Dz,dE,Cf];exact eN
  .simp only[Bk,dO,Dz,dE,Cf];refine eM ?_;rfl
  rintro _ _ ⟨rfl,i,hi,R⟩;rcases R with ⟨g,-,rfl⟩|⟨e,g,-,rfl⟩|⟨g,q,rfl⟩
  .have s:=Zg k t u hi g;refine⟨[(50,.nm 50),(51,.nm 51),(52,.nm 52),(101,.nm 101),(102,.nm 102),(6,.nm 6),(7,.nm 7),(8,.nm 8),(4,.nm 4),(11,.nm 11),(60,.nm 60),(12,.nm 12),(13,.nm 13),(24,.nm 24)],dO h w f (Hq L) o la (Cf h w f a i) (Cf h w f a i).2.2.2 (.sr 60 T3 0 (Cf h w f a i).2.1.length) 0,Hq L,rfl,rfl,?_,rfl,rfl,rfl,rfl,?_⟩
   .simp only[dO,Dz,dE];exact eN
   intro b;simp only[Hq,EvJ,dO,Dz,dE,Bk,go_sem,Nat.reduceEqDiff,reduceCtorEq,Nat.reduceAdd,Nat.reduceSub,Nat.reduceMul,Nat.reduceLeDiff,Nat.reduceLT,Int.reduceLE,Int.reduceToNat,Int.reduceNeg,↓reduceIte];replace c:=SE (dn:=103) (b:=b) c;refine CO [60] ?_;repeat' apply eS rfl
   refine Ev.ent (σ':=⟨[(6,.bp 6 [] 0),(7,.bp 7 [] 0)],[(6,.box 71 false [.p DH (Cf h w f a i).2.1]),(7,.box 39 false [.p DG 0]),(103,.dfr)]⟩) ?_ (AB [(6,.nm 6),(7,.nm 7),(103,.nm 103)] rfl rfl ?_ ?_)
   .rw[s];exact V1 c [.cell 6 71,.cell 7 39] rfl (.inl rfl) rfl rfl (.tup [.p DH (Cf h w f a i).2.1,.p DG 0]) eT rfl
   .exact eN
   exact eN
  .have s:=Zg k t u hi g;refine⟨[(50,.nm 50),(51,.nm 51),(52,.nm 52),(101,.nm 101),(102,.nm 102),(6,.nm 6),(7,.nm 7),(8,.nm 8),(4,.nm 4),(11,.nm 11),(60,.nm 60),(12,.nm 12),(13,.nm 13),(24,.nm 24)],dO h w f (Hq L) o la (Cf h w f a i) (Cf h w f a i).2.2.2 (.raw (.slice none 0 0)) e,Hq L,rfl,rfl,?_,rfl,rfl,rfl,rfl,?_⟩
   .simp only[dO,Dz,dE];exact eN
   intro b;simp only[Hq,EvJ,dO,Dz,dE,Bk,go_sem,Nat.reduceEqDiff,reduceCtorEq,Nat.reduceAdd,Nat.reduceSub,Nat.reduceMul,Nat.reduceLeDiff,Nat.reduceLT,Int.reduceLE,Int.reduceToNat,Int.reduceNeg,↓reduceIte];replace c:=SE (dn:=103) (b:=b) c;repeat' apply eS rfl
   refine Ev.ent (σ':=⟨[(6,.bp 6 [] 0),(7,.bp 7 [] 0)],[(6,.box 71 false [.p DH []]),(7,.box 39 false [.p DG e]),(103,.dfr)]⟩) ?_ (AB [(6,.nm 6),(7,.nm 7),(103,.nm 103)] rfl rfl ?_ ?_)
   .rw[s];exact V1 c [.cell 6 71,.cell 7 39] rfl (.inl rfl) rfl rfl (.tup [.p DH [],.p DG e]) eT rfl
   .exact eN
   exact eN
  cases q
 .simp only[Dz];exact eN
 exact eN
section
def NS:Ab:={ ins:=[GT,GZ,T3],pre:=λ(h,f,n,_)=>Ae f/\Dq h f/\(0:Int)<=n/\n<(List.length f:Int),out:=λ(h,f,n,_)=>[.p DH (AR h f n).1,.p DG (AR h f n).2] }
attribute [go_sem] NS
theorem kM:Ag Tryz.prog 113 NS:=by
 refine J0 ⟨_,Tryz.func113,a5,a5⟩ (λds e=>?_) (λds r a=>?_)
 .obtain⟨h,f,n,u⟩:=ds;obtain⟨h1,b,c,d⟩:=e;refine⟨[.p GT h,.p GZ f,.p T3 n],λw O t g=>?_,p7 h f n h1 b c d⟩;obtain⟨v1,o,rfl,i,l,q,rfl,j,m,s,rfl,k,rfl⟩:=g;exact⟨v1,_,rfl,EL i,l,_,rfl,EL j,m,_,rfl,EL k,rfl⟩
 simp only[NS,By,ACm,ADW]at a;rcases a with rfl|rfl
 .exact⟨_,_,rfl⟩
 exact⟨_,_,rfl⟩
end
def RT (h:AE) (f:List AC):Prop:=∀x∈f,∀a∈x.2,0<=a.1/\a.1<(h.2.length:Int)
def Kl (h:AE) (a:Int×Int):ByteArray:=(h.2.getD a.1.toNat (ByteArray.empty,0)).1
def F6 (h:AE) (f:List AC) (a:Int×Int):Option PO:=if AK (Kl h a) ⟨#[76,65,66,69,76]⟩=false/\AK (Dt h f a.2) ⟨#[]⟩=false then some (Kl h a,a.2) else none
def Xk (h:AE) (f:List AC) (n:Int):ByteArray:=(h.1.getD (Aa f n).1.toNat Rm).1
def FM (h:AE) (f:List AC) (n:Int):Bool:=I8 h ⟨#[114,101,108]⟩ (Aa f n).1&&BK (Xk h f n) false&&AK (Dt h f (AY h f n ⟨#[76,65,66,69,76]⟩)) ⟨#[104]⟩
def Ba (h:AE) (f:List AC) (n:Int):FX×Bool :=
 if FM h f n=true then ((Xk h f n,AY h f n ⟨#[76,65,66,69,76]⟩,(Aa f n).2.filterMap (F6 h f)),true) else ((Xk h f n,AY h f n ⟨#[76,65,66,69,76]⟩,[]),false)
def ABF (h:AE) (f:List AC):Prop:=Gt h/\Ae f/\Dq h f/\RT h f
theorem J7 (a:Ae f) (n:Int) (s:ByteArray) (h0:0<f.length):AY h f n s<(f.length:Int):=by
 unfold AY;split
 .exact Q8 O1 _ λx b=>(Q9 a n.toNat x b).2
 omega
theorem Zh {h:AE} {w:LW} {f:List AC} {la:Int} (hf:Ae f):∀(k:Nat) (c out:List Int) (n:Int),(∀x∈out,0<=x/\x<(f.length:Int))->(∀x∈(DM h w f la k c out n).1,0<=x/\x<(f.length:Int))/\(DM h w f la k c out n).1.length<=out.length+k/\((DM h w f la k c out n).2≠0->(DM h w f la k c out n).1=[])
 | 0,_,_,_,_=>⟨λx b=>(by cases b),DO _,λ_=>rfl⟩
 | k+1,c,out,n,i=>by
  have d:∀e:Int,(∀x∈(([],e):List Int×Int).1,0<=x/\x<(f.length:Int))/\(([],e):List Int×Int).1.length<=out.length+(k+1)/\((([],e):List Int×Int).2≠0->(([],e):List Int×Int).1=[]):=λe=>⟨λx b=>(by cases b),DO _,λ_=>rfl⟩;rw[DM];cases a:OG h w f la c out n with
  | some r =>
   unfold OG at a;simp only;split at a
   .cases a;split
    .exact⟨i,Nat.le_add_right _ _,λq=>absurd rfl q⟩
    exact d 13
   split at a
   .cases a;exact d 6
   split at a
   .cases a
   cases a;exact d 13
  | none =>
   have hk:=(IB a).2.2;have l:0<=BS (Aa f n).2 w.first/\BS (Aa f n).2 w.first<(f.length:Int):=by
    have j:=(Sg hk).1;have m:f.length≠0:=by
     intro q;have:f=[]:=List.length_eq_zero_iff.1 q;subst this;simp[BS,Aa]at j
    exact⟨j,Q8 O1 _ λx b=>(Q9 hf n.toNat x b).2⟩
   have g:=Zh (h:=h) (w:=w) (la:=la) hf k (c++[n]) (out++[BS (Aa f n).2 w.first]) (BS (Aa f n).2 w.rest) (λx b=>by
    rcases IS.1 b with q|q
    .exact i x q
    rw[oF.1 q];exact l)
   refine⟨g.1,?_,g.2.2⟩;have:=g.2.1;rw[IF,oR]at this;simp only;omega
theorem Ji (hf:Ae f) (n:Int):((∀x∈(AR h f n).1,0<=x/\x<(f.length:Int))/\(AR h f n).1.length<=200000)/\((AR h f n).2≠0->(AR h f n).1=[]):=by
 unfold AR;split
 .split
  .exact⟨⟨λx a=>(by cases a),DO _⟩,λ_=>rfl⟩
  have:=Zh (h:=h) (w:=Df h) (la:=BS (Aa f n).2 (Df h).last) hf (f.length+1) [] [] (BS (Aa f n).2 (Df h).head) (λx a=>by cases a);have b:=hf.1;refine⟨⟨this.1,?_⟩,this.2.2⟩;have:=this.2.1;simp only[ABv]at this;omega
 exact⟨⟨λx a=>(by cases a),DO _⟩,λ_=>rfl⟩
def Sw (h:AE) (f:List AC) (l:List Int) (i:Nat):Option Bool:=if (Ba h f (l.getD i 0)).2=true then none else some false
def BL (h:AE) (f:List AC) (s:Int):List FX×Int :=
 if AY h f s ⟨#[82,69,76,83]⟩<0 then ([],13) else if (AR h f (AY h f s ⟨#[82,69,76,83]⟩)).2≠0 then ([],(AR h f (AY h f s ⟨#[82,69,76,83]⟩)).2)
 else if Au (Sw h f (AR h f (AY h f s ⟨#[82,69,76,83]⟩)).1) true (AR h f (AY h f s ⟨#[82,69,76,83]⟩)).1.length 0=true then ((AR h f (AY h f s ⟨#[82,69,76,83]⟩)).1.map λx=>(Ba h f x).1,0) else ([],13)
def GV (h:AE) (f:List AC) (n:Int):Bool:=I8 h ⟨#[113,101,113]⟩ (Aa f n).1&&AK (Dt h f (AY h f n ⟨#[72,73,71,72]⟩)) ⟨#[104]⟩&&AK (Dt h f (AY h f n ⟨#[76,79,87]⟩)) ⟨#[104]⟩
def Sx (h:AE) (f:List AC) (l:List Int) (i:Nat):Option Bool:=if GV h f (l.getD i 0)=true then none else some false
def OH (h:AE) (f:List AC) (n:Int):MD:=(AY h f n ⟨#[72,73,71,72]⟩,AY h f n ⟨#[76,79,87]⟩)
def BM (h:AE) (f:List AC) (s:Int):List MD×Int :=
 if AY h f s ⟨#[67,79,78,83]⟩<0 then ([],13) else if (AR h f (AY h f s ⟨#[67,79,78,83]⟩)).2≠0 then ([],(AR h f (AY h f s ⟨#[67,79,78,83]⟩)).2)
 else if Au (Sx h f (AR h f (AY h f s ⟨#[67,79,78,83]⟩)).1) true (AR h f (AY h f s ⟨#[67,79,78,83]⟩)).1.length 0=true then ((AR h f (AY h f s ⟨#[67,79,78,83]⟩)).1.map (OH h f),0) else ([],13)
section
attribute [go_sem] SN
theorem DB {a b:ByteArray} (h:AK a b=true):a=b:=by
 have h:=FA.1 h;rw[ByteArray.toList_eq,ByteArray.toList_eq]at h;exact AC4 ByteArray.mk (Array.toList_inj.1 h)
theorem cZ (q:AK (Dt h f n) ⟨#[]⟩=false):0<=n:=by
 by_cases hn:n<0
 .unfold Dt at q;rw[At hn]at q;exact absurd q a3
 omega
theorem kN (q:AK (Dt h f n) ⟨#[104]⟩=true):0<=n:=by
 by_cases hn:n<0
 .unfold Dt at q;rw[At hn]at q;exact absurd q a3
 omega
def InN (f:List AC) (n:Int):Prop:=0<=n/\n<(f.length:Int)
theorem A3q (g:Ae f) {s:Int} (b:(BL h f s).2=0):(BL h f s).1.length<=200000/\∀e∈(BL h f s).1,InN f e.2.1/\e.2.2.length<=100000/\∀a∈e.2.2,InN f a.2:=by
 unfold BL at b ⊢;split at b
 .cases b
 rename_i h1;rw[As h1];split at b
 .rename_i l;exact absurd b l
 rename_i l;rw[As l];split at b
 .rename_i p;rw[At p];obtain⟨⟨v,w⟩,-⟩:=Ji (h:=h) g (AY h f s ⟨#[82,69,76,83]⟩);refine⟨by simpa using w,λe C=>?_⟩;obtain⟨x,D,rfl⟩:=IN.1 C;obtain⟨j,t,rfl⟩:=AAq.1 D;have c:=DA (λi r o=>by unfold Sw at o;split at o<;>cases o;decide) _ 0 p j (DO _) O1;have q:=v _ (AAt t);have z:(AR h f (AY h f s ⟨#[82,69,76,83]⟩)).1.getD j 0=(AR h f (AY h f s ⟨#[82,69,76,83]⟩)).1[j]:=by simp[AS,t]
  unfold Sw at c;rw[z]at c;generalize (AR h f (AY h f s ⟨#[82,69,76,83]⟩)).1[j]=x at *;have m:(Ba h f x).2=true:=by
   cases n:(Ba h f x).2 with
   | true=>rfl
   | false=>rw[n,As sc]at c;cases c
  have d:FM h f x=true:=by
   cases n:FM h f x with
   | true=>rfl
   | false=>unfold Ba at m;rw[n,As sc]at m;cases m
  have A:Ba h f x=((Xk h f x,AY h f x ⟨#[76,65,66,69,76]⟩,(Aa f x).2.filterMap (F6 h f)),true):=At d;rw[A];unfold FM at d;simp only[An]at d;have u:=AG f (0,[]) (Ix q);refine⟨⟨kN d.2,J7 g _ _ (Nat.zero_lt_of_lt (Ix q))⟩,iN (List.length_filterMap_le _ _) (g.2 _ u).1,λa B=>?_⟩;obtain⟨y,E,k⟩:=ADF.1 B;unfold F6 at k;split at k
  .cases k;exact(g.2 _ u).2 y E
  cases k
 cases b
theorem A3r (g:Ae f) {s:Int} (a:(BM h f s).2=0):(BM h f s).1.length<=200000/\∀e∈(BM h f s).1,InN f e.1/\InN f e.2:=by
 unfold BM at a ⊢;split at a
 .cases a
 rename_i h1;rw[As h1];split at a
 .rename_i d;exact absurd a d
 rename_i d;rw[As d];split at a
 .rename_i l;rw[At l];obtain⟨⟨n,o⟩,-⟩:=Ji (h:=h) g (AY h f s ⟨#[67,79,78,83]⟩);refine⟨by simpa using o,λe u=>?_⟩;obtain⟨x,v,rfl⟩:=IN.1 u;obtain⟨j,m,rfl⟩:=AAq.1 v;have b:=DA (λi r k=>by unfold Sx at k;split at k<;>cases k;decide) _ 0 l j (DO _) O1;have q:=n _ (AAt m);have p:(AR h f (AY h f s ⟨#[67,79,78,83]⟩)).1.getD j 0=(AR h f (AY h f s ⟨#[67,79,78,83]⟩)).1[j]:=by simp[AS,m]
  unfold Sx at b;rw[p]at b;generalize (AR h f (AY h f s ⟨#[67,79,78,83]⟩)).1[j]=x at *;have c:GV h f x=true:=by
   cases t:GV h f x with
   | true=>rfl
   | false=>rw[t,As sc]at b;cases b
  unfold GV at c;simp only[An]at c;have h0:=Nat.zero_lt_of_lt (Ix q);exact⟨⟨kN c.1.2,J7 g _ _ h0⟩,kN c.2,J7 g _ _ h0⟩
 cases a
def CY (h:AE) (f:List AC) (s:Int):A7:=(AY h f s ⟨#[84,79,80]⟩,AY h f s ⟨#[73,78,68,69,88]⟩,(List.range f.length).map (λi:Nat=>Dt h f (i:Int)),(BL h f s).1,(BM h f s).1)
def zM:A7:=(0,0,[],[],[])
def Ol (h:AE) (f:List AC):A7×Int :=
 if AY h f 0 ⟨#[83,69,77]⟩<0 then (zM,13)
 else if AK (Dt h f (AY h f (AY h f 0 ⟨#[83,69,77]⟩) ⟨#[84,79,80]⟩)) ⟨#[104]⟩=false\/AK (Dt h f (AY h f (AY h f 0 ⟨#[83,69,77]⟩) ⟨#[73,78,68,69,88]⟩)) ⟨#[]⟩=true then (zM,13)
 else if (BL h f (AY h f 0 ⟨#[83,69,77]⟩)).2≠0 then (zM,(BL h f (AY h f 0 ⟨#[83,69,77]⟩)).2)
 else if (BM h f (AY h f 0 ⟨#[83,69,77]⟩)).2≠0 then (zM,(BM h f (AY h f 0 ⟨#[83,69,77]⟩)).2)
 else if FK (Db (CY h f (AY h f 0 ⟨#[83,69,77]⟩)))≠0 then (zM,7) else (Db (CY h f (AY h f 0 ⟨#[83,69,77]⟩)),0)
theorem kO (d:Ae f) (i:0<f.length) {V:Int} (m:AK (Dt h f (AY h f V ⟨#[84,79,80]⟩)) ⟨#[104]⟩=true) (n:AK (Dt h f (AY h f V ⟨#[73,78,68,69,88]⟩)) ⟨#[]⟩=false) (l:(BL h f V).2=0) (j:(BM h f V).2=0) :
  M3 (CY h f V)/\∀x∈Ay (CY h f V),0<=x/\x<((CY h f V).2.2.1.length:Int):=by
 obtain⟨o,g⟩:=A3q d l;obtain⟨c1,c2⟩:=A3r d j;have k:(CY h f V).2.2.1.length=f.length:=by simp[CY]
 refine⟨⟨trivial,o,λe c=>(g e c).2.1,c1⟩,λx b=>?_⟩;rw[k];simp only[Ay,IS,ABQ,By,GU,Dl,ACm,ADW]at b;rcases b with ((b|b)|⟨e,c,b|b⟩)|⟨e,c,b|b⟩
 .rw[b];exact⟨kN m,J7 d _ _ i⟩
 .rw[b];exact⟨cZ n,J7 d _ _ i⟩
 .rw[b];exact(g e c).1
 .obtain⟨a,ha,rfl⟩:=IN.1 b;exact(g e c).2.2 a ha
 .rw[b];exact(c2 e c).1
 rw[b];exact(c2 e c).2
end
def A3s (h:AE):Prop:=0<=AW h ⟨#[104,97,110,100,108,101]⟩/\0<=AW h ⟨#[101,118,101,110,116]⟩/\0<=AW h ⟨#[101,110,116,105,116,121]⟩/\0<=AW h ⟨#[105,110,100,101,120]⟩
def J8:List (ByteArray×ByteArray):=[(⟨#[104]⟩,⟨#[104,97,110,100,108,101]⟩),(⟨#[101]⟩,⟨#[101,118,101,110,116]⟩),(⟨#[120]⟩,⟨#[101,110,116,105,116,121]⟩),(⟨#[105]⟩,⟨#[105,110,100,101,120]⟩)]
def p8 (h:AE) (t:Int) (i:Nat):Option ByteArray:=if Af h (AW h (J8.getD i (ByteArray.empty,ByteArray.empty)).2) t=true then some (J8.getD i (ByteArray.empty,ByteArray.empty)).1 else none
theorem A3t (hs:A3s h) (t:Int):Au (p8 h t) ⟨#[]⟩ 4 0=CN h t:=by
 obtain⟨h1,e,f,g⟩:=hs;have a:p8 h t 0=if I8 h ⟨#[104,97,110,100,108,101]⟩ t=true then some ⟨#[104]⟩ else none:=by unfold I8;rw[ACd h1];rfl
 have b:p8 h t 1=if I8 h ⟨#[101,118,101,110,116]⟩ t=true then some ⟨#[101]⟩ else none:=by unfold I8;rw[ACd e];rfl
 have c:p8 h t 2=if I8 h ⟨#[101,110,116,105,116,121]⟩ t=true then some ⟨#[120]⟩ else none:=by unfold I8;rw[ACd f];rfl
 have d:p8 h t 3=if I8 h ⟨#[105,110,100,101,120]⟩ t=true then some ⟨#[105]⟩ else none:=by unfold I8;rw[ACd g];rfl
 simp only[Au,CN,a,b,c,d,ACf,Nat.reduceAdd];split<;>rename_i q
 .split at q<;>cases q;rename_i q;rw[At q]
 split at q<;>cases q;rename_i q;rw[As q];split<;>rename_i q
 .split at q<;>cases q;rename_i q;rw[At q]
 split at q<;>cases q;rename_i q;rw[As q];split<;>rename_i q
 .split at q<;>cases q;rename_i q;rw[At q]
 split at q<;>cases q;rename_i q;rw[As q];split<;>rename_i q
 .split at q<;>cases q;rename_i q;rw[At q]
 split at q<;>cases q;rename_i q;rw[As q]
theorem ACE (hs:A3s h) {i:Nat} (hi:i<4):0<=AW h (J8.getD i (ByteArray.empty,ByteArray.empty)).2:=by
 obtain⟨h1,a,b,c⟩:=hs;match i,hi with
 | 0,_=>exact h1
 | 1,_=>exact a
 | 2,_=>exact b
 | 3,_=>exact c
def dA:Ab:={ ins:=[GT,T3],pre:=λ(h,t,_)=>A3s h/\(0:Int)<=t/\t<(List.length (h:AE).1:Int),out:=λ(h,t,_)=>[.p T9 (CN h t)],lend:=true }
theorem kP:Ag Tryz.prog 21 dA:=by
 refine fK [0,1,2,4,6,7,8,9,10,19] Tryz.func21 Tryz.ntmps21 (AF RE (AF Qw AH)) ?_;rintro w0 O0 ⟨h,t,u⟩ a-⟨hs,h0,h1⟩;have hs:A3s h:=hs;have h0:0<=t:=h0;have h1:t<(h.1.length:Int):=h1;have d:(h.1,h.2)=h:=rfl;simp only[dA,AL];repeat'(first|exact a6|apply eS rfl|refine rP a ?_ ?_|fail)
 refine cP 0 a ?_ ?_
 .trivial
 refine AAZ a ?_;refine rL a ?_ ?_
 .trivial
 repeat' apply eS rfl
 rw[<-A3t hs t];generalize e:Au (p8 h t) ⟨#[]⟩ 4 0=S;refine AI (ι:={i:Nat//i<=4/\Au (p8 h t) ⟨#[]⟩ (4-i) i=S}) (λi=>⟨[(1,.p T3 t),(2,.bp 2 [] 0),(7,.p T92 J8),(8,.p (.int .i64) 4),(9,.p (.int .i64) (i.1:Int))],[(2,.box 31 true [.p Px h.1,.p Rl h.2])]⟩) (λi=>4-i.1) ⟨0,DO _,e⟩ (AB [(2,.nm 2)] rfl rfl ?_ ?_) (λi=>?_)
 .exact eN
 .refine eM ?_;exact⟨rfl,rfl⟩
 obtain⟨i,hi,c⟩:=i;simp only;repeat'(first|exact a6|apply eS rfl|apply AD|refine rX a ?_ ?_|refine rC ?_ ?_<;>intro b<;>try(cases b;done))
 all_goals have d:(h.1,h.2)=h:=rfl
 all_goals try simp only[d]at *
 .exact b
 .exact⟨⟨ACE hs O1,Fc h _⟩,h0,h1⟩
 .rw[Cn c O1 (At b)];exact fI a [.tmp 4]
 .omega
 .exact⟨⟨i+1,O1,DP c O1 (As (by rw[b];simp))⟩,a2,eW [(2,.nm 2)]⟩
 rw[EM c O1];exact fI a [.tmp 4]
section
attribute [go_sem] r9 sA A5q
def A3u:Ab:={ ins:=[Ty.int .i32],pre:=λ_=>True,out:=λ(c,_)=>[.p .bool (CV 97 122 c)] }
attribute [go_sem] A3u
theorem A78:Ag Tryz.prog 177 A3u:=by
 refine fK [0,2] Tryz.func177 Tryz.ntmps177 AH ?_;rintro w0 O0 ⟨c,u⟩ a - -;simp only[A3u,AL];repeat'(first|exact a6|apply eS rfl|refine rX a ?_ ?_)
 exact fI a [.tmp 2] (by unfold CV;exact eR)
def A3v:Ab:={ ins:=[Ty.int .i32],pre:=λ_=>True,out:=λ(c,_)=>[.p .bool (CV 48 57 c)] }
attribute [go_sem] A3v
theorem A79:Ag Tryz.prog 185 A3v:=by
 refine fK [0,2] Tryz.func185 Tryz.ntmps185 AH ?_;rintro w0 O0 ⟨c,u⟩ a - -;simp only[A3v,AL];repeat'(first|exact a6|apply eS rfl|refine rX a ?_ ?_)
 exact fI a [.tmp 2] (by unfold CV;exact eR)
def flB (s:ByteArray) (i:Nat):Bool:=CV 97 122 (OW s i)||(decide (i≠0)&&(CV 48 57 (OW s i)||OW s i==45))
theorem XS (s:ByteArray):BK s false=(decide (1<=s.size/\s.size<=32)&&(List.range s.size).all (flB s)):=by
 rw[ADn];simp only[BK,PH,An,lU,ABs,bY,Is,OF,AAn];constructor
 .rintro⟨⟨⟨⟨h1,c⟩,d⟩,e⟩,a⟩;refine⟨⟨O1,O1⟩,λi hi=>?_⟩;have:=a i hi;unfold PG at this;unfold flB;by_cases h0:i=0
  .subst h0;rw[d,e]at this;simpa using this
  simp only[Bool.false_and,AE2,AEb,ADD,AAo]at this;simp only[ne_eq,h0,AEC,decide_true,ADD,AAo];rcases this with (h|h)|h
  .exact .inr (.inl h)
  .exact .inr (.inr h)
  exact .inl h
 rintro⟨⟨h1,c⟩,a⟩;have h0:=a 0 O1;simp only[flB,ne_eq,ADL,decide_false,Bool.false_and,AE2]at h0;have b:=h0;simp only[CV,An,Is]at b;refine⟨⟨⟨⟨O1,O1⟩,?_⟩,?_⟩,λi hi=>?_⟩
 .simp only[CV,ACj,bY];right;omega
 .simp only[ACX];omega
 have:=a i hi;unfold flB at this;unfold PG;simp only[Bool.false_and,AE2,AEb,ADD,AAo];simp only[AAo,An]at this;rcases this with h|⟨-,h|h⟩
 .exact .inr h
 .exact .inl (.inl h)
 exact .inl (.inr h)
theorem A7b (s:ByteArray) (p:Nat) (h:p<s.size):OW s p=((s[p]'h).toNat:Int):=by
 have a:p<s.data.size:=h;show ((s.data.getD p 0).toNat:Int)=_;simp only[Array.getD_eq_getD_getElem?,AC1 a,ACP];rfl
theorem A7c {p:Nat} (h:p<s.size) {q:Nat} {r:Int} (h1:(s[p]'h).toNat<128->q=p+1/\r=((s[p]'h).toNat:Int)) (b:128<=(s[p]'h).toNat->128<=r) :
  (CV 97 122 r||(decide (p≠0)&&(CV 48 57 r||r==45)))=flB s p/\(flB s p=true->q=p+1):=by
 unfold flB;rw[A7b s p h];by_cases c:(s[p]'h).toNat<128
 .obtain⟨d,a⟩:=h1 c;rw[a];exact⟨rfl,λ_=>d⟩
 have a:=b O1;have f:∀x:Int,128<=x->(CV 97 122 x||(decide (p≠0)&&(CV 48 57 x||x==45)))=false:=by
  intro x e;simp only[CV,ABs,ACj,bY,ACX];exact⟨.inr O1,.inr ⟨.inr O1,O1⟩⟩
 rw[f r a,f _ O1];exact⟨rfl,λh=>by cases h⟩
theorem p9 (s:ByteArray):BB Tryz.prog 176 [.p T9 s,.fn 177] [] [] (λres _=>res=.p .bool (BK s false)):=by
 refine JT [0,1,4,5,6,14,16,17,18,37] [] [] Tryz.func176 Tryz.ntmps176 (AF A78 (AF A79 AH)) ?_;intro w0 K O0 ρ0 a n t;have o:s.size<=AP:=n.1;simp only[Aq];repeat'(first|exact a6|apply eS rfl|refine rX a ?_ ?_|refine rC ?_ ?_<;>intro b<;>try(cases b;done))
 .have hf:BK s false=false:=by
   rw[XS,ACj];exact .inl (ADI O1)
  exact fM a [.tmp 4] (.p .bool false) eT (by rw[hf])
 refine cP 1 a ?_ ?_
 .trivial
 refine ACx a a5 ?_;refine E7 ?_;repeat' apply eS rfl
 refine AI (ι:={p:Nat//p<=s.size/\∀i,i<p->flB s i=true}) (λp=>⟨[(0,.p T9 s),(1,.fn 177),(16,.bp 16 [] 0)],[(16,.sit s p.1)]⟩) (λp=>s.size-p.1) ⟨0,DO _,λ_ h=>by omega⟩ (eW [(16,.nm 16)]) (λp=>?_)
 obtain⟨p,u,f⟩:=p;simp only;repeat' apply eS rfl
 refine cP 0 a ?_ ?_
 .trivial
 refine ACy a o (λh=>?_) (λh q r x h1 j hi=>?_)
 .refine rL a ?_ ?_
  .trivial
  repeat'(first|exact a6|apply eS rfl|refine rX a ?_ ?_|refine rC ?_ ?_<;>intro b<;>try(cases b;done))
  have w:p=s.size:=by omega
  have hf:BK s false=true:=by
   rw[XS,An];exact⟨ACd O1,OF.2 λi hi=>f i (by rw[AAn]at hi;omega)⟩
  exact fM a [.tmp 4] (.p .bool true) eT (by rw[hf])
 have d:=A7c h h1 j;refine rL a ?_ ?_
 .trivial
 repeat'(first|exact a6|apply eS rfl|apply AD|refine rX a ?_ ?_|refine rC ?_ ?_<;>intro b<;>try(cases b;done))
 .have hf:BK s false=false:=by
   rw[XS,ACj];refine .inr (ADj.2 λl=>?_);have:=OF.1 l p (AAn.2 h);rw[<-d.1]at this;simp only[AAo,An,Is,AAv]at this;rcases b with ⟨ha,c⟩
   rw[ha]at this;rcases this with h|⟨v,h⟩
   .cases h
   rcases c with e|⟨e,g⟩
   .omega
   rw[e]at h;rcases h with h|h
   .cases h
   exact g h
  exact fM a [.tmp 4] (.p .bool false) eT (by rw[hf])
 have hf:flB s p=true:=by
  rw[<-d.1];simp only[AAo,An,Is,AAv];cases ha:CV 97 122 r
  .obtain⟨h0,k⟩:=b ha;refine .inr ⟨O1,?_⟩;cases c:CV 48 57 r
   .have:=k c;exact .inr (by simpa using this)
   exact .inl rfl
  exact .inl rfl
 obtain rfl:=d.2 hf;refine⟨⟨p+1,O1,λi hi=>?_⟩,a2,AB [(16,.nm 16)] rfl rfl ?_ ?_⟩
 .by_cases m:i=p
  .rw[m];exact hf
  exact f i O1
 .exact eN
 exact eN
def dB:Ab:={ ins:=[T9],pre:=λ_=>True,out:=λ(s,_)=>[.p .bool (BK s false)] }
attribute [go_sem] dB
theorem A3w:Ag Tryz.prog 162 dB:=by
 refine fK [0,2] Tryz.func162 Tryz.ntmps162 AH ?_;rintro w0 O0 ⟨s,u⟩ a - -;simp only[dB,AL];repeat'(first|exact a6|apply eS rfl|refine rX a ?_ ?_)
 refine cP 1 a ?_ ?_
 .trivial
 refine QZ a (p9 s) [] [] ?_
 rintro _ _ rfl;refine⟨[],.p .bool (BK s false),[],rfl,rfl,?_,?_,rfl,rfl,?_⟩
 .exact eN
 .exact eN
 refine rL a ?_ ?_
 .trivial
 repeat' apply eS rfl
 exact fI a [.tmp 2]
end
end Go.Proofs.YtddbnflakbngaaaGreatDoor.Fw
