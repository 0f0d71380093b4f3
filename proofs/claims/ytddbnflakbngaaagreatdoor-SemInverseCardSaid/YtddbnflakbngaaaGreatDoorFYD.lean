/- Contracts of functions and plain laws. -/
import Derived.Test.YtddbnflakbngaaaGreatDoorFYC
set_option linter.unusedVariables false
set_option linter.unusedSimpArgs false
namespace Go.Proofs.YtddbnflakbngaaaGreatDoor.Fw
attribute [local irreducible] Ev
set_option maxRecDepth 100000
set_option maxHeartbeats 4000000
variable {m:A7}
def wP:Nat->List Int
 | 0=>[]
 | i+1=>(i:Int) :: wP i
theorem wQ:∀i,(wP i).length=i
 | 0=>rfl
 | i+1=>by rw[wP,If,wQ i]
theorem A4p (x:Int):∀i k,0<=Ct x k (wP i)↔0<=x/\x<(i:Int)
 | 0,k=>by
  show (0:Int)<=-1↔_;omega
 | i+1,k=>by
  show 0<=(if (i:Int)=x then (k:Int) else Ct x (k+1) (wP i))↔_;have:=A4p x i (k+1);split<;>omega
def MIn (m:A7):Prop:=m.2.2.2.1.length<=4/\m.2.2.2.2.length<=4/\(∀e∈m.2.2.2.1,EIn m e)/\(∀q∈m.2.2.2.2,∀x∈Dl q,0<=x/\x<(m.2.2.1.length:Int))/\m.2.2.1.length<=256
theorem A7X (x:MIn m):∀(n i:Nat) (v:List Int),i+n=m.2.2.2.2.length->wN m v->BB Tryz.prog 114 [.p LH m,.p LH m,.p DH v,.p DH (wP i),.p T3 (i:Int)] [] [] (λres _=>res=.p .bool true):=by
 intro n;induction n with
 | zero =>
  intro i v hi f;refine JT [0,1,2,3,4,5,6,10,11,12,13,14,15,20,25,31,52,73,79,95] [] [] Tryz.func114 Tryz.ntmps114 (AF Fh (AF U6 AH)) ?_;intro w0 K O0 ρ0 a F G;simp only[Aq];have g:(i:Int)=(m.2.2.2.2.length:Int):=by omega
  repeat'(first|exact a6|apply eS rfl|refine rP a ?_ ?_|fail)
  refine rC (λq=>?_) (λq=>?_)
  .repeat'(first|exact a6|apply eS rfl|refine rX a ?_ ?_)
   exact fM a [.tmp 10] (.p .bool true) eT rfl
  exact absurd g q
 | succ n I =>
  intro i v hi f;refine JT [0,1,2,3,4,5,6,10,11,12,13,14,15,20,25,31,52,73,79,95] [] [] Tryz.func114 Tryz.ntmps114 (AF Fh (AF U6 AH)) ?_;intro w0 K O0 ρ0 a F G;simp only[Aq];have g:i<m.2.2.2.2.length:=by omega
  have L:m.2.2.2.2.length<=4:=x.2.1;repeat'(first|exact a6|apply eS rfl|refine rP a ?_ ?_|fail)
  refine rC (λq=>?_) (λq=>?_)
  .exact absurd q O1
  repeat'(first|exact a6|apply eS rfl|refine rP a ?_ ?_|fail)
  refine AI (ι:={k:Nat//k<=i}) (λk=>⟨[(2,.p DH v),(3,.p DH (wP i)),(4,.p T3 (i:Int)),(5,.bp 5 [] 0),(6,.bp 6 [] 0),(11,.p T3 (k.1:Int))],[(6,.box 27 true [.p T3 m.1,.p T3 m.2.1,.p CC m.2.2.1,.p G4 m.2.2.2.1,.p Hc m.2.2.2.2]),(5,.box 27 true [.p T3 m.1,.p T3 m.2.1,.p CC m.2.2.1,.p G4 m.2.2.2.1,.p Hc m.2.2.2.2])]⟩) (λk=>i-k.1) ⟨0,DO _⟩ (eW [(6,.nm 6),(5,.nm 5)]) (λk=>?_)
  obtain⟨k,hk⟩:=k;simp only;repeat'(first|exact a6|apply eS rfl|refine rP a ?_ ?_|fail)
  refine rC ?_ ?_<;>intro b
  .have y:=A4p (k:Int) i 0;repeat'(first|exact a6|apply eS rfl|refine rP a ?_ ?_|fail)
   refine rC ?_ ?_<;>intro b
   .have h:k<i:=by have:=y.1 b;omega
    repeat'(first|apply eS rfl|apply AD|refine rP a ?_ ?_|fail)
    .exact eV
    exact⟨⟨k+1,h⟩,a2,eW [(6,.nm 6),(5,.nm 5)]⟩
   have h:k=i:=by
    have:¬(0<=Ct (k:Int) 0 (wP i)):=AEl.2 b;rw[y]at this;omega
   subst h;have z:=x.2.2.2.1 _ (Ad (d:=((0,0):MD)) g);have o:=z (m.2.2.2.2.getD k (0,0)).1 (by simp[Dl]);have r:=z (m.2.2.2.2.getD k (0,0)).2 (by simp[Dl]);have l:=Xg f o.1;have H:=Xg l r.1;have c:(k:Int)<(m.2.2.2.2.length:Int):=by omega
   repeat' apply eS rfl
   refine Gl drawsAny a 20 [([0,1,2,3,4,5,6,7,8,9,10,11,12,13,14,15,16,17],19)] [18] a5 (xV ?_ ?_)
   .exact⟨c,c,o.1,by rw[f.1];exact o.2,f⟩
   refine mxL a [] ?_ ?_
   .trivial
   refine xW a ?_ ?_ ?_
   .trivial
   .trivial
   simp only[show v.set (m.2.2.2.2.getD k (0,0)).1.toNat (m.2.2.2.2.getD k (0,0)).1=S7 v (m.2.2.2.2.getD k (0,0)).1 from rfl];generalize S7 v (m.2.2.2.2.getD k (0,0)).1=s at *;repeat'(first|exact a6|apply eS rfl|refine rP a ?_ ?_|fail)
   refine rC (λq=>?_) (λq=>?_)
   .cases q
   repeat' apply eS rfl
   refine Gl drawsAny a 20 [([0,1,2,3,4,5,6,7,8,9,10,11,12,13,14,15,16,17],19)] [18] a5 (xV ?_ ?_)
   .exact⟨c,c,r.1,by rw[l.1];exact r.2,l⟩
   refine mxL a [] ?_ ?_
   .trivial
   refine xW a ?_ ?_ ?_
   .trivial
   .trivial
   simp only[show s.set (m.2.2.2.2.getD k (0,0)).2.toNat (m.2.2.2.2.getD k (0,0)).2=S7 s (m.2.2.2.2.getD k (0,0)).2 from rfl];generalize S7 s (m.2.2.2.2.getD k (0,0)).2=A at *;repeat'(first|exact a6|apply eS rfl|refine rP a ?_ ?_|fail)
   refine rC (λq=>?_) (λq=>?_)
   .cases q
   repeat'(first|exact a6|apply eS rfl|refine rP a ?_ ?_|fail)
   have C:=wQ k;have e:=λj (q:j<(wP k).length)=>Ap (wP k) 0 q;have u:(k:Int) :: wP k=wP (k+1):=rfl;generalize J:wP k=D at e C u ⊢;refine AI (ι:={j:Nat//j<=D.length}) (λj=>⟨[(3,.p DH D),(4,.p T3 (k:Int)),(5,.bp 5 [] 0),(6,.bp 6 [] 0),(11,.p T3 (k:Int)),(12,.p DH A),(14,.sr 88 T3 0 (j.1+1)),(15,.p T3 (j.1:Int))],[(88,.arr 3 T3 ((k:Int) :: D.take j.1)),(6,.box 27 true [.p T3 m.1,.p T3 m.2.1,.p CC m.2.2.1,.p G4 m.2.2.2.1,.p Hc m.2.2.2.2]),(5,.box 27 true [.p T3 m.1,.p T3 m.2.1,.p CC m.2.2.1,.p G4 m.2.2.2.1,.p Hc m.2.2.2.2])]⟩) (λj=>D.length-j.1) ⟨0,DO _⟩ (eW [(88,.nm 75),(6,.nm 6),(5,.nm 5)]) (λj=>?_)
   obtain⟨j,M⟩:=j;simp only;repeat'(first|exact a6|apply eS rfl|refine rP a ?_ ?_|fail)
   refine rC ?_ ?_<;>intro b
   .have w:j<D.length:=by exact eV
    have B:=b;have e:=e j w;repeat'(first|apply eS rfl|apply AD|refine rP a ?_ ?_|fail)
    .exact⟨B,by simp only[AP];omega⟩
    .exact eV
    have t:D.take j++[D.getD j 0]=D.take (j+1):=e.symm;refine⟨⟨j+1,w⟩,a2,AB [(88,.nm 88),(6,.nm 6),(5,.nm 5)] rfl rfl ?_ ?_⟩
    .simp only[AC9,ACU,ADB,S8,To,t];exact eN
    simp only[AC9,ACU,ADB,S8,To,t];exact eN
   have E:D.take j=D:=BY eV;refine CO [88] ?_;repeat' apply eS rfl
   simp only[E,u];refine cP 6 a ?_ ?_
   .exact eV
   refine QZ a (I (k+1) A O1 H) [] [] ?_
   rintro _ _ rfl;refine⟨[],.p .bool true,[],rfl,rfl,?_,?_,rfl,rfl,E7 ?_⟩
   .exact eN
   .exact eN
   repeat' apply eS rfl
   refine rC (λ_=>?_) (λq=>?_)
   .repeat'(first|exact a6|apply eS rfl|refine rX a ?_ ?_)
    exact fM a [.tmp 10] (.p .bool true) eT rfl
   cases q
  exact absurd b O1
section
attribute [go_sem] A4o
def A4q:Ab:={ ins:=[LH,LH,DH,DH,T3],pre:=λ(a,b,v,c,i,_)=>a=b/\MIn a/\wN a v/\c=([]:List Int)/\i=(0:Int),out:=λ_=>[.p .bool true] }
attribute [go_sem] A4q
theorem lS:Ag Tryz.prog 114 A4q:=by
 refine J0 ⟨_,Tryz.func114,a5,a5⟩ (λds g=>?_) (λds r a=>?_)
 .obtain⟨m,b,v,q,i,u⟩:=ds;obtain⟨h1,c,d,e,f⟩:=g;obtain rfl:m=b:=h1;obtain rfl:q=[]:=e;obtain rfl:i=0:=f;refine⟨[.p LH m,.p LH m,.p DH v,.p DH (wP 0),.p T3 ((0:Nat):Int)],λw O D h=>?_,A7X c m.2.2.2.2.length 0 v O1 d⟩;obtain⟨v1,y,rfl,j,s,z,rfl,k,t,A,rfl,l,v4,B,rfl,n,x,C,rfl,o,rfl⟩:=h;exact⟨v1,_,rfl,EL j,s,_,rfl,EL k,t,_,rfl,EL l,v4,_,rfl,EL n,x,_,rfl,EL o,rfl⟩
 simp only[A4q,By,ACm,ADW]at a;exact⟨_,_,a⟩
def lT (i:Nat):List Int:=(List.range i).map λj:Nat=>(j:Int)
theorem wR (i:Nat):(lT i).length=i:=by simp[lT]
theorem ABW (i:Nat):lT i++[(i:Int)]=lT (i+1):=by simp[lT,ABV]
theorem AAj (x:Int) (i:Nat):0<=EH (lT i) x↔0<=x/\x<(i:Int):=by
 have key:∀(l:List Nat) (k:Nat),0<=Ct x k (l.map λj:Nat=>(j:Int))↔∃j∈l,(j:Int)=x:=by
  intro l;induction l with
  | nil =>
   intro k;constructor
   .intro h;exact absurd (show (0:Int)<=-1 from h) O1
   rintro⟨j,a,-⟩;cases a
  | cons y l c =>
   intro k;show 0<=(if (y:Int)=x then (k:Int) else Ct x (k+1) (l.map λj:Nat=>(j:Int)))↔_;split
   .exact⟨λ_=>⟨y,TO,a4⟩,λ_=>by omega⟩
   rename_i b;rw[c];constructor
   .rintro⟨j,a,e⟩;exact⟨j,GO _ a,e⟩
   rintro⟨j,a,e⟩;rcases By.1 a with rfl|a
   .exact absurd e b
   exact⟨j,a,e⟩
 refine(key (List.range i) 0).trans ⟨?_,λh=>⟨x.toNat,AAn.2 O1,O1⟩⟩;rintro⟨j,a,rfl⟩;have:=AAn.1 a;omega
theorem A7Y (h:MIn m):∀(n i:Nat) (v:List Int),i+n=m.2.2.2.1.length->wN m v->BB Tryz.prog 74 [.p LH m,.p LH m,.p DH v,.p DH (lT i)] [] [] (λres _=>res=.tup [.p DH (lT m.2.2.2.1.length),.p .bool true]):=by
 intro n;induction n with
 | zero =>
  intro i v hi e;refine JT [0,1,2,3,4,5,8,9,10,11,12,13,14,15,16,22,32,38,58,63,85] [] [] Tryz.func74 Tryz.ntmps74 (AF Fh (AF wO (AF lS AH))) ?_;intro w0 K O0 ρ0 a A B;simp only[Aq];have c:=wR i;have f:(i:Int)=(m.2.2.2.1.length:Int):=by omega
  have y:i=m.2.2.2.1.length:=by omega
  generalize hu:lT i=U at *;repeat'(first|exact a6|apply eS rfl|refine rP a ?_ ?_|fail)
  refine rC (λq=>?_) (λq=>?_)
  .repeat'(first|apply eS rfl|refine rP a ?_ ?_|fail)
   .exact⟨h,e⟩
   rw[y]at hu;exact fM a [.tmp 8,.tmp 9] (.tup [.p DH U,.p .bool true]) eT (by rw[hu])
  exact absurd (show ((U.length:Int))=_ by rw[c];exact f) q
 | succ n E =>
  intro i v hi e;refine JT [0,1,2,3,4,5,8,9,10,11,12,13,14,15,16,22,32,38,58,63,85] [] [] Tryz.func74 Tryz.ntmps74 (AF Fh (AF wO (AF lS AH))) ?_;intro w0 K O0 ρ0 a A B;simp only[Aq];have f:i<m.2.2.2.1.length:=by omega
  have H:m.2.2.2.1.length<=4:=h.1;have c:=wR i;repeat'(first|exact a6|apply eS rfl|refine rP a ?_ ?_|fail)
  refine rC (λq=>?_) (λq=>?_)
  .exact absurd q (by rw[c];omega)
  repeat'(first|exact a6|apply eS rfl|refine rP a ?_ ?_|fail)
  refine AI (ι:={k:Nat//k<=i}) (λk=>⟨[(2,.p DH v),(3,.p DH (lT i)),(4,.bp 4 [] 0),(5,.bp 5 [] 0),(10,.p T3 (k.1:Int))],[(5,.box 27 true [.p T3 m.1,.p T3 m.2.1,.p CC m.2.2.1,.p G4 m.2.2.2.1,.p Hc m.2.2.2.2]),(4,.box 27 true [.p T3 m.1,.p T3 m.2.1,.p CC m.2.2.1,.p G4 m.2.2.2.1,.p Hc m.2.2.2.2])]⟩) (λk=>i-k.1) ⟨0,DO _⟩ (eW [(5,.nm 5),(4,.nm 4)]) (λk=>?_)
  obtain⟨k,hk⟩:=k;simp only;repeat'(first|exact a6|apply eS rfl|refine rP a ?_ ?_|fail)
  refine rC ?_ ?_<;>intro b
  .have t:=AAj (k:Int) i;repeat'(first|exact a6|apply eS rfl|refine rP a ?_ ?_|fail)
   refine rC ?_ ?_<;>intro b
   .have g:k<i:=by have:=t.1 b;omega
    repeat'(first|apply eS rfl|apply AD|refine rP a ?_ ?_|fail)
    .exact eV
    exact⟨⟨k+1,g⟩,a2,eW [(5,.nm 5),(4,.nm 4)]⟩
   have g:k=i:=by
    have:¬(0<=EH (lT i) (k:Int)):=AEl.2 b;rw[t]at this;omega
   subst g;have o:=h.2.2.1 _ (Ad (d:=((ByteArray.empty,0,[]):FX)) f);have D:=ABU e o;have u:=ABW k;have s:(k:Int)<(m.2.2.2.1.length:Int):=by omega
   generalize F:lT k=U at c u ⊢;have G:(U.length:Int)=(k:Int):=by omega
   repeat' apply eS rfl
   refine Gl drawsAny a 19 [([0,1,2,3,4,5,6,7,8,9,10,11,12,13,14,15,16],18)] [17] a5 (xV ?_ ?_)
   .rw[c];exact⟨s,s,rfl,e,o⟩
   refine mxL a [] ?_ ?_
   .trivial
   refine xW a ?_ ?_ ?_
   .trivial
   .trivial
   simp only[c];generalize prV v (m.2.2.2.1.getD k (ByteArray.empty,0,[]))=w at *;repeat'(first|exact a6|apply eS rfl|refine rP a ?_ ?_|fail)
   refine rC (λq=>?_) (λq=>?_)
   .cases q
   have C:=λj (q:j<U.length)=>Ap U 0 q;repeat'(first|exact a6|apply eS rfl|refine rP a ?_ ?_|fail)
   refine AI (ι:={j:Nat//j<=U.length}) (λj=>⟨[(3,.p DH U),(4,.bp 4 [] 0),(5,.bp 5 [] 0),(10,.p T3 (k:Int)),(11,.p DH w),(13,.sr 72 T3 0 j.1),(14,.p T3 (j.1:Int))],[(72,.arr 3 T3 (U.take j.1)),(5,.box 27 true [.p T3 m.1,.p T3 m.2.1,.p CC m.2.2.1,.p G4 m.2.2.2.1,.p Hc m.2.2.2.2]),(4,.box 27 true [.p T3 m.1,.p T3 m.2.1,.p CC m.2.2.1,.p G4 m.2.2.2.1,.p Hc m.2.2.2.2])]⟩) (λj=>U.length-j.1) ⟨0,DO _⟩ (eW [(72,.nm 59),(5,.nm 5),(4,.nm 4)]) (λj=>?_)
   obtain⟨j,I⟩:=j;simp only;repeat'(first|exact a6|apply eS rfl|refine rP a ?_ ?_|fail)
   refine rC ?_ ?_<;>intro b
   .have r:j<U.length:=by exact eV
    have x:=b;have l:U.take j++[U.getD j 0]=U.take (j+1):=(C j r).symm;repeat'(first|apply eS rfl|apply AD|refine rP a ?_ ?_|fail)
    .exact⟨x,by simp only[AP];omega⟩
    .exact eV
    refine⟨⟨j+1,r⟩,a2,AB [(72,.nm 72),(5,.nm 5),(4,.nm 4)] rfl rfl ?_ ?_⟩
    .simp only[ACU,ADB,S8,l];exact eN
    simp only[ACU,ADB,S8,l];exact eN
   have z:j=U.length:=by
    have:U.length<=j:=by exact eV
    omega
   subst z;rw[tO];repeat'(first|apply eS rfl|refine rP a ?_ ?_|fail)
   .simp only[AP];omega
   refine CO [72] ?_;repeat'(first|exact a6|apply eS rfl|apply AD|refine rP a ?_ ?_|fail)
   simp only[tO,u];refine cP 4 a ?_ ?_
   .trivial
   refine QZ a (E (k+1) w O1 D) [] [] ?_
   rintro _ _ rfl;refine⟨[],.tup [.p DH (lT m.2.2.2.1.length),.p .bool true],[],rfl,rfl,?_,?_,rfl,rfl,?_⟩
   .exact eN
   .exact eN
   refine rL a ?_ ?_
   .trivial
   repeat'(first|exact a6|apply eS rfl|refine rP a ?_ ?_|fail)
   refine rC (λ_=>?_) (λq=>?_)
   .repeat'(first|exact a6|apply eS rfl|refine rX a ?_ ?_)
    exact fM a [.tmp 8,.tmp 9] (.tup [.p DH (lT m.2.2.2.1.length),.p .bool true]) eT rfl
   cases q
  exact absurd b O1
end
section
def A4r:Ab:={ ins:=[LH,LH,DH,DH],pre:=λ(a,b,v,p,_)=>a=b/\MIn a/\wN a v/\p=([]:List Int),out:=λ(a,_)=>[.p DH (lT (List.length (a:A7).2.2.2.1)),.p .bool true] }
attribute [go_sem] A4r
theorem A4s:Ag Tryz.prog 74 A4r:=by
 refine J0 ⟨_,Tryz.func74,a5,a5⟩ (λds f=>?_) (λds r a=>?_)
 .obtain⟨m,b,v,l,u⟩:=ds;obtain⟨h1,c,d,e⟩:=f;obtain rfl:m=b:=h1;obtain rfl:l=[]:=e;refine⟨[.p LH m,.p LH m,.p DH v,.p DH (lT 0)],λw O y g=>?_,A7Y c m.2.2.2.1.length 0 v O1 d⟩;obtain⟨v1,q,rfl,h,n,s,rfl,i,o,t,rfl,j,v4,x,rfl,k,rfl⟩:=g;exact⟨v1,_,rfl,EL h,n,_,rfl,EL i,o,_,rfl,EL j,v4,_,rfl,EL k,rfl⟩
 simp only[A4r,By,ACm,ADW]at a;rcases a with rfl|rfl
 .exact⟨_,_,rfl⟩
 exact⟨_,_,rfl⟩
def TIn (m:A7):Prop:=MIn m/\(0<=m.1/\m.1<(m.2.2.1.length:Int))/\0<=m.2.1/\m.2.1<(m.2.2.1.length:Int)
def AAk:Ab:={ ins:=[LH,LH],pre:=λ(a,b,_)=>a=b/\TIn a,out:=λ(a,_)=>[.p DH (lT (List.length (a:A7).2.2.2.1)),.p .bool true] }
attribute [go_sem] AAk
theorem A7Z (n:Nat):IdV (List.replicate n (-1)):=λi hi=>.inr (by
 rw[ADJ]at hi;simp[AS,hi])
theorem AAl:Ag Tryz.prog 39 AAk:=by
 refine fK [0,1,2,3,4,5,6,7,8,9,10,11,36,42,60,73,82] Tryz.func39 Tryz.ntmps39 (AF U6 (AF A4s AH)) ?_;rintro w0 O0 ⟨m,b,u⟩ a-⟨l,hT⟩;obtain rfl:m=b:=l;obtain⟨j,d,g⟩:TIn m:=hT;have t:m.2.2.1.length<=256:=j.2.2.2.2;simp only[AAk,AL];repeat'(first|exact a6|apply eS rfl|refine rP a ?_ ?_|fail)
 refine rX a ?_ ?_
 .trivial
 repeat' apply eS rfl
 refine rC (λq=>?_) (λ_=>?_)
 .exact absurd q sc
 repeat'(first|exact a6|apply eS rfl|refine rP a ?_ ?_|fail)
 refine AI (ι:={i:Nat//i<=m.2.2.1.length}) (λi=>⟨[(2,.bp 2 [] 0),(3,.bp 3 [] 0),(6,.sr 47 T3 0 i.1),(7,.p T3 (i.1:Int))],[(47,.arr 3 T3 (List.replicate i.1 (-1))),(3,.box 27 true [.p T3 m.1,.p T3 m.2.1,.p CC m.2.2.1,.p G4 m.2.2.2.1,.p Hc m.2.2.2.2]),(2,.box 27 true [.p T3 m.1,.p T3 m.2.1,.p CC m.2.2.1,.p G4 m.2.2.2.1,.p Hc m.2.2.2.2])]⟩) (λi=>m.2.2.1.length-i.1) ⟨0,DO _⟩ (AB [(47,.nm 37),(3,.nm 3),(2,.nm 2)] rfl rfl ?_ ?_) (λi=>?_)
 .refine eM ?_;all_goals rfl
 .exact eN
 obtain⟨i,hi⟩:=i;simp only;repeat'(first|exact a6|apply eS rfl|refine rP a ?_ ?_|fail)
 refine rC ?_ ?_<;>intro s
 .have n:i<m.2.2.1.length:=by exact eV
  have k:List.replicate i (-1:Int)++[-1]=List.replicate (i+1) (-1):=List.replicate_succ'.symm;repeat'(first|apply eS rfl|apply AD|refine rP a ?_ ?_|fail)
  .simp only[AP];omega
  .exact eV
  refine⟨⟨i+1,n⟩,a2,AB [(47,.nm 47),(3,.nm 3),(2,.nm 2)] rfl rfl ?_ ?_⟩
  .have c:(List.replicate i (-1:Int)).take i=List.replicate i (-1):=BY sc;simp only[c,k];exact eN
  exact eN
 have o:i=m.2.2.1.length:=by
  have:m.2.2.1.length<=i:=by exact eV
  omega
 have e:wN m (List.replicate i (-1)):=⟨by rw[ADJ];exact o,by rw[ADJ];omega,A7Z _⟩;have f:=Xg e d.1;have r:=Xg f g.1;have c:(List.replicate i (-1:Int)).take i=List.replicate i (-1):=BY sc;refine CO [47] ?_;repeat'(first|exact a6|apply eS rfl|refine rP a ?_ ?_|fail)
 all_goals simp only[c]at *
 .exact⟨d.1,by rw[e.1];exact d.2,e⟩
 simp only[show (List.replicate i (-1:Int)).set m.1.toNat m.1=S7 (List.replicate i (-1)) m.1 from rfl];generalize S7 (List.replicate i (-1)) m.1=h at *;refine rC (λq=>?_) (λ_=>?_)
 .cases q
 repeat'(first|exact a6|apply eS rfl|refine rP a ?_ ?_|fail)
 .exact⟨g.1,by rw[f.1];exact g.2,f⟩
 simp only[show h.set m.2.1.toNat m.2.1=S7 h m.2.1 from rfl];generalize S7 h m.2.1=v at *;refine rC (λq=>?_) (λ_=>?_)
 .cases q
 repeat'(first|exact a6|apply eS rfl|refine rP a ?_ ?_|fail)
 .exact⟨j,r⟩
 refine rC (λq=>?_) (λ_=>?_)
 .cases q
 repeat'(first|exact a6|apply eS rfl|refine rP a ?_ ?_|fail)
 exact fI a [.tmp 4,.tmp 5]
def smS:Ab:={ ins:=[LH,LH],pre:=λ(a,b,_)=>a=b/\TIn a,out:=λ_=>[.p .bool true] }
theorem ABY:Ag Tryz.prog 13 smS:=by
 refine fK [0,1,2,3,4,6] Tryz.func13 Tryz.ntmps13 (AF AAl AH) ?_;rintro w0 O0 ⟨m,b,u⟩ a-⟨c,hT⟩;obtain rfl:m=b:=c;have hT:TIn m:=hT;simp only[smS,AL];repeat'(first|exact a6|apply eS rfl|refine rP a ?_ ?_|fail)
 .exact hT
 exact fI a [.tmp 4]
end
section
attribute [go_sem] smS
theorem ABZ {h:AE} (p:Dx h) (k:US m) (e:(Lr h m).2=0):VF h (Lr h m).1:=by
 have a:Lr h m=if C5 h m.2.2.2.1≠0 then ([],C5 h m.2.2.2.1) else A8 (E2 h m):=rfl
 by_cases hz:C5 h m.2.2.2.1≠0
 .rw[a,At hz]at e;exact absurd e hz
 have b:C5 h m.2.2.2.1=0:=Do hz;rw[As hz,(S4 p k b).1]at a;obtain⟨h1,d,-⟩:=Xa p k b;generalize AO (Bo (Av h m)) 0=K at *;generalize A8 (Av h m)=c at *;rw[a,h1];exact d
theorem AAm (k:US m):TIn m:=by
 have a:=k.rng;obtain⟨f,g⟩:=Zp m;refine⟨⟨k.rels,k.cons,λe c=>⟨λx b=>?_,k.args e c⟩,λq d x b=>?_,k.vars⟩,a _ f,a _ g⟩
 .exact a x (by simp only[Ay,IS,ABQ];exact .inl (.inr ⟨e,c,b⟩))
 exact a x (by simp only[Ay,IS,ABQ];exact .inr ⟨q,d,b⟩)
def A4t:Ab:={ ins:=[FT,LH],pre:=λ_=>True,out:=λ_=>[.p .bool true] }
theorem A4u:Ag Tryz.prog 3 A4t:=by
 refine fK [0,1,3,4,5,6,7,8,9,10,11,12,13,25,40,44,45,46,56] Tryz.func3 Tryz.ntmps3 (AF A3V (AF A3T (AF A7N (AF A4m (AF pE (AF LZ (AF lM (AF A3C (AF jF (AF ABY AH)))))))))) ?_;rintro w0 O0 ⟨d,m,u⟩ b - -;simp only[A4t,AL];have f:(OJ d).2=true->Dx (OJ d).1:=A7u;have r:(OJ d).2=true->Xc (OJ d).1:=A7P;have l:(m.1,m.2.1,m.2.2.1,m.2.2.2.1,m.2.2.2.2)=m:=rfl;generalize z:OJ d=C at *;repeat'(first|exact a6|apply eS rfl|refine rP b ?_ ?_|fail)
 refine rX b ?_ ?_
 .trivial
 simp only[z,l];repeat' apply eS rfl
 refine rC ?_ ?_<;>intro g
 .repeat'(first|exact a6|apply eS rfl|refine rX b ?_ ?_)
  exact fI b [.tmp 4]
 have f:=f g.1;have r:=r g.1;have h:=A7V g.2;have k:(C.1.1,C.1.2)=C.1:=rfl;have s:=λP e c=>A0b f r h (P:=P) e c;have t:=ABZ f h;repeat'(first|apply eS rfl|refine rP b ?_ ?_|fail)
 .exact⟨f,h⟩
 simp only[k,l];generalize Lr C.1 m=L at *;repeat'(first|exact a6|apply eS rfl|apply AD|refine rP b ?_ ?_|fail)
 refine rX b ?_ ?_
 .simp only[k];intro q;exact⟨f.h14.ft,(t (by simpa using q)).small,f.h14.ok⟩
 simp only[k];repeat' apply eS rfl
 refine rC ?_ ?_<;>intro g
 .repeat'(first|exact a6|apply eS rfl|refine rX b ?_ ?_)
  exact fI b [.tmp 4]
 obtain⟨n,o⟩:=g;obtain⟨P,e⟩:=L;simp only at n o s t ⊢;have n:e=0:=by simpa using n
 have o:GP C.1 P=0:=by simpa using o
 subst n;obtain⟨F,G,j,I⟩:=s P rfl o;have D:=AAm h;have H:m.2.2.2.1.length<=4:=h.rels;repeat'(first|exact a6|apply eS rfl|refine rP b ?_ ?_|fail)
 refine AI (ι:={i:Nat//i<=m.2.2.2.1.length}) (λi=>⟨[(3,.bp 3 [] 0),(5,.bp 5 [] 0),(7,.bp 7 [] 0),(44,.p (.int .i64) (m.2.2.2.1.length:Int)),(45,.p (.int .i64) (i.1:Int))],[(7,.box 38 true [.p KT P]),(5,.box 31 true [.p Px C.1.1,.p Rl C.1.2]),(3,.box 27 true [.p T3 m.1,.p T3 m.2.1,.p CC m.2.2.1,.p G4 m.2.2.2.1,.p Hc m.2.2.2.2])]⟩) (λi=>m.2.2.2.1.length-i.1) ⟨0,DO _⟩ (eW [(7,.nm 7),(5,.nm 5),(3,.nm 3)]) (λi=>?_)
 obtain⟨i,hi⟩:=i;simp only;repeat'(first|exact a6|apply eS rfl|refine rP b ?_ ?_|fail)
 refine rC ?_ ?_<;>intro g
 .have B:i<m.2.2.2.1.length:=by exact eV
  have A:=g;repeat'(first|exact a6|apply eS rfl|refine rP b ?_ ?_|fail)
  refine rX b ?_ ?_
  .exact A
  repeat' apply eS rfl
  refine rC ?_ ?_<;>intro g
  .repeat'(first|exact a6|apply eS rfl|refine rX b ?_ ?_)
   exact fI b [.tmp 4]
  repeat'(first|apply eS rfl|apply AD|refine rP b ?_ ?_|fail)
  .exact eV
  exact⟨⟨i+1,B⟩,a2,eW [(7,.nm 7),(5,.nm 5),(3,.nm 3)]⟩
 have v:=j.good;have w:=j.pos;have y:=j.ty;repeat'(first|apply eS rfl|refine rP b ?_ ?_|fail)
 all_goals simp only[k,l,F,G]
 .exact⟨f,h⟩
 .exact⟨f.so,v,y,λx E a ha=>j.ft x E a ha,w⟩
 refine rX b ?_ ?_
 .simp only[l];exact⟨λ_=>j.small,λ_=>D⟩
 simp only[X3];repeat' apply eS rfl
 exact fI b [.tmp 4]
end
end Go.Proofs.YtddbnflakbngaaaGreatDoor.Fw
