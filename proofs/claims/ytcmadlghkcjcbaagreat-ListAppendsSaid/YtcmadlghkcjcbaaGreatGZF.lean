/- Regions whose order Go leaves open: the rules. -/
import Derived.Test.YtcmadlghkcjcbaaGreatGZE
set_option linter.unusedVariables false
set_option linter.unusedSimpArgs false
namespace Go.Proofs.YtcmadlghkcjcbaaGreat.Fw
variable {k:Nat} {Z:Array Oper} {Y:Type} {X b:St} {w:World} {W:List (Nat×TypeId)} {V:List (Nat×TI)} {c:Cx} {P:Program} {a:Act} {U T:List Nat} {v:AV}
section
open Go Go.RowKit
def D8 (o:Oper):List Nat:=(o.after.toList.filter (Region.binds .any)).map (·.on)
def Ap (ops:List Oper) (j:Nat):Option Nat:=(ops[j]?).bind (·.dst)
def Ti:Operand->Option Nat
 | .tmp t=>some t
 | _=>none
def NM (ops:List Oper) (o:Oper):List Nat:=(o.op.operands.toList.filterMap Ti)++(match o.guard with|some (j,_)=>(Ap ops j).toList|none=>[])
def A9u (a b:List Nat):List Nat:=a.foldl (λr x=>if Ad x r then r else x :: r) b
def A13 (ops:List Oper):List (List Nat):=ops.foldl (λ(a:List (List Nat)) o=>a++[(D8 o).foldl (λr e=>A9u (a.getD e []) (if Ad e r then r else e :: r)) []]) []
def opB (ops:List Oper) (k:Nat) (anc:List (List Nat)) (i:Nat) (o:Oper):Bool :=
  (D8 o).all (λe=>decide (e<i)) &&
  (anc.getD i []).all (λj=>Ad j (D8 o)||(D8 o).any λe=>Ad j (anc.getD e [])) &&
  (if i<k then o.dst.isSome&&((NM ops o).all λt=>(List.range k).all λj=>Ap ops j != some t||Ad j (anc.getD i []))&&((List.range i).all λj=>Ap ops j != o.dst)
   else (List.range i).all λj=>Ad j (anc.getD i []))
def nS (ops:List Oper) (k:Nat) (anc:List (List Nat)):Bool :=
 decide (k<=ops.length)&&(List.range ops.length).all λi=>match ops[i]? with|some o=>opB ops k anc i o|none=>false
def QC (ops:List Oper) (k:Nat):Bool:=nS ops k (A13 ops)
def nT (ops:List Oper) (k:Nat):Bool :=
 decide (k<=ops.length)&&(List.range k).all λi=>match ops[i]? with|some o=>o.dst.isSome&&((List.range i).all λj=>Ap ops j != o.dst)|none=>false
def CE (q:Bool) (ts:List Nat) (base:List (Nat×Obj)):List (Nat×List (Nat×Obj))->List (Nat×Obj)
 | []=>base
 | (s,obs) :: r=>if (q||Ad s ts)=true then obs++CE q ts base r else CE q ts base r
def HP (o:Op):List Nat:=o.operands.toList.filterMap Ti
def OH (q:Bool) (o:Op) (base:List (Nat×Obj)):List (Nat×List (Nat×Obj))->List (Nat×Obj)
 | []=>base
 | e :: r=>CE q (HP o) base (e :: r)
def LV (d:Nat) (obs:List (Nat×Obj)) (E:List (Nat×List (Nat×Obj))):List (Nat×List (Nat×Obj)) :=
 match obs with
 | []=>E
 | x :: r=>(d,x :: r) :: E
abbrev Ch:=List (Nat×Bool)
abbrev Gs:=List (Nat×(Ch×Bool×AV))
def Ox:Ch->Ch->Bool
 | [],[]=>true
 | (j,w) :: r,(a,w') :: b=>(j==a)&&(w==w')&&Ox r b
 | [],_ :: _=>false
 | _ :: _,[]=>false
theorem QD:Ox [] []=true:=rfl
theorem Ux (x:Nat×Bool) (r:Ch):Ox [] (x :: r)=false:=rfl
theorem Uy (x:Nat×Bool) (r:Ch):Ox (x :: r) []=false:=rfl
theorem NP (j a:Nat) (w w':Bool) (r b:Ch):Ox ((j,w) :: r) ((a,w') :: b)=(decide (j=a)&&(w==w')&&Ox r b):=by grind [Ox]
def V1 (a:Ch):Ch->Bool
 | []=>Ox a []
 | k :: r=>Ox a (k :: r)||V1 a r
def LX (c:Ch):Gs->List (Nat×AV)->List (Nat×AV)
 | [],env=>env
 | (s,a,_,v) :: G,env=>if V1 a c=true then (s,v) :: LX c G env else LX c G env
def NQ (j:Nat) (a:Bool):Option (Ch×Bool×AV)->Option AV->Option (Ch×Bool)
 | some (c,T,.p .bool b),_=>some ((j,a) :: c,T&&(b==a))
 | none,some (.p .bool b)=>some ([(j,a)],b==a)
 | _,_=>none
def Kp (G:Gs) (env:List (Nat×AV)) (j:Nat) (a:Bool):Option Nat->Option (Ch×Bool)
 | some s=>NQ j a (lk s G) (lk s env)
 | none=>none
def Ja (ops:List Oper) (G:Gs) (env:List (Nat×AV)) (i:Nat):Option (Nat×Bool)->Option (Ch×Bool)
 | none=>some ([],true)
 | some (j,a)=>if j<i then Kp G env j a (Ap ops j) else none
def Rv (ops:List Oper) (c:Ch) (s:Nat) (w:Bool):Option (Ch×Bool×AV)->Option AV->Option AV
 | some (a,_,v),_=>if V1 a c=true then some v else match a with
  | []=>none
  | (j,w') :: r=>if w'=w/\Ap ops j=some s/\Ox r c=true then some v else none
 | none,x=>x
def MF (ops:List Oper) (c:Ch) (G:Gs) (env:List (Nat×AV)) (s:Nat) (w:Bool):Operand->Option AV
 | .tmp t=>Rv ops c s w (lk t G) (lk t env)
 | .const v=>some (Iz v)
 | .func _=>none
 | .global _=>none
def Rw:Option AV->Option AV->Option AV->BX
 | some (.p .bool b),some (.p .bool p),some (.p .bool q)=>some (True,.p .bool (bif b then p else q),[])
 | _,_,_=>none
def QE (ops:List Oper) (c:Ch) (G:Gs) (env:List (Nat×AV)):Operand->Operand->Operand->BX
 | .tmp s,x,y=>Rw (lk s (LX c G env)) (MF ops c G env s true x) (MF ops c G env s false y)
 | .const _,_,_=>none
 | .func _,_,_=>none
 | .global _,_,_=>none
def Jb:Op->Option (Operand×Operand×Operand)
 | .pick s x y=>some (s,x,y)
 | _=>none
def opM (tb:Tb) (ops:List Oper) (q:Bool) (base:List (Nat×Obj)) (c:Ch) (G:Gs) (E:List (Nat×List (Nat×Obj))) (env:List (Nat×AV)) (o:Oper):Option (Operand×Operand×Operand)->BX
 | some (s,x,y)=>QE ops c G env s x y
 | none=>aq tb ⟨LX c G env,OH q o.op base E⟩ (o.dst.getD 0) o.op
mutual
def NR (tb:Tb) (ops:List Oper) (q:Bool) (base:List (Nat×Obj)) (rest:List Oper):List Oper->Nat->List (Nat×List (Nat×Obj))->Gs->St->C7
 | [],_,_,_,σ=>B5 tb ops rest σ
 | o :: r,i,E,G,σ=>evMG tb ops q base rest o r i E G σ (Ja ops G σ.env i o.guard)
def evMG (tb:Tb) (ops:List Oper) (q:Bool) (base:List (Nat×Obj)) (rest:List Oper) (o:Oper) (r:List Oper) (i:Nat) (E:List (Nat×List (Nat×Obj))) (G:Gs) (σ:St):Option (Ch×Bool)->C7
 | some (c,T)=>evMQ tb ops q base rest o.dst r i E G σ c T (opM tb ops q base c G E σ.env o (Jb o.op))
 | none=>none
def evMQ (tb:Tb) (ops:List Oper) (q:Bool) (base:List (Nat×Obj)) (rest:List Oper) (dst:Option Nat) (r:List Oper) (i:Nat) (E:List (Nat×List (Nat×Obj))) (G:Gs) (σ:St):Ch->Bool->BX->C7
 | [],_,some (vc,v,obs)=>match dst with
  | some d=>if Bh obs σ=true then YW vc (NR tb ops q base rest r (i+1) (LV d obs E) G (σ.add v obs (some d))) else none
  | none=>none
 | g :: c,T,some (vc,v,[])=>match dst with
  | some d=>if (lk d σ.env).isNone=true then YW (T=true->vc) (NR tb ops q base rest r (i+1) E ((d,g :: c,T,v) :: G) σ) else none
  | none=>none
 | _,_,_=>none
end
structure En where
 b:Bool
 v:AV
 obs:List (Nat×Obj)
def Au (ops:List Oper) (en:Nat->En) (σ:St):List Nat->St
 | []=>σ
 | i :: r=>(Au ops en σ r).add (en i).v (en i).obs (Ap ops i)
def Ak:Nat->List Nat
 | 0=>[]
 | i+1=>i :: Ak i
end
section
open Go Go.RowKit
section
variable {tb:Tb} {ops:List Oper} {k:Nat} {q:Bool} {anc:List (List Nat)} {σ0:St} {en:Nat->En}
def ES (ops:List Oper) (en:Nat->En) (l:List Nat):List (Nat×List (Nat×Obj)):=l.map λj=>((Ap ops j).getD 0,(en j).obs)
def Kq (ops:List Oper) (σ:St) (b:Bool):Option (Nat×Bool)->Prop
 | none=>b=true
 | some (j,a)=>∃s,Ap ops j=some s/\((∃x,lk s σ.env=some (.p .bool x)/\b=(x==a))\/(lk s σ.env=some (.raw undef)/\b=false))
structure V2 (tb:Tb) (ops:List Oper) (q:Bool) (σ0:St) (en:Nat->En) (i:Nat) (o:Oper):Prop where
 g:Kq ops (Au ops en σ0 (Ak i)) (en i).b o.guard
 t:(en i).b=true->∃vc:Prop,aq tb ⟨(Au ops en σ0 (Ak i)).env,CE q (HP o.op) σ0.objs (ES ops en (Ak i))⟩ (o.dst.getD 0) o.op=some (vc,(en i).v,(en i).obs)/\vc/\Bh (en i).obs (Au ops en σ0 (Ak i))=true
 f:(en i).b=false->(en i).v=.raw undef/\(en i).obs=[]
theorem Kr {a:Nat->En}:∀ {l:List Nat},(∀j∈l,a j=en j)->Au ops a σ0 l=Au ops en σ0 l
 | [],_=>rfl
 | i :: r,h=>by
  simp only[Au];rw[Kr (λj b=>h j (by simp[b])),h i sc]
theorem BH {i j:Nat}:j∈Ak i↔j<i:=by
 induction i with
 | zero=>simp[Ak]
 | succ i a=>simp[Ak,a];omega
theorem Fj:∀(l:List Nat),(Au ops en σ0 l).objs=(l.flatMap λj=>(en j).obs)++σ0.objs
 | []=>rfl
 | i :: r=>by
  simp only[Au,ABX,RI];rw[<-Fj r];cases Ap ops i<;>rfl
theorem Fk (s:Nat):∀(l:List Nat),lk s (Au ops en σ0 l).env=match l.find? (λj=>Ap ops j==some s) with|some j=>some (en j).v|none=>lk s σ0.env
 | []=>rfl
 | i :: r=>by
  simp only[Au,List.find?_cons];cases hd:Ap ops i with
  | none =>
   simp only[St.add];rw[Fk s r];have:((none:Option Nat)==some s)=false:=rfl;rw[this]
  | some d =>
   simp only[St.add,lk];by_cases hs:s=d
   .subst hs;simp
   have h1:((some d:Option Nat)==some s)=false:=by
    have:d≠s:=λe=>hs e.symm;simpa using this
   rw[At hs,Fk s r,h1]
theorem tB {n:Nat} {o:Obj} {l:List Nat} (h:lk n (l.flatMap λj=>(en j).obs)=some o):∃j∈l,lk n (en j).obs=some o:=by
 induction l with
 | nil=>simp[lk]at h
 | cons i r d =>
  rw[ABX,A2]at h;cases a:lk n (en i).obs with
  | some e =>
   rw[a]at h;exact⟨i,by simp,by rw[a];simpa using h⟩
  | none =>
   rw[a]at h;obtain⟨j,b,c⟩:=d (by simpa using h);exact⟨j,by simp[b],c⟩
theorem Ks {n:Nat} {l:List Nat} (h:lk n (l.flatMap λj=>(en j).obs)=none):∀j∈l,lk n (en j).obs=none:=by
 induction l with
 | nil=>simp
 | cons i r c =>
  rw[ABX,A2]at h;cases a:lk n (en i).obs with
  | some d=>rw[a]at h;simp at h
  | none =>
   rw[a]at h;intro j b;rcases DO.1 b with rfl|b
   .exact a
   grind
def Sep (σ0:St) (en:Nat->En) (k:Nat):Prop :=
 (∀j,j<k->∀n o,lk n (en j).obs=some o->lk n σ0.objs=none)/\∀i j,i<k->j<k->∀n o a,lk n (en i).obs=some o->lk n (en j).obs=some a->i=j
theorem E0 (f:Sep σ0 en k) {l:List Nat} (hl:∀j∈l,j<k) (n:Nat) (o:Obj):lk n (Au ops en σ0 l).objs=some o↔(∃j∈l,lk n (en j).obs=some o)\/((∀j∈l,lk n (en j).obs=none)/\lk n σ0.objs=some o):=by
 rw[Fj,A2];cases h:lk n (l.flatMap λj=>(en j).obs) with
 | some g =>
  obtain⟨j,b,a⟩:=tB h;simp only[ACE];constructor
  .grind
  rintro (⟨c,d,e⟩|⟨h1,_⟩)
  .have:=f.2 j c (hl j b) (hl c d) n g o a e;grind
  rw[h1 j b]at a;cases a
 | none =>
  have hn:=Ks h;simp only[Option.none_or];constructor
  .grind
  grind
theorem A14 (f:Sep σ0 en k) {ts:List Nat} {l l':List Nat} (hl:∀j∈l,j<k) (e:∀j∈l',j<k) (d:∀j∈l,(q||Ad ((Ap ops j).getD 0) ts)=true->j∈l') {n:Nat} {o:Obj} :
  lk n (CE q ts σ0.objs (ES ops en l))=some o->lk n (Au ops en σ0 l').objs=some o:=by
 rw[E0 f e];induction l with
 | nil =>
  simp only[ES,ABN,CE];intro h;refine .inr ⟨λj b=>?_,h⟩;cases a:lk n (en j).obs with
  | none=>rfl
  | some g=>have:=f.1 j (e j b) n g a;rw[this]at h;cases h
 | cons i r c =>
  simp only[ES,Rd,CE];have c:=c (λj b=>hl j (by simp[b])) (λj b=>d j (by simp[b]));split
  .rename_i hm;intro h;rw[A2]at h;cases a:lk n (en i).obs with
   | some g =>
    rw[a]at h;simp only[ACE]at h;cases h;exact .inl ⟨i,d i sc hm,a⟩
   | none =>
    rw[a]at h;exact c (by simpa[ES] using h)
  exact c
theorem QF:∀ {a b:Ch},Ox a b=true↔a=b
 | [],[]=>by simp[Ox]
 | (j,w) :: r,(d,w') :: c=>by simp[Ox,QF (a:=r) (b:=c),and_assoc]
 | [],_ :: _=>by simp[Ox]
 | _ :: _,[]=>by simp[Ox]
def bv:AV->Bool
 | .p .bool b=>b
 | _=>false
def tr (en:Nat->En):Ch->Bool
 | []=>true
 | (j,w) :: r=>tr en r&&(bv (en j).v==w)
theorem V3 {a:Nat->En}:∀ {c:Ch},(∀k∈c,a k.1=en k.1)->tr a c=tr en c
 | [],_=>rfl
 | (j,w) :: r,h=>by
  have h1:=h (j,w) sc;simp only at h1;simp only[tr];rw[V3 (λk hk=>h k (by simp[hk])),h1]
theorem nU {a:Ch}:∀ {c:Ch},V1 a c=true->tr en c=true->tr en a=true
 | [],h,ht=>by simp only[V1,QF]at h;rw[h];exact ht
 | k :: r,h,ht=>by
  simp only[V1,TB,QF]at h;rcases h with rfl|h
  .exact ht
  obtain⟨j,w⟩:=k;simp only[tr,An]at ht;exact nU h ht.1
structure Inv (ops:List Oper) (q:Bool) (σ0:St) (en:Nat->En) (i:Nat) (E:List (Nat×List (Nat×Obj))) (G:Gs) (σ:St):Prop where
 env:∀s v,lk s σ.env=some v->lk s (Au ops en σ0 (Ak i)).env=some v
 G:∀s c T v,(s,c,T,v)∈G->T=tr en c/\(T=true->lk s (Au ops en σ0 (Ak i)).env=some v)/\(∀k∈c,k.1<i)/\∃j,j<i/\Ap ops j=some s/\(en j).b=T
 f:∀j,j<i->(en j).b=false->(en j).v=.raw undef
 objs:σ.objs=(Au ops en σ0 (Ak i)).objs
 E:∀ts,CE q ts σ0.objs E=CE q ts σ0.objs (ES ops en (Ak i))
def nV (ops:List Oper) (k:Nat):Prop:=∀a b,a<b->b<k->Ap ops a≠Ap ops b
theorem Y2 (hu:nV ops k) {i j s:Nat} (c:i<=k) (b:j<i) (hd:Ap ops j=some s):lk s (Au ops en σ0 (Ak i)).env=some (en j).v:=by
 rw[Fk];have:(Ak i).find? (λj=>Ap ops j==some s)=some j:=by
  cases hf:(Ak i).find? (λj=>Ap ops j==some s) with
  | none =>
   have:=ACA.1 hf j (BH.2 b);simp[hd]at this
  | some x =>
   have h1:=BH.1 (AC0 hf);have a:=ACW hf;have a:Ap ops x=some s:=by simpa using a
   rcases ACc x j with h|h|h
   .exact absurd (a.trans hd.symm) (hu x j h O1)
   .rw[h]
   exact absurd (hd.trans a.symm) (hu j x h O1)
 rw[this]
theorem Rx {c:Ch} {s:Nat} {v:AV} {env:List (Nat×AV)}:∀ {G:Gs},lk s (LX c G env)=some v->(∃b T,(s,b,T,v)∈G/\V1 b c=true)\/lk s env=some v
 | [],h=>.inr h
 | (d,b,T,e) :: G,h=>by
  simp only[LX]at h;split at h
  .rename_i hs;simp only[lk]at h;split at h
   .grind
   rcases Rx h with ⟨c2,T2,hm,a⟩|a
   .grind
   exact .inr a
  rcases Rx h with ⟨c2,T2,hm,a⟩|a
  .grind
  exact .inr a
section
variable {i:Nat} {E:List (Nat×List (Nat×Obj))} {G:Gs} {σ:St}
theorem gG (a:Inv ops q σ0 en i E G σ) {c:Ch} (e:tr en c=true) {s:Nat} (h:lk s (LX c G σ.env)=some v):lk s (Au ops en σ0 (Ak i)).env=some v:=by
 rcases Rx h with ⟨b,T,hm,hs⟩|h
 .obtain⟨h1,d,_⟩:=a.G s b T v hm;grind [nU]
 exact a.env s v h
theorem xQ (l:Inv ops q σ0 en i E G σ) (hu:nV ops k) (u:i<=k) {g:Option (Nat×Bool)} {c:Ch} {T:Bool} (h:Ja ops G σ.env i g=some (c,T)) :
  Kq ops (Au ops en σ0 (Ak i)) T g/\T=tr en c/\(∀k∈c,k.1<i):=by
 cases g with
 | none =>
  simp only[Ja]at h;cases h;exact⟨rfl,rfl,by simp⟩
 | some g =>
  obtain⟨j,y⟩:=g;simp only[Ja]at h;split at h
  .rename_i p;cases hd:Ap ops j with
   | none=>rw[hd]at h;simp[Kp]at h
   | some s =>
    rw[hd]at h;simp only[Kp]at h;have d:=Y2 (en:=en) (σ0:=σ0) hu u p hd;unfold NQ at h;split at h
    .rename_i c0 n b m;cases h;obtain⟨h1,r,w,e,x,o,t⟩:=l.G s c0 n _ (F9 m);cases hT:n with
     | true =>
      have a:=r hT;rw[d]at a;injection a with a
      refine⟨⟨s,hd,.inl ⟨b,by rw[d,a],by simp⟩⟩,?_,?_⟩
      .grind [tr,bv]
      grind
     | false =>
      have v:e=j:=by
       rcases ACc e j with h|h|h
       .exact absurd (o.trans hd.symm) (hu e j h O1)
       .exact h
       exact absurd (hd.trans o.symm) (hu j e h O1)
      subst v;have a:=l.f e p (by rw[t,hT]);refine⟨⟨s,hd,.inr ⟨by rw[d,a],by simp⟩⟩,?_,?_⟩
      .grind [tr]
      grind
    .rename_i b _ m;cases h;have a:=l.env s _ m;rw[d]at a;injection a with a
     refine⟨⟨s,hd,.inl ⟨b,by rw[d,a],rfl⟩⟩,by simp[tr,a,bv],?_⟩;grind
    cases h
  cases h
theorem gH (d:Inv ops q σ0 en i E G σ) (hu:nV ops k) (n:i<=k) {c:Ch} (y:tr en c=true) {s:Nat} {w:Bool} (hs:lk s (Au ops en σ0 (Ak i)).env=some (.p .bool w)) {x:Operand} 
  (h:MF ops c G σ.env s w x=some v) {objs:List (Nat×Obj)}:Aq ⟨(Au ops en σ0 (Ak i)).env,objs⟩ x=some v:=by
 cases x with
 | const x=>simp only[MF]at h;exact h
 | func f=>simp[MF]at h
 | global g=>simp[MF]at h
 | tmp t =>
  simp only[MF]at h;simp only[Aq];cases a:lk t G with
  | none =>
   rw[a]at h;exact d.env t v h
  | some e =>
   obtain⟨b,T,o⟩:=e;rw[a]at h;simp only[Rv]at h;obtain⟨h1,u,m,_⟩:=d.G t b T o (F9 a);split at h
   .grind [nU]
   cases b with
   | nil=>cases h
   | cons p r =>
    obtain⟨j,w'⟩:=p;simp only at h;split at h
    .rename_i hh;obtain⟨rfl,hd,l⟩:=hh;rw[QF]at l;subst l;cases h;have z:=Y2 (en:=en) (σ0:=σ0) hu n (m (j,w') sc) hd;grind [tr,bv]
    cases h
theorem A7R (a:Inv ops q σ0 en i E G σ) (hu:nV ops k) (l:i<=k) {c:Ch} (d:tr en c=true) {o:Oper} {vc:Prop} {obs:List (Nat×Obj)} (h:opM tb ops q σ0.objs c G E σ.env o (Jb o.op)=some (vc,v,obs)) (A:vc) :
  ∃m:Prop,aq tb ⟨(Au ops en σ0 (Ak i)).env,CE q (HP o.op) σ0.objs (ES ops en (Ak i))⟩ (o.dst.getD 0) o.op=some (m,v,obs)/\m:=by
 cases j:Jb o.op with
 | none =>
  rw[j]at h;simp only[opM]at h;refine⟨vc,Uw (σ:=⟨LX c G σ.env,OH q o.op σ0.objs E⟩) ?_ ?_ h,A⟩
  .intro n x hn;have:OH q o.op σ0.objs E=CE q (HP o.op) σ0.objs E:=by cases E<;>rfl
   simp only at hn ⊢;rw[this,a.E]at hn;exact hn
  intro x _ v e;cases x with
  | tmp t=>exact gG a d e
  | const B=>exact e
  | global g=>exact e
  | func f=>exact e
 | some p =>
  obtain⟨s,x,y⟩:=p;rw[j]at h;have z:o.op=.pick s x y:=by
   unfold Jb at j;grind
  simp only[opM]at h;rw[z];cases s with
  | const _=>simp[QE]at h
  | func _=>simp[QE]at h
  | global _=>simp[QE]at h
  | tmp s =>
   simp only[QE]at h;unfold Rw at h;split at h
   .rename_i b p r h1 u w;cases h;have hs:=gG a d h1;refine⟨True,?_,trivial⟩;have h0:Aq ⟨(Au ops en σ0 (Ak i)).env,CE q (HP (Op.pick (.tmp s) x y)) σ0.objs (ES ops en (Ak i))⟩ (.tmp s)=some (.p .bool b):=hs;simp only[aq];rw[h0];cases b with
    | true =>
     simp only[Lo];rw[gH a hu l d hs u];rfl
    | false =>
     simp only[Lo];rw[gH a hu l d hs w];rfl
   cases h
end
theorem Ry {rest:List Oper} (hu:nV ops k):∀ {fr:List Oper} {i:Nat} {E:List (Nat×List (Nat×Obj))} {G:Gs} {σ σ':St} {en:Nat->En} {vc:Prop},NR tb ops q σ0.objs rest fr i E G σ=some (vc,σ')->vc->Inv ops q σ0 en i E G σ->i+fr.length=k->(∀j,j<fr.length->ops[i+j]?=fr[j]?) ->
  ∃l:Nat->En,(∀j,j<i->l j=en j)/\(∀j o,i<=j->j<k->ops[j]?=some o->V2 tb ops q σ0 l j o) /\
   ∃(A:Prop) (σ2:St),B5 tb ops rest σ2=some (A,σ')/\A/\(∀s v,lk s σ2.env=some v->lk s (Au ops l σ0 (Ak k)).env=some v)/\σ2.objs=(Au ops l σ0 (Ak k)).objs
 | [],i,E,G,σ,σ',en,vc,h,C,m,hk,_=>by
  simp only[NR]at h;simp at hk;subst hk;exact⟨en,λ_ _=>rfl,λj o h1 M=>by omega,vc,σ,h,C,m.env,m.objs⟩
 | o :: r,i,E,G,σ,σ',en,vc,h,C,m,hk,ah=>by
  have af:ops[i]?=some o:=by simpa using ah 0 sc
  have N:Ap ops i=o.dst:=by simp[Ap,af]
  have Q:i<k:=by simp at hk;omega
  simp only[NR]at h;cases P:Ja ops G σ.env i o.guard with
  | none=>rw[P]at h;simp[evMG]at h
  | some ak =>
   obtain⟨c,T⟩:=ak;obtain⟨ba,hT,Y⟩:=xQ m hu (AC6 Q) P;rw[P]at h;simp only[evMG]at h;cases S:opM tb ops q σ0.objs c G E σ.env o (Jb o.op) with
   | none =>
    rw[S]at h;unfold evMQ at h;split at h
    .rename_i O;cases O
    .rename_i O;cases O
    cases h
   | some bh =>
    obtain⟨bi,v,obs⟩:=bh;rw[S]at h;have aj:∀(d:Nat) (e:En) (I:List (Nat×List (Nat×Obj))) (J:Gs) (H:St) (B:Prop),o.dst=some d->e.b=T->(T=true->bi/\e.v=v/\e.obs=obs/\Bh obs σ=true)->(T=false->e.v=.raw undef/\e.obs=[]) ->
      (∀s a,lk s H.env=some a->if s=d then a=e.v else lk s σ.env=some a)->H.objs=e.obs++σ.objs ->
      (∀s t w a,(s,t,w,a)∈J->(s,t,w,a)∈G\/(s=d/\t=c/\w=T/\a=v))->(∀ts,CE q ts σ0.objs I=CE q ts σ0.objs ((d,e.obs) :: E)) ->
      NR tb ops q σ0.objs rest r (i+1) I J H=some (B,σ')->B ->
      ∃l:Nat->En,(∀j,j<i->l j=en j)/\(∀j o,i<=j->j<k->ops[j]?=some o->V2 tb ops q σ0 l j o) /\
       ∃(A:Prop) (σ2:St),B5 tb ops rest σ2=some (A,σ')/\A/\(∀s v,lk s σ2.env=some v->lk s (Au ops l σ0 (Ak k)).env=some v)/\σ2.objs=(Au ops l σ0 (Ak k)).objs:=by
     intro d e I J H B n D aa Z ax bb ap an ay bg
     let p:Nat->En:=λj=>if j=i then e else en j
     have L:p i=e:=by simp[p]
     have heq:∀j,j<i->p j=en j:=λj u=>by simp[p,show j≠i by omega]
     have av:Au ops p σ0 (Ak i)=Au ops en σ0 (Ak i):=Kr λj u=>heq j (BH.1 u);have W:ES ops p (Ak i)=ES ops en (Ak i):=by
      apply RN;grind [BH]
     have aw:Au ops p σ0 (Ak (i+1))=(Au ops en σ0 (Ak i)).add e.v e.obs (some d):=by grind [Ak,Au]
     have ag:∀s a,s≠d->lk s (Au ops en σ0 (Ak i)).env=some a->lk s (Au ops p σ0 (Ak (i+1))).env=some a:=by grind [St.add,lk]
     have ab:lk d (Au ops p σ0 (Ak (i+1))).env=some e.v:=by grind [St.add,lk]
     have aq:Inv ops q σ0 p (i+1) I J H:=by
      refine⟨λs a hl=>?_,λs t w a hm=>?_,λj u hb=>?_,?_,λts=>?_⟩
      .have:=ax s a hl;split at this
       .rename_i hs;rw[hs,this];exact ab
       rename_i hs;exact ag s a hs (m.env s a this)
      .rcases ap s t w a hm with hm|⟨rfl,rfl,rfl,rfl⟩
       .obtain⟨h1,M,K,j,u,hd,hb⟩:=m.G s t w a hm;have bc:s≠d:=by
         rintro rfl;exact hu j i u Q (by rw[hd,N,n])
        refine⟨by rw[V3 (en:=en) λk hk=>heq _ (K k hk)];exact h1,λhT=>ag s a bc (M hT),λk hk=>by have:=K k hk;omega,j,by omega,hd,by rw[heq j u];exact hb⟩
       refine⟨by rw[V3 (en:=en) λk hk=>heq _ (Y k hk)];exact hT,λar=>?_,λk hk=>by have:=Y k hk;omega,i,by omega,by rw[N,n],by rw[L];exact D⟩;rw[ab,(aa ar).2.1]
      .by_cases R:j=i
       .subst R;rw[L]at hb ⊢;exact(Z (by rw[<-D];exact hb)).1
       rw[heq j O1]at hb ⊢;exact m.f j O1 hb
      .rw[aw,bb,m.objs];rfl
      rw[an];simp only[ES,Ak,Rd,L,N,n,ABc,CE];have:=m.E ts;rw[<-W]at this;simp only[ES]at this;rw[this]
     obtain⟨l,h1,M,K⟩:=Ry hu ay bg aq (by simp at hk ⊢;omega) (λj u=>by
      have:=ah (j+1) (by simp;omega);rw[show i+(j+1)=i+1+j by omega]at this;simpa using this)
     refine⟨l,λj u=>by rw[h1 j O1,heq j u],λj bl bj bk ae=>?_,K⟩;by_cases R:j=i
     .subst R;rw[af]at ae;cases ae;have F:l j=e:=by rw[h1 j O1,L]
      have X:Au ops l σ0 (Ak j)=Au ops en σ0 (Ak j):=by
       rw[<-av];exact Kr λq U=>h1 q (by have:=BH.1 U;omega)
      have ao:ES ops l (Ak j)=ES ops en (Ak j):=by
       rw[<-W];apply RN;intro q U;rw[h1 q (by have:=BH.1 U;omega)]
      refine⟨by rw[X,F,D];exact ba,λhb=>?_,λhb=>?_⟩
      .rw[F,D]at hb;obtain⟨bd,be,bf,ai⟩:=aa hb;obtain⟨A,al,am⟩:=A7R m hu (AC6 Q) (by rw[<-hT];exact hb) S bd;rw[F,X,ao,be,bf];exact⟨A,al,am,by
        simp only[Bh]at ai ⊢;rw[<-m.objs];exact ai⟩
      rw[F,D]at hb;rw[F];exact Z hb
     grind
    cases c with
    | nil =>
     cases n:o.dst with
     | none=>rw[n]at h;simp[evMQ]at h
     | some d =>
      rw[n]at h;simp only[evMQ]at h;split at h
      .rename_i az;cases z:NR tb ops q σ0.objs rest r (i+1) (LV d obs E) G (σ.add v obs (some d)) with
       | none=>rw[z]at h;simp[YW]at h
       | some V =>
        obtain⟨B,σ2⟩:=V;rw[z]at h;simp only[YW]at h;cases h;have au:T=true:=by rw[hT];rfl
        refine aj d ⟨T,v,obs⟩ _ _ _ B n rfl (λ_=>⟨C.1,rfl,rfl,az⟩) (λhf=>by rw[au]at hf;cases hf) (λs a hl=>?_) rfl (λs t w a hm=>.inl hm) (λts=>?_) z C.2
        .simp only[St.add,lk]at hl;split at hl
         .rename_i hs;cases hl;simp[hs]
         rename_i hs;rw[At hs];exact hl
        cases obs with
        | nil=>simp[LV,CE]
        | cons x y=>rfl
      cases h
    | cons g t =>
     cases obs with
     | cons x y=>simp[evMQ]at h
     | nil =>
      cases n:o.dst with
      | none=>rw[n]at h;simp[evMQ]at h
      | some d =>
       rw[n]at h;simp only[evMQ]at h;split at h
       .rename_i ad;cases z:NR tb ops q σ0.objs rest r (i+1) E ((d,g :: t,T,v) :: G) σ with
        | none=>rw[z]at h;simp[YW]at h
        | some V =>
         obtain⟨B,σ2⟩:=V;rw[z]at h;simp only[YW]at h;cases h;refine aj d ⟨T,bif T then v else .raw undef,[]⟩ _ _ _ B n rfl (λht=>⟨C.1 ht,by simp[ht],rfl,by simp[Bh]⟩) (λhf=>⟨by simp[hf],rfl⟩) (λs a hl=>?_) rfl (λs c2 w a hm=>?_) (λts=>?_) z C.2
         .have:s≠d:=by
           rintro rfl;rw[hl]at ad;cases ad
          rw[At this];exact hl
         .rcases DO.1 hm with hm|hm
          .cases hm;exact .inr ⟨rfl,rfl,rfl,rfl⟩
          exact .inl hm
         simp[CE]
       cases h
end
section
variable {c:Cx} {ops:Array Oper} {k:Nat} {anc:List (List Nat)} {σ0 σ':St} {en:Nat->En} {Q:Exit->Act->World->Prop}
theorem A15 {o:Oper} {e:Edge} (a:e∈o.after) (hb:Region.binds .any e=true):e.on∈D8 o:=by grind [D8]
theorem Db {listed:Array Bool} {i:Nat}:i∈Region.ready .any ops listed↔listed.getD i true=false/\∃o,ops[i]?=some o/\∀e∈D8 o,listed.getD e false=true:=by
 rw[mem_ready];grind [D8,A15]
structure Y3 (ops:Array Oper) (k:Nat) (anc:List (List Nat)):Prop where
 lt:∀i o,ops[i]?=some o->∀e∈D8 o,e<i
 cl:∀i o,ops[i]?=some o->∀j∈anc.getD i [],j∈D8 o\/∃e∈D8 o,j∈anc.getD e []
 front:∀i o,ops[i]?=some o->i<k->(∃d,o.dst=some d)/\(∀t∈NM ops.toList o,∀j,j<k->Ap ops.toList j=some t->j∈anc.getD i [])/\∀j,j<i->Ap ops.toList j≠o.dst
 back:∀i o,ops[i]?=some o->k<=i->∀j,j<i->j∈anc.getD i []
 k:k<=ops.size
theorem A9v (h:nS ops.toList k anc=true):Y3 ops k anc:=by
 simp only[nS,An,Of,Ra,ON]at h;obtain⟨hk,h⟩:=h;have hi:∀i o,ops[i]?=some o->opB ops.toList k anc i o=true:=by grind
 refine⟨λi o a e g=>?_,λi o a j b=>?_,λi o a c=>?_,λi o a c j b=>?_,by simpa using hk⟩
 .grind [opB]
 .grind [opB,Al]
 .have:=hi i o a;simp only[opB,c,AAF,An,Of,Ra,TB,Al,ACb]at this;obtain⟨_,⟨h1,f⟩,d⟩:=this;refine⟨ABp.1 h1,λt ht j b hd=>?_,d⟩;grind
 have:=hi i o a;simp only[opB,show ¬i<k by omega,AAV,An,Of,Ra,Al]at this;exact this.2 j b
theorem V4 (a:Y3 ops k anc) {listed:Array Bool} (f:∀i o,ops[i]?=some o->listed.getD i true=true->∀e∈D8 o,listed.getD e false=true) :
  ∀i o,ops[i]?=some o->(∀e∈D8 o,listed.getD e false=true)->∀j∈anc.getD i [],listed.getD j false=true:=by
 intro i;induction i using Nat.strongRecOn with
 | _ i l =>
  intro o b hd j d;rcases a.cl i o b j d with h1|⟨e,c,g⟩
  .exact hd j h1
  have h:=a.lt i o b e c;grind
theorem Y4 {l:List Oper} {p:Nat} {o:Oper} {r:List Oper} (h:l.drop p=o :: r):l[p]?=some o/\r=l.drop (p+1):=by
 constructor
 .have:(l.drop p)[0]?=some o:=by rw[h];rfl
  grind
 rw[<-AC2,h];rfl
theorem QG {F:Fence} {P:Program} (d:Y3 ops k anc):∀ {rest:List Oper} {p:Nat} {listed:Array Bool} {a:Act} {w:World},ops.toList.drop p=rest->k<=p->p<=ops.size->listed.size=ops.size ->
  (∀i,i<ops.size->(listed.getD i true=true↔i<p))->wpListIn F 0 P ops Q rest a w->wpAnyIn F 0 P .any ops Q rest.length listed a w
 | [],p,listed,a,w,hd,H,J,m,hl,c=>by
  have O:p=ops.size:=by
   have:=AAv List.length hd;simp at this;omega
  refine⟨?_,c⟩;apply ACf.2;grind [Db]
 | o :: r,p,listed,a,w,hd,H,J,m,hl,c=>by
  obtain⟨f,A⟩:=Y4 hd;have f:ops[p]?=some o:=by simpa using f
  have q:p<ops.size:=(TC.1 f).1;have u:∀e b,e<ops.size->listed.getD e b=listed.getD e true:=λe b g=>by grind
  have D:∀i o,ops[i]?=some o->listed.getD i true=true->∀e∈D8 o,listed.getD e false=true:=by
   intro i o z h1 e g;have s:i<ops.size:=(TC.1 z).1;have v:=(hl i s).1 h1;have h:=d.lt i o z e g;grind
  have K:∀i,i∈Region.ready .any ops listed->i=p:=by
   intro i hi;rw[Db]at hi;obtain⟨h1,B,n,v⟩:=hi;have s:i<ops.size:=(TC.1 n).1;have M:¬i<p:=λI=>by rw[(hl i s).2 I]at h1;cases h1
   by_cases l:i=p
   .exact l
   have h:=V4 d D i B n v p (d.back i B n O1 p O1);rw[u p false q]at h;have:=(hl p q).1 h;omega
  refine⟨λN=>?_,λi hi=>?_⟩
  .exfalso;have:p∈Region.ready .any ops listed:=by
    rw[Db];refine⟨?_,o,f,λe g=>?_⟩
    .cases hh:listed.getD p true with
     | false=>rfl
     | true=>have:=(hl p q).1 hh;omega
    have:=d.lt p o f e g;rw[u e false O1];exact(hl e O1).2 this
   grind
  have l:=K i hi;subst l;have y:∀(j:Nat),j<ops.size->((listed.setIfInBounds i true).getD j true=true↔j<i+1):=by
   intro j E;have G:j<listed.size:=by omega
   by_cases x:j=i
   .subst x;simp[Array.getD,G]
   have h1:(listed.setIfInBounds i true).getD j true=listed.getD j true:=getD_set_ne true (λe=>x e.symm);rw[h1,hl j E];omega
  unfold wpOpIn;rw[f];simp only;unfold wpListIn at c;split
  .rename_i t;rw[BY t]at c;exact Oper.wpIn_mono (λL w' C=>QG d A.symm O1 O1 (by simpa using m) y C) c
  rename_i t;rw[At t]at c;exact⟨c.1,QG d A.symm O1 O1 (by simpa using m) y c.2⟩
end
end
section
open Go Go.RowKit
theorem EI:∀(k:Nat) (l:List Nat),l.Nodup->(∀j∈l,j<k)->l.length<=k
 | 0,l,_,h=>by
  cases l with
  | nil=>simp
  | cons x r=>have:=h x sc;omega
 | k+1,l,hn,h=>by
  by_cases hk:k∈l
  .have:=EI k (l.erase k) (hn.erase k) (λj a=>by
    have h1:=(hn.mem_erase_iff).1 a;have:=h j h1.2;have:=h1.1;omega)
   grind
  have:=EI k l hn (λj a=>by
   have:=h j a;have:j≠k:=λe=>hk (e▸a);omega)
  omega
theorem tC:∀(k:Nat) (l:List Nat),(∀j,j<k->j∈l)->k<=l.length
 | 0,l,_=>by simp
 | k+1,l,h=>by
  have hk:=h k O1;have:=tC k (l.erase k) (λj a=>(ACk O1).2 (h j O1));grind
theorem V5 {σ σ':St} (i:∀s,lk s σ'.env=lk s σ.env) (f:∀n,lk n σ'.objs=lk n σ.objs) (h:c.sat σ a w):c.sat σ' a w:=by
 obtain⟨ρ,h⟩:=h;have d:HK σ'=HK σ:=by
  funext n;simp only[HK,f]
 have g:∀w,vw w c.O0 σ' ρ=vw w c.O0 σ ρ:=by
  intro w;have j:own c.O0 σ' ρ=own c.O0 σ ρ:=by
   funext b;simp only[own,d]
  simp only[vw,d,j]
 refine⟨ρ,h.frm,h.nt,h.defers,λp k=>by rw[d];exact h.pin p k,?_,?_,?_,?_⟩
 .intro n o hn;rw[g];exact h.objs n o (by rw[<-f];exact hn)
 .intro n b hl hb;exact h.free n b (by rw[<-d];exact hl) hb
 .intro n m b h1 e;rw[d]at h1 e;exact h.dist n m b h1 e
 intro s v hs;rw[g];exact h.env s v (by rw[<-i];exact hs)
theorem gI {σ:St} (h:c.sat σ a w):c.sat σ a { w with drawn:=w.drawn+1 }:=by
 obtain⟨ρ,h⟩:=h;have hk:Cu (vw w c.O0 σ ρ) (vw { w with drawn:=w.drawn+1 } c.O0 σ ρ):=⟨λ_ _ h=>h,λ_ h=>h,λ_ _=>rfl,λ_ _ _=>rfl⟩;exact⟨ρ,⟨h.frm.os,h.frm.tape,h.frm.output,h.frm.size,h.frm.block⟩,h.nt,h.defers,h.pin,λn o b=>(h.objs n o b).keeps hk λ_ _=>rfl,h.free,h.dist,λs v hs=>(h.env s v hs).keeps hk⟩
theorem Uz {σ σ':St} (d:∀s v,lk s σ'.env=some v->lk s σ.env=some v) (e:∀n,lk n σ'.objs=lk n σ.objs) (h:c.sat σ a w):c.sat σ' a w:=by
 have b:c.sat ⟨σ.env,σ'.objs⟩ a w:=V5 (σ:=σ) (λ_=>rfl) e h;obtain⟨ρ,h⟩:=b;exact⟨ρ,h.frm,h.nt,h.defers,h.pin,h.objs,h.free,h.dist,λs v hs=>h.env s v (d s v hs)⟩
theorem MG {ops:Array Oper} {σ:St} (hs:c.sat σ a w) {o:Oper} {b:Bool} (h:Kq ops.toList σ b o.guard):Region.wanted o (yielded ops a.tmps)=b:=by
 cases d:o.guard with
 | none =>
  rw[d]at h;simp only[Kq]at h;simp[Region.wanted,d,h]
 | some g =>
  obtain⟨j,k⟩:=g;rw[d]at h;simp only[Kq]at h;obtain⟨s,hd,h⟩:=h;rcases h with ⟨x,hl,rfl⟩|⟨hl,rfl⟩
  .refine Hn hs ?_;grind [K1,Ap,L1,Rl]
  obtain⟨ρ,hs⟩:=hs;have f:a.tmps.getD s undef=undef:=hs.env s _ hl;have i:(ops[j]?).bind (·.dst)=some s:=by simpa[Ap] using hd
  have hy:yielded ops a.tmps j=none:=by
   simp only[yielded,i,Option.bind_some];by_cases e:s<a.tmps.size
   .have:a.tmps.getD s undef=a.tmps[s]:=by simp[Array.getD,e]
    rw[this]at f;rw[AAq e,f];rfl
   grind
  simp[Region.wanted,d,hy]
section
variable {c:Cx} {ops:Array Oper} {k:Nat} {q:Bool} {anc:List (List Nat)} {σ0 σ':St} {en:Nat->En} {Q:Exit->Act->World->Prop}
theorem A7S (hF:∀j o,j<k->ops[j]?=some o->V2 c.tb ops.toList q σ0 en j o) (hk:k<=ops.size):Sep σ0 en k:=by
 have one:∀j,j<k->∀n o,lk n (en j).obs=some o->lk n (Au ops.toList en σ0 (Ak j)).objs=none:=by
  intro j a n o hn;have h:ops[j]?=some (ops[j]'(by omega)):=AAq O1;have h1:=hF j _ a h;cases hb:(en j).b with
  | true =>
   obtain⟨_,_,_,hf⟩:=h1.t hb;exact Ol hf hn
  | false =>
   rw[(h1.f hb).2]at hn;simp[lk]at hn
 have low:∀i j,i<j->j<k->∀n o d,lk n (en i).obs=some o->lk n (en j).obs=some d->False:=by
  intro i j g a n o d h1 e;have:=one j a n d e;rw[Fj,A2]at this;cases hl:lk n ((Ak j).flatMap λj=>(en j).obs) with
  | some x=>rw[hl]at this;simp at this
  | none =>
   have:=Ks hl i (BH.2 g);rw[this]at h1;cases h1
 refine⟨λj a n o hn=>?_,λi j hi a n o d h1 e=>?_⟩
 .grind [Fj,A2,lk,Ak]
 grind
theorem A16 (b:Y3 ops k anc) {l:List Nat} (hl:∀j∈l,j<k) {s j:Nat} (d:j∈l) (hd:Ap ops.toList j=some s):l.find? (λj=>Ap ops.toList j==some s)=some j:=by
 have hu:∀i,i∈l->Ap ops.toList i=some s->i=j:=by
  intro i hi e;have h1:=hl i hi;have a:=hl j d;have f:=b.k;have get:∀x,x<k->Ap ops.toList x=(ops[x]?).bind (·.dst):=λx _=>by simp[Ap]
  rcases ACc i j with h|h|h
  .have c:ops[j]?=some (ops[j]'(by omega)):=AAq O1;have:=(b.front j _ c a).2.2 i h;grind
  .exact h
  have c:ops[i]?=some (ops[i]'(by omega)):=AAq O1;have:=(b.front i _ c h1).2.2 j h;grind
 cases hf:l.find? (λj=>Ap ops.toList j==some s) with
 | none =>
  have:=ACA.1 hf j d;simp[hd]at this
 | some i =>
  have h1:=AC0 hf;have a:=ACW hf;rw[hu i h1 (by simpa using a)]
theorem V6 (a:Y3 ops k anc) {l l':List Nat} (hl:∀j∈l,j<k) (b:∀j∈l',j<k) {s:Nat} (h:∀j,j<k->Ap ops.toList j=some s->j∈l/\j∈l') :
  lk s (Au ops.toList en σ0 l).env=lk s (Au ops.toList en σ0 l').env:=by
 rw[Fk,Fk];by_cases hx:∃j,j<k/\Ap ops.toList j=some s
 .grind [A16]
 grind
theorem xR (Y:c.Ok) (A:Y3 ops k anc) (bi:∀o∈ops.toList,He c.nt o=true) (hF:∀j o,j<k->ops[j]?=some o->V2 c.tb ops.toList false σ0 en j o)
  {σ2:St} (am:∀s v,lk s σ2.env=some v->lk s (Au ops.toList en σ0 (Ak k)).env=some v) (an:σ2.objs=(Au ops.toList en σ0 (Ak k)).objs) (hT:∀I w',c.sat σ2 I w'->wpListIn (FR c.r) 0 c.P ops Q (ops.toList.drop k) I w') :
  ∀(m:Nat) (ex:List Nat) (listed:Array Bool) (a:Act) (w:World),ex.Nodup->(∀j∈ex,j<k)->m+ex.length=ops.size->listed.size=ops.size->(∀i,i<ops.size->(listed.getD i true=true↔i∈ex)) ->
   (∀i o,ops[i]?=some o->i∈ex->∀e∈D8 o,e∈ex)->c.sat (Au ops.toList en σ0 ex) a w->wpAnyIn (FR c.r) 0 c.P .any ops Q m listed a w:=by
 have ak:=A.k;have H:=A7S hF ak;intro m;induction m with
 | zero =>
  intro ex listed a w M z hm X hl ao hs;have h1:=EI k ex M z;have bm:k=ops.size:=by omega
  by_cases D:∀j,j<k->j∈ex
  .have aq:ops.toList.drop k=[]:=by simp[bm]
   have R:c.sat σ2 a w:=Uz am (λ_=>by rw[an]) <| V5
    (λs=>(V6 A z (λj y=>BH.1 y) λj y _=>⟨D j y,BH.2 y⟩).symm)
    (λn=>ACH λo=>by
     rw[E0 H (λj y=>BH.1 y),E0 H z];simp only[BH];constructor
     .grind
     rintro (⟨j,y,h⟩|⟨h1,T⟩)
     .grind
     exact .inr ⟨λj y=>h1 j (D j y),T⟩) hs
   have:=QG (Q:=Q) (F:=FR c.r) (P:=c.P) A (rest:=[]) (p:=k) (listed:=listed) (a:=a) (w:=w) aq (IN _) ak X (λi hi=>by
    rw[hl i hi];exact⟨z i,D i⟩) (by rw[<-aq];exact hT a w R)
   exact this
  exfalso;apply D;intro j y;apply IS;intro ay;have:=EI k (j :: ex) (iS.2 ⟨ay,M⟩) (λi hi=>by
   rcases DO.1 hi with rfl|hi
   .exact y
   exact z i hi)
  simp at this;omega
 | succ m bx =>
  intro ex listed a w M z hm X hl ao hs;have be:∀e b,e<ops.size->listed.getD e b=listed.getD e true:=λe b C=>by grind
  by_cases D:∀j,j<k->j∈ex
  .have cg:ex.length=k:=ABk (EI k ex M z) (tC k ex D);have R:c.sat σ2 a w:=Uz am (λ_=>by rw[an]) <| V5
    (λs=>(V6 A z (λj y=>BH.1 y) λj y _=>⟨D j y,BH.2 y⟩).symm)
    (λn=>ACH λo=>by
     rw[E0 H (λj y=>BH.1 y),E0 H z];simp only[BH];constructor
     .grind
     rintro (⟨j,y,h⟩|⟨h1,T⟩)
     .grind
     exact .inr ⟨λj y=>h1 j (D j y),T⟩) hs
   have:=QG (Q:=Q) (F:=FR c.r) (P:=c.P) A (rest:=ops.toList.drop k) (p:=k) (listed:=listed) (a:=a) (w:=w) rfl (IN _) ak X (λi hi=>by
    rw[hl i hi];exact⟨z i,D i⟩) (hT a w R)
   grind
  refine⟨λbo=>?_,λi hi=>?_⟩
  .exfalso;apply D;intro j;induction j using Nat.strongRecOn with
   | _ j ca =>
    intro y;apply IS;intro ay;have N:ops[j]?=some (ops[j]'(by omega)):=AAq O1;have:j∈Region.ready .any ops listed:=by
     rw[Db];refine⟨?_,_,N,λe C=>?_⟩
     .grind
     have aa:=A.lt j _ N e C;rw[be e false O1];exact(hl e O1).2 (ca e aa O1)
    rw[bo]at this;cases this
  rw[Db]at hi;obtain⟨h1,o,B,T⟩:=hi;have bc:i<ops.size:=(TC.1 B).1;have az:i∉ex:=λh=>by rw[(hl i bc).2 h]at h1;cases h1
  have bh:∀e∈D8 o,e∈ex:=λe C=>by grind
  have ad:∀j∈anc.getD i [],j∈ex:=by grind [D8,V4]
  have L:i<k:=by
   apply IS;intro cf;exact D λj y=>ad j (A.back i o B O1 j O1)
  have ag:=A.front i o B L;obtain⟨d,hd⟩:=ag.1;have bg:Ap ops.toList i=o.dst:=by simp[Ap,B]
  have ba:∀t∈NM ops.toList o,lk t (Au ops.toList en σ0 ex).env=lk t (Au ops.toList en σ0 (Ak i)).env:=by
   intro t ht;refine V6 A z (λj y=>by have:=BH.1 y;omega) λj y ae=>?_;have aw:=ag.2.1 t ht j y ae;refine⟨ad j aw,BH.2 ?_⟩;have:∀i o,ops[i]?=some o->∀j∈anc.getD i [],j<i:=by
    intro i;induction i using Nat.strongRecOn with
    | _ i bz =>
     intro o B j y;rcases A.cl i o B j y with ab|⟨e,C,bk⟩
     .exact A.lt i o B j ab
     have bf:=A.lt i o B e C;have bc:i<ops.size:=(TC.1 B).1;have:=bz e bf _ (AAq O1) j bk;omega
   exact this i o B j aw
  have bq:Ops ⟨(Au ops.toList en σ0 (Ak i)).env,CE false (HP o.op) σ0.objs (ES ops.toList en (Ak i))⟩ (Au ops.toList en σ0 ex) o.op.operands.toList:=by
   intro x hx v S;cases x with
   | tmp t =>
    simp only[Aq]at S ⊢;rw[ba t (by
     simp only[NM,Fg,ABD];exact .inl ⟨_,hx,rfl⟩)]
    exact S
   | const ch=>exact S
   | global g=>exact S
   | func f=>exact S
  have bp:eX ⟨(Au ops.toList en σ0 (Ak i)).env,CE false (HP o.op) σ0.objs (ES ops.toList en (Ak i))⟩ (Au ops.toList en σ0 ex):=by
   intro n G hn;refine A14 H (λj y=>by have:=BH.1 y;omega) z (λj y aj=>?_) hn;have W:=BH.1 y;have N:ops[j]?=some (ops[j]'(by omega)):=AAq O1;obtain⟨al,ae⟩:=(A.front j _ N O1).1;have ap:Ap ops.toList j=some al:=by simp[Ap,N,ae]
   rw[ap]at aj;simp only[ACO,ABc,Al]at aj;refine ad j (ag.2.1 al ?_ j O1 ap);simp only[NM,Fg];exact .inl aj
  have af:=hF i o L B;have E:Kq ops.toList (Au ops.toList en σ0 ex) (en i).b o.guard:=by
   have E:=af.g;cases ah:o.guard with
   | none=>rw[ah]at E;exact E
   | some g =>
    obtain⟨j,cj⟩:=g;rw[ah]at E;simp only[Kq]at E ⊢;obtain⟨s,au,E⟩:=E;refine⟨s,au,?_⟩;rw[ba s (by
     simp only[NM,ah,Fg,au];exact .inr sc)]
    exact E
  have Z:=MG hs E;have bn:o∈ops.toList:=by grind
  have ar:=Ce (bi o bn);have bb:∀I w',c.sat ((Au ops.toList en σ0 ex).add (en i).v (en i).obs o.dst) I w'->wpAnyIn (FR c.r) 0 c.P .any ops Q m (listed.setIfInBounds i true) I w':=by
   intro I w' R;refine bx (i :: ex) _ I w' (iS.2 ⟨az,M⟩) (λj y=>?_) (by simp;omega) (by simpa using X) (λj y=>?_) (λi' G J ai e C=>?_) (by simp only[Au,bg];exact R)
   .rcases DO.1 y with rfl|y
    .exact L
    exact z j y
   .have bl:j<listed.size:=by omega
    by_cases W:j=i
    .subst W;simp[Array.getD,bl]
    have aa:(listed.setIfInBounds i true).getD j true=listed.getD j true:=getD_set_ne true (λe=>W e.symm);rw[aa,hl j y];simp[W]
   rcases DO.1 ai with rfl|ai
   .rw[B]at J;cases J;exact If _ (bh e C)
   exact If _ (ao i' G J ai e C)
  unfold wpOpIn;rw[B];simp only;cases U:(en i).b with
  | true =>
   rw[U]at Z;rw[BY Z];obtain⟨ci,bs,bw,bj⟩:=af.t U;obtain⟨ρ,bd⟩:=hs;have bt:=Uw bp bq bs;have av:Bh (en i).obs (Au ops.toList en σ0 ex)=true:=by
    simp only[Bh,Of]at bj ⊢;intro p br;have bv:∃G,lk p.1 (en i).obs=some G:=by
     have:∀(l:List (Nat×Obj)),p∈l->∃G,lk p.1 l=some G:=by
      intro l;induction l with
      | nil=>intro h;cases h
      | cons q r cb =>
       intro h;obtain⟨cd,ce⟩:=q;simp only[lk];by_cases C:p.1=cd
       .exact⟨ce,by rw[BY C]⟩
       rw[At C];rcases DO.1 h with rfl|h
       .exact absurd rfl C
       exact cb h
     exact this _ br
    obtain⟨G,J⟩:=bv;have:lk p.1 (Au ops.toList en σ0 ex).objs=none:=by
     cases ax:lk p.1 (Au ops.toList en σ0 ex).objs with
     | none=>rfl
     | some cc =>
      rw[E0 H z]at ax;rcases ax with ⟨j,y,V⟩|⟨_,V⟩
      .have:=H.2 i j L (z j y) p.1 G cc J V;subst this;exact absurd y az
      rw[H.1 i L p.1 G J]at V;cases V
    simp[this]
   exact sU (A5g Y bd) bt bw av λu ρ' w' bu=>bb _ _ ⟨ρ',bd.add Y.K Y.O ar av bu⟩
  | false =>
   rw[U]at Z;rw[At (by simp[Z])];refine⟨λ_ _=>trivial,?_⟩;have:=af.f U;have ab:=NJ Y hs ar;refine bb _ _ ?_;rw[this.1,this.2];exact ab
end
theorem xS {ops:Array Oper} {σ0:St} {en:Nat->En} {Q:Exit->Act->World->Prop} (h:c.Ok) (H:∀o∈ops.toList,He c.nt o=true) (hF:∀j o,j<k->ops[j]?=some o->V2 c.tb ops.toList true σ0 en j o) (hk:k<=ops.size)
  {σ2:St} (E:∀s v,lk s σ2.env=some v->lk s (Au ops.toList en σ0 (Ak k)).env=some v) (F:σ2.objs=(Au ops.toList en σ0 (Ak k)).objs) (hT:∀d w',c.sat σ2 d w'->wpListIn (FR c.r) 0 c.P ops Q (ops.toList.drop k) d w'):∀(m i:Nat) (a:Act) (w:World),m+i=k->c.sat (Au ops.toList en σ0 (Ak i)) a w->wpListIn (FR c.r) 0 c.P ops Q (ops.toList.drop i) a w:=by
 intro m;induction m with
 | zero =>
  intro i a w hi hs;have:i=k:=by omega
  subst this;exact hT _ _ (Uz E (λ_=>by rw[F]) hs)
 | succ m T =>
  intro i a w hi hs;have q:ops[i]?=some (ops[i]'(by omega)):=AAq O1;generalize ops[i]'(by omega)=o at q;have hd:ops.toList.drop i=o :: ops.toList.drop (i+1):=by
   have:i<ops.toList.length:=by simp;omega
   rw[Is this];grind
  rw[hd];have p:=hF i o O1 q;have n:=MG hs p.g;have I:o∈ops.toList:=by grind
  have y:=Ce (H o I);have S:Ap ops.toList i=o.dst:=by simp[Ap,q]
  have B:∀d w',c.sat ((Au ops.toList en σ0 (Ak i)).add (en i).v (en i).obs o.dst) d w'->wpListIn (FR c.r) 0 c.P ops Q (ops.toList.drop (i+1)) d w':=by grind [Ak,Au]
  unfold wpListIn;cases e:(en i).b with
  | true =>
   rw[e]at n;rw[BY n];obtain⟨R,A,N,z⟩:=p.t e;obtain⟨ρ,C⟩:=hs;have J:∀l:List Nat,CE true (HP o.op) σ0.objs (ES ops.toList en l)=(Au ops.toList en σ0 l).objs:=by
    intro l;rw[Fj];induction l with
    | nil=>rfl
    | cons x r D=>simp only[ES,Rd,CE,Bool.true_or,AAF,ABX,RI]at D ⊢;rw[D]
   have L:aq c.tb (Au ops.toList en σ0 (Ak i)) (o.dst.getD 0) o.op=some (R,(en i).v,(en i).obs):=by
    rw[J]at A;exact A
   exact sU (A5g h C) L N z λu ρ' w' M=>B _ _ ⟨ρ',C.add h.K h.O y z M⟩
  | false =>
   rw[e]at n;rw[At (by simp[n])];refine⟨λ_ _=>trivial,?_⟩;have:=p.f e;have G:=NJ h hs y;refine B _ _ ?_;rw[this.1,this.2];exact G
theorem NS {tb:Tb} {ops:List Oper} {q:Bool} {base:List (Nat×Obj)} {rest:List Oper}:∀ {fr:List Oper} {i:Nat} {E:List (Nat×List (Nat×Obj))} {G:Gs} {σ σ':St} {vc:Prop},NR tb ops q base rest fr i E G σ=some (vc,σ')->vc ->
  ∃(b e:Prop) (f:St),NR tb ops q base [] fr i E G σ=some (b,f)/\b/\B5 tb ops rest f=some (e,σ')/\e
 | [],i,E,G,σ,σ',vc,h,j=>by grind [NR,B5]
 | o :: r,i,E,G,σ,σ',vc,h,j=>by
  simp only[NR]at h;cases k:Ja ops G σ.env i o.guard with
  | none=>rw[k]at h;simp[evMG]at h
  | some p =>
   obtain⟨c,T⟩:=p;rw[k]at h;simp only[evMG]at h;cases l:opM tb ops q base c G E σ.env o (Jb o.op) with
   | none=>rw[l]at h;cases c<;>simp[evMQ]at h
   | some x =>
    obtain⟨t,v,obs⟩:=x;rw[l]at h;cases c with
    | nil =>
     cases hd:o.dst with
     | none=>rw[hd]at h;simp[evMQ]at h
     | some d =>
      rw[hd]at h;simp only[evMQ]at h;split at h
      .rename_i hf;cases a:NR tb ops q base rest r (i+1) (LV d obs E) G (σ.add v obs (some d)) with
       | none=>rw[a]at h;simp[YW]at h
       | some y =>
        obtain⟨u,σ2⟩:=y;rw[a]at h;simp only[YW]at h;cases h;obtain⟨b,e,f,h1,m,n,s⟩:=NS a j.2;exact⟨t/\b,e,f,by simp only[NR,k,evMG,l,hd,evMQ,h1,YW];rw[BY hf],⟨j.1,m⟩,n,s⟩
      cases h
    | cons g c =>
     cases obs with
     | cons z w=>cases hd:o.dst<;>rw[hd]at h<;>simp[evMQ]at h
     | nil =>
      cases hd:o.dst with
      | none=>rw[hd]at h;simp[evMQ]at h
      | some d =>
       rw[hd]at h;simp only[evMQ]at h;split at h
       .rename_i hf;cases a:NR tb ops q base rest r (i+1) E ((d,g :: c,T,v) :: G) σ with
        | none=>rw[a]at h;simp[YW]at h
        | some y =>
         obtain⟨u,σ2⟩:=y;rw[a]at h;simp only[YW]at h;cases h;obtain⟨b,e,f,h1,m,n,s⟩:=NS a j.2;exact⟨(T=true->t)/\b,e,f,by simp only[NR,k,evMG,l,hd,evMQ,h1,YW];rw[BY hf],⟨j.1,m⟩,n,s⟩
       cases h
theorem A9w {ops:List Oper} {q:Bool} {σ0:St} {en:Nat->En}:Inv ops q σ0 en 0 [] [] σ0 :=
 { env:=λ_ _ h=>h,G:=λs c T v h=>absurd h sc,f:=λj a=>absurd a O1,objs:=rfl,E:=λ_=>rfl }
section
variable {c:Cx} {R:Exit->Act->World->Prop} {k:List DP} {σ σ':St}
def N4 (c:Cx) (R:Exit->Act->World->Prop) (k:List DP) (ops:Array Oper) (l:List Oper) (σ:St):Prop :=
 (∀o∈l,He c.nt o=true)->C3 c.nt k=true->∀a w,c.sat σ a w->wpListIn (FR c.r) 0 c.P ops (Vr c R k) l a w
theorem A5n {ops:Array Oper} (h:Ev c R (.out .normal) k σ):N4 c R k ops [] σ:=λ_ b a w hs=>h rfl b a w hs
theorem NT (f:c.Ok) {ops:Array Oper} {l:List Oper} (n:Nat) {vc:Prop} (h:B5 c.tb ops.toList (l.take n) σ=some (vc,σ')) (i:vc) (hk:N4 c R k ops (l.drop n) σ'):N4 c R k ops l σ:=by
 intro h1 e a w hs;have:=Rs (r:=l.drop n) f (l.take n) hs (λo b=>h1 o (TO b)) h i (λd w' g=>hk (λo b=>h1 o (ABs b)) e d w' g)
 rwa [ABl]at this
theorem A17 (hm:c.P.follows .mixedOrders=true) (s:c.Ok) {id:Nat} {l:List Oper} (n:Nat) (d:QC l (l.take n).length=true) {vc:Prop}
  (h:NR c.tb l false σ.objs [] (l.take n) 0 [] [] σ=some (vc,σ')) (z:vc) (hk:N4 c R k l.toArray (l.drop n) σ') :
  Ev c R (.run (.region id l.toArray true)) k σ:=by
 intro h1 m a w hs;simp only[IC,Bn,Of]at h1;have d:=A9v (ops:=l.toArray) (k:=(l.take n).length) (anc:=A13 l) (by simpa only[QC] using d);have hu:nV l (l.take n).length:=by
  intro x y A hy;have f:y<l.length:=by simp at hy;omega
  have u:l.toArray[y]?=some l[y]:=by simp[f]
  have:=(d.front y _ u hy).2.2 x A;simpa[Ap,f] using this
 obtain⟨en,_,hF,C,σ2,hb,B,p,r⟩:=Ry (ops:=l) (q:=false) (σ0:=σ) (en:=λ_=>⟨false,.top,[]⟩) hu h z A9w sc (λj b=>by
  have b:j<(l.take n).length:=b;rw[AB8,TD];simp only[On]at b;rw[BY O1])
 refine wpIn_region_any hm ?_;have t:l.drop (l.take n).length=l.drop n:=by simp_all
 simp only[B5]at hb;cases hb;have:=xR (c:=c) (ops:=l.toArray) (k:=(l.take n).length) (σ0:=σ) (en:=en) (Q:=Vr c R k) s d (by simpa using h1)
  (λj o b e=>hF j o O1 b (by simpa using e)) (σ2:=σ') p r (λg w' v=>by
   rw[show (l.toArray.toList.drop _)=l.drop n from t];exact hk (λo e=>h1 o (by simpa using ABs e)) m g w' v)
  l.toArray.size [] (Array.replicate l.toArray.size false) a { w with drawn:=w.drawn+1 } sc sc sc sc (λi hi=>by simp at hi;simp[Array.getD,hi]) (λi o _ hi=>by simp at hi) (gI hs)
 exact this
theorem nW (p:c.Ok) {id:Nat} {l:List Oper} (n:Nat) (e:nT l (l.take n).length=true) {vc:Prop}
  (h:NR c.tb l true σ.objs [] (l.take n) 0 [] [] σ=some (vc,σ')) (t:vc) (hk:N4 c R k l.toArray (l.drop n) σ') :
  Ev c R (.run (.region id l.toArray false)) k σ:=by
 intro h1 g a w hs;simp only[IC,Bn,Of]at h1;simp only[nT,An,Of,Ra,ON]at e;have hu:nV l (l.take n).length:=by
  intro x y v hy;grind [Ap]
 obtain⟨en,_,hF,z,σ2,hb,u,i,m⟩:=Ry (ops:=l) (q:=true) (σ0:=σ) (en:=λ_=>⟨false,.top,[]⟩) hu h t A9w sc (λj b=>by
  have b:j<(l.take n).length:=b;rw[AB8,TD];simp only[On]at b;rw[BY O1])
 have r:l.drop (l.take n).length=l.drop n:=by simp_all
 refine AC4 ?_;simp only[B5]at hb;cases hb;have:=xS (c:=c) (ops:=l.toArray) (k:=(l.take n).length) (σ0:=σ) (en:=en) (Q:=Vr c R k) p (by simpa using h1)
  (λj o b d=>hF j o O1 b (by simpa using d)) (by simpa using e.1) (σ2:=σ') i m (λf w' s=>by
   rw[show (l.toArray.toList.drop _)=l.drop n from r];exact hk (λo d=>h1 o (by simpa using ABs d)) g f w' s)
  (l.take n).length 0 a w sc hs
 exact this
theorem bR (e:c.Ok) {ops:Array Oper} {l:List Oper} {vc:Prop} (h:B5 c.tb ops.toList l σ=some (vc,σ')) (g:vc) (hk:Ev c R (.out .normal) k σ'):N4 c R k ops l σ:=by
 intro h1 d a w hs;exact P5 e l hs h1 h g (λb w' f=>hk rfl d b w' f)
theorem gJ (hm:c.P.follows .mixedOrders=true) (a:c.Ok) {id:Nat} {l:List Oper} (n:Nat) (d:QC l (l.take n).length=true) {vc:Prop}
  (h:NR c.tb l false σ.objs (l.drop n) (l.take n) 0 [] [] σ=some (vc,σ')) (e:vc) (hk:Ev c R (.out .normal) k σ') :
  Ev c R (.run (.region id l.toArray true)) k σ:=by
 obtain⟨i,j,m,h1,f,b,g⟩:=NS h e;exact A17 hm a n d h1 f (bR a b g hk)
theorem nX (a:c.Ok) {id:Nat} {l:List Oper} (n:Nat) (d:nT l (l.take n).length=true) {vc:Prop}
  (h:NR c.tb l true σ.objs (l.drop n) (l.take n) 0 [] [] σ=some (vc,σ')) (e:vc) (hk:Ev c R (.out .normal) k σ') :
  Ev c R (.run (.region id l.toArray false)) k σ:=by
 obtain⟨i,j,m,h1,f,b,g⟩:=NS h e;exact nW a n d h1 f (bR a b g hk)
theorem A18 (hm:c.P.follows .mixedOrders=true) (a:c.Ok) {id:Nat} {l:List Oper} (b:QC l l.length=true) {vc:Prop}
  (h:NR c.tb l false σ.objs [] l 0 [] [] σ=some (vc,σ')) (d:vc) (hk:Ev c R (.out .normal) k σ') :
  Ev c R (.run (.region id l.toArray true)) k σ :=
 gJ hm a l.length (by rw[RK];exact b) (by rw[RK,ABB];exact h) d hk
theorem A19 (m:Nat) (hm:c.P.follows .mixedOrders=true) (a:c.Ok) {id:Nat} {l:List Oper} (b:QC l (l.take (l.length-m)).length=true) {vc:Prop}
  (h:NR c.tb l false σ.objs (l.drop (l.length-m)) (l.take (l.length-m)) 0 [] [] σ=some (vc,σ')) (d:vc) (hk:Ev c R (.out .normal) k σ') :
  Ev c R (.run (.region id l.toArray true)) k σ:=gJ hm a _ b h d hk
theorem nY (a:c.Ok) {id:Nat} {l:List Oper} (b:nT l l.length=true) {vc:Prop}
  (h:NR c.tb l true σ.objs [] l 0 [] [] σ=some (vc,σ')) (d:vc) (hk:Ev c R (.out .normal) k σ') :
  Ev c R (.run (.region id l.toArray false)) k σ :=
 nX a l.length (by rw[RK];exact b) (by rw[RK,ABB];exact h) d hk
theorem nZ (a:c.Ok) {id:Nat} {l:List Oper} (_:(l.all λo=>o.guard.isNone)=true) {vc:Prop} (h:B5 c.tb l l σ=some (vc,σ')) (b:vc) (hk:Ev c R (.out .normal) k σ') :
  Ev c R (.run (.region id l.toArray false)) k σ:=nN a h b hk
end
end
section
open Go Go.RowKit
theorem tD {σ σ':St} (l:List Nat) (h:DB l σ=b) (d:Ent c b σ'):Ent c σ σ':=by
 intro a w hs;obtain⟨ρ,hs⟩:=hs;exact d a w ⟨ρ,by rw[<-h];exact Kl hs⟩
theorem MJ {α:Type} (a b:List α):(a++b).take (a.length+b.length)=a++b:=As sc
theorem U0 {α:Type} (a b:List α):sub (a++b) 0 (a.length+b.length)=a++b:=by rw[Jz,MJ]
theorem J1 {α:Type} (a:List α) (x:α):(a++[x]).take (a.length+1)=a++[x]:=As sc
theorem QH {α:Type} (a:List α) (x:α):sub (a++[x]) 0 (a.length+1)=a++[x]:=by rw[Jz,J1]
theorem A7T {tb:Tb} {w0:World} {O0:Nat->Prop} {nt:Nat} (b:(cx P tb w0 O0 nt).Ok) {fn:Func} {outs:List RV} {σ:St} {e:Exit} (a:List ResultVar) (g:fn.results.toList=a) (c:e=.ret\/e=.normal) (f:∀r∈outs,∃t d,r=.p t d) (h:OG tb σ a outs) :
  Ev (cx P tb w0 O0 nt) (Vt P fn w0 O0 outs) (.out e) [] σ:=A11 b c f (by rw[g];exact h)
theorem tE:((0:Nat):Int)=0:=rfl
theorem tF (k:Nat):((k+1:Nat):Int)=(k:Int)+1:=by omega
theorem AE {α:Type} (l:List α) (d:α) (h:k<l.length):l.getD k d∈l:=by
 rw[AS,AT h];exact aT h
theorem AI {ty:List (Nat×TI)} {b:List Nat} {ne:List (Nat×TypeId)} {a:List Nat}:I2 P ⟨ty,[],b,ne,a⟩:=λf sp h=>by simp[lk]at h
theorem AF {ty:List (Nat×TI)} {c:List Nat} {ne:List (Nat×TypeId)} {b:List Nat} {f:Nat} {sp:Ab} {r:List (Nat×Ab)} (h:Ac P f sp) (d:I2 P ⟨ty,r,c,ne,b⟩):I2 P ⟨ty,(f,sp) :: r,c,ne,b⟩:=λg i a=>by
 simp only[lk]at a;split at a
 .rename_i e;cases a;rw[e];exact h
 exact d g i a
theorem NU {α:Type} (x:α):[x].take 1=[x]:=rfl
theorem Af {α:Type} (l:List α) (d:α) (h:k<l.length):l.take (k+1)=l.take k++[l.getD k d]:=by
 rw[ACI,AS,AT h];rfl
theorem U1 {α:Type} (l:List α) (q:Nat):sub l q l.length=l.drop q:=by
 unfold sub;rw[As sc]
end
end Go.Proofs.YtcmadlghkcjcbaaGreat.Fw
