/- Regions whose order Go leaves open: the rules. -/
import Derived.Test.YtddbnflakbngaaaGreatDoorFZE
set_option linter.unusedVariables false
set_option linter.unusedSimpArgs false
namespace Go.Proofs.YtddbnflakbngaaaGreatDoor.Fw
variable {k:Nat} {Z:Array Oper} {Y:Type} {X b:St} {w:World} {W:List (Nat×TypeId)} {V:List (Nat×TI)} {c:Cx} {P:Program} {a:Act} {U T:List Nat} {v:AV}
section
open Go Go.RowKit
def EJ (o:Oper):List Nat:=(o.after.toList.filter (Region.binds .any)).map (·.on)
def Az (ops:List Oper) (j:Nat):Option Nat:=(ops[j]?).bind (·.dst)
def TV:Operand->Option Nat
 | .tmp t=>some t
 | _=>none
def Nr (ops:List Oper) (o:Oper):List Nat:=(o.op.operands.toList.filterMap TV)++(match o.guard with|some (j,_)=>(Az ops j).toList|none=>[])
def AAO (a b:List Nat):List Nat:=a.foldl (λr x=>if Ai x r then r else x :: r) b
def A0Z (ops:List Oper):List (List Nat):=ops.foldl (λ(a:List (List Nat)) o=>a++[(EJ o).foldl (λr e=>AAO (a.getD e []) (if Ai e r then r else e :: r)) []]) []
def opB (ops:List Oper) (k:Nat) (anc:List (List Nat)) (i:Nat) (o:Oper):Bool :=
  (EJ o).all (λe=>decide (e<i)) &&
  (anc.getD i []).all (λj=>Ai j (EJ o)||(EJ o).any λe=>Ai j (anc.getD e [])) &&
  (if i<k then o.dst.isSome&&((Nr ops o).all λt=>(List.range k).all λj=>Az ops j != some t||Ai j (anc.getD i []))&&((List.range i).all λj=>Az ops j != o.dst)
   else (List.range i).all λj=>Ai j (anc.getD i []))
def mR (ops:List Oper) (k:Nat) (anc:List (List Nat)):Bool :=
 decide (k<=ops.length)&&(List.range ops.length).all λi=>match ops[i]? with|some o=>opB ops k anc i o|none=>false
def Mg (ops:List Oper) (k:Nat):Bool:=mR ops k (A0Z ops)
def xB (ops:List Oper) (k:Nat):Bool :=
 decide (k<=ops.length)&&(List.range k).all λi=>match ops[i]? with|some o=>o.dst.isSome&&((List.range i).all λj=>Az ops j != o.dst)|none=>false
def CH (q:Bool) (ts:List Nat) (base:List (Nat×Obj)):List (Nat×List (Nat×Obj))->List (Nat×Obj)
 | []=>base
 | (s,obs) :: r=>if (q||Ai s ts)=true then obs++CH q ts base r else CH q ts base r
def Ha (o:Op):List Nat:=o.operands.toList.filterMap TV
def Mh (q:Bool) (o:Op) (base:List (Nat×Obj)):List (Nat×List (Nat×Obj))->List (Nat×Obj)
 | []=>base
 | e :: r=>CH q (Ha o) base (e :: r)
def KK (d:Nat) (obs:List (Nat×Obj)) (E:List (Nat×List (Nat×Obj))):List (Nat×List (Nat×Obj)) :=
 match obs with
 | []=>E
 | x :: r=>(d,x :: r) :: E
abbrev Ch:=List (Nat×Bool)
abbrev Gs:=List (Nat×(Ch×Bool×AV))
def O5:Ch->Ch->Bool
 | [],[]=>true
 | (j,w) :: r,(a,w') :: b=>(j==a)&&(w==w')&&O5 r b
 | [],_ :: _=>false
 | _ :: _,[]=>false
theorem Mi:O5 [] []=true:=rfl
theorem QN (x:Nat×Bool) (r:Ch):O5 [] (x :: r)=false:=rfl
theorem QO (x:Nat×Bool) (r:Ch):O5 (x :: r) []=false:=rfl
theorem KL (j a:Nat) (w w':Bool) (r b:Ch):O5 ((j,w) :: r) ((a,w') :: b)=(decide (j=a)&&(w==w')&&O5 r b):=by grind [O5]
def UE (a:Ch):Ch->Bool
 | []=>O5 a []
 | k :: r=>O5 a (k :: r)||UE a r
def KM (c:Ch):Gs->List (Nat×AV)->List (Nat×AV)
 | [],env=>env
 | (s,a,_,v) :: G,env=>if UE a c=true then (s,v) :: KM c G env else KM c G env
def LC (j:Nat) (a:Bool):Option (Ch×Bool×AV)->Option AV->Option (Ch×Bool)
 | some (c,T,.p .bool b),_=>some ((j,a) :: c,T&&(b==a))
 | none,some (.p .bool b)=>some ([(j,a)],b==a)
 | _,_=>none
def JQ (G:Gs) (env:List (Nat×AV)) (j:Nat) (a:Bool):Option Nat->Option (Ch×Bool)
 | some s=>LC j a (lk s G) (lk s env)
 | none=>none
def IR (ops:List Oper) (G:Gs) (env:List (Nat×AV)) (i:Nat):Option (Nat×Bool)->Option (Ch×Bool)
 | none=>some ([],true)
 | some (j,a)=>if j<i then JQ G env j a (Az ops j) else none
def O6 (ops:List Oper) (c:Ch) (s:Nat) (w:Bool):Option (Ch×Bool×AV)->Option AV->Option AV
 | some (a,_,v),_=>if UE a c=true then some v else match a with
  | []=>none
  | (j,w') :: r=>if w'=w/\Az ops j=some s/\O5 r c=true then some v else none
 | none,x=>x
def Lx (ops:List Oper) (c:Ch) (G:Gs) (env:List (Nat×AV)) (s:Nat) (w:Bool):Operand->Option AV
 | .tmp t=>O6 ops c s w (lk t G) (lk t env)
 | .const v=>some (Hs v)
 | .func _=>none
 | .global _=>none
def O7:Option AV->Option AV->Option AV->Bl
 | some (.p .bool b),some (.p .bool p),some (.p .bool q)=>some (True,.p .bool (bif b then p else q),[])
 | _,_,_=>none
def OU (ops:List Oper) (c:Ch) (G:Gs) (env:List (Nat×AV)):Operand->Operand->Operand->Bl
 | .tmp s,x,y=>O7 (lk s (KM c G env)) (Lx ops c G env s true x) (Lx ops c G env s false y)
 | .const _,_,_=>none
 | .func _,_,_=>none
 | .global _,_,_=>none
def IT:Op->Option (Operand×Operand×Operand)
 | .pick s x y=>some (s,x,y)
 | _=>none
def opM (tb:Tb) (ops:List Oper) (q:Bool) (base:List (Nat×Obj)) (c:Ch) (G:Gs) (E:List (Nat×List (Nat×Obj))) (env:List (Nat×AV)) (o:Oper):Option (Operand×Operand×Operand)->Bl
 | some (s,x,y)=>OU ops c G env s x y
 | none=>aq tb ⟨KM c G env,Mh q o.op base E⟩ (o.dst.getD 0) o.op
mutual
def MH (tb:Tb) (ops:List Oper) (q:Bool) (base:List (Nat×Obj)) (rest:List Oper):List Oper->Nat->List (Nat×List (Nat×Obj))->Gs->St->DF
 | [],_,_,_,σ=>B7 tb ops rest σ
 | o :: r,i,E,G,σ=>evMG tb ops q base rest o r i E G σ (IR ops G σ.env i o.guard)
def evMG (tb:Tb) (ops:List Oper) (q:Bool) (base:List (Nat×Obj)) (rest:List Oper) (o:Oper) (r:List Oper) (i:Nat) (E:List (Nat×List (Nat×Obj))) (G:Gs) (σ:St):Option (Ch×Bool)->DF
 | some (c,T)=>evMQ tb ops q base rest o.dst r i E G σ c T (opM tb ops q base c G E σ.env o (IT o.op))
 | none=>none
def evMQ (tb:Tb) (ops:List Oper) (q:Bool) (base:List (Nat×Obj)) (rest:List Oper) (dst:Option Nat) (r:List Oper) (i:Nat) (E:List (Nat×List (Nat×Obj))) (G:Gs) (σ:St):Ch->Bool->Bl->DF
 | [],_,some (vc,v,obs)=>match dst with
  | some d=>if Bp obs σ=true then Xh vc (MH tb ops q base rest r (i+1) (KK d obs E) G (σ.add v obs (some d))) else none
  | none=>none
 | g :: c,T,some (vc,v,[])=>match dst with
  | some d=>if (lk d σ.env).isNone=true then Xh (T=true->vc) (MH tb ops q base rest r (i+1) E ((d,g :: c,T,v) :: G) σ) else none
  | none=>none
 | _,_,_=>none
end
structure En where
 b:Bool
 v:AV
 obs:List (Nat×Obj)
def A5 (ops:List Oper) (en:Nat->En) (σ:St):List Nat->St
 | []=>σ
 | i :: r=>(A5 ops en σ r).add (en i).v (en i).obs (Az ops i)
def Aw:Nat->List Nat
 | 0=>[]
 | i+1=>i :: Aw i
end
section
open Go Go.RowKit
section
variable {tb:Tb} {ops:List Oper} {k:Nat} {q:Bool} {anc:List (List Nat)} {σ0:St} {en:Nat->En}
def ES (ops:List Oper) (en:Nat->En) (l:List Nat):List (Nat×List (Nat×Obj)):=l.map λj=>((Az ops j).getD 0,(en j).obs)
def LD (ops:List Oper) (σ:St) (b:Bool):Option (Nat×Bool)->Prop
 | none=>b=true
 | some (j,a)=>∃s,Az ops j=some s/\((∃x,lk s σ.env=some (.p .bool x)/\b=(x==a))\/(lk s σ.env=some (.raw undef)/\b=false))
structure Vc (tb:Tb) (ops:List Oper) (q:Bool) (σ0:St) (en:Nat->En) (i:Nat) (o:Oper):Prop where
 g:LD ops (A5 ops en σ0 (Aw i)) (en i).b o.guard
 t:(en i).b=true->∃vc:Prop,aq tb ⟨(A5 ops en σ0 (Aw i)).env,CH q (Ha o.op) σ0.objs (ES ops en (Aw i))⟩ (o.dst.getD 0) o.op=some (vc,(en i).v,(en i).obs)/\vc/\Bp (en i).obs (A5 ops en σ0 (Aw i))=true
 f:(en i).b=false->(en i).v=.raw undef/\(en i).obs=[]
theorem LE {a:Nat->En}:∀ {l:List Nat},(∀j∈l,a j=en j)->A5 ops a σ0 l=A5 ops en σ0 l
 | [],_=>rfl
 | i :: r,h=>by
  simp only[A5];rw[LE (λj b=>h j (by simp[b])),h i sc]
theorem BX {i j:Nat}:j∈Aw i↔j<i:=by
 induction i with
 | zero=>simp[Aw]
 | succ i a=>simp[Aw,a];omega
theorem Fv:∀(l:List Nat),(A5 ops en σ0 l).objs=(l.flatMap λj=>(en j).obs)++σ0.objs
 | []=>rfl
 | i :: r=>by
  simp only[A5,ADz,AAp];rw[<-Fv r];cases Az ops i<;>rfl
theorem Fx (s:Nat):∀(l:List Nat),lk s (A5 ops en σ0 l).env=match l.find? (λj=>Az ops j==some s) with|some j=>some (en j).v|none=>lk s σ0.env
 | []=>rfl
 | i :: r=>by
  simp only[A5,List.find?_cons];cases a:Az ops i with
  | none =>
   simp only[St.add];rw[Fx s r];have:((none:Option Nat)==some s)=false:=rfl;rw[this]
  | some d =>
   simp only[St.add,lk];by_cases hs:s=d
   .subst hs;simp
   have h1:((some d:Option Nat)==some s)=false:=by
    have:d≠s:=λe=>hs e.symm;simpa using this
   rw[As hs,Fx s r,h1]
theorem rE {n:Nat} {o:Obj} {l:List Nat} (h:lk n (l.flatMap λj=>(en j).obs)=some o):∃j∈l,lk n (en j).obs=some o:=by
 induction l with
 | nil=>simp[lk]at h
 | cons i r d =>
  rw[ADz,BJ]at h;cases a:lk n (en i).obs with
  | some e =>
   rw[a]at h;exact⟨i,sc,by rw[a];simpa using h⟩
  | none =>
   rw[a]at h;obtain⟨j,b,c⟩:=d (by simpa using h);exact⟨j,by simp[b],c⟩
theorem LF {n:Nat} {l:List Nat} (h:lk n (l.flatMap λj=>(en j).obs)=none):∀j∈l,lk n (en j).obs=none:=by
 induction l with
 | nil=>simp
 | cons i r c =>
  rw[ADz,BJ]at h;cases a:lk n (en i).obs with
  | some d=>rw[a]at h;simp at h
  | none =>
   rw[a]at h;intro j b;rcases By.1 b with rfl|b
   .exact a
   grind
def Sep (σ0:St) (en:Nat->En) (k:Nat):Prop :=
 (∀j,j<k->∀n o,lk n (en j).obs=some o->lk n σ0.objs=none)/\∀i j,i<k->j<k->∀n o a,lk n (en i).obs=some o->lk n (en j).obs=some a->i=j
theorem E6 (g:Sep σ0 en k) {l:List Nat} (c:∀j∈l,j<k) (n:Nat) (o:Obj):lk n (A5 ops en σ0 l).objs=some o↔(∃j∈l,lk n (en j).obs=some o)\/((∀j∈l,lk n (en j).obs=none)/\lk n σ0.objs=some o):=by
 rw[Fv,BJ];cases h:lk n (l.flatMap λj=>(en j).obs) with
 | some i =>
  obtain⟨j,b,a⟩:=rE h;simp only[AEA];constructor
  .grind
  rintro (⟨d,e,f⟩|⟨h1,_⟩)
  .have:=g.2 j d (c j b) (c d e) n i o a f;grind
  rw[h1 j b]at a;cases a
 | none =>
  have hn:=LF h;simp only[Option.none_or];constructor
  .grind
  grind
theorem A11 (f:Sep σ0 en k) {ts:List Nat} {l l':List Nat} (m:∀j∈l,j<k) (e:∀j∈l',j<k) (d:∀j∈l,(q||Ai ((Az ops j).getD 0) ts)=true->j∈l') {n:Nat} {o:Obj} :
  lk n (CH q ts σ0.objs (ES ops en l))=some o->lk n (A5 ops en σ0 l').objs=some o:=by
 rw[E6 f e];induction l with
 | nil =>
  simp only[ES,ACS,CH];intro h;refine .inr ⟨λj b=>?_,h⟩;cases a:lk n (en j).obs with
  | none=>rfl
  | some g=>have:=f.1 j (e j b) n g a;rw[this]at h;cases h
 | cons i r c =>
  simp only[ES,gO,CH];have c:=c (λj b=>m j (by simp[b])) (λj b=>d j (by simp[b]));split
  .rename_i p;intro h;rw[BJ]at h;cases a:lk n (en i).obs with
   | some g =>
    rw[a]at h;simp only[AEA]at h;cases h;exact .inl ⟨i,d i sc p,a⟩
   | none =>
    rw[a]at h;exact c (by simpa[ES] using h)
  exact c
theorem QP:∀ {a b:Ch},O5 a b=true↔a=b
 | [],[]=>by simp[O5]
 | (j,w) :: r,(d,w') :: c=>by simp[O5,QP (a:=r) (b:=c),and_assoc]
 | [],_ :: _=>by simp[O5]
 | _ :: _,[]=>by simp[O5]
def bv:AV->Bool
 | .p .bool b=>b
 | _=>false
def tr (en:Nat->En):Ch->Bool
 | []=>true
 | (j,w) :: r=>tr en r&&(bv (en j).v==w)
theorem Vd {a:Nat->En}:∀ {c:Ch},(∀k∈c,a k.1=en k.1)->tr a c=tr en c
 | [],_=>rfl
 | (j,w) :: r,h=>by
  have h1:=h (j,w) sc;simp only at h1;simp only[tr];rw[Vd (λk hk=>h k (by simp[hk])),h1]
theorem mS {b:Ch}:∀ {c:Ch},UE b c=true->tr en c=true->tr en b=true
 | [],h,a=>by simp only[UE,QP]at h;rw[h];exact a
 | k :: r,h,a=>by
  simp only[UE,AAo,QP]at h;rcases h with rfl|h
  .exact a
  obtain⟨j,w⟩:=k;simp only[tr,An]at a;exact mS h a.1
structure Inv (ops:List Oper) (q:Bool) (σ0:St) (en:Nat->En) (i:Nat) (E:List (Nat×List (Nat×Obj))) (G:Gs) (σ:St):Prop where
 env:∀s v,lk s σ.env=some v->lk s (A5 ops en σ0 (Aw i)).env=some v
 G:∀s c T v,(s,c,T,v)∈G->T=tr en c/\(T=true->lk s (A5 ops en σ0 (Aw i)).env=some v)/\(∀k∈c,k.1<i)/\∃j,j<i/\Az ops j=some s/\(en j).b=T
 f:∀j,j<i->(en j).b=false->(en j).v=.raw undef
 objs:σ.objs=(A5 ops en σ0 (Aw i)).objs
 E:∀ts,CH q ts σ0.objs E=CH q ts σ0.objs (ES ops en (Aw i))
def mT (ops:List Oper) (k:Nat):Prop:=∀a b,a<b->b<k->Az ops a≠Az ops b
theorem YQ (hu:mT ops k) {i j s:Nat} (d:i<=k) (c:j<i) (b:Az ops j=some s):lk s (A5 ops en σ0 (Aw i)).env=some (en j).v:=by
 rw[Fx];have:(Aw i).find? (λj=>Az ops j==some s)=some j:=by
  cases hf:(Aw i).find? (λj=>Az ops j==some s) with
  | none =>
   have:=AEv.1 hf j (BX.2 c);simp[b]at this
  | some x =>
   have h1:=BX.1 (ADO hf);have a:=AEP hf;have a:Az ops x=some s:=by simpa using a
   rcases AE5 x j with h|h|h
   .exact absurd (a.trans b.symm) (hu x j h O1)
   .rw[h]
   exact absurd (b.trans a.symm) (hu j x h O1)
 rw[this]
theorem R6 {c:Ch} {s:Nat} {v:AV} {env:List (Nat×AV)}:∀ {G:Gs},lk s (KM c G env)=some v->(∃b T,(s,b,T,v)∈G/\UE b c=true)\/lk s env=some v
 | [],h=>.inr h
 | (e,b,T,f) :: G,h=>by
  simp only[KM]at h;split at h
  .rename_i hs;simp only[lk]at h;split at h
   .grind
   rcases R6 h with ⟨c2,T2,d,a⟩|a
   .grind
   exact .inr a
  rcases R6 h with ⟨c2,T2,d,a⟩|a
  .grind
  exact .inr a
section
variable {i:Nat} {E:List (Nat×List (Nat×Obj))} {G:Gs} {σ:St}
theorem fT (a:Inv ops q σ0 en i E G σ) {c:Ch} (f:tr en c=true) {s:Nat} (h:lk s (KM c G σ.env)=some v):lk s (A5 ops en σ0 (Aw i)).env=some v:=by
 rcases R6 h with ⟨b,T,d,hs⟩|h
 .obtain⟨h1,e,_⟩:=a.G s b T v d;grind [mS]
 exact a.env s v h
theorem xC (m:Inv ops q σ0 en i E G σ) (hu:mT ops k) (v:i<=k) {g:Option (Nat×Bool)} {c:Ch} {T:Bool} (h:IR ops G σ.env i g=some (c,T)) :
  LD ops (A5 ops en σ0 (Aw i)) T g/\T=tr en c/\(∀k∈c,k.1<i):=by
 cases g with
 | none =>
  simp only[IR]at h;cases h;exact⟨rfl,rfl,sc⟩
 | some g =>
  obtain⟨j,z⟩:=g;simp only[IR]at h;split at h
  .rename_i r;cases d:Az ops j with
   | none=>rw[d]at h;simp[JQ]at h
   | some s =>
    rw[d]at h;simp only[JQ]at h;have e:=YQ (en:=en) (σ0:=σ0) hu v r d;unfold LC at h;split at h
    .rename_i c0 o b n;cases h;obtain⟨h1,t,x,l,y,p,u⟩:=m.G s c0 o _ (Ff n);cases hT:o with
     | true =>
      have a:=t hT;rw[e]at a;injection a with a
      refine⟨⟨s,d,.inl ⟨b,by rw[e,a],sc⟩⟩,?_,?_⟩
      .grind [tr,bv]
      grind
     | false =>
      have w:l=j:=by
       rcases AE5 l j with h|h|h
       .exact absurd (p.trans d.symm) (hu l j h O1)
       .exact h
       exact absurd (d.trans p.symm) (hu j l h O1)
      subst w;have a:=m.f l r (by rw[u,hT]);refine⟨⟨s,d,.inr ⟨by rw[e,a],sc⟩⟩,?_,?_⟩
      .grind [tr]
      grind
    .rename_i b _ n;cases h;have a:=m.env s _ n;rw[e]at a;injection a with a
     refine⟨⟨s,d,.inl ⟨b,by rw[e,a],rfl⟩⟩,by simp[tr,a,bv],?_⟩;grind
    cases h
  cases h
theorem fU (d:Inv ops q σ0 en i E G σ) (hu:mT ops k) (o:i<=k) {c:Ch} (z:tr en c=true) {s:Nat} {w:Bool} (hs:lk s (A5 ops en σ0 (Aw i)).env=some (.p .bool w)) {x:Operand} 
  (h:Lx ops c G σ.env s w x=some v) {objs:List (Nat×Obj)}:Al ⟨(A5 ops en σ0 (Aw i)).env,objs⟩ x=some v:=by
 cases x with
 | const x=>simp only[Lx]at h;exact h
 | func f=>simp[Lx]at h
 | global g=>simp[Lx]at h
 | tmp t =>
  simp only[Lx]at h;simp only[Al];cases a:lk t G with
  | none =>
   rw[a]at h;exact d.env t v h
  | some e =>
   obtain⟨b,T,u⟩:=e;rw[a]at h;simp only[O6]at h;obtain⟨h1,y,m,_⟩:=d.G t b T u (Ff a);split at h
   .grind [mS]
   cases b with
   | nil=>cases h
   | cons p r =>
    obtain⟨j,w'⟩:=p;simp only at h;split at h
    .rename_i hh;obtain⟨rfl,n,l⟩:=hh;rw[QP]at l;subst l;cases h;have A:=YQ (en:=en) (σ0:=σ0) hu o (m (j,w') sc) n;grind [tr,bv]
    cases h
theorem A8T (a:Inv ops q σ0 en i E G σ) (hu:mT ops k) (l:i<=k) {c:Ch} (d:tr en c=true) {o:Oper} {vc:Prop} {obs:List (Nat×Obj)} (h:opM tb ops q σ0.objs c G E σ.env o (IT o.op)=some (vc,v,obs)) (A:vc) :
  ∃m:Prop,aq tb ⟨(A5 ops en σ0 (Aw i)).env,CH q (Ha o.op) σ0.objs (ES ops en (Aw i))⟩ (o.dst.getD 0) o.op=some (m,v,obs)/\m:=by
 cases j:IT o.op with
 | none =>
  rw[j]at h;simp only[opM]at h;refine⟨vc,Uc (σ:=⟨KM c G σ.env,Mh q o.op σ0.objs E⟩) ?_ ?_ h,A⟩
  .intro n x hn;have:Mh q o.op σ0.objs E=CH q (Ha o.op) σ0.objs E:=by cases E<;>rfl
   simp only at hn ⊢;rw[this,a.E]at hn;exact hn
  intro x _ v e;cases x with
  | tmp t=>exact fT a d e
  | const B=>exact e
  | global g=>exact e
  | func f=>exact e
 | some p =>
  obtain⟨s,x,y⟩:=p;rw[j]at h;have z:o.op=.pick s x y:=by
   unfold IT at j;grind
  simp only[opM]at h;rw[z];cases s with
  | const _=>simp[OU]at h
  | func _=>simp[OU]at h
  | global _=>simp[OU]at h
  | tmp s =>
   simp only[OU]at h;unfold O7 at h;split at h
   .rename_i b p r h1 u w;cases h;have hs:=fT a d h1;refine⟨True,?_,trivial⟩;have h0:Al ⟨(A5 ops en σ0 (Aw i)).env,CH q (Ha (Op.pick (.tmp s) x y)) σ0.objs (ES ops en (Aw i))⟩ (.tmp s)=some (.p .bool b):=hs;simp only[aq];rw[h0];cases b with
    | true =>
     simp only[Ls];rw[fU a hu l d hs u];rfl
    | false =>
     simp only[Ls];rw[fU a hu l d hs w];rfl
   cases h
end
theorem R7 {rest:List Oper} (hu:mT ops k):∀ {fr:List Oper} {i:Nat} {E:List (Nat×List (Nat×Obj))} {G:Gs} {σ σ':St} {en:Nat->En} {vc:Prop},MH tb ops q σ0.objs rest fr i E G σ=some (vc,σ')->vc->Inv ops q σ0 en i E G σ->i+fr.length=k->(∀j,j<fr.length->ops[i+j]?=fr[j]?) ->
  ∃l:Nat->En,(∀j,j<i->l j=en j)/\(∀j o,i<=j->j<k->ops[j]?=some o->Vc tb ops q σ0 l j o) /\
   ∃(D:Prop) (σ2:St),B7 tb ops rest σ2=some (D,σ')/\D/\(∀s v,lk s σ2.env=some v->lk s (A5 ops l σ0 (Aw k)).env=some v)/\σ2.objs=(A5 ops l σ0 (Aw k)).objs
 | [],i,E,G,σ,σ',en,vc,h,H,n,hk,_=>by
  simp only[MH]at h;simp at hk;subst hk;exact⟨en,λ_ _=>rfl,λj o h1 P=>by omega,vc,σ,h,H,n.env,n.objs⟩
 | o :: r,i,E,G,σ,σ',en,vc,h,H,n,hk,al=>by
  have aj:ops[i]?=some o:=by simpa using al 0 sc
  have Q:Az ops i=o.dst:=by simp[Az,aj]
  have U:i<k:=by simp at hk;omega
  simp only[MH]at h;cases S:IR ops G σ.env i o.guard with
  | none=>rw[S]at h;simp[evMG]at h
  | some ap =>
   obtain⟨c,T⟩:=ap;obtain⟨be,hT,ab⟩:=xC n hu (Nat.le_of_lt U) S;rw[S]at h;simp only[evMG]at h;cases W:opM tb ops q σ0.objs c G E σ.env o (IT o.op) with
   | none =>
    rw[W]at h;unfold evMQ at h;split at h
    .rename_i R;cases R
    .rename_i R;cases R
    cases h
   | some bl =>
    obtain⟨bm,v,obs⟩:=bl;rw[W]at h;have ao:∀(d:Nat) (e:En) (L:List (Nat×List (Nat×Obj))) (M:Gs) (K:St) (F:Prop),o.dst=some d->e.b=T->(T=true->bm/\e.v=v/\e.obs=obs/\Bp obs σ=true)->(T=false->e.v=.raw undef/\e.obs=[]) ->
      (∀s a,lk s K.env=some a->if s=d then a=e.v else lk s σ.env=some a)->K.objs=e.obs++σ.objs ->
      (∀s w B a,(s,w,B,a)∈M->(s,w,B,a)∈G\/(s=d/\w=c/\B=T/\a=v))->(∀ts,CH q ts σ0.objs L=CH q ts σ0.objs ((d,e.obs) :: E)) ->
      MH tb ops q σ0.objs rest r (i+1) L M K=some (F,σ')->F ->
      ∃l:Nat->En,(∀j,j<i->l j=en j)/\(∀j o,i<=j->j<k->ops[j]?=some o->Vc tb ops q σ0 l j o) /\
       ∃(D:Prop) (σ2:St),B7 tb ops rest σ2=some (D,σ')/\D/\(∀s v,lk s σ2.env=some v->lk s (A5 ops l σ0 (Aw k)).env=some v)/\σ2.objs=(A5 ops l σ0 (Aw k)).objs:=by
     intro d e L M K F t I af ae bb bf hG au bc bk
     let u:Nat->En:=λj=>if j=i then e else en j
     have O:u i=e:=by simp[u]
     have heq:∀j,j<i->u j=en j:=λj z=>by simp[u,show j≠i by omega]
     have az:A5 ops u σ0 (Aw i)=A5 ops en σ0 (Aw i):=LE λj z=>heq j (BX.1 z);have Z:ES ops u (Aw i)=ES ops en (Aw i):=by
      apply iF;grind [BX]
     have ba:A5 ops u σ0 (Aw (i+1))=(A5 ops en σ0 (Aw i)).add e.v e.obs (some d):=by grind [Aw,A5]
     have ak:∀s a,s≠d->lk s (A5 ops en σ0 (Aw i)).env=some a->lk s (A5 ops u σ0 (Aw (i+1))).env=some a:=by grind [St.add,lk]
     have ag:lk d (A5 ops u σ0 (Aw (i+1))).env=some e.v:=by grind [St.add,lk]
     have aw:Inv ops q σ0 u (i+1) L M K:=by
      refine⟨λs a A=>?_,λs w B a p=>?_,λj z m=>?_,?_,λts=>?_⟩
      .have:=bb s a A;split at this
       .rename_i hs;rw[hs,this];exact ag
       rename_i hs;exact ak s a hs (n.env s a this)
      .rcases hG s w B a p with p|⟨rfl,rfl,rfl,rfl⟩
       .obtain⟨h1,P,N,j,z,ad,m⟩:=n.G s w B a p;have bg:s≠d:=by
         rintro rfl;exact hu j i z U (by rw[ad,Q,t])
        refine⟨by rw[Vd (en:=en) λk hk=>heq _ (N k hk)];exact h1,λhT=>ak s a bg (P hT),λk hk=>by have:=N k hk;omega,j,O1,ad,by rw[heq j z];exact m⟩
       refine⟨by rw[Vd (en:=en) λk hk=>heq _ (ab k hk)];exact hT,λax=>?_,λk hk=>by have:=ab k hk;omega,i,O1,by rw[Q,t],by rw[O];exact I⟩;rw[ag,(af ax).2.1]
      .by_cases V:j=i
       .subst V;rw[O]at m ⊢;exact(ae (by rw[<-I];exact m)).1
       rw[heq j O1]at m ⊢;exact n.f j O1 m
      .rw[ba,bf,n.objs];rfl
      rw[au];simp only[ES,Aw,gO,O,Q,t,ACP,CH];have:=n.E ts;rw[<-Z]at this;simp only[ES]at this;rw[this]
     obtain⟨l,h1,P,N⟩:=R7 hu bc bk aw (by simp at hk ⊢;omega) (λj z=>by
      have:=al (j+1) (by simp;omega);rw[show i+(j+1)=i+1+j by omega]at this;simpa using this)
     refine⟨l,λj z=>by rw[h1 j O1,heq j z],λj bp bn bo ai=>?_,N⟩;by_cases V:j=i
     .subst V;rw[aj]at ai;cases ai;have J:l j=e:=by rw[h1 j O1,O]
      have aa:A5 ops l σ0 (Aw j)=A5 ops en σ0 (Aw j):=by
       rw[<-az];exact LE λq X=>h1 q (by have:=BX.1 X;omega)
      have av:ES ops l (Aw j)=ES ops en (Aw j):=by
       rw[<-Z];apply iF;intro q X;rw[h1 q (by have:=BX.1 X;omega)]
      refine⟨by rw[aa,J,I];exact be,λm=>?_,λm=>?_⟩
      .rw[J,I]at m;obtain⟨bh,bi,bj,an⟩:=af m;obtain⟨D,aq,ar⟩:=A8T n hu (Nat.le_of_lt U) (by rw[<-hT];exact m) W bh;rw[J,aa,av,bi,bj];exact⟨D,aq,ar,by
        simp only[Bp]at an ⊢;rw[<-n.objs];exact an⟩
      rw[J,I]at m;rw[J];exact ae m
     grind
    cases c with
    | nil =>
     cases t:o.dst with
     | none=>rw[t]at h;simp[evMQ]at h
     | some d =>
      rw[t]at h;simp only[evMQ]at h;split at h
      .rename_i bd;cases C:MH tb ops q σ0.objs rest r (i+1) (KK d obs E) G (σ.add v obs (some d)) with
       | none=>rw[C]at h;simp[Xh]at h
       | some Y =>
        obtain⟨F,σ2⟩:=Y;rw[C]at h;simp only[Xh]at h;cases h;have ay:T=true:=by rw[hT];rfl
        refine ao d ⟨T,v,obs⟩ _ _ _ F t rfl (λ_=>⟨H.1,rfl,rfl,bd⟩) (λhf=>by rw[ay]at hf;cases hf) (λs a A=>?_) rfl (λs w B a p=>.inl p) (λts=>?_) C H.2
        .simp only[St.add,lk]at A;split at A
         .rename_i hs;cases A;simp[hs]
         rename_i hs;rw[As hs];exact A
        cases obs with
        | nil=>simp[KK,CH]
        | cons x y=>rfl
      cases h
    | cons g w =>
     cases obs with
     | cons x y=>simp[evMQ]at h
     | nil =>
      cases t:o.dst with
      | none=>rw[t]at h;simp[evMQ]at h
      | some d =>
       rw[t]at h;simp only[evMQ]at h;split at h
       .rename_i ah;cases C:MH tb ops q σ0.objs rest r (i+1) E ((d,g :: w,T,v) :: G) σ with
        | none=>rw[C]at h;simp[Xh]at h
        | some Y =>
         obtain⟨F,σ2⟩:=Y;rw[C]at h;simp only[Xh]at h;cases h;refine ao d ⟨T,bif T then v else .raw undef,[]⟩ _ _ _ F t rfl (λam=>⟨H.1 am,by simp[am],rfl,by simp[Bp]⟩) (λhf=>⟨by simp[hf],rfl⟩) (λs a A=>?_) rfl (λs c2 B a p=>?_) (λts=>?_) C H.2
         .have:s≠d:=by
           rintro rfl;rw[A]at ah;cases ah
          rw[As this];exact A
         .rcases By.1 p with p|p
          .cases p;exact .inr ⟨rfl,rfl,rfl,rfl⟩
          exact .inl p
         simp[CH]
       cases h
end
section
variable {c:Cx} {ops:Array Oper} {k:Nat} {anc:List (List Nat)} {σ0 σ':St} {en:Nat->En} {Q:Exit->Act->World->Prop}
theorem A12 {o:Oper} {e:Edge} (b:e∈o.after) (a:Region.binds .any e=true):e.on∈EJ o:=by grind [EJ]
theorem Dv {listed:Array Bool} {i:Nat}:i∈Region.ready .any ops listed↔listed.getD i true=false/\∃o,ops[i]?=some o/\∀e∈EJ o,listed.getD e false=true:=by
 rw[mem_ready];grind [EJ,A12]
structure YR (ops:Array Oper) (k:Nat) (anc:List (List Nat)):Prop where
 lt:∀i o,ops[i]?=some o->∀e∈EJ o,e<i
 cl:∀i o,ops[i]?=some o->∀j∈anc.getD i [],j∈EJ o\/∃e∈EJ o,j∈anc.getD e []
 front:∀i o,ops[i]?=some o->i<k->(∃d,o.dst=some d)/\(∀t∈Nr ops.toList o,∀j,j<k->Az ops.toList j=some t->j∈anc.getD i [])/\∀j,j<i->Az ops.toList j≠o.dst
 back:∀i o,ops[i]?=some o->k<=i->∀j,j<i->j∈anc.getD i []
 k:k<=ops.size
theorem AAP (h:mR ops.toList k anc=true):YR ops k anc:=by
 simp only[mR,An,OF,AAn,Is]at h;obtain⟨hk,h⟩:=h;have hi:∀i o,ops[i]?=some o->opB ops.toList k anc i o=true:=by grind
 refine⟨λi o a e l=>?_,λi o a j b=>?_,λi o a c=>?_,λi o a c j b=>?_,by simpa using hk⟩
 .grind [opB]
 .grind [opB,A0]
 .have:=hi i o a;simp only[opB,c,ACk,An,OF,AAn,AAo,A0,AE4]at this;obtain⟨_,⟨h1,f⟩,d⟩:=this;refine⟨ADd.1 h1,λt m j b g=>?_,d⟩;grind
 have:=hi i o a;simp only[opB,show ¬i<k by omega,AD1,An,OF,AAn,A0]at this;exact this.2 j b
theorem Ve (a:YR ops k anc) {listed:Array Bool} (g:∀i o,ops[i]?=some o->listed.getD i true=true->∀e∈EJ o,listed.getD e false=true) :
  ∀i o,ops[i]?=some o->(∀e∈EJ o,listed.getD e false=true)->∀j∈anc.getD i [],listed.getD j false=true:=by
 intro i;induction i using Nat.strongRecOn with
 | _ i m =>
  intro o b c j f;rcases a.cl i o b j f with h1|⟨e,d,h⟩
  .exact c j h1
  have l:=a.lt i o b e d;grind
theorem YS {l:List Oper} {p:Nat} {o:Oper} {r:List Oper} (h:l.drop p=o :: r):l[p]?=some o/\r=l.drop (p+1):=by
 constructor
 .have:(l.drop p)[0]?=some o:=by rw[h];rfl
  grind
 rw[<-ADP,h];rfl
theorem QQ {F:Fence} {P:Program} (f:YR ops k anc):∀ {rest:List Oper} {p:Nat} {listed:Array Bool} {a:Act} {w:World},ops.toList.drop p=rest->k<=p->p<=ops.size->listed.size=ops.size ->
  (∀i,i<ops.size->(listed.getD i true=true↔i<p))->wpListIn F 0 P ops Q rest a w->wpAnyIn F 0 P .any ops Q rest.length listed a w
 | [],p,listed,a,w,m,J,L,q,d,c=>by
  have S:p=ops.size:=by
   have:=AC4 List.length m;simp at this;omega
  refine⟨?_,c⟩;apply AEd.2;grind [Dv]
 | o :: r,p,listed,a,w,m,J,L,q,d,c=>by
  obtain⟨g,C⟩:=YS m;have g:ops[p]?=some o:=by simpa using g
  have t:p<ops.size:=(AAz.1 g).1;have x:∀e b,e<ops.size->listed.getD e b=listed.getD e true:=λe b h=>by grind
  have G:∀i o,ops[i]?=some o->listed.getD i true=true->∀e∈EJ o,listed.getD e false=true:=by
   intro i o B h1 e h;have u:i<ops.size:=(AAz.1 B).1;have y:=(d i u).1 h1;have l:=f.lt i o B e h;grind
  have M:∀i,i∈Region.ready .any ops listed->i=p:=by
   intro i hi;rw[Dv]at hi;obtain⟨h1,D,s,y⟩:=hi;have u:i<ops.size:=(AAz.1 s).1;have O:¬i<p:=λK=>by rw[(d i u).2 K]at h1;cases h1
   by_cases n:i=p
   .exact n
   have l:=Ve f G i D s y p (f.back i D s O1 p O1);rw[x p false t]at l;have:=(d p t).1 l;omega
  refine⟨λR=>?_,λi hi=>?_⟩
  .exfalso;have:p∈Region.ready .any ops listed:=by
    rw[Dv];refine⟨?_,o,g,λe h=>?_⟩
    .cases hh:listed.getD p true with
     | false=>rfl
     | true=>have:=(d p t).1 hh;omega
    have:=f.lt p o g e h;rw[x e false O1];exact(d e O1).2 this
   grind
  have n:=M i hi;subst n;have A:∀(j:Nat),j<ops.size->((listed.setIfInBounds i true).getD j true=true↔j<i+1):=by
   intro j H;have I:j<listed.size:=by omega
   by_cases z:j=i
   .subst z;simp[Array.getD,I]
   have h1:(listed.setIfInBounds i true).getD j true=listed.getD j true:=getD_set_ne true (λe=>z e.symm);rw[h1,d j H];omega
  unfold wpOpIn;rw[g];simp only;unfold wpListIn at c;split
  .rename_i v;rw[At v]at c;exact Oper.wpIn_mono (λN w' E=>QQ f C.symm O1 O1 (by simpa using q) A E) c
  rename_i v;rw[As v]at c;exact⟨c.1,QQ f C.symm O1 O1 (by simpa using q) A c.2⟩
end
end
section
open Go Go.RowKit
theorem Dw:∀(k:Nat) (l:List Nat),l.Nodup->(∀j∈l,j<k)->l.length<=k
 | 0,l,_,h=>by
  cases l with
  | nil=>simp
  | cons x r=>have:=h x sc;omega
 | k+1,l,hn,h=>by
  by_cases hk:k∈l
  .have:=Dw k (l.erase k) (hn.erase k) (λj a=>by
    have h1:=(hn.mem_erase_iff).1 a;have:=h j h1.2;have:=h1.1;omega)
   grind
  have:=Dw k l hn (λj a=>by
   have:=h j a;have:j≠k:=λe=>hk (e▸a);omega)
  omega
theorem rF:∀(k:Nat) (l:List Nat),(∀j,j<k->j∈l)->k<=l.length
 | 0,l,_=>by simp
 | k+1,l,h=>by
  have hk:=h k O1;have:=rF k (l.erase k) (λj a=>(AEh O1).2 (h j O1));grind
theorem Vf {σ σ':St} (j:∀s,lk s σ'.env=lk s σ.env) (f:∀n,lk n σ'.objs=lk n σ.objs) (h:c.sat σ a w):c.sat σ' a w:=by
 obtain⟨ρ,h⟩:=h;have d:HV σ'=HV σ:=by
  funext n;simp only[HV,f]
 have g:∀w,vw w c.O0 σ' ρ=vw w c.O0 σ ρ:=by
  intro w;have l:own c.O0 σ' ρ=own c.O0 σ ρ:=by
   funext b;simp only[own,d]
  simp only[vw,d,l]
 refine⟨ρ,h.frm,h.nt,h.defers,λp q=>by rw[d];exact h.pin p q,?_,?_,?_,?_⟩
 .intro n o hn;rw[g];exact h.objs n o (by rw[<-f];exact hn)
 .intro n b k i;exact h.free n b (by rw[<-d];exact k) i
 .intro n m b h1 e;rw[d]at h1 e;exact h.dist n m b h1 e
 intro s v hs;rw[g];exact h.env s v (by rw[<-j];exact hs)
theorem fV {σ:St} (h:c.sat σ a w):c.sat σ a { w with drawn:=w.drawn+1 }:=by
 obtain⟨ρ,h⟩:=h;have hk:C3 (vw w c.O0 σ ρ) (vw { w with drawn:=w.drawn+1 } c.O0 σ ρ):=⟨λ_ _ h=>h,λ_ h=>h,λ_ _=>rfl,λ_ _ _=>rfl⟩;exact⟨ρ,⟨h.frm.os,h.frm.tape,h.frm.output,h.frm.size,h.frm.block⟩,h.nt,h.defers,h.pin,λn o b=>(h.objs n o b).keeps hk λ_ _=>rfl,h.free,h.dist,λs v hs=>(h.env s v hs).keeps hk⟩
theorem Ud {σ σ':St} (d:∀s v,lk s σ'.env=some v->lk s σ.env=some v) (e:∀n,lk n σ'.objs=lk n σ.objs) (h:c.sat σ a w):c.sat σ' a w:=by
 have b:c.sat ⟨σ.env,σ'.objs⟩ a w:=Vf (σ:=σ) (λ_=>rfl) e h;obtain⟨ρ,h⟩:=b;exact⟨ρ,h.frm,h.nt,h.defers,h.pin,h.objs,h.free,h.dist,λs v hs=>h.env s v (d s v hs)⟩
theorem Mj {ops:Array Oper} {σ:St} (hs:c.sat σ a w) {o:Oper} {b:Bool} (h:LD ops.toList σ b o.guard):Region.wanted o (yielded ops a.tmps)=b:=by
 cases d:o.guard with
 | none =>
  rw[d]at h;simp only[LD]at h;simp[Region.wanted,d,h]
 | some g =>
  obtain⟨j,n⟩:=g;rw[d]at h;simp only[LD]at h;obtain⟨s,k,h⟩:=h;rcases h with ⟨x,e,rfl⟩|⟨e,rfl⟩
  .refine Hw hs ?_;grind [E5,Az,K3,Rv]
  obtain⟨ρ,hs⟩:=hs;have i:a.tmps.getD s undef=undef:=hs.env s _ e;have l:(ops[j]?).bind (·.dst)=some s:=by simpa[Az] using k
  have m:yielded ops a.tmps j=none:=by
   simp only[yielded,l,Option.bind_some];by_cases f:s<a.tmps.size
   .have:a.tmps.getD s undef=a.tmps[s]:=by simp[Array.getD,f]
    rw[this]at i;rw[AC1 f,i];rfl
   grind
  simp[Region.wanted,d,m]
section
variable {c:Cx} {ops:Array Oper} {k:Nat} {q:Bool} {anc:List (List Nat)} {σ0 σ':St} {en:Nat->En} {Q:Exit->Act->World->Prop}
theorem A8U (hF:∀j o,j<k->ops[j]?=some o->Vc c.tb ops.toList q σ0 en j o) (hk:k<=ops.size):Sep σ0 en k:=by
 have one:∀j,j<k->∀n o,lk n (en j).obs=some o->lk n (A5 ops.toList en σ0 (Aw j)).objs=none:=by
  intro j a n o hn;have m:ops[j]?=some (ops[j]'(by omega)):=AC1 O1;have h1:=hF j _ a m;cases g:(en j).b with
  | true =>
   obtain⟨_,_,_,hf⟩:=h1.t g;exact Ov hf hn
  | false =>
   rw[(h1.f g).2]at hn;simp[lk]at hn
 have low:∀i j,i<j->j<k->∀n o d,lk n (en i).obs=some o->lk n (en j).obs=some d->False:=by
  intro i j l a n o d h1 e;have:=one j a n d e;rw[Fv,BJ]at this;cases h:lk n ((Aw j).flatMap λj=>(en j).obs) with
  | some x=>rw[h]at this;simp at this
  | none =>
   have:=LF h i (BX.2 l);rw[this]at h1;cases h1
 refine⟨λj a n o hn=>?_,λi j hi a n o d h1 e=>?_⟩
 .grind [Fv,BJ,lk,Aw]
 grind
theorem A13 (b:YR ops k anc) {l:List Nat} (e:∀j∈l,j<k) {s j:Nat} (d:j∈l) (f:Az ops.toList j=some s):l.find? (λj=>Az ops.toList j==some s)=some j:=by
 have hu:∀i,i∈l->Az ops.toList i=some s->i=j:=by
  intro i hi g;have h1:=e i hi;have a:=e j d;have m:=b.k;have get:∀x,x<k->Az ops.toList x=(ops[x]?).bind (·.dst):=λx _=>by simp[Az]
  rcases AE5 i j with h|h|h
  .have c:ops[j]?=some (ops[j]'(by omega)):=AC1 O1;have:=(b.front j _ c a).2.2 i h;grind
  .exact h
  have c:ops[i]?=some (ops[i]'(by omega)):=AC1 O1;have:=(b.front i _ c h1).2.2 j h;grind
 cases hf:l.find? (λj=>Az ops.toList j==some s) with
 | none =>
  have:=AEv.1 hf j d;simp[f]at this
 | some i =>
  have h1:=ADO hf;have a:=AEP hf;rw[hu i h1 (by simpa using a)]
theorem Vg (a:YR ops k anc) {l l':List Nat} (b:∀j∈l,j<k) (c:∀j∈l',j<k) {s:Nat} (h:∀j,j<k->Az ops.toList j=some s->j∈l/\j∈l') :
  lk s (A5 ops.toList en σ0 l).env=lk s (A5 ops.toList en σ0 l').env:=by
 rw[Fx,Fx];by_cases d:∃j,j<k/\Az ops.toList j=some s
 .grind [A13]
 grind
theorem xD (Y:c.Ok) (A:YR ops k anc) (bi:∀o∈ops.toList,KH c.nt o=true) (hF:∀j o,j<k->ops[j]?=some o->Vc c.tb ops.toList false σ0 en j o)
  {σ2:St} (am:∀s v,lk s σ2.env=some v->lk s (A5 ops.toList en σ0 (Aw k)).env=some v) (an:σ2.objs=(A5 ops.toList en σ0 (Aw k)).objs) (hT:∀I w',c.sat σ2 I w'->wpListIn (FR c.r) 0 c.P ops Q (ops.toList.drop k) I w') :
  ∀(m:Nat) (ex:List Nat) (listed:Array Bool) (a:Act) (w:World),ex.Nodup->(∀j∈ex,j<k)->m+ex.length=ops.size->listed.size=ops.size->(∀i,i<ops.size->(listed.getD i true=true↔i∈ex)) ->
   (∀i o,ops[i]?=some o->i∈ex->∀e∈EJ o,e∈ex)->c.sat (A5 ops.toList en σ0 ex) a w->wpAnyIn (FR c.r) 0 c.P .any ops Q m listed a w:=by
 have ak:=A.k;have H:=A8U hF ak;intro m;induction m with
 | zero =>
  intro ex listed a w hnd z bn X J ao hs;have h1:=Dw k ex hnd z;have bm:k=ops.size:=by omega
  by_cases D:∀j,j<k->j∈ex
  .have aq:ops.toList.drop k=[]:=by simp[bm]
   have R:c.sat σ2 a w:=Ud am (λ_=>by rw[an]) <| Vf
    (λs=>(Vg A z (λj y=>BX.1 y) λj y _=>⟨D j y,BX.2 y⟩).symm)
    (λn=>AED λo=>by
     rw[E6 H (λj y=>BX.1 y),E6 H z];simp only[BX];constructor
     .grind
     rintro (⟨j,y,h⟩|⟨h1,T⟩)
     .grind
     exact .inr ⟨λj y=>h1 j (D j y),T⟩) hs
   have:=QQ (Q:=Q) (F:=FR c.r) (P:=c.P) A (rest:=[]) (p:=k) (listed:=listed) (a:=a) (w:=w) aq (Of _) ak X (λi hi=>by
    rw[J i hi];exact⟨z i,D i⟩) (by rw[<-aq];exact hT a w R)
   exact this
  exfalso;apply D;intro j y;apply Do;intro ay;have:=Dw k (j :: ex) (AC2.2 ⟨ay,hnd⟩) (λi hi=>by
   rcases By.1 hi with rfl|hi
   .exact y
   exact z i hi)
  simp at this;omega
 | succ m cb =>
  intro ex listed a w hnd z bn X J ao hs;have be:∀e b,e<ops.size->listed.getD e b=listed.getD e true:=λe b C=>by grind
  by_cases D:∀j,j<k->j∈ex
  .have ck:ex.length=k:=ADY (Dw k ex hnd z) (rF k ex D);have R:c.sat σ2 a w:=Ud am (λ_=>by rw[an]) <| Vf
    (λs=>(Vg A z (λj y=>BX.1 y) λj y _=>⟨D j y,BX.2 y⟩).symm)
    (λn=>AED λo=>by
     rw[E6 H (λj y=>BX.1 y),E6 H z];simp only[BX];constructor
     .grind
     rintro (⟨j,y,h⟩|⟨h1,T⟩)
     .grind
     exact .inr ⟨λj y=>h1 j (D j y),T⟩) hs
   have:=QQ (Q:=Q) (F:=FR c.r) (P:=c.P) A (rest:=ops.toList.drop k) (p:=k) (listed:=listed) (a:=a) (w:=w) rfl (Of _) ak X (λi hi=>by
    rw[J i hi];exact⟨z i,D i⟩) (hT a w R)
   grind
  refine⟨λbp=>?_,λi hi=>?_⟩
  .exfalso;apply D;intro j;induction j using Nat.strongRecOn with
   | _ j cd =>
    intro y;apply Do;intro ay;have N:ops[j]?=some (ops[j]'(by omega)):=AC1 O1;have:j∈Region.ready .any ops listed:=by
     rw[Dv];refine⟨?_,_,N,λe C=>?_⟩
     .grind
     have aa:=A.lt j _ N e C;rw[be e false O1];exact(J e O1).2 (cd e aa O1)
    rw[bp]at this;cases this
  rw[Dv]at hi;obtain⟨h1,o,B,T⟩:=hi;have bc:i<ops.size:=(AAz.1 B).1;have az:i∉ex:=λh=>by rw[(J i bc).2 h]at h1;cases h1
  have bh:∀e∈EJ o,e∈ex:=λe C=>by grind
  have ad:∀j∈anc.getD i [],j∈ex:=by grind [EJ,Ve]
  have M:i<k:=by
   apply Do;intro cj;exact D λj y=>ad j (A.back i o B O1 j O1)
  have ag:=A.front i o B M;obtain⟨d,ci⟩:=ag.1;have bg:Az ops.toList i=o.dst:=by simp[Az,B]
  have ba:∀t∈Nr ops.toList o,lk t (A5 ops.toList en σ0 ex).env=lk t (A5 ops.toList en σ0 (Aw i)).env:=by
   intro t bx;refine Vg A z (λj y=>by have:=BX.1 y;omega) λj y ae=>?_;have aw:=ag.2.1 t bx j y ae;refine⟨ad j aw,BX.2 ?_⟩;have:∀i o,ops[i]?=some o->∀j∈anc.getD i [],j<i:=by
    intro i;induction i using Nat.strongRecOn with
    | _ i cc =>
     intro o B j y;rcases A.cl i o B j y with ab|⟨e,C,bk⟩
     .exact A.lt i o B j ab
     have bf:=A.lt i o B e C;have bc:i<ops.size:=(AAz.1 B).1;have:=cc e bf _ (AC1 O1) j bk;omega
   exact this i o B j aw
  have br:Ops ⟨(A5 ops.toList en σ0 (Aw i)).env,CH false (Ha o.op) σ0.objs (ES ops.toList en (Aw i))⟩ (A5 ops.toList en σ0 ex) o.op.operands.toList:=by
   intro x ca v S;cases x with
   | tmp t =>
    simp only[Al]at S ⊢;rw[ba t (by
     simp only[Nr,IS,ADF];exact .inl ⟨_,ca,rfl⟩)]
    exact S
   | const cm=>exact S
   | global g=>exact S
   | func f=>exact S
  have bq:mQ ⟨(A5 ops.toList en σ0 (Aw i)).env,CH false (Ha o.op) σ0.objs (ES ops.toList en (Aw i))⟩ (A5 ops.toList en σ0 ex):=by
   intro n G hn;refine A11 H (λj y=>by have:=BX.1 y;omega) z (λj y aj=>?_) hn;have W:=BX.1 y;have N:ops[j]?=some (ops[j]'(by omega)):=AC1 O1;obtain⟨al,ae⟩:=(A.front j _ N O1).1;have ap:Az ops.toList j=some al:=by simp[Az,N,ae]
   rw[ap]at aj;simp only[Bool.false_or,ACP,A0]at aj;refine ad j (ag.2.1 al ?_ j O1 ap);simp only[Nr,IS];exact .inl aj
  have af:=hF i o M B;have E:LD ops.toList (A5 ops.toList en σ0 ex) (en i).b o.guard:=by
   have E:=af.g;cases ah:o.guard with
   | none=>rw[ah]at E;exact E
   | some g =>
    obtain⟨j,co⟩:=g;rw[ah]at E;simp only[LD]at E ⊢;obtain⟨s,au,E⟩:=E;refine⟨s,au,?_⟩;rw[ba s (by
     simp only[Nr,ah,IS,au];exact .inr sc)]
    exact E
  have Z:=Mj hs E;have bo:o∈ops.toList:=by grind
  have ar:=BA (bi o bo);have bb:∀I w',c.sat ((A5 ops.toList en σ0 ex).add (en i).v (en i).obs o.dst) I w'->wpAnyIn (FR c.r) 0 c.P .any ops Q m (listed.setIfInBounds i true) I w':=by
   intro I w' R;refine cb (i :: ex) _ I w' (AC2.2 ⟨az,hnd⟩) (λj y=>?_) (by simp;omega) (by simpa using X) (λj y=>?_) (λi' G L ai e C=>?_) (by simp only[A5,bg];exact R)
   .rcases By.1 y with rfl|y
    .exact M
    exact z j y
   .have bl:j<listed.size:=by omega
    by_cases W:j=i
    .subst W;simp[Array.getD,bl]
    have aa:(listed.setIfInBounds i true).getD j true=listed.getD j true:=getD_set_ne true (λe=>W e.symm);rw[aa,J j y];simp[W]
   rcases By.1 ai with rfl|ai
   .rw[B]at L;cases L;exact GO _ (bh e C)
   exact GO _ (ao i' G L ai e C)
  unfold wpOpIn;rw[B];simp only;cases U:(en i).b with
  | true =>
   rw[U]at Z;rw[At Z];obtain⟨cn,bt,bz,bj⟩:=af.t U;obtain⟨ρ,bd⟩:=hs;have bu:=Uc bq br bt;have av:Bp (en i).obs (A5 ops.toList en σ0 ex)=true:=by
    simp only[Bp,OF]at bj ⊢;intro p bs;have bw:∃G,lk p.1 (en i).obs=some G:=by
     have:∀(l:List (Nat×Obj)),p∈l->∃G,lk p.1 l=some G:=by
      intro l;induction l with
      | nil=>intro h;cases h
      | cons q r ce =>
       intro h;obtain⟨cg,ch⟩:=q;simp only[lk];by_cases C:p.1=cg
       .exact⟨ch,by rw[At C]⟩
       rw[As C];rcases By.1 h with rfl|h
       .exact absurd rfl C
       exact ce h
     exact this _ bs
    obtain⟨G,L⟩:=bw;have:lk p.1 (A5 ops.toList en σ0 ex).objs=none:=by
     cases ax:lk p.1 (A5 ops.toList en σ0 ex).objs with
     | none=>rfl
     | some cf =>
      rw[E6 H z]at ax;rcases ax with ⟨j,y,V⟩|⟨_,V⟩
      .have:=H.2 i j M (z j y) p.1 G cf L V;subst this;exact absurd y az
      rw[H.1 i M p.1 G L]at V;cases V
    simp[this]
   exact qX (w6 Y bd) bu bz av λu ρ' w' bv=>bb _ _ ⟨ρ',bd.add Y.K Y.O ar av bv⟩
  | false =>
   rw[U]at Z;rw[As (by simp[Z])];refine⟨λ_ _=>trivial,?_⟩;have:=af.f U;have ab:=Ni Y hs ar;refine bb _ _ ?_;rw[this.1,this.2];exact ab
end
theorem xE {ops:Array Oper} {σ0:St} {en:Nat->En} {Q:Exit->Act->World->Prop} (h:c.Ok) (I:∀o∈ops.toList,KH c.nt o=true) (hF:∀j o,j<k->ops[j]?=some o->Vc c.tb ops.toList true σ0 en j o) (hk:k<=ops.size)
  {σ2:St} (E:∀s v,lk s σ2.env=some v->lk s (A5 ops.toList en σ0 (Aw k)).env=some v) (F:σ2.objs=(A5 ops.toList en σ0 (Aw k)).objs) (hT:∀d w',c.sat σ2 d w'->wpListIn (FR c.r) 0 c.P ops Q (ops.toList.drop k) d w'):∀(m i:Nat) (a:Act) (w:World),m+i=k->c.sat (A5 ops.toList en σ0 (Aw i)) a w->wpListIn (FR c.r) 0 c.P ops Q (ops.toList.drop i) a w:=by
 intro m;induction m with
 | zero =>
  intro i a w hi hs;have:i=k:=by omega
  subst this;exact hT _ _ (Ud E (λ_=>by rw[F]) hs)
 | succ m U =>
  intro i a w hi hs;have q:ops[i]?=some (ops[i]'(by omega)):=AC1 O1;generalize ops[i]'(by omega)=o at q;have H:ops.toList.drop i=o :: ops.toList.drop (i+1):=by
   have:i<ops.toList.length:=by simp;omega
   rw[OS this];grind
  rw[H];have p:=hF i o O1 q;have n:=Mj hs p.g;have J:o∈ops.toList:=by grind
  have y:=BA (I o J);have T:Az ops.toList i=o.dst:=by simp[Az,q]
  have B:∀d w',c.sat ((A5 ops.toList en σ0 (Aw i)).add (en i).v (en i).obs o.dst) d w'->wpListIn (FR c.r) 0 c.P ops Q (ops.toList.drop (i+1)) d w':=by grind [Aw,A5]
  unfold wpListIn;cases e:(en i).b with
  | true =>
   rw[e]at n;rw[At n];obtain⟨S,A,R,z⟩:=p.t e;obtain⟨ρ,C⟩:=hs;have L:∀l:List Nat,CH true (Ha o.op) σ0.objs (ES ops.toList en l)=(A5 ops.toList en σ0 l).objs:=by
    intro l;rw[Fv];induction l with
    | nil=>rfl
    | cons x r D=>simp only[ES,gO,CH,Bool.true_or,ACk,ADz,AAp]at D ⊢;rw[D]
   have M:aq c.tb (A5 ops.toList en σ0 (Aw i)) (o.dst.getD 0) o.op=some (S,(en i).v,(en i).obs):=by
    rw[L]at A;exact A
   exact qX (w6 h C) M R z λu ρ' w' N=>B _ _ ⟨ρ',C.add h.K h.O y z N⟩
  | false =>
   rw[e]at n;rw[As (by simp[n])];refine⟨λ_ _=>trivial,?_⟩;have:=p.f e;have G:=Ni h hs y;refine B _ _ ?_;rw[this.1,this.2];exact G
theorem Ns {tb:Tb} {ops:List Oper} {q:Bool} {base:List (Nat×Obj)} {rest:List Oper}:∀ {fr:List Oper} {i:Nat} {E:List (Nat×List (Nat×Obj))} {G:Gs} {σ σ':St} {vc:Prop},MH tb ops q base rest fr i E G σ=some (vc,σ')->vc ->
  ∃(e f:Prop) (j:St),MH tb ops q base [] fr i E G σ=some (e,j)/\e/\B7 tb ops rest j=some (f,σ')/\f
 | [],i,E,G,σ,σ',vc,h,k=>by grind [MH,B7]
 | o :: r,i,E,G,σ,σ',vc,h,k=>by
  simp only[MH]at h;cases l:IR ops G σ.env i o.guard with
  | none=>rw[l]at h;simp[evMG]at h
  | some p =>
   obtain⟨c,T⟩:=p;rw[l]at h;simp only[evMG]at h;cases m:opM tb ops q base c G E σ.env o (IT o.op) with
   | none=>rw[m]at h;cases c<;>simp[evMQ]at h
   | some x =>
    obtain⟨u,v,obs⟩:=x;rw[m]at h;cases c with
    | nil =>
     cases a:o.dst with
     | none=>rw[a]at h;simp[evMQ]at h
     | some d =>
      rw[a]at h;simp only[evMQ]at h;split at h
      .rename_i hf;cases b:MH tb ops q base rest r (i+1) (KK d obs E) G (σ.add v obs (some d)) with
       | none=>rw[b]at h;simp[Xh]at h
       | some y =>
        obtain⟨w,σ2⟩:=y;rw[b]at h;simp only[Xh]at h;cases h;obtain⟨e,f,j,h1,n,s,t⟩:=Ns b k.2;exact⟨u/\e,f,j,by simp only[MH,l,evMG,m,a,evMQ,h1,Xh];rw[At hf],⟨k.1,n⟩,s,t⟩
      cases h
    | cons g c =>
     cases obs with
     | cons z A=>cases a:o.dst<;>rw[a]at h<;>simp[evMQ]at h
     | nil =>
      cases a:o.dst with
      | none=>rw[a]at h;simp[evMQ]at h
      | some d =>
       rw[a]at h;simp only[evMQ]at h;split at h
       .rename_i hf;cases b:MH tb ops q base rest r (i+1) E ((d,g :: c,T,v) :: G) σ with
        | none=>rw[b]at h;simp[Xh]at h
        | some y =>
         obtain⟨w,σ2⟩:=y;rw[b]at h;simp only[Xh]at h;cases h;obtain⟨e,f,j,h1,n,s,t⟩:=Ns b k.2;exact⟨(T=true->u)/\e,f,j,by simp only[MH,l,evMG,m,a,evMQ,h1,Xh];rw[At hf],⟨k.1,n⟩,s,t⟩
       cases h
theorem AAQ {ops:List Oper} {q:Bool} {σ0:St} {en:Nat->En}:Inv ops q σ0 en 0 [] [] σ0 :=
 { env:=λ_ _ h=>h,G:=λs c T v h=>absurd h sc,f:=λj a=>absurd a O1,objs:=rfl,E:=λ_=>rfl }
section
variable {c:Cx} {R:Exit->Act->World->Prop} {k:List Cq} {σ σ':St}
def D7 (c:Cx) (R:Exit->Act->World->Prop) (k:List Cq) (ops:Array Oper) (l:List Oper) (σ:St):Prop :=
 (∀o∈l,KH c.nt o=true)->DD c.nt k=true->∀a w,c.sat σ a w->wpListIn (FR c.r) 0 c.P ops (UZ c R k) l a w
theorem A5d {ops:Array Oper} (h:Ev c R (.out .normal) k σ):D7 c R k ops [] σ:=λ_ b a w hs=>h rfl b a w hs
theorem QR (f:c.Ok) {ops:Array Oper} {l:List Oper} (n:Nat) {vc:Prop} (h:B7 c.tb ops.toList (l.take n) σ=some (vc,σ')) (i:vc) (hk:D7 c R k ops (l.drop n) σ'):D7 c R k ops l σ:=by
 intro h1 e a w hs;have:=R2 (r:=l.drop n) f (l.take n) hs (λo b=>h1 o (ABI b)) h i (λd w' g=>hk (λo b=>h1 o (ADf b)) e d w' g)
 rwa [ADr]at this
theorem fW (z:c.P.follows .mixedOrders=true) (u:c.Ok) {id:Nat} {l:List Oper} (n:Nat) (d:Mg l (l.take n).length=true) {vc:Prop}
  (h:MH c.tb l false σ.objs [] (l.take n) 0 [] [] σ=some (vc,σ')) (C:vc) (hk:D7 c R k l.toArray (l.drop n) σ') :
  Ev c R (.run (.region id l.toArray true)) k σ:=by
 intro h1 r a w hs;simp only[IM,B4,OF]at h1;have d:=AAP (ops:=l.toArray) (k:=(l.take n).length) (anc:=A0Z l) (by simpa only[Mg] using d);have hu:mT l (l.take n).length:=by
  intro x y D g;have m:y<l.length:=by simp at g;omega
  have A:l.toArray[y]?=some l[y]:=by simp[m]
  have:=(d.front y _ A g).2.2 x D;simpa[Az,m] using this
 obtain⟨en,_,hF,F,σ2,f,E,s,t⟩:=R7 (ops:=l) (q:=false) (σ0:=σ) (en:=λ_=>⟨false,.top,[]⟩) hu h C AAQ sc (λj b=>by
  have b:j<(l.take n).length:=b;rw[ACf,AAA];simp only[On]at b;rw[At O1])
 refine wpIn_region_any z ?_;have v:l.drop (l.take n).length=l.drop n:=by simp_all
 simp only[B7]at f;cases f;have:=xD (c:=c) (ops:=l.toArray) (k:=(l.take n).length) (σ0:=σ) (en:=en) (Q:=UZ c R k) u d (by simpa using h1)
  (λj o b e=>hF j o O1 b (by simpa using e)) (σ2:=σ') s t (λp w' B=>by
   rw[show (l.toArray.toList.drop _)=l.drop n from v];exact hk (λo e=>h1 o (by simpa using ADf e)) r p w' B)
  l.toArray.size [] (Array.replicate l.toArray.size false) a { w with drawn:=w.drawn+1 } sc sc sc sc (λi hi=>by simp at hi;simp[Array.getD,hi]) (λi o _ hi=>by simp at hi) (fV hs)
 exact this
theorem mU (r:c.Ok) {id:Nat} {l:List Oper} (n:Nat) (f:xB l (l.take n).length=true) {vc:Prop}
  (h:MH c.tb l true σ.objs [] (l.take n) 0 [] [] σ=some (vc,σ')) (u:vc) (hk:D7 c R k l.toArray (l.drop n) σ') :
  Ev c R (.run (.region id l.toArray false)) k σ:=by
 intro h1 i a w hs;simp only[IM,B4,OF]at h1;simp only[xB,An,OF,AAn,Is]at f;have hu:mT l (l.take n).length:=by
  intro x y z A;grind [Az]
 obtain⟨en,_,hF,B,σ2,e,v,m,p⟩:=R7 (ops:=l) (q:=true) (σ0:=σ) (en:=λ_=>⟨false,.top,[]⟩) hu h u AAQ sc (λj b=>by
  have b:j<(l.take n).length:=b;rw[ACf,AAA];simp only[On]at b;rw[At O1])
 have s:l.drop (l.take n).length=l.drop n:=by simp_all
 refine ADS ?_;simp only[B7]at e;cases e;have:=xE (c:=c) (ops:=l.toArray) (k:=(l.take n).length) (σ0:=σ) (en:=en) (Q:=UZ c R k) r (by simpa using h1)
  (λj o b d=>hF j o O1 b (by simpa using d)) (by simpa using f.1) (σ2:=σ') m p (λg w' t=>by
   rw[show (l.toArray.toList.drop _)=l.drop n from s];exact hk (λo d=>h1 o (by simpa using ADf d)) i g w' t)
  (l.take n).length 0 a w sc hs
 exact this
theorem aO (e:c.Ok) {ops:Array Oper} {l:List Oper} {vc:Prop} (h:B7 c.tb ops.toList l σ=some (vc,σ')) (g:vc) (hk:Ev c R (.out .normal) k σ'):D7 c R k ops l σ:=by
 intro h1 d a w hs;exact QK e l hs h1 h g (λb w' f=>hk rfl d b w' f)
theorem fX (e:c.P.follows .mixedOrders=true) (a:c.Ok) {id:Nat} {l:List Oper} (n:Nat) (d:Mg l (l.take n).length=true) {vc:Prop}
  (h:MH c.tb l false σ.objs (l.drop n) (l.take n) 0 [] [] σ=some (vc,σ')) (f:vc) (hk:Ev c R (.out .normal) k σ') :
  Ev c R (.run (.region id l.toArray true)) k σ:=by
 obtain⟨j,m,o,h1,g,b,i⟩:=Ns h f;exact fW e a n d h1 g (aO a b i hk)
theorem mV (a:c.Ok) {id:Nat} {l:List Oper} (n:Nat) (d:xB l (l.take n).length=true) {vc:Prop}
  (h:MH c.tb l true σ.objs (l.drop n) (l.take n) 0 [] [] σ=some (vc,σ')) (e:vc) (hk:Ev c R (.out .normal) k σ') :
  Ev c R (.run (.region id l.toArray false)) k σ:=by
 obtain⟨i,j,m,h1,f,b,g⟩:=Ns h e;exact mU a n d h1 f (aO a b g hk)
theorem A14 (d:c.P.follows .mixedOrders=true) (a:c.Ok) {id:Nat} {l:List Oper} (b:Mg l l.length=true) {vc:Prop}
  (h:MH c.tb l false σ.objs [] l 0 [] [] σ=some (vc,σ')) (e:vc) (hk:Ev c R (.out .normal) k σ') :
  Ev c R (.run (.region id l.toArray true)) k σ :=
 fX d a l.length (by rw[tO];exact b) (by rw[tO,AEM];exact h) e hk
theorem A15 (m:Nat) (d:c.P.follows .mixedOrders=true) (a:c.Ok) {id:Nat} {l:List Oper} (b:Mg l (l.take (l.length-m)).length=true) {vc:Prop}
  (h:MH c.tb l false σ.objs (l.drop (l.length-m)) (l.take (l.length-m)) 0 [] [] σ=some (vc,σ')) (e:vc) (hk:Ev c R (.out .normal) k σ') :
  Ev c R (.run (.region id l.toArray true)) k σ:=fX d a _ b h e hk
theorem mW (a:c.Ok) {id:Nat} {l:List Oper} (b:xB l l.length=true) {vc:Prop}
  (h:MH c.tb l true σ.objs [] l 0 [] [] σ=some (vc,σ')) (d:vc) (hk:Ev c R (.out .normal) k σ') :
  Ev c R (.run (.region id l.toArray false)) k σ :=
 mV a l.length (by rw[tO];exact b) (by rw[tO,AEM];exact h) d hk
theorem mX (a:c.Ok) {id:Nat} {l:List Oper} (_:(l.all λo=>o.guard.isNone)=true) {vc:Prop} (h:B7 c.tb l l σ=some (vc,σ')) (b:vc) (hk:Ev c R (.out .normal) k σ') :
  Ev c R (.run (.region id l.toArray false)) k σ:=mM a h b hk
end
end
section
open Go Go.RowKit
theorem aP {σ σ':St} (l:List Nat) (h:Cz l σ=b) (d:Ent c b σ'):Ent c σ σ':=by
 intro a w hs;obtain⟨ρ,hs⟩:=hs;exact d a w ⟨ρ,by rw[<-h];exact K9 hs⟩
theorem KN {α:Type} (a b:List α):(a++b).take (a.length+b.length)=a++b:=BY sc
theorem QT {α:Type} (a b:List α):sub (a++b) 0 (a.length+b.length)=a++b:=by rw[IQ,KN]
theorem H7 {α:Type} (a:List α) (x:α):(a++[x]).take (a.length+1)=a++[x]:=BY sc
theorem Mk {α:Type} (a:List α) (x:α):sub (a++[x]) 0 (a.length+1)=a++[x]:=by rw[IQ,H7]
theorem A8V {tb:Tb} {w0:World} {O0:Nat->Prop} {nt:Nat} (b:(cx P tb w0 O0 nt).Ok) {fn:Func} {outs:List RV} {σ:St} {e:Exit} (a:List ResultVar) (g:fn.results.toList=a) (c:e=.ret\/e=.normal) (f:∀r∈outs,∃t d,r=.p t d) (h:OT tb σ a outs) :
  Ev (cx P tb w0 O0 nt) (VW P fn w0 O0 outs) (.out e) [] σ:=A0W b c f (by rw[g];exact h)
theorem fY:((0:Nat):Int)=0:=rfl
theorem fZ (k:Nat):((k+1:Nat):Int)=(k:Int)+1:=by omega
theorem AG {α:Type} (l:List α) (d:α) (h:k<l.length):l.getD k d∈l:=by
 rw[AS,AT h];exact AAt h
theorem AH {ty:List (Nat×TI)} {b:List Nat} {ne:List (Nat×TypeId)} {a:List Nat}:JM P ⟨ty,[],b,ne,a⟩:=λf sp h=>by simp[lk]at h
theorem AF {ty:List (Nat×TI)} {c:List Nat} {ne:List (Nat×TypeId)} {b:List Nat} {f:Nat} {sp:Ab} {r:List (Nat×Ab)} (h:Ag P f sp) (d:JM P ⟨ty,r,c,ne,b⟩):JM P ⟨ty,(f,sp) :: r,c,ne,b⟩:=λg i a=>by
 simp only[lk]at a;split at a
 .rename_i e;cases a;rw[e];exact h
 exact d g i a
theorem KO {α:Type} (x:α):[x].take 1=[x]:=rfl
theorem Ap {α:Type} (l:List α) (d:α) (h:k<l.length):l.take (k+1)=l.take k++[l.getD k d]:=by
 rw[AE7,AS,AT h];rfl
theorem QU {α:Type} (l:List α) (q:Nat):sub l q l.length=l.drop q:=by
 unfold sub;rw[BY sc]
end
end Go.Proofs.YtddbnflakbngaaaGreatDoor.Fw
