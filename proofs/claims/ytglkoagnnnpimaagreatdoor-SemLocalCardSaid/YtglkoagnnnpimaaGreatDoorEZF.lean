/- Regions whose order Go leaves open: the rules. -/
import Derived.Test.YtglkoagnnnpimaaGreatDoorEZE
set_option linter.unusedVariables false
set_option linter.unusedSimpArgs false
namespace Go.Proofs.YtglkoagnnnpimaaGreatDoor.Fw
variable {k:Nat} {Z:Array Oper} {Y:Type} {X b:St} {w:World} {W:List (Nat×TypeId)} {V:List (Nat×TI)} {c:Cx} {P:Program} {a:Act} {U T:List Nat} {v:AV}
section
open Go Go.RowKit
def D3 (o:Oper):List Nat:=(o.after.toList.filter (Region.binds .any)).map (·.on)
def Ao (ops:List Oper) (j:Nat):Option Nat:=(ops[j]?).bind (·.dst)
def Ue:Operand->Option Nat
 | .tmp t=>some t
 | _=>none
def Mp (ops:List Oper) (o:Oper):List Nat:=(o.op.operands.toList.filterMap Ue)++(match o.guard with|some (j,_)=>(Ao ops j).toList|none=>[])
def A99 (a b:List Nat):List Nat:=a.foldl (λr x=>if Ag x r then r else x :: r) b
def xX (ops:List Oper):List (List Nat):=ops.foldl (λ(a:List (List Nat)) o=>a++[(D3 o).foldl (λr e=>A99 (a.getD e []) (if Ag e r then r else e :: r)) []]) []
def opB (ops:List Oper) (k:Nat) (anc:List (List Nat)) (i:Nat) (o:Oper):Bool :=
  (D3 o).all (λe=>decide (e<i)) &&
  (anc.getD i []).all (λj=>Ag j (D3 o)||(D3 o).any λe=>Ag j (anc.getD e [])) &&
  (if i<k then o.dst.isSome&&((Mp ops o).all λt=>(List.range k).all λj=>Ao ops j != some t||Ag j (anc.getD i []))&&((List.range i).all λj=>Ao ops j != o.dst)
   else (List.range i).all λj=>Ag j (anc.getD i []))
def jY (ops:List Oper) (k:Nat) (anc:List (List Nat)):Bool :=
 decide (k<=ops.length)&&(List.range ops.length).all λi=>match ops[i]? with|some o=>opB ops k anc i o|none=>false
def Lp (ops:List Oper) (k:Nat):Bool:=jY ops k (xX ops)
def tA (ops:List Oper) (k:Nat):Bool :=
 decide (k<=ops.length)&&(List.range k).all λi=>match ops[i]? with|some o=>o.dst.isSome&&((List.range i).all λj=>Ao ops j != o.dst)|none=>false
def CD (q:Bool) (ts:List Nat) (base:List (Nat×Obj)):List (Nat×List (Nat×Obj))->List (Nat×Obj)
 | []=>base
 | (s,obs) :: r=>if (q||Ag s ts)=true then obs++CD q ts base r else CD q ts base r
def HQ (o:Op):List Nat:=o.operands.toList.filterMap Ue
def NS (q:Bool) (o:Op) (base:List (Nat×Obj)):List (Nat×List (Nat×Obj))->List (Nat×Obj)
 | []=>base
 | e :: r=>CD q (HQ o) base (e :: r)
def K4 (d:Nat) (obs:List (Nat×Obj)) (E:List (Nat×List (Nat×Obj))):List (Nat×List (Nat×Obj)) :=
 match obs with
 | []=>E
 | x :: r=>(d,x :: r) :: E
abbrev Ch:=List (Nat×Bool)
abbrev Gs:=List (Nat×(Ch×Bool×AV))
def N3:Ch->Ch->Bool
 | [],[]=>true
 | (j,w) :: r,(a,w') :: b=>(j==a)&&(w==w')&&N3 r b
 | [],_ :: _=>false
 | _ :: _,[]=>false
theorem PQ:N3 [] []=true:=rfl
theorem TK (x:Nat×Bool) (r:Ch):N3 [] (x :: r)=false:=rfl
theorem TL (x:Nat×Bool) (r:Ch):N3 (x :: r) []=false:=rfl
theorem Mq (j a:Nat) (w w':Bool) (r b:Ch):N3 ((j,w) :: r) ((a,w') :: b)=(decide (j=a)&&(w==w')&&N3 r b):=by grind [N3]
def Uf (a:Ch):Ch->Bool
 | []=>N3 a []
 | k :: r=>N3 a (k :: r)||Uf a r
def K5 (c:Ch):Gs->List (Nat×AV)->List (Nat×AV)
 | [],env=>env
 | (s,a,_,v) :: G,env=>if Uf a c=true then (s,v) :: K5 c G env else K5 c G env
def Mr (j:Nat) (a:Bool):Option (Ch×Bool×AV)->Option AV->Option (Ch×Bool)
 | some (c,T,.p .bool b),_=>some ((j,a) :: c,T&&(b==a))
 | none,some (.p .bool b)=>some ([(j,a)],b==a)
 | _,_=>none
def KN (G:Gs) (env:List (Nat×AV)) (j:Nat) (a:Bool):Option Nat->Option (Ch×Bool)
 | some s=>Mr j a (lk s G) (lk s env)
 | none=>none
def JC (ops:List Oper) (G:Gs) (env:List (Nat×AV)) (i:Nat):Option (Nat×Bool)->Option (Ch×Bool)
 | none=>some ([],true)
 | some (j,a)=>if j<i then KN G env j a (Ao ops j) else none
def Qv (ops:List Oper) (c:Ch) (s:Nat) (w:Bool):Option (Ch×Bool×AV)->Option AV->Option AV
 | some (a,_,v),_=>if Uf a c=true then some v else match a with
  | []=>none
  | (j,w') :: r=>if w'=w/\Ao ops j=some s/\N3 r c=true then some v else none
 | none,x=>x
def Lq (ops:List Oper) (c:Ch) (G:Gs) (env:List (Nat×AV)) (s:Nat) (w:Bool):Operand->Option AV
 | .tmp t=>Qv ops c s w (lk t G) (lk t env)
 | .const v=>some (Ia v)
 | .func _=>none
 | .global _=>none
def Qw:Option AV->Option AV->Option AV->Bc
 | some (.p .bool b),some (.p .bool p),some (.p .bool q)=>some (True,.p .bool (bif b then p else q),[])
 | _,_,_=>none
def PR (ops:List Oper) (c:Ch) (G:Gs) (env:List (Nat×AV)):Operand->Operand->Operand->Bc
 | .tmp s,x,y=>Qw (lk s (K5 c G env)) (Lq ops c G env s true x) (Lq ops c G env s false y)
 | .const _,_,_=>none
 | .func _,_,_=>none
 | .global _,_,_=>none
def JD:Op->Option (Operand×Operand×Operand)
 | .pick s x y=>some (s,x,y)
 | _=>none
def opM (tb:Tb) (ops:List Oper) (q:Bool) (base:List (Nat×Obj)) (c:Ch) (G:Gs) (E:List (Nat×List (Nat×Obj))) (env:List (Nat×AV)) (o:Oper):Option (Operand×Operand×Operand)->Bc
 | some (s,x,y)=>PR ops c G env s x y
 | none=>aq tb ⟨K5 c G env,NS q o.op base E⟩ (o.dst.getD 0) o.op
mutual
def Lr (tb:Tb) (ops:List Oper) (q:Bool) (base:List (Nat×Obj)) (rest:List Oper):List Oper->Nat->List (Nat×List (Nat×Obj))->Gs->St->C2
 | [],_,_,_,σ=>B2 tb ops rest σ
 | o :: r,i,E,G,σ=>evMG tb ops q base rest o r i E G σ (JC ops G σ.env i o.guard)
def evMG (tb:Tb) (ops:List Oper) (q:Bool) (base:List (Nat×Obj)) (rest:List Oper) (o:Oper) (r:List Oper) (i:Nat) (E:List (Nat×List (Nat×Obj))) (G:Gs) (σ:St):Option (Ch×Bool)->C2
 | some (c,T)=>evMQ tb ops q base rest o.dst r i E G σ c T (opM tb ops q base c G E σ.env o (JD o.op))
 | none=>none
def evMQ (tb:Tb) (ops:List Oper) (q:Bool) (base:List (Nat×Obj)) (rest:List Oper) (dst:Option Nat) (r:List Oper) (i:Nat) (E:List (Nat×List (Nat×Obj))) (G:Gs) (σ:St):Ch->Bool->Bc->C2
 | [],_,some (vc,v,obs)=>match dst with
  | some d=>if Bk obs σ=true then W6 vc (Lr tb ops q base rest r (i+1) (K4 d obs E) G (σ.add v obs (some d))) else none
  | none=>none
 | g :: c,T,some (vc,v,[])=>match dst with
  | some d=>if (lk d σ.env).isNone=true then W6 (T=true->vc) (Lr tb ops q base rest r (i+1) E ((d,g :: c,T,v) :: G) σ) else none
  | none=>none
 | _,_,_=>none
end
structure En where
 b:Bool
 v:AV
 obs:List (Nat×Obj)
def Az (ops:List Oper) (en:Nat->En) (σ:St):List Nat->St
 | []=>σ
 | i :: r=>(Az ops en σ r).add (en i).v (en i).obs (Ao ops i)
def Al:Nat->List Nat
 | 0=>[]
 | i+1=>i :: Al i
end
section
open Go Go.RowKit
section
variable {tb:Tb} {ops:List Oper} {k:Nat} {q:Bool} {anc:List (List Nat)} {σ0:St} {en:Nat->En}
def ES (ops:List Oper) (en:Nat->En) (l:List Nat):List (Nat×List (Nat×Obj)):=l.map λj=>((Ao ops j).getD 0,(en j).obs)
def KO (ops:List Oper) (σ:St) (b:Bool):Option (Nat×Bool)->Prop
 | none=>b=true
 | some (j,a)=>∃s,Ao ops j=some s/\((∃x,lk s σ.env=some (.p .bool x)/\b=(x==a))\/(lk s σ.env=some (.raw undef)/\b=false))
structure Ug (tb:Tb) (ops:List Oper) (q:Bool) (σ0:St) (en:Nat->En) (i:Nat) (o:Oper):Prop where
 g:KO ops (Az ops en σ0 (Al i)) (en i).b o.guard
 t:(en i).b=true->∃vc:Prop,aq tb ⟨(Az ops en σ0 (Al i)).env,CD q (HQ o.op) σ0.objs (ES ops en (Al i))⟩ (o.dst.getD 0) o.op=some (vc,(en i).v,(en i).obs)/\vc/\Bk (en i).obs (Az ops en σ0 (Al i))=true
 f:(en i).b=false->(en i).v=.raw undef/\(en i).obs=[]
theorem KP {a:Nat->En}:∀ {l:List Nat},(∀j∈l,a j=en j)->Az ops a σ0 l=Az ops en σ0 l
 | [],_=>rfl
 | i :: r,h=>by
  simp only[Az];rw[KP (λj b=>h j (by simp[b])),h i sc]
theorem BR {i j:Nat}:j∈Al i↔j<i:=by
 induction i with
 | zero=>simp[Al]
 | succ i a=>simp[Al,a];omega
theorem FW:∀(l:List Nat),(Az ops en σ0 l).objs=(l.flatMap λj=>(en j).obs)++σ0.objs
 | []=>rfl
 | i :: r=>by
  simp only[Az,ABZ,AAg];rw[<-FW r];cases Ao ops i<;>rfl
theorem FX (s:Nat):∀(l:List Nat),lk s (Az ops en σ0 l).env=match l.find? (λj=>Ao ops j==some s) with|some j=>some (en j).v|none=>lk s σ0.env
 | []=>rfl
 | i :: r=>by
  simp only[Az,List.find?_cons];cases a:Ao ops i with
  | none =>
   simp only[St.add];rw[FX s r];have:((none:Option Nat)==some s)=false:=rfl;rw[this]
  | some d =>
   simp only[St.add,lk];by_cases hs:s=d
   .subst hs;simp
   have h1:((some d:Option Nat)==some s)=false:=by
    have:d≠s:=λe=>hs e.symm;simpa using this
   rw[An hs,FX s r,h1]
theorem n9 {n:Nat} {o:Obj} {l:List Nat} (h:lk n (l.flatMap λj=>(en j).obs)=some o):∃j∈l,lk n (en j).obs=some o:=by
 induction l with
 | nil=>simp[lk]at h
 | cons i r d =>
  rw[ABZ,BD]at h;cases a:lk n (en i).obs with
  | some e =>
   rw[a]at h;exact⟨i,sc,by rw[a];simpa using h⟩
  | none =>
   rw[a]at h;obtain⟨j,b,c⟩:=d (by simpa using h);exact⟨j,by simp[b],c⟩
theorem KQ {n:Nat} {l:List Nat} (h:lk n (l.flatMap λj=>(en j).obs)=none):∀j∈l,lk n (en j).obs=none:=by
 induction l with
 | nil=>simp
 | cons i r c =>
  rw[ABZ,BD]at h;cases a:lk n (en i).obs with
  | some d=>rw[a]at h;simp at h
  | none =>
   rw[a]at h;intro j b;rcases By.1 b with rfl|b
   .exact a
   grind
def Sep (σ0:St) (en:Nat->En) (k:Nat):Prop :=
 (∀j,j<k->∀n o,lk n (en j).obs=some o->lk n σ0.objs=none)/\∀i j,i<k->j<k->∀n o a,lk n (en i).obs=some o->lk n (en j).obs=some a->i=j
theorem Em (g:Sep σ0 en k) {l:List Nat} (c:∀j∈l,j<k) (n:Nat) (o:Obj):lk n (Az ops en σ0 l).objs=some o↔(∃j∈l,lk n (en j).obs=some o)\/((∀j∈l,lk n (en j).obs=none)/\lk n σ0.objs=some o):=by
 rw[FW,BD];cases h:lk n (l.flatMap λj=>(en j).obs) with
 | some i =>
  obtain⟨j,b,a⟩:=n9 h;simp only[ACW];constructor
  .grind
  rintro (⟨d,e,f⟩|⟨h1,_⟩)
  .have:=g.2 j d (c j b) (c d e) n i o a f;grind
  rw[h1 j b]at a;cases a
 | none =>
  have hn:=KQ h;simp only[Option.none_or];constructor
  .grind
  grind
theorem xY (f:Sep σ0 en k) {ts:List Nat} {l l':List Nat} (m:∀j∈l,j<k) (e:∀j∈l',j<k) (d:∀j∈l,(q||Ag ((Ao ops j).getD 0) ts)=true->j∈l') {n:Nat} {o:Obj} :
  lk n (CD q ts σ0.objs (ES ops en l))=some o->lk n (Az ops en σ0 l').objs=some o:=by
 rw[Em f e];induction l with
 | nil =>
  simp only[ES,ABC,CD];intro h;refine .inr ⟨λj b=>?_,h⟩;cases a:lk n (en j).obs with
  | none=>rfl
  | some g=>have:=f.1 j (e j b) n g a;rw[this]at h;cases h
 | cons i r c =>
  simp only[ES,oR,CD];have c:=c (λj b=>m j (by simp[b])) (λj b=>d j (by simp[b]));split
  .rename_i p;intro h;rw[BD]at h;cases a:lk n (en i).obs with
   | some g =>
    rw[a]at h;simp only[ACW]at h;cases h;exact .inl ⟨i,d i sc p,a⟩
   | none =>
    rw[a]at h;exact c (by simpa[ES] using h)
  exact c
theorem PS:∀ {a b:Ch},N3 a b=true↔a=b
 | [],[]=>by simp[N3]
 | (j,w) :: r,(d,w') :: c=>by simp[N3,PS (a:=r) (b:=c),and_assoc]
 | [],_ :: _=>by simp[N3]
 | _ :: _,[]=>by simp[N3]
def bv:AV->Bool
 | .p .bool b=>b
 | _=>false
def tr (en:Nat->En):Ch->Bool
 | []=>true
 | (j,w) :: r=>tr en r&&(bv (en j).v==w)
theorem Uh {a:Nat->En}:∀ {c:Ch},(∀k∈c,a k.1=en k.1)->tr a c=tr en c
 | [],_=>rfl
 | (j,w) :: r,h=>by
  have h1:=h (j,w) sc;simp only at h1;simp only[tr];rw[Uh (λk hk=>h k (by simp[hk])),h1]
theorem jZ {a:Ch}:∀ {c:Ch},Uf a c=true->tr en c=true->tr en a=true
 | [],h,ht=>by simp only[Uf,PS]at h;rw[h];exact ht
 | k :: r,h,ht=>by
  simp only[Uf,AA4,PS]at h;rcases h with rfl|h
  .exact ht
  obtain⟨j,w⟩:=k;simp only[tr,AT]at ht;exact jZ h ht.1
structure Inv (ops:List Oper) (q:Bool) (σ0:St) (en:Nat->En) (i:Nat) (E:List (Nat×List (Nat×Obj))) (G:Gs) (σ:St):Prop where
 env:∀s v,lk s σ.env=some v->lk s (Az ops en σ0 (Al i)).env=some v
 G:∀s c T v,(s,c,T,v)∈G->T=tr en c/\(T=true->lk s (Az ops en σ0 (Al i)).env=some v)/\(∀k∈c,k.1<i)/\∃j,j<i/\Ao ops j=some s/\(en j).b=T
 f:∀j,j<i->(en j).b=false->(en j).v=.raw undef
 objs:σ.objs=(Az ops en σ0 (Al i)).objs
 E:∀ts,CD q ts σ0.objs E=CD q ts σ0.objs (ES ops en (Al i))
def j5 (ops:List Oper) (k:Nat):Prop:=∀a b,a<b->b<k->Ao ops a≠Ao ops b
theorem Xf (hu:j5 ops k) {i j s:Nat} (d:i<=k) (c:j<i) (b:Ao ops j=some s):lk s (Az ops en σ0 (Al i)).env=some (en j).v:=by
 rw[FX];have:(Al i).find? (λj=>Ao ops j==some s)=some j:=by
  cases hf:(Al i).find? (λj=>Ao ops j==some s) with
  | none =>
   have:=ACR.1 hf j (BR.2 c);simp[b]at this
  | some x =>
   have h1:=BR.1 (ACc hf);have a:=ADe hf;have a:Ao ops x=some s:=by simpa using a
   rcases ACs x j with h|h|h
   .exact absurd (a.trans b.symm) (hu x j h O1)
   .rw[h]
   exact absurd (b.trans a.symm) (hu j x h O1)
 rw[this]
theorem Qx {c:Ch} {s:Nat} {v:AV} {env:List (Nat×AV)}:∀ {G:Gs},lk s (K5 c G env)=some v->(∃b T,(s,b,T,v)∈G/\Uf b c=true)\/lk s env=some v
 | [],h=>.inr h
 | (e,b,T,f) :: G,h=>by
  simp only[K5]at h;split at h
  .rename_i hs;simp only[lk]at h;split at h
   .grind
   rcases Qx h with ⟨c2,T2,d,a⟩|a
   .grind
   exact .inr a
  rcases Qx h with ⟨c2,T2,d,a⟩|a
  .grind
  exact .inr a
section
variable {i:Nat} {E:List (Nat×List (Nat×Obj))} {G:Gs} {σ:St}
theorem cZ (a:Inv ops q σ0 en i E G σ) {c:Ch} (f:tr en c=true) {s:Nat} (h:lk s (K5 c G σ.env)=some v):lk s (Az ops en σ0 (Al i)).env=some v:=by
 rcases Qx h with ⟨b,T,d,hs⟩|h
 .obtain⟨h1,e,_⟩:=a.G s b T v d;grind [jZ]
 exact a.env s v h
theorem tB (m:Inv ops q σ0 en i E G σ) (hu:j5 ops k) (v:i<=k) {g:Option (Nat×Bool)} {c:Ch} {T:Bool} (h:JC ops G σ.env i g=some (c,T)) :
  KO ops (Az ops en σ0 (Al i)) T g/\T=tr en c/\(∀k∈c,k.1<i):=by
 cases g with
 | none =>
  simp only[JC]at h;cases h;exact⟨rfl,rfl,sc⟩
 | some g =>
  obtain⟨j,z⟩:=g;simp only[JC]at h;split at h
  .rename_i r;cases d:Ao ops j with
   | none=>rw[d]at h;simp[KN]at h
   | some s =>
    rw[d]at h;simp only[KN]at h;have e:=Xf (en:=en) (σ0:=σ0) hu v r d;unfold Mr at h;split at h
    .rename_i c0 o b n;cases h;obtain⟨h1,t,x,l,y,p,u⟩:=m.G s c0 o _ (FI n);cases hT:o with
     | true =>
      have a:=t hT;rw[e]at a;injection a with a
      refine⟨⟨s,d,.inl ⟨b,by rw[e,a],sc⟩⟩,?_,?_⟩
      .grind [tr,bv]
      grind
     | false =>
      have w:l=j:=by
       rcases ACs l j with h|h|h
       .exact absurd (p.trans d.symm) (hu l j h O1)
       .exact h
       exact absurd (d.trans p.symm) (hu j l h O1)
      subst w;have a:=m.f l r (by rw[u,hT]);refine⟨⟨s,d,.inr ⟨by rw[e,a],sc⟩⟩,?_,?_⟩
      .grind [tr]
      grind
    .rename_i b _ n;cases h;have a:=m.env s _ n;rw[e]at a;injection a with a
     refine⟨⟨s,d,.inl ⟨b,by rw[e,a],rfl⟩⟩,by simp[tr,a,bv],?_⟩;grind
    cases h
  cases h
theorem dA (d:Inv ops q σ0 en i E G σ) (hu:j5 ops k) (o:i<=k) {c:Ch} (z:tr en c=true) {s:Nat} {w:Bool} (hs:lk s (Az ops en σ0 (Al i)).env=some (.p .bool w)) {x:Operand} 
  (h:Lq ops c G σ.env s w x=some v) {objs:List (Nat×Obj)}:Aj ⟨(Az ops en σ0 (Al i)).env,objs⟩ x=some v:=by
 cases x with
 | const x=>simp only[Lq]at h;exact h
 | func f=>simp[Lq]at h
 | global g=>simp[Lq]at h
 | tmp t =>
  simp only[Lq]at h;simp only[Aj];cases a:lk t G with
  | none =>
   rw[a]at h;exact d.env t v h
  | some e =>
   obtain⟨b,T,u⟩:=e;rw[a]at h;simp only[Qv]at h;obtain⟨h1,y,m,_⟩:=d.G t b T u (FI a);split at h
   .grind [jZ]
   cases b with
   | nil=>cases h
   | cons p r =>
    obtain⟨j,w'⟩:=p;simp only at h;split at h
    .rename_i hh;obtain⟨rfl,n,l⟩:=hh;rw[PS]at l;subst l;cases h;have A:=Xf (en:=en) (σ0:=σ0) hu o (m (j,w') sc) n;grind [tr,bv]
    cases h
theorem A6S (a:Inv ops q σ0 en i E G σ) (hu:j5 ops k) (l:i<=k) {c:Ch} (d:tr en c=true) {o:Oper} {vc:Prop} {obs:List (Nat×Obj)} (h:opM tb ops q σ0.objs c G E σ.env o (JD o.op)=some (vc,v,obs)) (A:vc) :
  ∃m:Prop,aq tb ⟨(Az ops en σ0 (Al i)).env,CD q (HQ o.op) σ0.objs (ES ops en (Al i))⟩ (o.dst.getD 0) o.op=some (m,v,obs)/\m:=by
 cases j:JD o.op with
 | none =>
  rw[j]at h;simp only[opM]at h;refine⟨vc,TJ (σ:=⟨K5 c G σ.env,NS q o.op σ0.objs E⟩) ?_ ?_ h,A⟩
  .intro n x hn;have:NS q o.op σ0.objs E=CD q (HQ o.op) σ0.objs E:=by cases E<;>rfl
   simp only at hn ⊢;rw[this,a.E]at hn;exact hn
  intro x _ v e;cases x with
  | tmp t=>exact cZ a d e
  | const B=>exact e
  | global g=>exact e
  | func f=>exact e
 | some p =>
  obtain⟨s,x,y⟩:=p;rw[j]at h;have z:o.op=.pick s x y:=by
   unfold JD at j;grind
  simp only[opM]at h;rw[z];cases s with
  | const _=>simp[PR]at h
  | func _=>simp[PR]at h
  | global _=>simp[PR]at h
  | tmp s =>
   simp only[PR]at h;unfold Qw at h;split at h
   .rename_i b p r h1 u w;cases h;have hs:=cZ a d h1;refine⟨True,?_,trivial⟩;have h0:Aj ⟨(Az ops en σ0 (Al i)).env,CD q (HQ (Op.pick (.tmp s) x y)) σ0.objs (ES ops en (Al i))⟩ (.tmp s)=some (.p .bool b):=hs;simp only[aq];rw[h0];cases b with
    | true =>
     simp only[LP];rw[dA a hu l d hs u];rfl
    | false =>
     simp only[LP];rw[dA a hu l d hs w];rfl
   cases h
end
theorem Qy {rest:List Oper} (hu:j5 ops k):∀ {fr:List Oper} {i:Nat} {E:List (Nat×List (Nat×Obj))} {G:Gs} {σ σ':St} {en:Nat->En} {vc:Prop},Lr tb ops q σ0.objs rest fr i E G σ=some (vc,σ')->vc->Inv ops q σ0 en i E G σ->i+fr.length=k->(∀j,j<fr.length->ops[i+j]?=fr[j]?) ->
  ∃l:Nat->En,(∀j,j<i->l j=en j)/\(∀j o,i<=j->j<k->ops[j]?=some o->Ug tb ops q σ0 l j o) /\
   ∃(D:Prop) (σ2:St),B2 tb ops rest σ2=some (D,σ')/\D/\(∀s v,lk s σ2.env=some v->lk s (Az ops l σ0 (Al k)).env=some v)/\σ2.objs=(Az ops l σ0 (Al k)).objs
 | [],i,E,G,σ,σ',en,vc,h,H,n,hk,_=>by
  simp only[Lr]at h;simp at hk;subst hk;exact⟨en,λ_ _=>rfl,λj o h1 P=>by omega,vc,σ,h,H,n.env,n.objs⟩
 | o :: r,i,E,G,σ,σ',en,vc,h,H,n,hk,al=>by
  have aj:ops[i]?=some o:=by simpa using al 0 sc
  have Q:Ao ops i=o.dst:=by simp[Ao,aj]
  have U:i<k:=by simp at hk;omega
  simp only[Lr]at h;cases S:JC ops G σ.env i o.guard with
  | none=>rw[S]at h;simp[evMG]at h
  | some ao =>
   obtain⟨c,T⟩:=ao;obtain⟨bd,hT,ab⟩:=tB n hu (Nat.le_of_lt U) S;rw[S]at h;simp only[evMG]at h;cases W:opM tb ops q σ0.objs c G E σ.env o (JD o.op) with
   | none =>
    rw[W]at h;unfold evMQ at h;split at h
    .rename_i R;cases R
    .rename_i R;cases R
    cases h
   | some bk =>
    obtain⟨bl,v,obs⟩:=bk;rw[W]at h;have an:∀(d:Nat) (e:En) (L:List (Nat×List (Nat×Obj))) (M:Gs) (K:St) (F:Prop),o.dst=some d->e.b=T->(T=true->bl/\e.v=v/\e.obs=obs/\Bk obs σ=true)->(T=false->e.v=.raw undef/\e.obs=[]) ->
      (∀s a,lk s K.env=some a->if s=d then a=e.v else lk s σ.env=some a)->K.objs=e.obs++σ.objs ->
      (∀s w B a,(s,w,B,a)∈M->(s,w,B,a)∈G\/(s=d/\w=c/\B=T/\a=v))->(∀ts,CD q ts σ0.objs L=CD q ts σ0.objs ((d,e.obs) :: E)) ->
      Lr tb ops q σ0.objs rest r (i+1) L M K=some (F,σ')->F ->
      ∃l:Nat->En,(∀j,j<i->l j=en j)/\(∀j o,i<=j->j<k->ops[j]?=some o->Ug tb ops q σ0 l j o) /\
       ∃(D:Prop) (σ2:St),B2 tb ops rest σ2=some (D,σ')/\D/\(∀s v,lk s σ2.env=some v->lk s (Az ops l σ0 (Al k)).env=some v)/\σ2.objs=(Az ops l σ0 (Al k)).objs:=by
     intro d e L M K F t I af ae ba be hG ar bb bj
     let u:Nat->En:=λj=>if j=i then e else en j
     have O:u i=e:=by simp[u]
     have heq:∀j,j<i->u j=en j:=λj z=>by simp[u,show j≠i by omega]
     have ay:Az ops u σ0 (Al i)=Az ops en σ0 (Al i):=KP λj z=>heq j (BR.1 z);have Z:ES ops u (Al i)=ES ops en (Al i):=by
      apply oS;grind [BR]
     have az:Az ops u σ0 (Al (i+1))=(Az ops en σ0 (Al i)).add e.v e.obs (some d):=by grind [Al,Az]
     have ak:∀s a,s≠d->lk s (Az ops en σ0 (Al i)).env=some a->lk s (Az ops u σ0 (Al (i+1))).env=some a:=by grind [St.add,lk]
     have ag:lk d (Az ops u σ0 (Al (i+1))).env=some e.v:=by grind [St.add,lk]
     have av:Inv ops q σ0 u (i+1) L M K:=by
      refine⟨λs a A=>?_,λs w B a p=>?_,λj z m=>?_,?_,λts=>?_⟩
      .have:=ba s a A;split at this
       .rename_i hs;rw[hs,this];exact ag
       rename_i hs;exact ak s a hs (n.env s a this)
      .rcases hG s w B a p with p|⟨rfl,rfl,rfl,rfl⟩
       .obtain⟨h1,P,N,j,z,ad,m⟩:=n.G s w B a p;have bf:s≠d:=by
         rintro rfl;exact hu j i z U (by rw[ad,Q,t])
        refine⟨by rw[Uh (en:=en) λk hk=>heq _ (N k hk)];exact h1,λhT=>ak s a bf (P hT),λk hk=>by have:=N k hk;omega,j,O1,ad,by rw[heq j z];exact m⟩
       refine⟨by rw[Uh (en:=en) λk hk=>heq _ (ab k hk)];exact hT,λaw=>?_,λk hk=>by have:=ab k hk;omega,i,O1,by rw[Q,t],by rw[O];exact I⟩;rw[ag,(af aw).2.1]
      .by_cases V:j=i
       .subst V;rw[O]at m ⊢;exact(ae (by rw[<-I];exact m)).1
       rw[heq j O1]at m ⊢;exact n.f j O1 m
      .rw[az,be,n.objs];rfl
      rw[ar];simp only[ES,Al,oR,O,Q,t,ACC,CD];have:=n.E ts;rw[<-Z]at this;simp only[ES]at this;rw[this]
     obtain⟨l,h1,P,N⟩:=Qy hu bb bj av (by simp at hk ⊢;omega) (λj z=>by
      have:=al (j+1) (by simp;omega);rw[show i+(j+1)=i+1+j by omega]at this;simpa using this)
     refine⟨l,λj z=>by rw[h1 j O1,heq j z],λj bo bm bn ai=>?_,N⟩;by_cases V:j=i
     .subst V;rw[aj]at ai;cases ai;have J:l j=e:=by rw[h1 j O1,O]
      have aa:Az ops l σ0 (Al j)=Az ops en σ0 (Al j):=by
       rw[<-ay];exact KP λq X=>h1 q (by have:=BR.1 X;omega)
      have au:ES ops l (Al j)=ES ops en (Al j):=by
       rw[<-Z];apply oS;intro q X;rw[h1 q (by have:=BR.1 X;omega)]
      refine⟨by rw[aa,J,I];exact bd,λm=>?_,λm=>?_⟩
      .rw[J,I]at m;obtain⟨bg,bh,bi,am⟩:=af m;obtain⟨D,ap,aq⟩:=A6S n hu (Nat.le_of_lt U) (by rw[<-hT];exact m) W bg;rw[J,aa,au,bh,bi];exact⟨D,ap,aq,by
        simp only[Bk]at am ⊢;rw[<-n.objs];exact am⟩
      rw[J,I]at m;rw[J];exact ae m
     grind
    cases c with
    | nil =>
     cases t:o.dst with
     | none=>rw[t]at h;simp[evMQ]at h
     | some d =>
      rw[t]at h;simp only[evMQ]at h;split at h
      .rename_i bc;cases C:Lr tb ops q σ0.objs rest r (i+1) (K4 d obs E) G (σ.add v obs (some d)) with
       | none=>rw[C]at h;simp[W6]at h
       | some Y =>
        obtain⟨F,σ2⟩:=Y;rw[C]at h;simp only[W6]at h;cases h;have ax:T=true:=by rw[hT];rfl
        refine an d ⟨T,v,obs⟩ _ _ _ F t rfl (λ_=>⟨H.1,rfl,rfl,bc⟩) (λhf=>by rw[ax]at hf;cases hf) (λs a A=>?_) rfl (λs w B a p=>.inl p) (λts=>?_) C H.2
        .simp only[St.add,lk]at A;split at A
         .rename_i hs;cases A;simp[hs]
         rename_i hs;rw[An hs];exact A
        cases obs with
        | nil=>simp[K4,CD]
        | cons x y=>rfl
      cases h
    | cons g w =>
     cases obs with
     | cons x y=>simp[evMQ]at h
     | nil =>
      cases t:o.dst with
      | none=>rw[t]at h;simp[evMQ]at h
      | some d =>
       rw[t]at h;simp only[evMQ]at h;split at h
       .rename_i ah;cases C:Lr tb ops q σ0.objs rest r (i+1) E ((d,g :: w,T,v) :: G) σ with
        | none=>rw[C]at h;simp[W6]at h
        | some Y =>
         obtain⟨F,σ2⟩:=Y;rw[C]at h;simp only[W6]at h;cases h;refine an d ⟨T,bif T then v else .raw undef,[]⟩ _ _ _ F t rfl (λht=>⟨H.1 ht,by simp[ht],rfl,by simp[Bk]⟩) (λhf=>⟨by simp[hf],rfl⟩) (λs a A=>?_) rfl (λs c2 B a p=>?_) (λts=>?_) C H.2
         .have:s≠d:=by
           rintro rfl;rw[A]at ah;cases ah
          rw[An this];exact A
         .rcases By.1 p with p|p
          .cases p;exact .inr ⟨rfl,rfl,rfl,rfl⟩
          exact .inl p
         simp[CD]
       cases h
end
section
variable {c:Cx} {ops:Array Oper} {k:Nat} {anc:List (List Nat)} {σ0 σ':St} {en:Nat->En} {Q:Exit->Act->World->Prop}
theorem xZ {o:Oper} {e:Edge} (b:e∈o.after) (a:Region.binds .any e=true):e.on∈D3 o:=by grind [D3]
theorem De {listed:Array Bool} {i:Nat}:i∈Region.ready .any ops listed↔listed.getD i true=false/\∃o,ops[i]?=some o/\∀e∈D3 o,listed.getD e false=true:=by
 rw[mem_ready];grind [D3,xZ]
structure Xg (ops:Array Oper) (k:Nat) (anc:List (List Nat)):Prop where
 lt:∀i o,ops[i]?=some o->∀e∈D3 o,e<i
 cl:∀i o,ops[i]?=some o->∀j∈anc.getD i [],j∈D3 o\/∃e∈D3 o,j∈anc.getD e []
 front:∀i o,ops[i]?=some o->i<k->(∃d,o.dst=some d)/\(∀t∈Mp ops.toList o,∀j,j<k->Ao ops.toList j=some t->j∈anc.getD i [])/\∀j,j<i->Ao ops.toList j≠o.dst
 back:∀i o,ops[i]?=some o->k<=i->∀j,j<i->j∈anc.getD i []
 k:k<=ops.size
theorem A9a (h:jY ops.toList k anc=true):Xg ops k anc:=by
 simp only[jY,AT,NO,tO,If]at h;obtain⟨hk,h⟩:=h;have hi:∀i o,ops[i]?=some o->opB ops.toList k anc i o=true:=by grind
 refine⟨λi o a e l=>?_,λi o a j b=>?_,λi o a c=>?_,λi o a c j b=>?_,by simpa using hk⟩
 .grind [opB]
 .grind [opB,Am]
 .have:=hi i o a;simp only[opB,c,ABa,AT,NO,tO,AA4,Am,ACr]at this;obtain⟨_,⟨h1,f⟩,d⟩:=this;refine⟨ABE.1 h1,λt ht j b g=>?_,d⟩;grind
 have:=hi i o a;simp only[opB,show ¬i<k by omega,ABs,AT,NO,tO,Am]at this;exact this.2 j b
theorem Ui (a:Xg ops k anc) {listed:Array Bool} (g:∀i o,ops[i]?=some o->listed.getD i true=true->∀e∈D3 o,listed.getD e false=true) :
  ∀i o,ops[i]?=some o->(∀e∈D3 o,listed.getD e false=true)->∀j∈anc.getD i [],listed.getD j false=true:=by
 intro i;induction i using Nat.strongRecOn with
 | _ i m =>
  intro o b c j f;rcases a.cl i o b j f with h1|⟨e,d,h⟩
  .exact c j h1
  have l:=a.lt i o b e d;grind
theorem Xh {l:List Oper} {p:Nat} {o:Oper} {r:List Oper} (h:l.drop p=o :: r):l[p]?=some o/\r=l.drop (p+1):=by
 constructor
 .have:(l.drop p)[0]?=some o:=by rw[h];rfl
  grind
 rw[<-ACd,h];rfl
theorem PT {F:Fence} {P:Program} (f:Xg ops k anc):∀ {rest:List Oper} {p:Nat} {listed:Array Bool} {a:Act} {w:World},ops.toList.drop p=rest->k<=p->p<=ops.size->listed.size=ops.size ->
  (∀i,i<ops.size->(listed.getD i true=true↔i<p))->wpListIn F 0 P ops Q rest a w->wpAnyIn F 0 P .any ops Q rest.length listed a w
 | [],p,listed,a,w,m,J,L,q,d,c=>by
  have S:p=ops.size:=by
   have:=ABj List.length m;simp at this;omega
  refine⟨?_,c⟩;apply ACz.2;grind [De]
 | o :: r,p,listed,a,w,m,J,L,q,d,c=>by
  obtain⟨g,C⟩:=Xh m;have g:ops[p]?=some o:=by simpa using g
  have t:p<ops.size:=(AAk.1 g).1;have x:∀e b,e<ops.size->listed.getD e b=listed.getD e true:=λe b h=>by grind
  have G:∀i o,ops[i]?=some o->listed.getD i true=true->∀e∈D3 o,listed.getD e false=true:=by
   intro i o B h1 e h;have u:i<ops.size:=(AAk.1 B).1;have y:=(d i u).1 h1;have l:=f.lt i o B e h;grind
  have M:∀i,i∈Region.ready .any ops listed->i=p:=by
   intro i hi;rw[De]at hi;obtain⟨h1,D,s,y⟩:=hi;have u:i<ops.size:=(AAk.1 s).1;have O:¬i<p:=λK=>by rw[(d i u).2 K]at h1;cases h1
   by_cases n:i=p
   .exact n
   have l:=Ui f G i D s y p (f.back i D s O1 p O1);rw[x p false t]at l;have:=(d p t).1 l;omega
  refine⟨λR=>?_,λi hi=>?_⟩
  .exfalso;have:p∈Region.ready .any ops listed:=by
    rw[De];refine⟨?_,o,g,λe h=>?_⟩
    .cases hh:listed.getD p true with
     | false=>rfl
     | true=>have:=(d p t).1 hh;omega
    have:=f.lt p o g e h;rw[x e false O1];exact(d e O1).2 this
   grind
  have n:=M i hi;subst n;have A:∀(j:Nat),j<ops.size->((listed.setIfInBounds i true).getD j true=true↔j<i+1):=by
   intro j H;have I:j<listed.size:=by omega
   by_cases z:j=i
   .subst z;simp[Array.getD,I]
   have h1:(listed.setIfInBounds i true).getD j true=listed.getD j true:=getD_set_ne true (λe=>z e.symm);rw[h1,d j H];omega
  unfold wpOpIn;rw[g];simp only;unfold wpListIn at c;split
  .rename_i v;rw[At v]at c;exact Oper.wpIn_mono (λN w' E=>PT f C.symm O1 O1 (by simpa using q) A E) c
  rename_i v;rw[An v]at c;exact⟨c.1,PT f C.symm O1 O1 (by simpa using q) A c.2⟩
end
end
section
open Go Go.RowKit
theorem DC:∀(k:Nat) (l:List Nat),l.Nodup->(∀j∈l,j<k)->l.length<=k
 | 0,l,_,h=>by
  cases l with
  | nil=>simp
  | cons x r=>have:=h x sc;omega
 | k+1,l,hn,h=>by
  by_cases hk:k∈l
  .have:=DC k (l.erase k) (hn.erase k) (λj a=>by
    have h1:=(hn.mem_erase_iff).1 a;have:=h j h1.2;have:=h1.1;omega)
   grind
  have:=DC k l hn (λj a=>by
   have:=h j a;have:j≠k:=λe=>hk (e▸a);omega)
  omega
theorem oA:∀(k:Nat) (l:List Nat),(∀j,j<k->j∈l)->k<=l.length
 | 0,l,_=>by simp
 | k+1,l,h=>by
  have hk:=h k O1;have:=oA k (l.erase k) (λj a=>(ACE O1).2 (h j O1));grind
theorem Uj {σ σ':St} (j:∀s,lk s σ'.env=lk s σ.env) (f:∀n,lk n σ'.objs=lk n σ.objs) (h:c.sat σ a w):c.sat σ' a w:=by
 obtain⟨ρ,h⟩:=h;have d:G0 σ'=G0 σ:=by
  funext n;simp only[G0,f]
 have g:∀w,vw w c.O0 σ' ρ=vw w c.O0 σ ρ:=by
  intro w;have l:own c.O0 σ' ρ=own c.O0 σ ρ:=by
   funext b;simp only[own,d]
  simp only[vw,d,l]
 refine⟨ρ,h.frm,h.nt,h.defers,λp q=>by rw[d];exact h.pin p q,?_,?_,?_,?_⟩
 .intro n o hn;rw[g];exact h.objs n o (by rw[<-f];exact hn)
 .intro n b k i;exact h.free n b (by rw[<-d];exact k) i
 .intro n m b h1 e;rw[d]at h1 e;exact h.dist n m b h1 e
 intro s v hs;rw[g];exact h.env s v (by rw[<-j];exact hs)
theorem dB {σ:St} (h:c.sat σ a w):c.sat σ a { w with drawn:=w.drawn+1 }:=by
 obtain⟨ρ,h⟩:=h;have hk:Cq (vw w c.O0 σ ρ) (vw { w with drawn:=w.drawn+1 } c.O0 σ ρ):=⟨λ_ _ h=>h,λ_ h=>h,λ_ _=>rfl,λ_ _ _=>rfl⟩;exact⟨ρ,⟨h.frm.os,h.frm.tape,h.frm.output,h.frm.size,h.frm.block⟩,h.nt,h.defers,h.pin,λn o b=>(h.objs n o b).keeps hk λ_ _=>rfl,h.free,h.dist,λs v hs=>(h.env s v hs).keeps hk⟩
theorem TM {σ σ':St} (d:∀s v,lk s σ'.env=some v->lk s σ.env=some v) (e:∀n,lk n σ'.objs=lk n σ.objs) (h:c.sat σ a w):c.sat σ' a w:=by
 have b:c.sat ⟨σ.env,σ'.objs⟩ a w:=Uj (σ:=σ) (λ_=>rfl) e h;obtain⟨ρ,h⟩:=b;exact⟨ρ,h.frm,h.nt,h.defers,h.pin,h.objs,h.free,h.dist,λs v hs=>h.env s v (d s v hs)⟩
theorem Ls {ops:Array Oper} {σ:St} (hs:c.sat σ a w) {o:Oper} {b:Bool} (h:KO ops.toList σ b o.guard):Region.wanted o (yielded ops a.tmps)=b:=by
 cases d:o.guard with
 | none =>
  rw[d]at h;simp only[KO]at h;simp[Region.wanted,d,h]
 | some g =>
  obtain⟨j,n⟩:=g;rw[d]at h;simp only[KO]at h;obtain⟨s,k,h⟩:=h;rcases h with ⟨x,e,rfl⟩|⟨e,rfl⟩
  .refine HN hs ?_;grind [FD,Ao,Lb,Qn]
  obtain⟨ρ,hs⟩:=hs;have i:a.tmps.getD s undef=undef:=hs.env s _ e;have l:(ops[j]?).bind (·.dst)=some s:=by simpa[Ao] using k
  have m:yielded ops a.tmps j=none:=by
   simp only[yielded,l,Option.bind_some];by_cases f:s<a.tmps.size
   .have:a.tmps.getD s undef=a.tmps[s]:=by simp[Array.getD,f]
    rw[this]at i;rw[AAD f,i];rfl
   grind
  simp[Region.wanted,d,m]
section
variable {c:Cx} {ops:Array Oper} {k:Nat} {q:Bool} {anc:List (List Nat)} {σ0 σ':St} {en:Nat->En} {Q:Exit->Act->World->Prop}
theorem A6T (hF:∀j o,j<k->ops[j]?=some o->Ug c.tb ops.toList q σ0 en j o) (hk:k<=ops.size):Sep σ0 en k:=by
 have one:∀j,j<k->∀n o,lk n (en j).obs=some o->lk n (Az ops.toList en σ0 (Al j)).objs=none:=by
  intro j a n o hn;have m:ops[j]?=some (ops[j]'(by omega)):=AAD O1;have h1:=hF j _ a m;cases g:(en j).b with
  | true =>
   obtain⟨_,_,_,hf⟩:=h1.t g;exact Nv hf hn
  | false =>
   rw[(h1.f g).2]at hn;simp[lk]at hn
 have low:∀i j,i<j->j<k->∀n o d,lk n (en i).obs=some o->lk n (en j).obs=some d->False:=by
  intro i j l a n o d h1 e;have:=one j a n d e;rw[FW,BD]at this;cases h:lk n ((Al j).flatMap λj=>(en j).obs) with
  | some x=>rw[h]at this;simp at this
  | none =>
   have:=KQ h i (BR.2 l);rw[this]at h1;cases h1
 refine⟨λj a n o hn=>?_,λi j hi a n o d h1 e=>?_⟩
 .grind [FW,BD,lk,Al]
 grind
theorem x4 (b:Xg ops k anc) {l:List Nat} (e:∀j∈l,j<k) {s j:Nat} (d:j∈l) (f:Ao ops.toList j=some s):l.find? (λj=>Ao ops.toList j==some s)=some j:=by
 have hu:∀i,i∈l->Ao ops.toList i=some s->i=j:=by
  intro i hi g;have h1:=e i hi;have a:=e j d;have m:=b.k;have get:∀x,x<k->Ao ops.toList x=(ops[x]?).bind (·.dst):=λx _=>by simp[Ao]
  rcases ACs i j with h|h|h
  .have c:ops[j]?=some (ops[j]'(by omega)):=AAD O1;have:=(b.front j _ c a).2.2 i h;grind
  .exact h
  have c:ops[i]?=some (ops[i]'(by omega)):=AAD O1;have:=(b.front i _ c h1).2.2 j h;grind
 cases hf:l.find? (λj=>Ao ops.toList j==some s) with
 | none =>
  have:=ACR.1 hf j d;simp[f]at this
 | some i =>
  have h1:=ACc hf;have a:=ADe hf;rw[hu i h1 (by simpa using a)]
theorem Uk (a:Xg ops k anc) {l l':List Nat} (b:∀j∈l,j<k) (c:∀j∈l',j<k) {s:Nat} (h:∀j,j<k->Ao ops.toList j=some s->j∈l/\j∈l') :
  lk s (Az ops.toList en σ0 l).env=lk s (Az ops.toList en σ0 l').env:=by
 rw[FX,FX];by_cases d:∃j,j<k/\Ao ops.toList j=some s
 .grind [x4]
 grind
theorem tC (Z:c.Ok) (A:Xg ops k anc) (bj:∀o∈ops.toList,JZ c.nt o=true) (hF:∀j o,j<k->ops[j]?=some o->Ug c.tb ops.toList false σ0 en j o)
  {σ2:St} (an:∀s v,lk s σ2.env=some v->lk s (Az ops.toList en σ0 (Al k)).env=some v) (ao:σ2.objs=(Az ops.toList en σ0 (Al k)).objs) (hT:∀I w',c.sat σ2 I w'->wpListIn (FR c.r) 0 c.P ops Q (ops.toList.drop k) I w') :
  ∀(m:Nat) (ex:List Nat) (listed:Array Bool) (a:Act) (w:World),ex.Nodup->(∀j∈ex,j<k)->m+ex.length=ops.size->listed.size=ops.size->(∀i,i<ops.size->(listed.getD i true=true↔i∈ex)) ->
   (∀i o,ops[i]?=some o->i∈ex->∀e∈D3 o,e∈ex)->c.sat (Az ops.toList en σ0 ex) a w->wpAnyIn (FR c.r) 0 c.P .any ops Q m listed a w:=by
 have al:=A.k;have H:=A6T hF al;intro m;induction m with
 | zero =>
  intro ex listed a w N z bo Y J ap hs;have h1:=DC k ex N z;have bn:k=ops.size:=by omega
  by_cases D:∀j,j<k->j∈ex
  .have ar:ops.toList.drop k=[]:=by simp[bn]
   have S:c.sat σ2 a w:=TM an (λ_=>by rw[ao]) <| Uj
    (λs=>(Uk A z (λj y=>BR.1 y) λj y _=>⟨D j y,BR.2 y⟩).symm)
    (λn=>AD0 λo=>by
     rw[Em H (λj y=>BR.1 y),Em H z];simp only[BR];constructor
     .grind
     rintro (⟨j,y,h⟩|⟨h1,U⟩)
     .grind
     exact .inr ⟨λj y=>h1 j (D j y),U⟩) hs
   have:=PT (Q:=Q) (F:=FR c.r) (P:=c.P) A (rest:=[]) (p:=k) (listed:=listed) (a:=a) (w:=w) ar (OS _) al Y (λi hi=>by
    rw[J i hi];exact⟨z i,D i⟩) (by rw[<-ar];exact hT a w S)
   exact this
  exfalso;apply D;intro j y;apply DO;intro az;have:=DC k (j :: ex) (AAF.2 ⟨az,N⟩) (λi hi=>by
   rcases By.1 hi with rfl|hi
   .exact y
   exact z i hi)
  simp at this;omega
 | succ m cb =>
  intro ex listed a w N z bo Y J ap hs;have bf:∀e b,e<ops.size->listed.getD e b=listed.getD e true:=λe b C=>by grind
  by_cases D:∀j,j<k->j∈ex
  .have ck:ex.length=k:=ACj (DC k ex N z) (oA k ex D);have S:c.sat σ2 a w:=TM an (λ_=>by rw[ao]) <| Uj
    (λs=>(Uk A z (λj y=>BR.1 y) λj y _=>⟨D j y,BR.2 y⟩).symm)
    (λn=>AD0 λo=>by
     rw[Em H (λj y=>BR.1 y),Em H z];simp only[BR];constructor
     .grind
     rintro (⟨j,y,h⟩|⟨h1,U⟩)
     .grind
     exact .inr ⟨λj y=>h1 j (D j y),U⟩) hs
   have:=PT (Q:=Q) (F:=FR c.r) (P:=c.P) A (rest:=ops.toList.drop k) (p:=k) (listed:=listed) (a:=a) (w:=w) rfl (OS _) al Y (λi hi=>by
    rw[J i hi];exact⟨z i,D i⟩) (hT a w S)
   grind
  refine⟨λbq=>?_,λi hi=>?_⟩
  .exfalso;apply D;intro j;induction j using Nat.strongRecOn with
   | _ j cd =>
    intro y;apply DO;intro az;have R:ops[j]?=some (ops[j]'(by omega)):=AAD O1;have:j∈Region.ready .any ops listed:=by
     rw[De];refine⟨?_,_,R,λe C=>?_⟩
     .grind
     have ab:=A.lt j _ R e C;rw[bf e false O1];exact(J e O1).2 (cd e ab O1)
    rw[bq]at this;cases this
  rw[De]at hi;obtain⟨h1,o,B,U⟩:=hi;have bd:i<ops.size:=(AAk.1 B).1;have ba:i∉ex:=λh=>by rw[(J i bd).2 h]at h1;cases h1
  have bi:∀e∈D3 o,e∈ex:=λe C=>by grind
  have ae:∀j∈anc.getD i [],j∈ex:=by grind [D3,Ui]
  have M:i<k:=by
   apply DO;intro cj;exact D λj y=>ae j (A.back i o B O1 j O1)
  have ah:=A.front i o B M;obtain⟨d,ci⟩:=ah.1;have bh:Ao ops.toList i=o.dst:=by simp[Ao,B]
  have bb:∀t∈Mp ops.toList o,lk t (Az ops.toList en σ0 ex).env=lk t (Az ops.toList en σ0 (Al i)).env:=by
   intro t ht;refine Uk A z (λj y=>by have:=BR.1 y;omega) λj y af=>?_;have ax:=ah.2.1 t ht j y af;refine⟨ae j ax,BR.2 ?_⟩;have:∀i o,ops[i]?=some o->∀j∈anc.getD i [],j<i:=by
    intro i;induction i using Nat.strongRecOn with
    | _ i cc =>
     intro o B j y;rcases A.cl i o B j y with ad|⟨e,C,bl⟩
     .exact A.lt i o B j ad
     have bg:=A.lt i o B e C;have bd:i<ops.size:=(AAk.1 B).1;have:=cc e bg _ (AAD O1) j bl;omega
   exact this i o B j ax
  have bs:Ops ⟨(Az ops.toList en σ0 (Al i)).env,CD false (HQ o.op) σ0.objs (ES ops.toList en (Al i))⟩ (Az ops.toList en σ0 ex) o.op.operands.toList:=by
   intro x ca v T;cases x with
   | tmp t =>
    simp only[Aj]at T ⊢;rw[bb t (by
     simp only[Mp,IN,AC5];exact .inl ⟨_,ca,rfl⟩)]
    exact T
   | const cm=>exact T
   | global g=>exact T
   | func f=>exact T
  have br:jX ⟨(Az ops.toList en σ0 (Al i)).env,CD false (HQ o.op) σ0.objs (ES ops.toList en (Al i))⟩ (Az ops.toList en σ0 ex):=by
   intro n G hn;refine xY H (λj y=>by have:=BR.1 y;omega) z (λj y ak=>?_) hn;have X:=BR.1 y;have R:ops[j]?=some (ops[j]'(by omega)):=AAD O1;obtain⟨am,af⟩:=(A.front j _ R O1).1;have aq:Ao ops.toList j=some am:=by simp[Ao,R,af]
   rw[aq]at ak;simp only[Bool.false_or,ACC,Am]at ak;refine ae j (ah.2.1 am ?_ j O1 aq);simp only[Mp,IN];exact .inl ak
  have ag:=hF i o M B;have E:KO ops.toList (Az ops.toList en σ0 ex) (en i).b o.guard:=by
   have E:=ag.g;cases ai:o.guard with
   | none=>rw[ai]at E;exact E
   | some g =>
    obtain⟨j,co⟩:=g;rw[ai]at E;simp only[KO]at E ⊢;obtain⟨s,av,E⟩:=E;refine⟨s,av,?_⟩;rw[bb s (by
     simp only[Mp,ai,IN,av];exact .inr sc)]
    exact E
  have aa:=Ls hs E;have bp:o∈ops.toList:=by grind
  have au:=A7 (bj o bp);have bc:∀I w',c.sat ((Az ops.toList en σ0 ex).add (en i).v (en i).obs o.dst) I w'->wpAnyIn (FR c.r) 0 c.P .any ops Q m (listed.setIfInBounds i true) I w':=by
   intro I w' S;refine cb (i :: ex) _ I w' (AAF.2 ⟨ba,N⟩) (λj y=>?_) (by simp;omega) (by simpa using Y) (λj y=>?_) (λi' G L aj e C=>?_) (by simp only[Az,bh];exact S)
   .rcases By.1 y with rfl|y
    .exact M
    exact z j y
   .have bm:j<listed.size:=by omega
    by_cases X:j=i
    .subst X;simp[Array.getD,bm]
    have ab:(listed.setIfInBounds i true).getD j true=listed.getD j true:=getD_set_ne true (λe=>X e.symm);rw[ab,J j y];simp[X]
   rcases By.1 aj with rfl|aj
   .rw[B]at L;cases L;exact IF _ (bi e C)
   exact IF _ (ap i' G L aj e C)
  unfold wpOpIn;rw[B];simp only;cases V:(en i).b with
  | true =>
   rw[V]at aa;rw[At aa];obtain⟨cn,bu,bz,bk⟩:=ag.t V;obtain⟨ρ,be⟩:=hs;have bv:=TJ br bs bu;have aw:Bk (en i).obs (Az ops.toList en σ0 ex)=true:=by
    simp only[Bk,NO]at bk ⊢;intro p bt;have bx:∃G,lk p.1 (en i).obs=some G:=by
     have:∀(l:List (Nat×Obj)),p∈l->∃G,lk p.1 l=some G:=by
      intro l;induction l with
      | nil=>intro h;cases h
      | cons q r ce =>
       intro h;obtain⟨cg,ch⟩:=q;simp only[lk];by_cases C:p.1=cg
       .exact⟨ch,by rw[At C]⟩
       rw[An C];rcases By.1 h with rfl|h
       .exact absurd rfl C
       exact ce h
     exact this _ bt
    obtain⟨G,L⟩:=bx;have:lk p.1 (Az ops.toList en σ0 ex).objs=none:=by
     cases ay:lk p.1 (Az ops.toList en σ0 ex).objs with
     | none=>rfl
     | some cf =>
      rw[Em H z]at ay;rcases ay with ⟨j,y,W⟩|⟨_,W⟩
      .have:=H.2 i j M (z j y) p.1 G cf L W;subst this;exact absurd y ba
      rw[H.1 i M p.1 G L]at W;cases W
    simp[this]
   exact nX (s5 Z be) bv bz aw λu ρ' w' bw=>bc _ _ ⟨ρ',be.add Z.K Z.O au aw bw⟩
  | false =>
   rw[V]at aa;rw[An (by simp[aa])];refine⟨λ_ _=>trivial,?_⟩;have:=ag.f V;have ad:=Mm Z hs au;refine bc _ _ ?_;rw[this.1,this.2];exact ad
end
theorem tD {ops:Array Oper} {σ0:St} {en:Nat->En} {Q:Exit->Act->World->Prop} (h:c.Ok) (I:∀o∈ops.toList,JZ c.nt o=true) (hF:∀j o,j<k->ops[j]?=some o->Ug c.tb ops.toList true σ0 en j o) (hk:k<=ops.size)
  {σ2:St} (E:∀s v,lk s σ2.env=some v->lk s (Az ops.toList en σ0 (Al k)).env=some v) (F:σ2.objs=(Az ops.toList en σ0 (Al k)).objs) (hT:∀d w',c.sat σ2 d w'->wpListIn (FR c.r) 0 c.P ops Q (ops.toList.drop k) d w'):∀(m i:Nat) (a:Act) (w:World),m+i=k->c.sat (Az ops.toList en σ0 (Al i)) a w->wpListIn (FR c.r) 0 c.P ops Q (ops.toList.drop i) a w:=by
 intro m;induction m with
 | zero =>
  intro i a w hi hs;have:i=k:=by omega
  subst this;exact hT _ _ (TM E (λ_=>by rw[F]) hs)
 | succ m U =>
  intro i a w hi hs;have q:ops[i]?=some (ops[i]'(by omega)):=AAD O1;generalize ops[i]'(by omega)=o at q;have H:ops.toList.drop i=o :: ops.toList.drop (i+1):=by
   have:i<ops.toList.length:=by simp;omega
   rw[OR this];grind
  rw[H];have p:=hF i o O1 q;have n:=Ls hs p.g;have J:o∈ops.toList:=by grind
  have y:=A7 (I o J);have T:Ao ops.toList i=o.dst:=by simp[Ao,q]
  have B:∀d w',c.sat ((Az ops.toList en σ0 (Al i)).add (en i).v (en i).obs o.dst) d w'->wpListIn (FR c.r) 0 c.P ops Q (ops.toList.drop (i+1)) d w':=by grind [Al,Az]
  unfold wpListIn;cases e:(en i).b with
  | true =>
   rw[e]at n;rw[At n];obtain⟨S,A,R,z⟩:=p.t e;obtain⟨ρ,C⟩:=hs;have L:∀l:List Nat,CD true (HQ o.op) σ0.objs (ES ops.toList en l)=(Az ops.toList en σ0 l).objs:=by
    intro l;rw[FW];induction l with
    | nil=>rfl
    | cons x r D=>simp only[ES,oR,CD,Bool.true_or,ABa,ABZ,AAg]at D ⊢;rw[D]
   have M:aq c.tb (Az ops.toList en σ0 (Al i)) (o.dst.getD 0) o.op=some (S,(en i).v,(en i).obs):=by
    rw[L]at A;exact A
   exact nX (s5 h C) M R z λu ρ' w' N=>B _ _ ⟨ρ',C.add h.K h.O y z N⟩
  | false =>
   rw[e]at n;rw[An (by simp[n])];refine⟨λ_ _=>trivial,?_⟩;have:=p.f e;have G:=Mm h hs y;refine B _ _ ?_;rw[this.1,this.2];exact G
theorem Ms {tb:Tb} {ops:List Oper} {q:Bool} {base:List (Nat×Obj)} {rest:List Oper}:∀ {fr:List Oper} {i:Nat} {E:List (Nat×List (Nat×Obj))} {G:Gs} {σ σ':St} {vc:Prop},Lr tb ops q base rest fr i E G σ=some (vc,σ')->vc ->
  ∃(e f:Prop) (j:St),Lr tb ops q base [] fr i E G σ=some (e,j)/\e/\B2 tb ops rest j=some (f,σ')/\f
 | [],i,E,G,σ,σ',vc,h,k=>by grind [Lr,B2]
 | o :: r,i,E,G,σ,σ',vc,h,k=>by
  simp only[Lr]at h;cases l:JC ops G σ.env i o.guard with
  | none=>rw[l]at h;simp[evMG]at h
  | some p =>
   obtain⟨c,T⟩:=p;rw[l]at h;simp only[evMG]at h;cases m:opM tb ops q base c G E σ.env o (JD o.op) with
   | none=>rw[m]at h;cases c<;>simp[evMQ]at h
   | some x =>
    obtain⟨u,v,obs⟩:=x;rw[m]at h;cases c with
    | nil =>
     cases a:o.dst with
     | none=>rw[a]at h;simp[evMQ]at h
     | some d =>
      rw[a]at h;simp only[evMQ]at h;split at h
      .rename_i hf;cases b:Lr tb ops q base rest r (i+1) (K4 d obs E) G (σ.add v obs (some d)) with
       | none=>rw[b]at h;simp[W6]at h
       | some y =>
        obtain⟨w,σ2⟩:=y;rw[b]at h;simp only[W6]at h;cases h;obtain⟨e,f,j,h1,n,s,t⟩:=Ms b k.2;exact⟨u/\e,f,j,by simp only[Lr,l,evMG,m,a,evMQ,h1,W6];rw[At hf],⟨k.1,n⟩,s,t⟩
      cases h
    | cons g c =>
     cases obs with
     | cons z A=>cases a:o.dst<;>rw[a]at h<;>simp[evMQ]at h
     | nil =>
      cases a:o.dst with
      | none=>rw[a]at h;simp[evMQ]at h
      | some d =>
       rw[a]at h;simp only[evMQ]at h;split at h
       .rename_i hf;cases b:Lr tb ops q base rest r (i+1) E ((d,g :: c,T,v) :: G) σ with
        | none=>rw[b]at h;simp[W6]at h
        | some y =>
         obtain⟨w,σ2⟩:=y;rw[b]at h;simp only[W6]at h;cases h;obtain⟨e,f,j,h1,n,s,t⟩:=Ms b k.2;exact⟨(T=true->u)/\e,f,j,by simp only[Lr,l,evMG,m,a,evMQ,h1,W6];rw[At hf],⟨k.1,n⟩,s,t⟩
       cases h
theorem A9b {ops:List Oper} {q:Bool} {σ0:St} {en:Nat->En}:Inv ops q σ0 en 0 [] [] σ0 :=
 { env:=λ_ _ h=>h,G:=λs c T v h=>absurd h sc,f:=λj a=>absurd a O1,objs:=rfl,E:=λ_=>rfl }
section
variable {c:Cx} {R:Exit->Act->World->Prop} {k:List Cl} {σ σ':St}
def EE (c:Cx) (R:Exit->Act->World->Prop) (k:List Cl) (ops:Array Oper) (l:List Oper) (σ:St):Prop :=
 (∀o∈l,JZ c.nt o=true)->C1 c.nt k=true->∀a w,c.sat σ a w->wpListIn (FR c.r) 0 c.P ops (TE c R k) l a w
theorem A3G {ops:Array Oper} (h:Ev c R (.out .normal) k σ):EE c R k ops [] σ:=λ_ b a w hs=>h rfl b a w hs
theorem PU (f:c.Ok) {ops:Array Oper} {l:List Oper} (n:Nat) {vc:Prop} (h:B2 c.tb ops.toList (l.take n) σ=some (vc,σ')) (i:vc) (hk:EE c R k ops (l.drop n) σ'):EE c R k ops l σ:=by
 intro h1 e a w hs;have:=Qt (r:=l.drop n) f (l.take n) hs (λo b=>h1 o (AAC b)) h i (λd w' g=>hk (λo b=>h1 o (ABH b)) e d w' g)
 rwa [ABS]at this
theorem dC (z:c.P.follows .mixedOrders=true) (u:c.Ok) {id:Nat} {l:List Oper} (n:Nat) (d:Lp l (l.take n).length=true) {vc:Prop}
  (h:Lr c.tb l false σ.objs [] (l.take n) 0 [] [] σ=some (vc,σ')) (C:vc) (hk:EE c R k l.toArray (l.drop n) σ') :
  Ev c R (.run (.region id l.toArray true)) k σ:=by
 intro h1 r a w hs;simp only[Hs,Bu,NO]at h1;have d:=A9a (ops:=l.toArray) (k:=(l.take n).length) (anc:=xX l) (by simpa only[Lp] using d);have hu:j5 l (l.take n).length:=by
  intro x y D g;have m:y<l.length:=by simp at g;omega
  have A:l.toArray[y]?=some l[y]:=by simp[m]
  have:=(d.front y _ A g).2.2 x D;simpa[Ao,m] using this
 obtain⟨en,_,hF,F,σ2,f,E,s,t⟩:=Qy (ops:=l) (q:=false) (σ0:=σ) (en:=λ_=>⟨false,.top,[]⟩) hu h C A9b sc (λj b=>by
  have b:j<(l.take n).length:=b;rw[AB6,AAl];simp only[Of]at b;rw[At O1])
 refine wpIn_region_any z ?_;have v:l.drop (l.take n).length=l.drop n:=by simp_all
 simp only[B2]at f;cases f;have:=tC (c:=c) (ops:=l.toArray) (k:=(l.take n).length) (σ0:=σ) (en:=en) (Q:=TE c R k) u d (by simpa using h1)
  (λj o b e=>hF j o O1 b (by simpa using e)) (σ2:=σ') s t (λp w' B=>by
   rw[show (l.toArray.toList.drop _)=l.drop n from v];exact hk (λo e=>h1 o (by simpa using ABH e)) r p w' B)
  l.toArray.size [] (Array.replicate l.toArray.size false) a { w with drawn:=w.drawn+1 } sc sc sc sc (λi hi=>by simp at hi;simp[Array.getD,hi]) (λi o _ hi=>by simp at hi) (dB hs)
 exact this
theorem j6 (r:c.Ok) {id:Nat} {l:List Oper} (n:Nat) (f:tA l (l.take n).length=true) {vc:Prop}
  (h:Lr c.tb l true σ.objs [] (l.take n) 0 [] [] σ=some (vc,σ')) (u:vc) (hk:EE c R k l.toArray (l.drop n) σ') :
  Ev c R (.run (.region id l.toArray false)) k σ:=by
 intro h1 i a w hs;simp only[Hs,Bu,NO]at h1;simp only[tA,AT,NO,tO,If]at f;have hu:j5 l (l.take n).length:=by
  intro x y z A;grind [Ao]
 obtain⟨en,_,hF,B,σ2,e,v,m,p⟩:=Qy (ops:=l) (q:=true) (σ0:=σ) (en:=λ_=>⟨false,.top,[]⟩) hu h u A9b sc (λj b=>by
  have b:j<(l.take n).length:=b;rw[AB6,AAl];simp only[Of]at b;rw[At O1])
 have s:l.drop (l.take n).length=l.drop n:=by simp_all
 refine ACh ?_;simp only[B2]at e;cases e;have:=tD (c:=c) (ops:=l.toArray) (k:=(l.take n).length) (σ0:=σ) (en:=en) (Q:=TE c R k) r (by simpa using h1)
  (λj o b d=>hF j o O1 b (by simpa using d)) (by simpa using f.1) (σ2:=σ') m p (λg w' t=>by
   rw[show (l.toArray.toList.drop _)=l.drop n from s];exact hk (λo d=>h1 o (by simpa using ABH d)) i g w' t)
  (l.take n).length 0 a w sc hs
 exact this
theorem ZY (e:c.Ok) {ops:Array Oper} {l:List Oper} {vc:Prop} (h:B2 c.tb ops.toList l σ=some (vc,σ')) (g:vc) (hk:Ev c R (.out .normal) k σ'):EE c R k ops l σ:=by
 intro h1 d a w hs;exact PI e l hs h1 h g (λb w' f=>hk rfl d b w' f)
theorem dD (e:c.P.follows .mixedOrders=true) (a:c.Ok) {id:Nat} {l:List Oper} (n:Nat) (d:Lp l (l.take n).length=true) {vc:Prop}
  (h:Lr c.tb l false σ.objs (l.drop n) (l.take n) 0 [] [] σ=some (vc,σ')) (f:vc) (hk:Ev c R (.out .normal) k σ') :
  Ev c R (.run (.region id l.toArray true)) k σ:=by
 obtain⟨j,m,o,h1,g,b,i⟩:=Ms h f;exact dC e a n d h1 g (ZY a b i hk)
theorem j7 (a:c.Ok) {id:Nat} {l:List Oper} (n:Nat) (d:tA l (l.take n).length=true) {vc:Prop}
  (h:Lr c.tb l true σ.objs (l.drop n) (l.take n) 0 [] [] σ=some (vc,σ')) (e:vc) (hk:Ev c R (.out .normal) k σ') :
  Ev c R (.run (.region id l.toArray false)) k σ:=by
 obtain⟨i,j,m,h1,f,b,g⟩:=Ms h e;exact j6 a n d h1 f (ZY a b g hk)
theorem x5 (d:c.P.follows .mixedOrders=true) (a:c.Ok) {id:Nat} {l:List Oper} (b:Lp l l.length=true) {vc:Prop}
  (h:Lr c.tb l false σ.objs [] l 0 [] [] σ=some (vc,σ')) (e:vc) (hk:Ev c R (.out .normal) k σ') :
  Ev c R (.run (.region id l.toArray true)) k σ :=
 dD d a l.length (by rw[sL];exact b) (by rw[sL,ADa];exact h) e hk
theorem x6 (m:Nat) (d:c.P.follows .mixedOrders=true) (a:c.Ok) {id:Nat} {l:List Oper} (b:Lp l (l.take (l.length-m)).length=true) {vc:Prop}
  (h:Lr c.tb l false σ.objs (l.drop (l.length-m)) (l.take (l.length-m)) 0 [] [] σ=some (vc,σ')) (e:vc) (hk:Ev c R (.out .normal) k σ') :
  Ev c R (.run (.region id l.toArray true)) k σ:=dD d a _ b h e hk
theorem j8 (a:c.Ok) {id:Nat} {l:List Oper} (b:tA l l.length=true) {vc:Prop}
  (h:Lr c.tb l true σ.objs [] l 0 [] [] σ=some (vc,σ')) (d:vc) (hk:Ev c R (.out .normal) k σ') :
  Ev c R (.run (.region id l.toArray false)) k σ :=
 j7 a l.length (by rw[sL];exact b) (by rw[sL,ADa];exact h) d hk
theorem j9 (a:c.Ok) {id:Nat} {l:List Oper} (_:(l.all λo=>o.guard.isNone)=true) {vc:Prop} (h:B2 c.tb l l σ=some (vc,σ')) (b:vc) (hk:Ev c R (.out .normal) k σ') :
  Ev c R (.run (.region id l.toArray false)) k σ:=jT a h b hk
end
end
section
open Go Go.RowKit
theorem ZZ {σ σ':St} (l:List Nat) (h:Cw l σ=b) (d:wM c b σ'):wM c σ σ':=by
 intro a w hs;obtain⟨ρ,hs⟩:=hs;exact d a w ⟨ρ,by rw[<-h];exact KI hs⟩
theorem Lt {α:Type} (a b:List α):(a++b).take (a.length+b.length)=a++b:=BY sc
theorem TN {α:Type} (a b:List α):sub (a++b) 0 (a.length+b.length)=a++b:=by rw[Jb,Lt]
theorem Jd {α:Type} (a:List α) (x:α):(a++[x]).take (a.length+1)=a++[x]:=BY sc
theorem PW {α:Type} (a:List α) (x:α):sub (a++[x]) 0 (a.length+1)=a++[x]:=by rw[Jb,Jd]
theorem A6U {tb:Tb} {w0:World} {O0:Nat->Prop} {nt:Nat} (b:(cx P tb w0 O0 nt).Ok) {fn:Func} {outs:List RV} {σ:St} {e:Exit} (a:List ResultVar) (g:fn.results.toList=a) (c:e=.ret\/e=.normal) (f:∀r∈outs,∃t d,r=.p t d) (h:NR tb σ a outs) :
  Ev (cx P tb w0 O0 nt) (UX P fn w0 O0 outs) (.out e) [] σ:=xV b c f (by rw[g];exact h)
theorem oB:((0:Nat):Int)=0:=rfl
theorem oC (k:Nat):((k+1:Nat):Int)=(k:Int)+1:=by omega
theorem AF {α:Type} (l:List α) (d:α) (h:k<l.length):l.getD k d∈l:=by
 rw[AS,As h];exact AAd h
theorem AH {ty:List (Nat×TI)} {b:List Nat} {ne:List (Nat×TypeId)} {a:List Nat}:Id P ⟨ty,[],b,ne,a⟩:=λf sp h=>by simp[lk]at h
theorem AG {ty:List (Nat×TI)} {c:List Nat} {ne:List (Nat×TypeId)} {b:List Nat} {f:Nat} {sp:Ab} {r:List (Nat×Ab)} (h:Af P f sp) (d:Id P ⟨ty,r,c,ne,b⟩):Id P ⟨ty,(f,sp) :: r,c,ne,b⟩:=λg i a=>by
 simp only[lk]at a;split at a
 .rename_i e;cases a;rw[e];exact h
 exact d g i a
theorem Mt {α:Type} (x:α):[x].take 1=[x]:=rfl
theorem Ay {α:Type} (l:List α) (d:α) (h:k<l.length):l.take (k+1)=l.take k++[l.getD k d]:=by
 rw[List.take_add_one,AS,As h];rfl
theorem TP {α:Type} (l:List α) (q:Nat):sub l q l.length=l.drop q:=by
 unfold sub;rw[BY sc]
end
end Go.Proofs.YtglkoagnnnpimaaGreatDoor.Fw
