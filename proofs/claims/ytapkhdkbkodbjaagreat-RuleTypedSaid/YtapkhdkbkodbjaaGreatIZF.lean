/- Regions whose order Go leaves open: the rules. -/
import Derived.Test.YtapkhdkbkodbjaaGreatIZE
set_option linter.unusedVariables false
set_option linter.unusedSimpArgs false
namespace Go.Proofs.YtapkhdkbkodbjaaGreat.Fw
section
open Go Go.RowKit
def ER (o:Oper):List Nat:=(o.after.toList.filter (Region.binds .any)).map (·.on)
def Al (ops:List Oper) (j:Nat):Option Nat:=(ops[j]?).bind (·.dst)
def Qv:Operand->Option Nat
 | .tmp t=>some t
 | _=>none
def Nk (ops:List Oper) (o:Oper):List Nat:=(o.op.operands.toList.filterMap Qv)++(match o.guard with|some (j,_)=>(Al ops j).toList|none=>[])
def AC4 (a b:List Nat):List Nat:=a.foldl (λr x=>if Ad x r then r else x :: r) b
def A3v (ops:List Oper):List (List Nat):=ops.foldl (λ(a:List (List Nat)) o=>a++[(ER o).foldl (λr e=>AC4 (a.getD e []) (if Ad e r then r else e :: r)) []]) []
def opB (ops:List Oper) (k:Nat) (anc:List (List Nat)) (i:Nat) (o:Oper):Bool :=
  (ER o).all (λe=>decide (e<i)) &&
  (anc.getD i []).all (λj=>Ad j (ER o)||(ER o).any λe=>Ad j (anc.getD e [])) &&
  (if i<k then o.dst.isSome&&((Nk ops o).all λt=>(List.range k).all λj=>Al ops j != some t||Ad j (anc.getD i []))&&((List.range i).all λj=>Al ops j != o.dst)
   else (List.range i).all λj=>Ad j (anc.getD i []))
def oI (ops:List Oper) (k:Nat) (anc:List (List Nat)):Bool :=
 decide (k<=ops.length)&&(List.range ops.length).all λi=>match ops[i]? with|some o=>opB ops k anc i o|none=>false
def Lv (ops:List Oper) (k:Nat):Bool:=oI ops k (A3v ops)
def oJ (ops:List Oper) (k:Nat):Bool :=
 decide (k<=ops.length)&&(List.range k).all λi=>match ops[i]? with|some o=>o.dst.isSome&&((List.range i).all λj=>Al ops j != o.dst)|none=>false
def B9 (q:Bool) (ts:List Nat) (base:List (Nat×Obj)):List (Nat×List (Nat×Obj))->List (Nat×Obj)
 | []=>base
 | (s,obs) :: r=>if (q||Ad s ts)=true then obs++B9 q ts base r else B9 q ts base r
def He (o:Op):List Nat:=o.operands.toList.filterMap Qv
def Mc (q:Bool) (o:Op) (base:List (Nat×Obj)):List (Nat×List (Nat×Obj))->List (Nat×Obj)
 | []=>base
 | e :: r=>B9 q (He o) base (e :: r)
def KI (d:Nat) (obs:List (Nat×Obj)) (E:List (Nat×List (Nat×Obj))):List (Nat×List (Nat×Obj)) :=
 match obs with
 | []=>E
 | x :: r=>(d,x :: r) :: E
abbrev Ch:=List (Nat×Bool)
abbrev Gs:=List (Nat×(Ch×Bool×AV))
def O9:Ch->Ch->Bool
 | [],[]=>true
 | (j,w) :: r,(a,w') :: b=>(j==a)&&(w==w')&&O9 r b
 | [],_ :: _=>false
 | _ :: _,[]=>false
theorem Md:O9 [] []=true:=rfl
theorem Qw (x:Nat×Bool) (r:Ch):O9 [] (x :: r)=false:=rfl
theorem Qx (x:Nat×Bool) (r:Ch):O9 (x :: r) []=false:=rfl
theorem KJ (j a:Nat) (w w':Bool) (r b:Ch):O9 ((j,w) :: r) ((a,w') :: b)=(decide (j=a)&&(w==w')&&O9 r b):=by grind [O9]
def Uy (a:Ch):Ch->Bool
 | []=>O9 a []
 | k :: r=>O9 a (k :: r)||Uy a r
def KK (c:Ch):Gs->List (Nat×AV)->List (Nat×AV)
 | [],env=>env
 | (s,a,_,v) :: G,env=>if Uy a c=true then (s,v) :: KK c G env else KK c G env
def LK (j:Nat) (a:Bool):Option (Ch×Bool×AV)->Option AV->Option (Ch×Bool)
 | some (c,T,.p .bool b),_=>some ((j,a) :: c,T&&(b==a))
 | none,some (.p .bool b)=>some ([(j,a)],b==a)
 | _,_=>none
def JP (G:Gs) (env:List (Nat×AV)) (j:Nat) (a:Bool):Option Nat->Option (Ch×Bool)
 | some s=>LK j a (lk s G) (lk s env)
 | none=>none
def IT (ops:List Oper) (G:Gs) (env:List (Nat×AV)) (i:Nat):Option (Nat×Bool)->Option (Ch×Bool)
 | none=>some ([],true)
 | some (j,a)=>if j<i then JP G env j a (Al ops j) else none
def PI (ops:List Oper) (c:Ch) (s:Nat) (w:Bool):Option (Ch×Bool×AV)->Option AV->Option AV
 | some (a,_,v),_=>if Uy a c=true then some v else match a with
  | []=>none
  | (j,w') :: r=>if w'=w/\Al ops j=some s/\O9 r c=true then some v else none
 | none,x=>x
def Lw (ops:List Oper) (c:Ch) (G:Gs) (env:List (Nat×AV)) (s:Nat) (w:Bool):Operand->Option AV
 | .tmp t=>PI ops c s w (lk t G) (lk t env)
 | .const v=>some (Hr v)
 | .func _=>none
 | .global _=>none
def PJ:Option AV->Option AV->Option AV->Bc
 | some (.p .bool b),some (.p .bool p),some (.p .bool q)=>some (True,.p .bool (bif b then p else q),[])
 | _,_,_=>none
def Oa (ops:List Oper) (c:Ch) (G:Gs) (env:List (Nat×AV)):Operand->Operand->Operand->Bc
 | .tmp s,x,y=>PJ (lk s (KK c G env)) (Lw ops c G env s true x) (Lw ops c G env s false y)
 | .const _,_,_=>none
 | .func _,_,_=>none
 | .global _,_,_=>none
def IU:Op->Option (Operand×Operand×Operand)
 | .pick s x y=>some (s,x,y)
 | _=>none
def opM (tb:Tb) (ops:List Oper) (q:Bool) (base:List (Nat×Obj)) (c:Ch) (G:Gs) (E:List (Nat×List (Nat×Obj))) (env:List (Nat×AV)) (o:Oper):Option (Operand×Operand×Operand)->Bc
 | some (s,x,y)=>Oa ops c G env s x y
 | none=>aq tb ⟨KK c G env,Mc q o.op base E⟩ (o.dst.getD 0) o.op
mutual
def Lx (tb:Tb) (ops:List Oper) (q:Bool) (base:List (Nat×Obj)) (rest:List Oper):List Oper->Nat->List (Nat×List (Nat×Obj))->Gs->St->DI
 | [],_,_,_,σ=>B1 tb ops rest σ
 | o :: r,i,E,G,σ=>evMG tb ops q base rest o r i E G σ (IT ops G σ.env i o.guard)
def evMG (tb:Tb) (ops:List Oper) (q:Bool) (base:List (Nat×Obj)) (rest:List Oper) (o:Oper) (r:List Oper) (i:Nat) (E:List (Nat×List (Nat×Obj))) (G:Gs) (σ:St):Option (Ch×Bool)->DI
 | some (c,T)=>evMQ tb ops q base rest o.dst r i E G σ c T (opM tb ops q base c G E σ.env o (IU o.op))
 | none=>none
def evMQ (tb:Tb) (ops:List Oper) (q:Bool) (base:List (Nat×Obj)) (rest:List Oper) (dst:Option Nat) (r:List Oper) (i:Nat) (E:List (Nat×List (Nat×Obj))) (G:Gs) (σ:St):Ch->Bool->Bc->DI
 | [],_,some (vc,v,obs)=>match dst with
  | some d=>if Bl obs σ=true then ZN vc (Lx tb ops q base rest r (i+1) (KI d obs E) G (σ.add v obs (some d))) else none
  | none=>none
 | g :: c,T,some (vc,v,[])=>match dst with
  | some d=>if (lk d σ.env).isNone=true then ZN (T=true->vc) (Lx tb ops q base rest r (i+1) E ((d,g :: c,T,v) :: G) σ) else none
  | none=>none
 | _,_,_=>none
end
structure En where
 b:Bool
 v:AV
 obs:List (Nat×Obj)
def Av (ops:List Oper) (en:Nat->En) (σ:St):List Nat->St
 | []=>σ
 | i :: r=>(Av ops en σ r).add (en i).v (en i).obs (Al ops i)
def Ai:Nat->List Nat
 | 0=>[]
 | i+1=>i :: Ai i
end
section
open Go Go.RowKit
section
variable {tb:Tb} {ops:List Oper} {k:Nat} {q:Bool} {anc:List (List Nat)} {σ0:St} {en:Nat->En}
def ES (ops:List Oper) (en:Nat->En) (l:List Nat):List (Nat×List (Nat×Obj)):=l.map λj=>((Al ops j).getD 0,(en j).obs)
def LL (ops:List Oper) (σ:St) (b:Bool):Option (Nat×Bool)->Prop
 | none=>b=true
 | some (j,a)=>∃s,Al ops j=some s/\((∃x,lk s σ.env=some (.p .bool x)/\b=(x==a))\/(lk s σ.env=some (.raw undef)/\b=false))
structure Wp (tb:Tb) (ops:List Oper) (q:Bool) (σ0:St) (en:Nat->En) (i:Nat) (o:Oper):Prop where
 g:LL ops (Av ops en σ0 (Ai i)) (en i).b o.guard
 t:(en i).b=true->∃vc:Prop,aq tb ⟨(Av ops en σ0 (Ai i)).env,B9 q (He o.op) σ0.objs (ES ops en (Ai i))⟩ (o.dst.getD 0) o.op=some (vc,(en i).v,(en i).obs)/\vc/\Bl (en i).obs (Av ops en σ0 (Ai i))=true
 f:(en i).b=false->(en i).v=.raw undef/\(en i).obs=[]
theorem LM {a:Nat->En}:∀ {l:List Nat},(∀j∈l,a j=en j)->Av ops a σ0 l=Av ops en σ0 l
 | [],_=>rfl
 | i :: r,h=>by
  simp only[Av];rw[LM (λj b=>h j (by simp[b])),h i (by simp)]
theorem BM {i j:Nat}:j∈Ai i↔j<i:=by
 induction i with
 | zero=>simp[Ai]
 | succ i a=>simp[Ai,a];omega
theorem Fz:∀(l:List Nat),(Av ops en σ0 l).objs=(l.flatMap λj=>(en j).obs)++σ0.objs
 | []=>rfl
 | i :: r=>by
  simp only[Av,AFs,QK];rw[<-Fz r];cases Al ops i<;>rfl
theorem F0 (s:Nat):∀(l:List Nat),lk s (Av ops en σ0 l).env=match l.find? (λj=>Al ops j==some s) with|some j=>some (en j).v|none=>lk s σ0.env
 | []=>rfl
 | i :: r=>by
  simp only[Av,List.find?_cons];cases a:Al ops i with
  | none =>
   simp only[St.add];rw[F0 s r];have:((none:Option Nat)==some s)=false:=rfl;rw[this]
  | some d =>
   simp only[St.add,lk];by_cases hs:s=d
   .subst hs;simp
   have h1:((some d:Option Nat)==some s)=false:=by
    have:d≠s:=λe=>hs e.symm;simpa using this
   rw[An hs,F0 s r,h1]
theorem tG {n:Nat} {o:Obj} {l:List Nat} (h:lk n (l.flatMap λj=>(en j).obs)=some o):∃j∈l,lk n (en j).obs=some o:=by
 induction l with
 | nil=>simp[lk]at h
 | cons i r d =>
  rw[AFs,BC]at h;cases a:lk n (en i).obs with
  | some e =>
   rw[a]at h;exact⟨i,by simp,by rw[a];simpa using h⟩
  | none =>
   rw[a]at h;obtain⟨j,b,c⟩:=d (by simpa using h);exact⟨j,by simp[b],c⟩
theorem LN {n:Nat} {l:List Nat} (h:lk n (l.flatMap λj=>(en j).obs)=none):∀j∈l,lk n (en j).obs=none:=by
 induction l with
 | nil=>simp
 | cons i r c =>
  rw[AFs,BC]at h;cases a:lk n (en i).obs with
  | some d=>rw[a]at h;simp at h
  | none =>
   rw[a]at h;intro j b;rcases DO.1 b with rfl|b
   .exact a
   grind
def Sep (σ0:St) (en:Nat->En) (k:Nat):Prop :=
 (∀j,j<k->∀n o,lk n (en j).obs=some o->lk n σ0.objs=none)/\∀i j,i<k->j<k->∀n o a,lk n (en i).obs=some o->lk n (en j).obs=some a->i=j
theorem E9 (g:Sep σ0 en k) {l:List Nat} (c:∀j∈l,j<k) (n:Nat) (o:Obj):lk n (Av ops en σ0 l).objs=some o↔(∃j∈l,lk n (en j).obs=some o)\/((∀j∈l,lk n (en j).obs=none)/\lk n σ0.objs=some o):=by
 rw[Fz,BC];cases h:lk n (l.flatMap λj=>(en j).obs) with
 | some i =>
  obtain⟨j,b,a⟩:=tG h;simp only[AGc];constructor
  .grind
  rintro (⟨d,e,f⟩|⟨h1,_⟩)
  .have:=g.2 j d (c j b) (c d e) n i o a f;grind
  rw[h1 j b]at a;cases a
 | none =>
  have hn:=LN h;simp only[Option.none_or];constructor
  .grind
  grind
theorem A3x (f:Sep σ0 en k) {ts:List Nat} {l l':List Nat} (m:∀j∈l,j<k) (e:∀j∈l',j<k) (d:∀j∈l,(q||Ad ((Al ops j).getD 0) ts)=true->j∈l') {n:Nat} {o:Obj} :
  lk n (B9 q ts σ0.objs (ES ops en l))=some o->lk n (Av ops en σ0 l').objs=some o:=by
 rw[E9 f e];induction l with
 | nil =>
  simp only[ES,AFN,B9];intro h;refine .inr ⟨λj b=>?_,h⟩;cases a:lk n (en j).obs with
  | none=>rfl
  | some g=>have:=f.1 j (e j b) n g a;rw[this]at h;cases h
 | cons i r c =>
  simp only[ES,QM,B9];have c:=c (λj b=>m j (by simp[b])) (λj b=>d j (by simp[b]));split
  .rename_i p;intro h;rw[BC]at h;cases a:lk n (en i).obs with
   | some g =>
    rw[a]at h;simp only[AGc]at h;cases h;exact .inl ⟨i,d i (by simp) p,a⟩
   | none =>
    rw[a]at h;exact c (by simpa[ES] using h)
  exact c
theorem Qy:∀ {a b:Ch},O9 a b=true↔a=b
 | [],[]=>by simp[O9]
 | (j,w) :: r,(d,w') :: c=>by simp[O9,Qy (a:=r) (b:=c),and_assoc]
 | [],_ :: _=>by simp[O9]
 | _ :: _,[]=>by simp[O9]
def bv:AV->Bool
 | .p .bool b=>b
 | _=>false
def tr (en:Nat->En):Ch->Bool
 | []=>true
 | (j,w) :: r=>tr en r&&(bv (en j).v==w)
theorem Wq {a:Nat->En}:∀ {c:Ch},(∀k∈c,a k.1=en k.1)->tr a c=tr en c
 | [],_=>rfl
 | (j,w) :: r,h=>by
  have h1:=h (j,w) (by simp);simp only at h1;simp only[tr];rw[Wq (λk hk=>h k (by simp[hk])),h1]
theorem oK {b:Ch}:∀ {c:Ch},Uy b c=true->tr en c=true->tr en b=true
 | [],h,a=>by simp only[Uy,Qy]at h;rw[h];exact a
 | k :: r,h,a=>by
  simp only[Uy,QO,Qy]at h;rcases h with rfl|h
  .exact a
  obtain⟨j,w⟩:=k;simp only[tr,AT]at a;exact oK h a.1
structure Inv (ops:List Oper) (q:Bool) (σ0:St) (en:Nat->En) (i:Nat) (E:List (Nat×List (Nat×Obj))) (G:Gs) (σ:St):Prop where
 env:∀s v,lk s σ.env=some v->lk s (Av ops en σ0 (Ai i)).env=some v
 G:∀s c T v,(s,c,T,v)∈G->T=tr en c/\(T=true->lk s (Av ops en σ0 (Ai i)).env=some v)/\(∀k∈c,k.1<i)/\∃j,j<i/\Al ops j=some s/\(en j).b=T
 f:∀j,j<i->(en j).b=false->(en j).v=.raw undef
 objs:σ.objs=(Av ops en σ0 (Ai i)).objs
 E:∀ts,B9 q ts σ0.objs E=B9 q ts σ0.objs (ES ops en (Ai i))
def oL (ops:List Oper) (k:Nat):Prop:=∀a b,a<b->b<k->Al ops a≠Al ops b
theorem Zu (hu:oL ops k) {i j s:Nat} (d:i<=k) (c:j<i) (b:Al ops j=some s):lk s (Av ops en σ0 (Ai i)).env=some (en j).v:=by
 rw[F0];have:(Ai i).find? (λj=>Al ops j==some s)=some j:=by
  cases hf:(Ai i).find? (λj=>Al ops j==some s) with
  | none =>
   have:=AG9.1 hf j (BM.2 c);simp[b]at this
  | some x =>
   have h1:=BM.1 (AFt hf);have a:=AGr hf;have a:Al ops x=some s:=by simpa using a
   rcases AFJ x j with h|h|h
   .exact absurd (a.trans b.symm) (hu x j h (by omega))
   .rw[h]
   exact absurd (b.trans a.symm) (hu j x h (by omega))
 rw[this]
theorem Sj {c:Ch} {s:Nat} {v:AV} {env:List (Nat×AV)}:∀ {G:Gs},lk s (KK c G env)=some v->(∃b T,(s,b,T,v)∈G/\Uy b c=true)\/lk s env=some v
 | [],h=>.inr h
 | (e,b,T,f) :: G,h=>by
  simp only[KK]at h;split at h
  .rename_i hs;simp only[lk]at h;split at h
   .grind
   rcases Sj h with ⟨c2,T2,d,a⟩|a
   .grind
   exact .inr a
  rcases Sj h with ⟨c2,T2,d,a⟩|a
  .grind
  exact .inr a
section
variable {i:Nat} {E:List (Nat×List (Nat×Obj))} {G:Gs} {σ:St}
theorem jC (a:Inv ops q σ0 en i E G σ) {c:Ch} (f:tr en c=true) {s:Nat} {v:AV} (h:lk s (KK c G σ.env)=some v):lk s (Av ops en σ0 (Ai i)).env=some v:=by
 rcases Sj h with ⟨b,T,d,hs⟩|h
 .obtain⟨h1,e,_⟩:=a.G s b T v d;grind [oK]
 exact a.env s v h
theorem A0V (m:Inv ops q σ0 en i E G σ) (hu:oL ops k) (v:i<=k) {g:Option (Nat×Bool)} {c:Ch} {T:Bool} (h:IT ops G σ.env i g=some (c,T)) :
  LL ops (Av ops en σ0 (Ai i)) T g/\T=tr en c/\(∀k∈c,k.1<i):=by
 cases g with
 | none =>
  simp only[IT]at h;cases h;exact⟨rfl,rfl,by simp⟩
 | some g =>
  obtain⟨j,z⟩:=g;simp only[IT]at h;split at h
  .rename_i r;cases d:Al ops j with
   | none=>rw[d]at h;simp[JP]at h
   | some s =>
    rw[d]at h;simp only[JP]at h;have e:=Zu (en:=en) (σ0:=σ0) hu v r d;unfold LK at h;split at h
    .rename_i c0 o b n;cases h;obtain⟨h1,t,x,l,y,p,u⟩:=m.G s c0 o _ (GK n);cases hT:o with
     | true =>
      have a:=t hT;rw[e]at a;injection a with a
      refine⟨⟨s,d,.inl ⟨b,by rw[e,a],by simp⟩⟩,?_,?_⟩
      .grind [tr,bv]
      grind
     | false =>
      have w:l=j:=by
       rcases AFJ l j with h|h|h
       .exact absurd (p.trans d.symm) (hu l j h (by omega))
       .exact h
       exact absurd (d.trans p.symm) (hu j l h (by omega))
      subst w;have a:=m.f l r (by rw[u,hT]);refine⟨⟨s,d,.inr ⟨by rw[e,a],by simp⟩⟩,?_,?_⟩
      .grind [tr]
      grind
    .rename_i b _ n;cases h;have a:=m.env s _ n;rw[e]at a;injection a with a
     refine⟨⟨s,d,.inl ⟨b,by rw[e,a],rfl⟩⟩,by simp[tr,a,bv],?_⟩;grind
    cases h
  cases h
theorem jD (d:Inv ops q σ0 en i E G σ) (hu:oL ops k) (o:i<=k) {c:Ch} (z:tr en c=true) {s:Nat} {w:Bool} (hs:lk s (Av ops en σ0 (Ai i)).env=some (.p .bool w)) {x:Operand} {v:AV}
  (h:Lw ops c G σ.env s w x=some v) {objs:List (Nat×Obj)}:Ap ⟨(Av ops en σ0 (Ai i)).env,objs⟩ x=some v:=by
 cases x with
 | const x=>simp only[Lw]at h;exact h
 | func f=>simp[Lw]at h
 | global g=>simp[Lw]at h
 | tmp t =>
  simp only[Lw]at h;simp only[Ap];cases a:lk t G with
  | none =>
   rw[a]at h;exact d.env t v h
  | some e =>
   obtain⟨b,T,u⟩:=e;rw[a]at h;simp only[PI]at h;obtain⟨h1,y,m,_⟩:=d.G t b T u (GK a);split at h
   .grind [oK]
   cases b with
   | nil=>cases h
   | cons p r =>
    obtain⟨j,w'⟩:=p;simp only at h;split at h
    .rename_i hh;obtain⟨rfl,n,l⟩:=hh;rw[Qy]at l;subst l;cases h;have A:=Zu (en:=en) (σ0:=σ0) hu o (m (j,w') (by simp)) n;grind [tr,bv]
    cases h
theorem AAI (a:Inv ops q σ0 en i E G σ) (hu:oL ops k) (j:i<=k) {c:Ch} (d:tr en c=true) {o:Oper} {vc:Prop} {v:AV} {obs:List (Nat×Obj)} (h:opM tb ops q σ0.objs c G E σ.env o (IU o.op)=some (vc,v,obs)) (z:vc) :
  ∃l:Prop,aq tb ⟨(Av ops en σ0 (Ai i)).env,B9 q (He o.op) σ0.objs (ES ops en (Ai i))⟩ (o.dst.getD 0) o.op=some (l,v,obs)/\l:=by
 cases hp:IU o.op with
 | none =>
  rw[hp]at h;simp only[opM]at h;refine⟨vc,Vm (σ:=⟨KK c G σ.env,Mc q o.op σ0.objs E⟩) ?_ ?_ h,z⟩
  .intro n x hn;have:Mc q o.op σ0.objs E=B9 q (He o.op) σ0.objs E:=by cases E<;>rfl
   simp only at hn ⊢;rw[this,a.E]at hn;exact hn
  intro x _ v e;cases x with
  | tmp t=>exact jC a d e
  | const A=>exact e
  | global g=>exact e
  | func f=>exact e
 | some p =>
  obtain⟨s,x,y⟩:=p;rw[hp]at h;have w:o.op=.pick s x y:=by
   unfold IU at hp;grind
  simp only[opM]at h;rw[w];cases s with
  | const _=>simp[Oa]at h
  | func _=>simp[Oa]at h
  | global _=>simp[Oa]at h
  | tmp s =>
   simp only[Oa]at h;unfold PJ at h;split at h
   .rename_i b p r h1 m u;cases h;have hs:=jC a d h1;refine⟨True,?_,trivial⟩;have h0:Ap ⟨(Av ops en σ0 (Ai i)).env,B9 q (He (Op.pick (.tmp s) x y)) σ0.objs (ES ops en (Ai i))⟩ (.tmp s)=some (.p .bool b):=hs;simp only[aq];rw[h0];cases b with
    | true =>
     simp only[Lq];rw[jD a hu j d hs m];rfl
    | false =>
     simp only[Lq];rw[jD a hu j d hs u];rfl
   cases h
end
theorem Sk {rest:List Oper} (hu:oL ops k):∀ {fr:List Oper} {i:Nat} {E:List (Nat×List (Nat×Obj))} {G:Gs} {σ σ':St} {en:Nat->En} {vc:Prop},Lx tb ops q σ0.objs rest fr i E G σ=some (vc,σ')->vc->Inv ops q σ0 en i E G σ->i+fr.length=k->(∀j,j<fr.length->ops[i+j]?=fr[j]?) ->
  ∃l:Nat->En,(∀j,j<i->l j=en j)/\(∀j o,i<=j->j<k->ops[j]?=some o->Wp tb ops q σ0 l j o) /\
   ∃(D:Prop) (σ2:St),B1 tb ops rest σ2=some (D,σ')/\D/\(∀s v,lk s σ2.env=some v->lk s (Av ops l σ0 (Ai k)).env=some v)/\σ2.objs=(Av ops l σ0 (Ai k)).objs
 | [],i,E,G,σ,σ',en,vc,h,H,n,hk,_=>by
  simp only[Lx]at h;simp at hk;subst hk;exact⟨en,λ_ _=>rfl,λj o h1 P=>by omega,vc,σ,h,H,n.env,n.objs⟩
 | o :: r,i,E,G,σ,σ',en,vc,h,H,n,hk,al=>by
  have aj:ops[i]?=some o:=by simpa using al 0 (by simp)
  have Q:Al ops i=o.dst:=by simp[Al,aj]
  have U:i<k:=by simp at hk;omega
  simp only[Lx]at h;cases S:IT ops G σ.env i o.guard with
  | none=>rw[S]at h;simp[evMG]at h
  | some ap =>
   obtain⟨c,T⟩:=ap;obtain⟨bf,hT,ab⟩:=A0V n hu (AG3 U) S;rw[S]at h;simp only[evMG]at h;cases W:opM tb ops q σ0.objs c G E σ.env o (IU o.op) with
   | none =>
    rw[W]at h;unfold evMQ at h;split at h
    .rename_i R;cases R
    .rename_i R;cases R
    cases h
   | some bm =>
    obtain⟨bn,v,obs⟩:=bm;rw[W]at h;have ao:∀(d:Nat) (e:En) (L:List (Nat×List (Nat×Obj))) (M:Gs) (K:St) (F:Prop),o.dst=some d->e.b=T->(T=true->bn/\e.v=v/\e.obs=obs/\Bl obs σ=true)->(T=false->e.v=.raw undef/\e.obs=[]) ->
      (∀s a,lk s K.env=some a->if s=d then a=e.v else lk s σ.env=some a)->K.objs=e.obs++σ.objs ->
      (∀s w B a,(s,w,B,a)∈M->(s,w,B,a)∈G\/(s=d/\w=c/\B=T/\a=v))->(∀ts,B9 q ts σ0.objs L=B9 q ts σ0.objs ((d,e.obs) :: E)) ->
      Lx tb ops q σ0.objs rest r (i+1) L M K=some (F,σ')->F ->
      ∃l:Nat->En,(∀j,j<i->l j=en j)/\(∀j o,i<=j->j<k->ops[j]?=some o->Wp tb ops q σ0 l j o) /\
       ∃(D:Prop) (σ2:St),B1 tb ops rest σ2=some (D,σ')/\D/\(∀s v,lk s σ2.env=some v->lk s (Av ops l σ0 (Ai k)).env=some v)/\σ2.objs=(Av ops l σ0 (Ai k)).objs:=by
     intro d e L M K F t I af ae bc bg aw au bd bl
     let u:Nat->En:=λj=>if j=i then e else en j
     have O:u i=e:=by simp[u]
     have heq:∀j,j<i->u j=en j:=λj z=>by simp[u,show j≠i by omega]
     have ba:Av ops u σ0 (Ai i)=Av ops en σ0 (Ai i):=LM λj z=>heq j (BM.1 z);have Z:ES ops u (Ai i)=ES ops en (Ai i):=by
      apply QE;grind [BM]
     have bb:Av ops u σ0 (Ai (i+1))=(Av ops en σ0 (Ai i)).add e.v e.obs (some d):=by grind [Ai,Av]
     have ak:∀s a,s≠d->lk s (Av ops en σ0 (Ai i)).env=some a->lk s (Av ops u σ0 (Ai (i+1))).env=some a:=by grind [St.add,lk]
     have ag:lk d (Av ops u σ0 (Ai (i+1))).env=some e.v:=by grind [St.add,lk]
     have ax:Inv ops q σ0 u (i+1) L M K:=by
      refine⟨λs a A=>?_,λs w B a p=>?_,λj z m=>?_,?_,λts=>?_⟩
      .have:=bc s a A;split at this
       .rename_i hs;rw[hs,this];exact ag
       rename_i hs;exact ak s a hs (n.env s a this)
      .rcases aw s w B a p with p|⟨rfl,rfl,rfl,rfl⟩
       .obtain⟨h1,P,N,j,z,ad,m⟩:=n.G s w B a p;have bh:s≠d:=by
         rintro rfl;exact hu j i z U (by rw[ad,Q,t])
        refine⟨by rw[Wq (en:=en) λk hk=>heq _ (N k hk)];exact h1,λhT=>ak s a bh (P hT),λk hk=>by have:=N k hk;omega,j,by omega,ad,by rw[heq j z];exact m⟩
       refine⟨by rw[Wq (en:=en) λk hk=>heq _ (ab k hk)];exact hT,λay=>?_,λk hk=>by have:=ab k hk;omega,i,by omega,by rw[Q,t],by rw[O];exact I⟩;rw[ag,(af ay).2.1]
      .by_cases V:j=i
       .subst V;rw[O]at m ⊢;exact(ae (by rw[<-I];exact m)).1
       rw[heq j (by omega)]at m ⊢;exact n.f j (by omega) m
      .rw[bb,bg,n.objs];rfl
      rw[au];simp only[ES,Ai,QM,O,Q,t,AFR,B9];have:=n.E ts;rw[<-Z]at this;simp only[ES]at this;rw[this]
     obtain⟨l,h1,P,N⟩:=Sk hu bd bl ax (by simp at hk ⊢;omega) (λj z=>by
      have:=al (j+1) (by simp;omega);rw[show i+(j+1)=i+1+j by omega]at this;simpa using this)
     refine⟨l,λj z=>by rw[h1 j (by omega),heq j z],λj bq bo bp ai=>?_,N⟩;by_cases V:j=i
     .subst V;rw[aj]at ai;cases ai;have J:l j=e:=by rw[h1 j (by omega),O]
      have aa:Av ops l σ0 (Ai j)=Av ops en σ0 (Ai j):=by
       rw[<-ba];exact LM λq X=>h1 q (by have:=BM.1 X;omega)
      have av:ES ops l (Ai j)=ES ops en (Ai j):=by
       rw[<-Z];apply QE;intro q X;rw[h1 q (by have:=BM.1 X;omega)]
      refine⟨by rw[aa,J,I];exact bf,λm=>?_,λm=>?_⟩
      .rw[J,I]at m;obtain⟨bi,bj,bk,an⟩:=af m;obtain⟨D,aq,ar⟩:=AAI n hu (AG3 U) (by rw[<-hT];exact m) W bi;rw[J,aa,av,bj,bk];exact⟨D,aq,ar,by
        simp only[Bl]at an ⊢;rw[<-n.objs];exact an⟩
      rw[J,I]at m;rw[J];exact ae m
     grind
    cases c with
    | nil =>
     cases t:o.dst with
     | none=>rw[t]at h;simp[evMQ]at h
     | some d =>
      rw[t]at h;simp only[evMQ]at h;split at h
      .rename_i be;cases C:Lx tb ops q σ0.objs rest r (i+1) (KI d obs E) G (σ.add v obs (some d)) with
       | none=>rw[C]at h;simp[ZN]at h
       | some Y =>
        obtain⟨F,σ2⟩:=Y;rw[C]at h;simp only[ZN]at h;cases h;have az:T=true:=by rw[hT];rfl
        refine ao d ⟨T,v,obs⟩ _ _ _ F t rfl (λ_=>⟨H.1,rfl,rfl,be⟩) (λhf=>by rw[az]at hf;cases hf) (λs a A=>?_) rfl (λs w B a p=>.inl p) (λts=>?_) C H.2
        .simp only[St.add,lk]at A;split at A
         .rename_i hs;cases A;simp[hs]
         rename_i hs;rw[An hs];exact A
        cases obs with
        | nil=>simp[KI,B9]
        | cons x y=>rfl
      cases h
    | cons g w =>
     cases obs with
     | cons x y=>simp[evMQ]at h
     | nil =>
      cases t:o.dst with
      | none=>rw[t]at h;simp[evMQ]at h
      | some d =>
       rw[t]at h;simp only[evMQ]at h;split at h
       .rename_i ah;cases C:Lx tb ops q σ0.objs rest r (i+1) E ((d,g :: w,T,v) :: G) σ with
        | none=>rw[C]at h;simp[ZN]at h
        | some Y =>
         obtain⟨F,σ2⟩:=Y;rw[C]at h;simp only[ZN]at h;cases h;refine ao d ⟨T,bif T then v else .raw undef,[]⟩ _ _ _ F t rfl (λam=>⟨H.1 am,by simp[am],rfl,by simp[Bl]⟩) (λhf=>⟨by simp[hf],rfl⟩) (λs a A=>?_) rfl (λs c2 B a p=>?_) (λts=>?_) C H.2
         .have:s≠d:=by
           rintro rfl;rw[A]at ah;cases ah
          rw[An this];exact A
         .rcases DO.1 p with p|p
          .cases p;exact .inr ⟨rfl,rfl,rfl,rfl⟩
          exact .inl p
         simp[B9]
       cases h
end
section
variable {c:Cx} {ops:Array Oper} {k:Nat} {anc:List (List Nat)} {σ0 σ':St} {en:Nat->En} {Q:Exit->Act->World->Prop}
theorem A3y {o:Oper} {e:Edge} (b:e∈o.after) (a:Region.binds .any e=true):e.on∈ER o:=by grind [ER]
theorem Du {listed:Array Bool} {i:Nat}:i∈Region.ready .any ops listed↔listed.getD i true=false/\∃o,ops[i]?=some o/\∀e∈ER o,listed.getD e false=true:=by
 rw[mem_ready];grind [ER,A3y]
structure Zv (ops:Array Oper) (k:Nat) (anc:List (List Nat)):Prop where
 lt:∀i o,ops[i]?=some o->∀e∈ER o,e<i
 cl:∀i o,ops[i]?=some o->∀j∈anc.getD i [],j∈ER o\/∃e∈ER o,j∈anc.getD e []
 front:∀i o,ops[i]?=some o->i<k->(∃d,o.dst=some d)/\(∀t∈Nk ops.toList o,∀j,j<k->Al ops.toList j=some t->j∈anc.getD i [])/\∀j,j<i->Al ops.toList j≠o.dst
 back:∀i o,ops[i]?=some o->k<=i->∀j,j<i->j∈anc.getD i []
 k:k<=ops.size
theorem AC5 (h:oI ops.toList k anc=true):Zv ops k anc:=by
 simp only[oI,AT,If,QJ,By]at h;obtain⟨hk,h⟩:=h;have hi:∀i o,ops[i]?=some o->opB ops.toList k anc i o=true:=by grind
 refine⟨λi o a e l=>?_,λi o a j b=>?_,λi o a c=>?_,λi o a c j b=>?_,by simpa using hk⟩
 .grind [opB]
 .grind [opB,Ao]
 .have:=hi i o a;simp only[opB,c,ZD,AT,If,QJ,QO,Ao,AFB]at this;obtain⟨_,⟨h1,f⟩,d⟩:=this;refine⟨ABE.1 h1,λt m j b g=>?_,d⟩;grind
 have:=hi i o a;simp only[opB,show ¬i<k by omega,AAG,AT,If,QJ,Ao]at this;exact this.2 j b
theorem Wr (a:Zv ops k anc) {listed:Array Bool} (g:∀i o,ops[i]?=some o->listed.getD i true=true->∀e∈ER o,listed.getD e false=true) :
  ∀i o,ops[i]?=some o->(∀e∈ER o,listed.getD e false=true)->∀j∈anc.getD i [],listed.getD j false=true:=by
 intro i;induction i using Nat.strongRecOn with
 | _ i m =>
  intro o b c j f;rcases a.cl i o b j f with h1|⟨e,d,h⟩
  .exact c j h1
  have l:=a.lt i o b e d;grind
theorem Zw {l:List Oper} {p:Nat} {o:Oper} {r:List Oper} (h:l.drop p=o :: r):l[p]?=some o/\r=l.drop (p+1):=by
 constructor
 .have:(l.drop p)[0]?=some o:=by rw[h];rfl
  grind
 rw[<-AFw,h];rfl
theorem Qz {F:Fence} {P:Program} (f:Zv ops k anc):∀ {rest:List Oper} {p:Nat} {listed:Array Bool} {a:Act} {w:World},ops.toList.drop p=rest->k<=p->p<=ops.size->listed.size=ops.size ->
  (∀i,i<ops.size->(listed.getD i true=true↔i<p))->wpListIn F 0 P ops Q rest a w->wpAnyIn F 0 P .any ops Q rest.length listed a w
 | [],p,listed,a,w,m,J,L,q,d,c=>by
  have hp:p=ops.size:=by
   have:=bY List.length m;simp at this;omega
  refine⟨?_,c⟩;apply AFP.2;grind [Du]
 | o :: r,p,listed,a,w,m,J,L,q,d,c=>by
  obtain⟨g,C⟩:=Zw m;have g:ops[p]?=some o:=by simpa using g
  have t:p<ops.size:=(SG.1 g).1;have x:∀e b,e<ops.size->listed.getD e b=listed.getD e true:=λe b h=>by grind
  have G:∀i o,ops[i]?=some o->listed.getD i true=true->∀e∈ER o,listed.getD e false=true:=by
   intro i o B h1 e h;have u:i<ops.size:=(SG.1 B).1;have y:=(d i u).1 h1;have l:=f.lt i o B e h;grind
  have M:∀i,i∈Region.ready .any ops listed->i=p:=by
   intro i hi;rw[Du]at hi;obtain⟨h1,D,s,y⟩:=hi;have u:i<ops.size:=(SG.1 s).1;have O:¬i<p:=λK=>by rw[(d i u).2 K]at h1;cases h1
   by_cases n:i=p
   .exact n
   have l:=Wr f G i D s y p (f.back i D s (by omega) p (by omega));rw[x p false t]at l;have:=(d p t).1 l;omega
  refine⟨λR=>?_,λi hi=>?_⟩
  .exfalso;have:p∈Region.ready .any ops listed:=by
    rw[Du];refine⟨?_,o,g,λe h=>?_⟩
    .cases hh:listed.getD p true with
     | false=>rfl
     | true=>have:=(d p t).1 hh;omega
    have:=f.lt p o g e h;rw[x e false (by omega)];exact(d e (by omega)).2 this
   grind
  have n:=M i hi;subst n;have A:∀(j:Nat),j<ops.size->((listed.setIfInBounds i true).getD j true=true↔j<i+1):=by
   intro j H;have I:j<listed.size:=by omega
   by_cases z:j=i
   .subst z;simp[Array.getD,I]
   have h1:(listed.setIfInBounds i true).getD j true=listed.getD j true:=getD_set_ne true (λe=>z e.symm);rw[h1,d j H];omega
  unfold wpOpIn;rw[g];simp only;unfold wpListIn at c;split
  .rename_i v;rw[BY v]at c;exact Oper.wpIn_mono (λN w' E=>Qz f C.symm (by omega) (by omega) (by simpa using q) A E) c
  rename_i v;rw[An v]at c;exact⟨c.1,Qz f C.symm (by omega) (by omega) (by simpa using q) A c.2⟩
end
end
section
open Go Go.RowKit
theorem EX:∀(k:Nat) (l:List Nat),l.Nodup->(∀j∈l,j<k)->l.length<=k
 | 0,l,_,h=>by
  cases l with
  | nil=>simp
  | cons x r=>have:=h x (by simp);omega
 | k+1,l,hn,h=>by
  by_cases hk:k∈l
  .have:=EX k (l.erase k) (hn.erase k) (λj a=>by
    have h1:=(hn.mem_erase_iff).1 a;have:=h j h1.2;have:=h1.1;omega)
   grind
  have:=EX k l hn (λj a=>by
   have:=h j a;have:j≠k:=λe=>hk (e▸a);omega)
  omega
theorem tH:∀(k:Nat) (l:List Nat),(∀j,j<k->j∈l)->k<=l.length
 | 0,l,_=>by simp
 | k+1,l,h=>by
  have hk:=h k (by omega);have:=tH k (l.erase k) (λj a=>(AFV (by omega)).2 (h j (by omega)));grind
theorem Ws {c:Cx} {σ σ':St} {a:Act} {w:World} (j:∀s,lk s σ'.env=lk s σ.env) (f:∀n,lk n σ'.objs=lk n σ.objs) (h:c.sat σ a w):c.sat σ' a w:=by
 obtain⟨ρ,h⟩:=h;have d:Hb σ'=Hb σ:=by
  funext n;simp only[Hb,f]
 have g:∀w,vw w c.O0 σ' ρ=vw w c.O0 σ ρ:=by
  intro w;have l:own c.O0 σ' ρ=own c.O0 σ ρ:=by
   funext b;simp only[own,d]
  simp only[vw,d,l]
 refine⟨ρ,h.frm,h.nt,h.defers,λp hp=>by rw[d];exact h.pin p hp,?_,?_,?_,?_⟩
 .intro n o hn;rw[g];exact h.objs n o (by rw[<-f];exact hn)
 .intro n b k i;exact h.free n b (by rw[<-d];exact k) i
 .intro n m b h1 e;rw[d]at h1 e;exact h.dist n m b h1 e
 intro s v hs;rw[g];exact h.env s v (by rw[<-j];exact hs)
theorem jE {c:Cx} {σ:St} {a:Act} {w:World} (h:c.sat σ a w):c.sat σ a { w with drawn:=w.drawn+1 }:=by
 obtain⟨ρ,h⟩:=h;have hk:Cw (vw w c.O0 σ ρ) (vw { w with drawn:=w.drawn+1 } c.O0 σ ρ):=⟨λ_ _ h=>h,λ_ h=>h,λ_ _=>rfl,λ_ _ _=>rfl⟩;exact⟨ρ,⟨h.frm.os,h.frm.tape,h.frm.output,h.frm.size,h.frm.block⟩,h.nt,h.defers,h.pin,λn o b=>(h.objs n o b).keeps hk λ_ _=>rfl,h.free,h.dist,λs v hs=>(h.env s v hs).keeps hk⟩
theorem Vn {c:Cx} {σ σ':St} {a:Act} {w:World} (d:∀s v,lk s σ'.env=some v->lk s σ.env=some v) (e:∀n,lk n σ'.objs=lk n σ.objs) (h:c.sat σ a w):c.sat σ' a w:=by
 have b:c.sat ⟨σ.env,σ'.objs⟩ a w:=Ws (σ:=σ) (λ_=>rfl) e h;obtain⟨ρ,h⟩:=b;exact⟨ρ,h.frm,h.nt,h.defers,h.pin,h.objs,h.free,h.dist,λs v hs=>h.env s v (d s v hs)⟩
theorem Me {c:Cx} {ops:Array Oper} {σ:St} {a:Act} {w:World} (hs:c.sat σ a w) {o:Oper} {b:Bool} (h:LL ops.toList σ b o.guard):Region.wanted o (yielded ops a.tmps)=b:=by
 cases d:o.guard with
 | none =>
  rw[d]at h;simp only[LL]at h;simp[Region.wanted,d,h]
 | some g =>
  obtain⟨j,n⟩:=g;rw[d]at h;simp only[LL]at h;obtain⟨s,k,h⟩:=h;rcases h with ⟨x,e,rfl⟩|⟨e,rfl⟩
  .refine Hu hs ?_;grind [E7,Al,LC,SY]
  obtain⟨ρ,hs⟩:=hs;have i:a.tmps.getD s undef=undef:=hs.env s _ e;have l:(ops[j]?).bind (·.dst)=some s:=by simpa[Al] using k
  have m:yielded ops a.tmps j=none:=by
   simp only[yielded,l,Option.bind_some];by_cases f:s<a.tmps.size
   .have:a.tmps.getD s undef=a.tmps[s]:=by simp[Array.getD,f]
    rw[this]at i;rw[VQ f,i];rfl
   grind
  simp[Region.wanted,d,m]
section
variable {c:Cx} {ops:Array Oper} {k:Nat} {q:Bool} {anc:List (List Nat)} {σ0 σ':St} {en:Nat->En} {Q:Exit->Act->World->Prop}
theorem AAJ (hF:∀j o,j<k->ops[j]?=some o->Wp c.tb ops.toList q σ0 en j o) (hk:k<=ops.size):Sep σ0 en k:=by
 have one:∀j,j<k->∀n o,lk n (en j).obs=some o->lk n (Av ops.toList en σ0 (Ai j)).objs=none:=by
  intro j a n o hn;have m:ops[j]?=some (ops[j]'(by omega)):=VQ (by omega);have h1:=hF j _ a m;cases g:(en j).b with
  | true =>
   obtain⟨_,_,_,hf⟩:=h1.t g;exact Oy hf hn
  | false =>
   rw[(h1.f g).2]at hn;simp[lk]at hn
 have low:∀i j,i<j->j<k->∀n o d,lk n (en i).obs=some o->lk n (en j).obs=some d->False:=by
  intro i j l a n o d h1 e;have:=one j a n d e;rw[Fz,BC]at this;cases h:lk n ((Ai j).flatMap λj=>(en j).obs) with
  | some x=>rw[h]at this;simp at this
  | none =>
   have:=LN h i (BM.2 l);rw[this]at h1;cases h1
 refine⟨λj a n o hn=>?_,λi j hi a n o d h1 e=>?_⟩
 .grind [Fz,BC,lk,Ai]
 grind
theorem A3z (b:Zv ops k anc) {l:List Nat} (e:∀j∈l,j<k) {s j:Nat} (d:j∈l) (f:Al ops.toList j=some s):l.find? (λj=>Al ops.toList j==some s)=some j:=by
 have hu:∀i,i∈l->Al ops.toList i=some s->i=j:=by
  intro i hi g;have h1:=e i hi;have a:=e j d;have m:=b.k;have get:∀x,x<k->Al ops.toList x=(ops[x]?).bind (·.dst):=λx _=>by simp[Al]
  rcases AFJ i j with h|h|h
  .have c:ops[j]?=some (ops[j]'(by omega)):=VQ (by omega);have:=(b.front j _ c a).2.2 i h;grind
  .exact h
  have c:ops[i]?=some (ops[i]'(by omega)):=VQ (by omega);have:=(b.front i _ c h1).2.2 j h;grind
 cases hf:l.find? (λj=>Al ops.toList j==some s) with
 | none =>
  have:=AG9.1 hf j d;simp[f]at this
 | some i =>
  have h1:=AFt hf;have a:=AGr hf;rw[hu i h1 (by simpa using a)]
theorem Wu (a:Zv ops k anc) {l l':List Nat} (b:∀j∈l,j<k) (c:∀j∈l',j<k) {s:Nat} (h:∀j,j<k->Al ops.toList j=some s->j∈l/\j∈l') :
  lk s (Av ops.toList en σ0 l).env=lk s (Av ops.toList en σ0 l').env:=by
 rw[F0,F0];by_cases d:∃j,j<k/\Al ops.toList j=some s
 .grind [A3z]
 grind
theorem A0W (Z:c.Ok) (A:Zv ops k anc) (bj:∀o∈ops.toList,KF c.nt o=true) (hF:∀j o,j<k->ops[j]?=some o->Wp c.tb ops.toList false σ0 en j o)
  {σ2:St} (an:∀s v,lk s σ2.env=some v->lk s (Av ops.toList en σ0 (Ai k)).env=some v) (ao:σ2.objs=(Av ops.toList en σ0 (Ai k)).objs) (hT:∀I w',c.sat σ2 I w'->wpListIn (FR c.r) 0 c.P ops Q (ops.toList.drop k) I w') :
  ∀(m:Nat) (ex:List Nat) (listed:Array Bool) (a:Act) (w:World),ex.Nodup->(∀j∈ex,j<k)->m+ex.length=ops.size->listed.size=ops.size->(∀i,i<ops.size->(listed.getD i true=true↔i∈ex)) ->
   (∀i o,ops[i]?=some o->i∈ex->∀e∈ER o,e∈ex)->c.sat (Av ops.toList en σ0 ex) a w->wpAnyIn (FR c.r) 0 c.P .any ops Q m listed a w:=by
 have al:=A.k;have H:=AAJ hF al;intro m;induction m with
 | zero =>
  intro ex listed a w N z bo Y J ap hs;have h1:=EX k ex N z;have bn:k=ops.size:=by omega
  by_cases D:∀j,j<k->j∈ex
  .have ar:ops.toList.drop k=[]:=by simp[bn]
   have S:c.sat σ2 a w:=Vn an (λ_=>by rw[ao]) <| Ws
    (λs=>(Wu A z (λj y=>BM.1 y) λj y _=>⟨D j y,BM.2 y⟩).symm)
    (λn=>AGe λo=>by
     rw[E9 H (λj y=>BM.1 y),E9 H z];simp only[BM];constructor
     .grind
     rintro (⟨j,y,h⟩|⟨h1,U⟩)
     .grind
     exact .inr ⟨λj y=>h1 j (D j y),U⟩) hs
   have:=Qz (Q:=Q) (F:=FR c.r) (P:=c.P) A (rest:=[]) (p:=k) (listed:=listed) (a:=a) (w:=w) ar (Is _) al Y (λi hi=>by
    rw[J i hi];exact⟨z i,D i⟩) (by rw[<-ar];exact hT a w S)
   exact this
  exfalso;apply D;intro j y;apply GO;intro az;have:=EX k (j :: ex) (TO.2 ⟨az,N⟩) (λi hi=>by
   rcases DO.1 hi with rfl|hi
   .exact y
   exact z i hi)
  simp at this;omega
 | succ m cb =>
  intro ex listed a w N z bo Y J ap hs;have bf:∀e b,e<ops.size->listed.getD e b=listed.getD e true:=λe b C=>by grind
  by_cases D:∀j,j<k->j∈ex
  .have ck:ex.length=k:=AF7 (EX k ex N z) (tH k ex D);have S:c.sat σ2 a w:=Vn an (λ_=>by rw[ao]) <| Ws
    (λs=>(Wu A z (λj y=>BM.1 y) λj y _=>⟨D j y,BM.2 y⟩).symm)
    (λn=>AGe λo=>by
     rw[E9 H (λj y=>BM.1 y),E9 H z];simp only[BM];constructor
     .grind
     rintro (⟨j,y,h⟩|⟨h1,U⟩)
     .grind
     exact .inr ⟨λj y=>h1 j (D j y),U⟩) hs
   have:=Qz (Q:=Q) (F:=FR c.r) (P:=c.P) A (rest:=ops.toList.drop k) (p:=k) (listed:=listed) (a:=a) (w:=w) rfl (Is _) al Y (λi hi=>by
    rw[J i hi];exact⟨z i,D i⟩) (hT a w S)
   grind
  refine⟨λbq=>?_,λi hi=>?_⟩
  .exfalso;apply D;intro j;induction j using Nat.strongRecOn with
   | _ j cd =>
    intro y;apply GO;intro az;have R:ops[j]?=some (ops[j]'(by omega)):=VQ (by omega);have:j∈Region.ready .any ops listed:=by
     rw[Du];refine⟨?_,_,R,λe C=>?_⟩
     .grind
     have ab:=A.lt j _ R e C;rw[bf e false (by omega)];exact(J e (by omega)).2 (cd e ab (by omega))
    rw[bq]at this;cases this
  rw[Du]at hi;obtain⟨h1,o,B,U⟩:=hi;have bd:i<ops.size:=(SG.1 B).1;have ba:i∉ex:=λh=>by rw[(J i bd).2 h]at h1;cases h1
  have bi:∀e∈ER o,e∈ex:=λe C=>by grind
  have ae:∀j∈anc.getD i [],j∈ex:=by grind [ER,Wr]
  have M:i<k:=by
   apply GO;intro cj;exact D λj y=>ae j (A.back i o B (by omega) j (by omega))
  have ah:=A.front i o B M;obtain⟨d,ci⟩:=ah.1;have bh:Al ops.toList i=o.dst:=by simp[Al,B]
  have bb:∀t∈Nk ops.toList o,lk t (Av ops.toList en σ0 ex).env=lk t (Av ops.toList en σ0 (Ai i)).env:=by
   intro t bx;refine Wu A z (λj y=>by have:=BM.1 y;omega) λj y af=>?_;have ax:=ah.2.1 t bx j y af;refine⟨ae j ax,BM.2 ?_⟩;have:∀i o,ops[i]?=some o->∀j∈anc.getD i [],j<i:=by
    intro i;induction i using Nat.strongRecOn with
    | _ i cc =>
     intro o B j y;rcases A.cl i o B j y with ad|⟨e,C,bl⟩
     .exact A.lt i o B j ad
     have bg:=A.lt i o B e C;have bd:i<ops.size:=(SG.1 B).1;have:=cc e bg _ (VQ (by omega)) j bl;omega
   exact this i o B j ax
  have bs:Ops ⟨(Av ops.toList en σ0 (Ai i)).env,B9 false (He o.op) σ0.objs (ES ops.toList en (Ai i))⟩ (Av ops.toList en σ0 ex) o.op.operands.toList:=by
   intro x ca v T;cases x with
   | tmp t =>
    simp only[Ap]at T ⊢;rw[bb t (by
     simp only[Nk,OF,AG8];exact .inl ⟨_,ca,rfl⟩)]
    exact T
   | const cm=>exact T
   | global g=>exact T
   | func f=>exact T
  have br:iD ⟨(Av ops.toList en σ0 (Ai i)).env,B9 false (He o.op) σ0.objs (ES ops.toList en (Ai i))⟩ (Av ops.toList en σ0 ex):=by
   intro n G hn;refine A3x H (λj y=>by have:=BM.1 y;omega) z (λj y ak=>?_) hn;have X:=BM.1 y;have R:ops[j]?=some (ops[j]'(by omega)):=VQ (by omega);obtain⟨am,af⟩:=(A.front j _ R (by omega)).1;have aq:Al ops.toList j=some am:=by simp[Al,R,af]
   rw[aq]at ak;simp only[AGk,AFR,Ao]at ak;refine ae j (ah.2.1 am ?_ j (by omega) aq);simp only[Nk,OF];exact .inl ak
  have ag:=hF i o M B;have E:LL ops.toList (Av ops.toList en σ0 ex) (en i).b o.guard:=by
   have E:=ag.g;cases ai:o.guard with
   | none=>rw[ai]at E;exact E
   | some g =>
    obtain⟨j,co⟩:=g;rw[ai]at E;simp only[LL]at E ⊢;obtain⟨s,av,E⟩:=E;refine⟨s,av,?_⟩;rw[bb s (by
     simp only[Nk,ai,OF,av];exact .inr (by simp))]
    exact E
  have aa:=Me hs E;have bp:o∈ops.toList:=by grind
  have au:=CP (bj o bp);have bc:∀I w',c.sat ((Av ops.toList en σ0 ex).add (en i).v (en i).obs o.dst) I w'->wpAnyIn (FR c.r) 0 c.P .any ops Q m (listed.setIfInBounds i true) I w':=by
   intro I w' S;refine cb (i :: ex) _ I w' (TO.2 ⟨ba,N⟩) (λj y=>?_) (by simp;omega) (by simpa using Y) (λj y=>?_) (λi' G L aj e C=>?_) (by simp only[Av,bh];exact S)
   .rcases DO.1 y with rfl|y
    .exact M
    exact z j y
   .have bm:j<listed.size:=by omega
    by_cases X:j=i
    .subst X;simp[Array.getD,bm]
    have ab:(listed.setIfInBounds i true).getD j true=listed.getD j true:=getD_set_ne true (λe=>X e.symm);rw[ab,J j y];simp[X]
   rcases DO.1 aj with rfl|aj
   .rw[B]at L;cases L;exact NO _ (bi e C)
   exact NO _ (ap i' G L aj e C)
  unfold wpOpIn;rw[B];simp only;cases V:(en i).b with
  | true =>
   rw[V]at aa;rw[BY aa];obtain⟨cn,bt,bz,bk⟩:=ag.t V;obtain⟨ρ,be⟩:=hs;have bu:=Vm br bs bt;have aw:Bl (en i).obs (Av ops.toList en σ0 ex)=true:=by
    simp only[Bl,If]at bk ⊢;intro p hp;have bw:∃G,lk p.1 (en i).obs=some G:=by
     have:∀(l:List (Nat×Obj)),p∈l->∃G,lk p.1 l=some G:=by
      intro l;induction l with
      | nil=>intro h;cases h
      | cons q r ce =>
       intro h;obtain⟨cg,ch⟩:=q;simp only[lk];by_cases C:p.1=cg
       .exact⟨ch,by rw[BY C]⟩
       rw[An C];rcases DO.1 h with rfl|h
       .exact absurd rfl C
       exact ce h
     exact this _ hp
    obtain⟨G,L⟩:=bw;have:lk p.1 (Av ops.toList en σ0 ex).objs=none:=by
     cases ay:lk p.1 (Av ops.toList en σ0 ex).objs with
     | none=>rfl
     | some cf =>
      rw[E9 H z]at ay;rcases ay with ⟨j,y,W⟩|⟨_,W⟩
      .have:=H.2 i j M (z j y) p.1 G cf L W;subst this;exact absurd y ba
      rw[H.1 i M p.1 G L]at W;cases W
    simp[this]
   exact s7 (A75 Z be) bu bz aw λu ρ' w' bv=>bc _ _ ⟨ρ',be.add Z.K Z.O au aw bv⟩
  | false =>
   rw[V]at aa;rw[An (by simp[aa])];refine⟨λ_ _=>trivial,?_⟩;have:=ag.f V;have ad:=Na Z hs au;refine bc _ _ ?_;rw[this.1,this.2];exact ad
end
theorem A0X {c:Cx} {ops:Array Oper} {k:Nat} {σ0:St} {en:Nat->En} {Q:Exit->Act->World->Prop} (h:c.Ok) (I:∀o∈ops.toList,KF c.nt o=true) (hF:∀j o,j<k->ops[j]?=some o->Wp c.tb ops.toList true σ0 en j o) (hk:k<=ops.size)
  {σ2:St} (E:∀s v,lk s σ2.env=some v->lk s (Av ops.toList en σ0 (Ai k)).env=some v) (F:σ2.objs=(Av ops.toList en σ0 (Ai k)).objs) (hT:∀d w',c.sat σ2 d w'->wpListIn (FR c.r) 0 c.P ops Q (ops.toList.drop k) d w'):∀(m i:Nat) (a:Act) (w:World),m+i=k->c.sat (Av ops.toList en σ0 (Ai i)) a w->wpListIn (FR c.r) 0 c.P ops Q (ops.toList.drop i) a w:=by
 intro m;induction m with
 | zero =>
  intro i a w hi hs;have:i=k:=by omega
  subst this;exact hT _ _ (Vn E (λ_=>by rw[F]) hs)
 | succ m U =>
  intro i a w hi hs;have q:ops[i]?=some (ops[i]'(by omega)):=VQ (by omega);generalize ops[i]'(by omega)=o at q;have H:ops.toList.drop i=o :: ops.toList.drop (i+1):=by
   have:i<ops.toList.length:=by simp;omega
   rw[OR this];grind
  rw[H];have p:=hF i o (by omega) q;have n:=Me hs p.g;have J:o∈ops.toList:=by grind
  have y:=CP (I o J);have T:Al ops.toList i=o.dst:=by simp[Al,q]
  have B:∀d w',c.sat ((Av ops.toList en σ0 (Ai i)).add (en i).v (en i).obs o.dst) d w'->wpListIn (FR c.r) 0 c.P ops Q (ops.toList.drop (i+1)) d w':=by grind [Ai,Av]
  unfold wpListIn;cases e:(en i).b with
  | true =>
   rw[e]at n;rw[BY n];obtain⟨S,A,R,z⟩:=p.t e;obtain⟨ρ,C⟩:=hs;have L:∀l:List Nat,B9 true (He o.op) σ0.objs (ES ops.toList en l)=(Av ops.toList en σ0 l).objs:=by
    intro l;rw[Fz];induction l with
    | nil=>rfl
    | cons x r D=>simp only[ES,QM,B9,Bool.true_or,ZD,AFs,QK]at D ⊢;rw[D]
   have M:aq c.tb (Av ops.toList en σ0 (Ai i)) (o.dst.getD 0) o.op=some (S,(en i).v,(en i).obs):=by
    rw[L]at A;exact A
   exact s7 (A75 h C) M R z λu ρ' w' N=>B _ _ ⟨ρ',C.add h.K h.O y z N⟩
  | false =>
   rw[e]at n;rw[An (by simp[n])];refine⟨λ_ _=>trivial,?_⟩;have:=p.f e;have G:=Na h hs y;refine B _ _ ?_;rw[this.1,this.2];exact G
theorem Nl {tb:Tb} {ops:List Oper} {q:Bool} {base:List (Nat×Obj)} {rest:List Oper}:∀ {fr:List Oper} {i:Nat} {E:List (Nat×List (Nat×Obj))} {G:Gs} {σ σ':St} {vc:Prop},Lx tb ops q base rest fr i E G σ=some (vc,σ')->vc ->
  ∃(e f:Prop) (j:St),Lx tb ops q base [] fr i E G σ=some (e,j)/\e/\B1 tb ops rest j=some (f,σ')/\f
 | [],i,E,G,σ,σ',vc,h,k=>by grind [Lx,B1]
 | o :: r,i,E,G,σ,σ',vc,h,k=>by
  simp only[Lx]at h;cases l:IT ops G σ.env i o.guard with
  | none=>rw[l]at h;simp[evMG]at h
  | some p =>
   obtain⟨c,T⟩:=p;rw[l]at h;simp only[evMG]at h;cases m:opM tb ops q base c G E σ.env o (IU o.op) with
   | none=>rw[m]at h;cases c<;>simp[evMQ]at h
   | some x =>
    obtain⟨u,v,obs⟩:=x;rw[m]at h;cases c with
    | nil =>
     cases a:o.dst with
     | none=>rw[a]at h;simp[evMQ]at h
     | some d =>
      rw[a]at h;simp only[evMQ]at h;split at h
      .rename_i hf;cases b:Lx tb ops q base rest r (i+1) (KI d obs E) G (σ.add v obs (some d)) with
       | none=>rw[b]at h;simp[ZN]at h
       | some y =>
        obtain⟨w,σ2⟩:=y;rw[b]at h;simp only[ZN]at h;cases h;obtain⟨e,f,j,h1,n,s,t⟩:=Nl b k.2;exact⟨u/\e,f,j,by simp only[Lx,l,evMG,m,a,evMQ,h1,ZN];rw[BY hf],⟨k.1,n⟩,s,t⟩
      cases h
    | cons g c =>
     cases obs with
     | cons z A=>cases a:o.dst<;>rw[a]at h<;>simp[evMQ]at h
     | nil =>
      cases a:o.dst with
      | none=>rw[a]at h;simp[evMQ]at h
      | some d =>
       rw[a]at h;simp only[evMQ]at h;split at h
       .rename_i hf;cases b:Lx tb ops q base rest r (i+1) E ((d,g :: c,T,v) :: G) σ with
        | none=>rw[b]at h;simp[ZN]at h
        | some y =>
         obtain⟨w,σ2⟩:=y;rw[b]at h;simp only[ZN]at h;cases h;obtain⟨e,f,j,h1,n,s,t⟩:=Nl b k.2;exact⟨(T=true->u)/\e,f,j,by simp only[Lx,l,evMG,m,a,evMQ,h1,ZN];rw[BY hf],⟨k.1,n⟩,s,t⟩
       cases h
theorem AC6 {ops:List Oper} {q:Bool} {σ0:St} {en:Nat->En}:Inv ops q σ0 en 0 [] [] σ0 :=
 { env:=λ_ _ h=>h,G:=λs c T v h=>absurd h (by simp),f:=λj a=>absurd a (by omega),objs:=rfl,E:=λ_=>rfl }
section
variable {c:Cx} {R:Exit->Act->World->Prop} {k:List DT} {σ σ':St}
def KL (c:Cx) (R:Exit->Act->World->Prop) (k:List DT) (ops:Array Oper) (l:List Oper) (σ:St):Prop :=
 (∀o∈l,KF c.nt o=true)->DG c.nt k=true->∀a w,c.sat σ a w->wpListIn (FR c.r) 0 c.P ops (Vj c R k) l a w
theorem A79 {ops:Array Oper} (h:Ev c R (.out .normal) k σ):KL c R k ops [] σ:=λ_ b a w hs=>h rfl b a w hs
theorem Q0 (f:c.Ok) {ops:Array Oper} {l:List Oper} (n:Nat) {vc:Prop} (h:B1 c.tb ops.toList (l.take n) σ=some (vc,σ')) (i:vc) (hk:KL c R k ops (l.drop n) σ'):KL c R k ops l σ:=by
 intro h1 e a w hs;have:=Sf (r:=l.drop n) f (l.take n) hs (λo b=>h1 o (VM b)) h i (λd w' g=>hk (λo b=>h1 o (ABK b)) e d w' g)
 rwa [ABj]at this
theorem jF (z:c.P.follows .mixedOrders=true) (u:c.Ok) {id:Nat} {l:List Oper} (n:Nat) (d:Lv l (l.take n).length=true) {vc:Prop}
  (h:Lx c.tb l false σ.objs [] (l.take n) 0 [] [] σ=some (vc,σ')) (C:vc) (hk:KL c R k l.toArray (l.drop n) σ') :
  Ev c R (.run (.region id l.toArray true)) k σ:=by
 intro h1 r a w hs;simp only[Hm,Bi,If]at h1;have d:=AC5 (ops:=l.toArray) (k:=(l.take n).length) (anc:=A3v l) (by simpa only[Lv] using d);have hu:oL l (l.take n).length:=by
  intro x y D g;have m:y<l.length:=by simp at g;omega
  have A:l.toArray[y]?=some l[y]:=by simp[m]
  have:=(d.front y _ A g).2.2 x D;simpa[Al,m] using this
 obtain⟨en,_,hF,F,σ2,f,E,s,t⟩:=Sk (ops:=l) (q:=false) (σ0:=σ) (en:=λ_=>⟨false,.top,[]⟩) hu h C AC6 (by simp) (λj b=>by
  have b:j<(l.take n).length:=b;rw[iN,SF];simp only[OS]at b;rw[BY (by omega)])
 refine wpIn_region_any z ?_;have v:l.drop (l.take n).length=l.drop n:=by simp_all
 simp only[B1]at f;cases f;have:=A0W (c:=c) (ops:=l.toArray) (k:=(l.take n).length) (σ0:=σ) (en:=en) (Q:=Vj c R k) u d (by simpa using h1)
  (λj o b e=>hF j o (by omega) b (by simpa using e)) (σ2:=σ') s t (λp w' B=>by
   rw[show (l.toArray.toList.drop _)=l.drop n from v];exact hk (λo e=>h1 o (by simpa using ABK e)) r p w' B)
  l.toArray.size [] (Array.replicate l.toArray.size false) a { w with drawn:=w.drawn+1 } (by simp) (by simp) (by simp) (by simp) (λi hi=>by simp at hi;simp[Array.getD,hi]) (λi o _ hi=>by simp at hi) (jE hs)
 exact this
theorem oM (r:c.Ok) {id:Nat} {l:List Oper} (n:Nat) (f:oJ l (l.take n).length=true) {vc:Prop}
  (h:Lx c.tb l true σ.objs [] (l.take n) 0 [] [] σ=some (vc,σ')) (u:vc) (hk:KL c R k l.toArray (l.drop n) σ') :
  Ev c R (.run (.region id l.toArray false)) k σ:=by
 intro h1 i a w hs;simp only[Hm,Bi,If]at h1;simp only[oJ,AT,If,QJ,By]at f;have hu:oL l (l.take n).length:=by
  intro x y z A;grind [Al]
 obtain⟨en,_,hF,B,σ2,e,v,m,p⟩:=Sk (ops:=l) (q:=true) (σ0:=σ) (en:=λ_=>⟨false,.top,[]⟩) hu h u AC6 (by simp) (λj b=>by
  have b:j<(l.take n).length:=b;rw[iN,SF];simp only[OS]at b;rw[BY (by omega)])
 have s:l.drop (l.take n).length=l.drop n:=by simp_all
 refine AFz ?_;simp only[B1]at e;cases e;have:=A0X (c:=c) (ops:=l.toArray) (k:=(l.take n).length) (σ0:=σ) (en:=en) (Q:=Vj c R k) r (by simpa using h1)
  (λj o b d=>hF j o (by omega) b (by simpa using d)) (by simpa using f.1) (σ2:=σ') m p (λg w' t=>by
   rw[show (l.toArray.toList.drop _)=l.drop n from s];exact hk (λo d=>h1 o (by simpa using ABK d)) i g w' t)
  (l.take n).length 0 a w (by simp) hs
 exact this
theorem d6 (e:c.Ok) {ops:Array Oper} {l:List Oper} {vc:Prop} (h:B1 c.tb ops.toList l σ=some (vc,σ')) (g:vc) (hk:Ev c R (.out .normal) k σ'):KL c R k ops l σ:=by
 intro h1 d a w hs;exact Qq e l hs h1 h g (λb w' f=>hk rfl d b w' f)
theorem jG (e:c.P.follows .mixedOrders=true) (a:c.Ok) {id:Nat} {l:List Oper} (n:Nat) (d:Lv l (l.take n).length=true) {vc:Prop}
  (h:Lx c.tb l false σ.objs (l.drop n) (l.take n) 0 [] [] σ=some (vc,σ')) (f:vc) (hk:Ev c R (.out .normal) k σ') :
  Ev c R (.run (.region id l.toArray true)) k σ:=by
 obtain⟨j,m,o,h1,g,b,i⟩:=Nl h f;exact jF e a n d h1 g (d6 a b i hk)
theorem oO (a:c.Ok) {id:Nat} {l:List Oper} (n:Nat) (d:oJ l (l.take n).length=true) {vc:Prop}
  (h:Lx c.tb l true σ.objs (l.drop n) (l.take n) 0 [] [] σ=some (vc,σ')) (e:vc) (hk:Ev c R (.out .normal) k σ') :
  Ev c R (.run (.region id l.toArray false)) k σ:=by
 obtain⟨i,j,m,h1,f,b,g⟩:=Nl h e;exact oM a n d h1 f (d6 a b g hk)
theorem A3A (d:c.P.follows .mixedOrders=true) (a:c.Ok) {id:Nat} {l:List Oper} (b:Lv l l.length=true) {vc:Prop}
  (h:Lx c.tb l false σ.objs [] l 0 [] [] σ=some (vc,σ')) (e:vc) (hk:Ev c R (.out .normal) k σ') :
  Ev c R (.run (.region id l.toArray true)) k σ :=
 jG d a l.length (by rw[QD];exact b) (by rw[QD,AFe];exact h) e hk
theorem A3B (m:Nat) (d:c.P.follows .mixedOrders=true) (a:c.Ok) {id:Nat} {l:List Oper} (b:Lv l (l.take (l.length-m)).length=true) {vc:Prop}
  (h:Lx c.tb l false σ.objs (l.drop (l.length-m)) (l.take (l.length-m)) 0 [] [] σ=some (vc,σ')) (e:vc) (hk:Ev c R (.out .normal) k σ') :
  Ev c R (.run (.region id l.toArray true)) k σ:=jG d a _ b h e hk
theorem oP (a:c.Ok) {id:Nat} {l:List Oper} (b:oJ l l.length=true) {vc:Prop}
  (h:Lx c.tb l true σ.objs [] l 0 [] [] σ=some (vc,σ')) (d:vc) (hk:Ev c R (.out .normal) k σ') :
  Ev c R (.run (.region id l.toArray false)) k σ :=
 oO a l.length (by rw[QD];exact b) (by rw[QD,AFe];exact h) d hk
theorem oQ (a:c.Ok) {id:Nat} {l:List Oper} (_:(l.all λo=>o.guard.isNone)=true) {vc:Prop} (h:B1 c.tb l l σ=some (vc,σ')) (b:vc) (hk:Ev c R (.out .normal) k σ') :
  Ev c R (.run (.region id l.toArray false)) k σ:=oE a h b hk
end
end
section
open Go Go.RowKit
theorem tI {c:Cx} {σ b σ':St} (l:List Nat) (h:DK l σ=b) (d:Ent c b σ'):Ent c σ σ':=by
 intro a w hs;obtain⟨ρ,hs⟩:=hs;exact d a w ⟨ρ,by rw[<-h];exact LH hs⟩
theorem KM {α:Type} (a b:List α):(a++b).take (a.length+b.length)=a++b:=As (by simp)
theorem Q1 {α:Type} (a b:List α):sub (a++b) 0 (a.length+b.length)=a++b:=by rw[IR,KM]
theorem H7 {α:Type} (a:List α) (x:α):(a++[x]).take (a.length+1)=a++[x]:=As (by simp)
theorem Mf {α:Type} (a:List α) (x:α):sub (a++[x]) 0 (a.length+1)=a++[x]:=by rw[IR,H7]
theorem AAK {P:Program} {tb:Tb} {w0:World} {O0:Nat->Prop} {nt:Nat} (c:(cx P tb w0 O0 nt).Ok) {fn:Func} {a:List RV} {σ:St} {e:Exit} (b:List ResultVar) (g:fn.results.toList=b) (f:e=.ret\/e=.normal) (hp:∀r∈a,∃t d,r=.p t d) (h:OZ tb σ b a) :
  Ev (cx P tb w0 O0 nt) (UH P fn w0 O0 a) (.out e) [] σ:=A3s c f hp (by rw[g];exact h)
theorem jH:((0:Nat):Int)=0:=rfl
theorem jI (k:Nat):((k+1:Nat):Int)=(k:Int)+1:=by omega
theorem AD {α:Type} (l:List α) (d:α) {k:Nat} (h:k<l.length):l.getD k d∈l:=by
 rw[AS,At h];exact VR h
theorem AH {P:Program} {ty:List (Nat×TI)} {b:List Nat} {ne:List (Nat×TypeId)} {a:List Nat}:JL P ⟨ty,[],b,ne,a⟩:=λf sp h=>by simp[lk]at h
theorem AF {P:Program} {ty:List (Nat×TI)} {c:List Nat} {ne:List (Nat×TypeId)} {b:List Nat} {f:Nat} {sp:AZ} {r:List (Nat×AZ)} (h:Ab P f sp) (d:JL P ⟨ty,r,c,ne,b⟩):JL P ⟨ty,(f,sp) :: r,c,ne,b⟩:=λg i a=>by
 simp only[lk]at a;split at a
 .rename_i e;cases a;rw[e];exact h
 exact d g i a
theorem KN {α:Type} (x:α):[x].take 1=[x]:=rfl
theorem Au {α:Type} (l:List α) (d:α) {k:Nat} (h:k<l.length):l.take (k+1)=l.take k++[l.getD k d]:=by
 rw[List.take_add_one,AS,At h];rfl
theorem Q2 {α:Type} (l:List α) (q:Nat):sub l q l.length=l.drop q:=by
 unfold sub;rw[As (by simp)]
end
end Go.Proofs.YtapkhdkbkodbjaaGreat.Fw
