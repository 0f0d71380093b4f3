/- Regions whose order Go leaves open: the rules. -/
import Derived.Test.YtapkhdkbkodbjaaGreatCZE
set_option linter.unusedVariables false
set_option linter.unusedSimpArgs false
namespace Go.Proofs.YtapkhdkbkodbjaaGreat.Fw
section
open Go Go.RowKit
def EA (o:Oper):List Nat:=(o.after.toList.filter (Region.binds .any)).map (·.on)
def Ak (ops:List Oper) (j:Nat):Option Nat:=(ops[j]?).bind (·.dst)
def Qa:Operand->Option Nat
 | .tmp t=>some t
 | _=>none
def NV (ops:List Oper) (o:Oper):List Nat:=(o.op.operands.toList.filterMap Qa)++(match o.guard with|some (j,_)=>(Ak ops j).toList|none=>[])
def AC8 (a b:List Nat):List Nat:=a.foldl (λr x=>if Ab x r then r else x :: r) b
def A3B (ops:List Oper):List (List Nat):=ops.foldl (λ(a:List (List Nat)) o=>a++[(EA o).foldl (λr e=>AC8 (a.getD e []) (if Ab e r then r else e :: r)) []]) []
def opB (ops:List Oper) (k:Nat) (anc:List (List Nat)) (i:Nat) (o:Oper):Bool :=
  (EA o).all (λe=>decide (e<i)) &&
  (anc.getD i []).all (λj=>Ab j (EA o)||(EA o).any λe=>Ab j (anc.getD e [])) &&
  (if i<k then o.dst.isSome&&((NV ops o).all λt=>(List.range k).all λj=>Ak ops j != some t||Ab j (anc.getD i []))&&((List.range i).all λj=>Ak ops j != o.dst)
   else (List.range i).all λj=>Ab j (anc.getD i []))
def o0 (ops:List Oper) (k:Nat) (anc:List (List Nat)):Bool :=
 decide (k<=ops.length)&&(List.range ops.length).all λi=>match ops[i]? with|some o=>opB ops k anc i o|none=>false
def Qb (ops:List Oper) (k:Nat):Bool:=o0 ops k (A3B ops)
def o4 (ops:List Oper) (k:Nat):Bool :=
 decide (k<=ops.length)&&(List.range k).all λi=>match ops[i]? with|some o=>o.dst.isSome&&((List.range i).all λj=>Ak ops j != o.dst)|none=>false
def B5 (q:Bool) (ts:List Nat) (base:List (Nat×Obj)):List (Nat×List (Nat×Obj))->List (Nat×Obj)
 | []=>base
 | (s,obs) :: r=>if (q||Ab s ts)=true then obs++B5 q ts base r else B5 q ts base r
def HP (o:Op):List Nat:=o.operands.toList.filterMap Qa
def MF (q:Bool) (o:Op) (base:List (Nat×Obj)):List (Nat×List (Nat×Obj))->List (Nat×Obj)
 | []=>base
 | e :: r=>B5 q (HP o) base (e :: r)
def J6 (d:Nat) (obs:List (Nat×Obj)) (E:List (Nat×List (Nat×Obj))):List (Nat×List (Nat×Obj)) :=
 match obs with
 | []=>E
 | x :: r=>(d,x :: r) :: E
abbrev Ch:=List (Nat×Bool)
abbrev Gs:=List (Nat×(Ch×Bool×AV))
def Oy:Ch->Ch->Bool
 | [],[]=>true
 | (j,w) :: r,(a,w') :: b=>(j==a)&&(w==w')&&Oy r b
 | [],_ :: _=>false
 | _ :: _,[]=>false
theorem MG:Oy [] []=true:=rfl
theorem Qc (x:Nat×Bool) (r:Ch):Oy [] (x :: r)=false:=rfl
theorem Qd (x:Nat×Bool) (r:Ch):Oy (x :: r) []=false:=rfl
theorem J7 (j a:Nat) (w w':Bool) (r b:Ch):Oy ((j,w) :: r) ((a,w') :: b)=(decide (j=a)&&(w==w')&&Oy r b):=by grind [Oy]
def UB (a:Ch):Ch->Bool
 | []=>Oy a []
 | k :: r=>Oy a (k :: r)||UB a r
def J8 (c:Ch):Gs->List (Nat×AV)->List (Nat×AV)
 | [],env=>env
 | (s,a,_,v) :: G,env=>if UB a c=true then (s,v) :: J8 c G env else J8 c G env
def K9 (j:Nat) (a:Bool):Option (Ch×Bool×AV)->Option AV->Option (Ch×Bool)
 | some (c,T,.p .bool b),_=>some ((j,a) :: c,T&&(b==a))
 | none,some (.p .bool b)=>some ([(j,a)],b==a)
 | _,_=>none
def JJ (G:Gs) (env:List (Nat×AV)) (j:Nat) (a:Bool):Option Nat->Option (Ch×Bool)
 | some s=>K9 j a (lk s G) (lk s env)
 | none=>none
def IL (ops:List Oper) (G:Gs) (env:List (Nat×AV)) (i:Nat):Option (Nat×Bool)->Option (Ch×Bool)
 | none=>some ([],true)
 | some (j,a)=>if j<i then JJ G env j a (Ak ops j) else none
def Oz (ops:List Oper) (c:Ch) (s:Nat) (w:Bool):Option (Ch×Bool×AV)->Option AV->Option AV
 | some (a,_,v),_=>if UB a c=true then some v else match a with
  | []=>none
  | (j,w') :: r=>if w'=w/\Ak ops j=some s/\Oy r c=true then some v else none
 | none,x=>x
def Lj (ops:List Oper) (c:Ch) (G:Gs) (env:List (Nat×AV)) (s:Nat) (w:Bool):Operand->Option AV
 | .tmp t=>Oz ops c s w (lk t G) (lk t env)
 | .const v=>some (He v)
 | .func _=>none
 | .global _=>none
def PI:Option AV->Option AV->Option AV->BV
 | some (.p .bool b),some (.p .bool p),some (.p .bool q)=>some (True,.p .bool (bif b then p else q),[])
 | _,_,_=>none
def OO (ops:List Oper) (c:Ch) (G:Gs) (env:List (Nat×AV)):Operand->Operand->Operand->BV
 | .tmp s,x,y=>PI (lk s (J8 c G env)) (Lj ops c G env s true x) (Lj ops c G env s false y)
 | .const _,_,_=>none
 | .func _,_,_=>none
 | .global _,_,_=>none
def IM:Op->Option (Operand×Operand×Operand)
 | .pick s x y=>some (s,x,y)
 | _=>none
def opM (tb:Tb) (ops:List Oper) (q:Bool) (base:List (Nat×Obj)) (c:Ch) (G:Gs) (E:List (Nat×List (Nat×Obj))) (env:List (Nat×AV)) (o:Oper):Option (Operand×Operand×Operand)->BV
 | some (s,x,y)=>OO ops c G env s x y
 | none=>aq tb ⟨J8 c G env,MF q o.op base E⟩ (o.dst.getD 0) o.op
mutual
def MJ (tb:Tb) (ops:List Oper) (q:Bool) (base:List (Nat×Obj)) (rest:List Oper):List Oper->Nat->List (Nat×List (Nat×Obj))->Gs->St->DE
 | [],_,_,_,σ=>Br tb ops rest σ
 | o :: r,i,E,G,σ=>evMG tb ops q base rest o r i E G σ (IL ops G σ.env i o.guard)
def evMG (tb:Tb) (ops:List Oper) (q:Bool) (base:List (Nat×Obj)) (rest:List Oper) (o:Oper) (r:List Oper) (i:Nat) (E:List (Nat×List (Nat×Obj))) (G:Gs) (σ:St):Option (Ch×Bool)->DE
 | some (c,T)=>evMQ tb ops q base rest o.dst r i E G σ c T (opM tb ops q base c G E σ.env o (IM o.op))
 | none=>none
def evMQ (tb:Tb) (ops:List Oper) (q:Bool) (base:List (Nat×Obj)) (rest:List Oper) (dst:Option Nat) (r:List Oper) (i:Nat) (E:List (Nat×List (Nat×Obj))) (G:Gs) (σ:St):Ch->Bool->BV->DE
 | [],_,some (vc,v,obs)=>match dst with
  | some d=>if Bd obs σ=true then Yy vc (MJ tb ops q base rest r (i+1) (J6 d obs E) G (σ.add v obs (some d))) else none
  | none=>none
 | g :: c,T,some (vc,v,[])=>match dst with
  | some d=>if (lk d σ.env).isNone=true then Yy (T=true->vc) (MJ tb ops q base rest r (i+1) E ((d,g :: c,T,v) :: G) σ) else none
  | none=>none
 | _,_,_=>none
end
structure En where
 b:Bool
 v:AV
 obs:List (Nat×Obj)
def Ar (ops:List Oper) (en:Nat->En) (σ:St):List Nat->St
 | []=>σ
 | i :: r=>(Ar ops en σ r).add (en i).v (en i).obs (Ak ops i)
def Ag:Nat->List Nat
 | 0=>[]
 | i+1=>i :: Ag i
end
section
open Go Go.RowKit
section
variable {tb:Tb} {ops:List Oper} {k:Nat} {q:Bool} {anc:List (List Nat)} {σ0:St} {en:Nat->En}
def ES (ops:List Oper) (en:Nat->En) (l:List Nat):List (Nat×List (Nat×Obj)):=l.map λj=>((Ak ops j).getD 0,(en j).obs)
def LA (ops:List Oper) (σ:St) (b:Bool):Option (Nat×Bool)->Prop
 | none=>b=true
 | some (j,a)=>∃s,Ak ops j=some s/\((∃x,lk s σ.env=some (.p .bool x)/\b=(x==a))\/(lk s σ.env=some (.raw undef)/\b=false))
structure Vo (tb:Tb) (ops:List Oper) (q:Bool) (σ0:St) (en:Nat->En) (i:Nat) (o:Oper):Prop where
 g:LA ops (Ar ops en σ0 (Ag i)) (en i).b o.guard
 t:(en i).b=true->∃vc:Prop,aq tb ⟨(Ar ops en σ0 (Ag i)).env,B5 q (HP o.op) σ0.objs (ES ops en (Ag i))⟩ (o.dst.getD 0) o.op=some (vc,(en i).v,(en i).obs)/\vc/\Bd (en i).obs (Ar ops en σ0 (Ag i))=true
 f:(en i).b=false->(en i).v=.raw undef/\(en i).obs=[]
theorem LB {a:Nat->En}:∀ {l:List Nat},(∀j∈l,a j=en j)->Ar ops a σ0 l=Ar ops en σ0 l
 | [],_=>rfl
 | i :: r,h=>by
  simp only[Ar];rw[LB (λj b=>h j (by simp[b])),h i (by simp)]
theorem BJ {i j:Nat}:j∈Ag i↔j<i:=by
 induction i with
 | zero=>simp[Ag]
 | succ i a=>simp[Ag,a];omega
theorem Fb:∀(l:List Nat),(Ar ops en σ0 l).objs=(l.flatMap λj=>(en j).obs)++σ0.objs
 | []=>rfl
 | i :: r=>by
  simp only[Ar,AFm,UT];rw[<-Fb r];cases Ak ops i<;>rfl
theorem Fc (s:Nat):∀(l:List Nat),lk s (Ar ops en σ0 l).env=match l.find? (λj=>Ak ops j==some s) with|some j=>some (en j).v|none=>lk s σ0.env
 | []=>rfl
 | i :: r=>by
  simp only[Ar,List.find?_cons];cases a:Ak ops i with
  | none =>
   simp only[St.add];rw[Fc s r];have:((none:Option Nat)==some s)=false:=rfl;rw[this]
  | some d =>
   simp only[St.add,lk];by_cases hs:s=d
   .subst hs;simp
   have h1:((some d:Option Nat)==some s)=false:=by
    have:d≠s:=λe=>hs e.symm;simpa using this
   rw[As hs,Fc s r,h1]
theorem tT {n:Nat} {o:Obj} {l:List Nat} (h:lk n (l.flatMap λj=>(en j).obs)=some o):∃j∈l,lk n (en j).obs=some o:=by
 induction l with
 | nil=>simp[lk]at h
 | cons i r d =>
  rw[AFm,A6]at h;cases a:lk n (en i).obs with
  | some e =>
   rw[a]at h;exact⟨i,by simp,by rw[a];simpa using h⟩
  | none =>
   rw[a]at h;obtain⟨j,b,c⟩:=d (by simpa using h);exact⟨j,by simp[b],c⟩
theorem LC {n:Nat} {l:List Nat} (h:lk n (l.flatMap λj=>(en j).obs)=none):∀j∈l,lk n (en j).obs=none:=by
 induction l with
 | nil=>simp
 | cons i r c =>
  rw[AFm,A6]at h;cases a:lk n (en i).obs with
  | some d=>rw[a]at h;simp at h
  | none =>
   rw[a]at h;intro j b;rcases By.1 b with rfl|b
   .exact a
   grind
def Sep (σ0:St) (en:Nat->En) (k:Nat):Prop :=
 (∀j,j<k->∀n o,lk n (en j).obs=some o->lk n σ0.objs=none)/\∀i j,i<k->j<k->∀n o a,lk n (en i).obs=some o->lk n (en j).obs=some a->i=j
theorem Ew (f:Sep σ0 en k) {l:List Nat} (hl:∀j∈l,j<k) (n:Nat) (o:Obj):lk n (Ar ops en σ0 l).objs=some o↔(∃j∈l,lk n (en j).obs=some o)\/((∀j∈l,lk n (en j).obs=none)/\lk n σ0.objs=some o):=by
 rw[Fb,A6];cases h:lk n (l.flatMap λj=>(en j).obs) with
 | some g =>
  obtain⟨j,b,a⟩:=tT h;simp only[AGa];constructor
  .grind
  rintro (⟨c,d,e⟩|⟨h1,_⟩)
  .have:=f.2 j c (hl j b) (hl c d) n g o a e;grind
  rw[h1 j b]at a;cases a
 | none =>
  have hn:=LC h;simp only[Option.none_or];constructor
  .grind
  grind
theorem A3D (f:Sep σ0 en k) {ts:List Nat} {l l':List Nat} (hl:∀j∈l,j<k) (e:∀j∈l',j<k) (d:∀j∈l,(q||Ab ((Ak ops j).getD 0) ts)=true->j∈l') {n:Nat} {o:Obj} :
  lk n (B5 q ts σ0.objs (ES ops en l))=some o->lk n (Ar ops en σ0 l').objs=some o:=by
 rw[Ew f e];induction l with
 | nil =>
  simp only[ES,AFe,B5];intro h;refine .inr ⟨λj b=>?_,h⟩;cases a:lk n (en j).obs with
  | none=>rfl
  | some g=>have:=f.1 j (e j b) n g a;rw[this]at h;cases h
 | cons i r c =>
  simp only[ES,UY,B5];have c:=c (λj b=>hl j (by simp[b])) (λj b=>d j (by simp[b]));split
  .rename_i m;intro h;rw[A6]at h;cases a:lk n (en i).obs with
   | some g =>
    rw[a]at h;simp only[AGa]at h;cases h;exact .inl ⟨i,d i (by simp) m,a⟩
   | none =>
    rw[a]at h;exact c (by simpa[ES] using h)
  exact c
theorem Qf:∀ {a b:Ch},Oy a b=true↔a=b
 | [],[]=>by simp[Oy]
 | (j,w) :: r,(d,w') :: c=>by simp[Oy,Qf (a:=r) (b:=c),and_assoc]
 | [],_ :: _=>by simp[Oy]
 | _ :: _,[]=>by simp[Oy]
def bv:AV->Bool
 | .p .bool b=>b
 | _=>false
def tr (en:Nat->En):Ch->Bool
 | []=>true
 | (j,w) :: r=>tr en r&&(bv (en j).v==w)
theorem Vp {a:Nat->En}:∀ {c:Ch},(∀k∈c,a k.1=en k.1)->tr a c=tr en c
 | [],_=>rfl
 | (j,w) :: r,h=>by
  have h1:=h (j,w) (by simp);simp only at h1;simp only[tr];rw[Vp (λk hk=>h k (by simp[hk])),h1]
theorem o5 {b:Ch}:∀ {c:Ch},UB b c=true->tr en c=true->tr en b=true
 | [],h,a=>by simp only[UB,Qf]at h;rw[h];exact a
 | k :: r,h,a=>by
  simp only[UB,Ub,Qf]at h;rcases h with rfl|h
  .exact a
  obtain⟨j,w⟩:=k;simp only[tr,An]at a;exact o5 h a.1
structure Inv (ops:List Oper) (q:Bool) (σ0:St) (en:Nat->En) (i:Nat) (E:List (Nat×List (Nat×Obj))) (G:Gs) (σ:St):Prop where
 env:∀s v,lk s σ.env=some v->lk s (Ar ops en σ0 (Ag i)).env=some v
 G:∀s c T v,(s,c,T,v)∈G->T=tr en c/\(T=true->lk s (Ar ops en σ0 (Ag i)).env=some v)/\(∀k∈c,k.1<i)/\∃j,j<i/\Ak ops j=some s/\(en j).b=T
 f:∀j,j<i->(en j).b=false->(en j).v=.raw undef
 objs:σ.objs=(Ar ops en σ0 (Ag i)).objs
 E:∀ts,B5 q ts σ0.objs E=B5 q ts σ0.objs (ES ops en (Ag i))
def o6 (ops:List Oper) (k:Nat):Prop:=∀a b,a<b->b<k->Ak ops a≠Ak ops b
theorem Zn (hu:o6 ops k) {i j s:Nat} (d:i<=k) (c:j<i) (b:Ak ops j=some s):lk s (Ar ops en σ0 (Ag i)).env=some (en j).v:=by
 rw[Fc];have:(Ag i).find? (λj=>Ak ops j==some s)=some j:=by
  cases hf:(Ag i).find? (λj=>Ak ops j==some s) with
  | none =>
   have:=AG6.1 hf j (BJ.2 c);simp[b]at this
  | some x =>
   have h1:=BJ.1 (AFn hf);have a:=AGs hf;have a:Ak ops x=some s:=by simpa using a
   rcases AFJ x j with h|h|h
   .exact absurd (a.trans b.symm) (hu x j h (by omega))
   .rw[h]
   exact absurd (b.trans a.symm) (hu j x h (by omega))
 rw[this]
theorem Rs {c:Ch} {s:Nat} {v:AV} {env:List (Nat×AV)}:∀ {G:Gs},lk s (J8 c G env)=some v->(∃b T,(s,b,T,v)∈G/\UB b c=true)\/lk s env=some v
 | [],h=>.inr h
 | (e,b,T,f) :: G,h=>by
  simp only[J8]at h;split at h
  .rename_i hs;simp only[lk]at h;split at h
   .grind
   rcases Rs h with ⟨c2,T2,d,a⟩|a
   .grind
   exact .inr a
  rcases Rs h with ⟨c2,T2,d,a⟩|a
  .grind
  exact .inr a
section
variable {i:Nat} {E:List (Nat×List (Nat×Obj))} {G:Gs} {σ:St}
theorem i8 (a:Inv ops q σ0 en i E G σ) {c:Ch} (f:tr en c=true) {s:Nat} {v:AV} (h:lk s (J8 c G σ.env)=some v):lk s (Ar ops en σ0 (Ag i)).env=some v:=by
 rcases Rs h with ⟨b,T,d,hs⟩|h
 .obtain⟨h1,e,_⟩:=a.G s b T v d;grind [o5]
 exact a.env s v h
theorem A1d (m:Inv ops q σ0 en i E G σ) (hu:o6 ops k) (v:i<=k) {g:Option (Nat×Bool)} {c:Ch} {T:Bool} (h:IL ops G σ.env i g=some (c,T)) :
  LA ops (Ar ops en σ0 (Ag i)) T g/\T=tr en c/\(∀k∈c,k.1<i):=by
 cases g with
 | none =>
  simp only[IL]at h;cases h;exact⟨rfl,rfl,by simp⟩
 | some g =>
  obtain⟨j,z⟩:=g;simp only[IL]at h;split at h
  .rename_i r;cases d:Ak ops j with
   | none=>rw[d]at h;simp[JJ]at h
   | some s =>
    rw[d]at h;simp only[JJ]at h;have e:=Zn (en:=en) (σ0:=σ0) hu v r d;unfold K9 at h;split at h
    .rename_i c0 o b n;cases h;obtain⟨h1,t,x,l,y,p,u⟩:=m.G s c0 o _ (F2 n);cases hT:o with
     | true =>
      have a:=t hT;rw[e]at a;injection a with a
      refine⟨⟨s,d,.inl ⟨b,by rw[e,a],by simp⟩⟩,?_,?_⟩
      .grind [tr,bv]
      grind
     | false =>
      have w:l=j:=by
       rcases AFJ l j with h|h|h
       .exact absurd (p.trans d.symm) (hu l j h (by omega))
       .exact h
       exact absurd (d.trans p.symm) (hu j l h (by omega))
      subst w;have a:=m.f l r (by rw[u,hT]);refine⟨⟨s,d,.inr ⟨by rw[e,a],by simp⟩⟩,?_,?_⟩
      .grind [tr]
      grind
    .rename_i b _ n;cases h;have a:=m.env s _ n;rw[e]at a;injection a with a
     refine⟨⟨s,d,.inl ⟨b,by rw[e,a],rfl⟩⟩,by simp[tr,a,bv],?_⟩;grind
    cases h
  cases h
theorem i9 (d:Inv ops q σ0 en i E G σ) (hu:o6 ops k) (o:i<=k) {c:Ch} (z:tr en c=true) {s:Nat} {w:Bool} (hs:lk s (Ar ops en σ0 (Ag i)).env=some (.p .bool w)) {x:Operand} {v:AV}
  (h:Lj ops c G σ.env s w x=some v) {objs:List (Nat×Obj)}:Aq ⟨(Ar ops en σ0 (Ag i)).env,objs⟩ x=some v:=by
 cases x with
 | const x=>simp only[Lj]at h;exact h
 | func f=>simp[Lj]at h
 | global g=>simp[Lj]at h
 | tmp t =>
  simp only[Lj]at h;simp only[Aq];cases a:lk t G with
  | none =>
   rw[a]at h;exact d.env t v h
  | some e =>
   obtain⟨b,T,u⟩:=e;rw[a]at h;simp only[Oz]at h;obtain⟨h1,y,m,_⟩:=d.G t b T u (F2 a);split at h
   .grind [o5]
   cases b with
   | nil=>cases h
   | cons p r =>
    obtain⟨j,w'⟩:=p;simp only at h;split at h
    .rename_i hh;obtain⟨rfl,n,l⟩:=hh;rw[Qf]at l;subst l;cases h;have A:=Zn (en:=en) (σ0:=σ0) hu o (m (j,w') (by simp)) n;grind [tr,bv]
    cases h
theorem AAU (a:Inv ops q σ0 en i E G σ) (hu:o6 ops k) (j:i<=k) {c:Ch} (d:tr en c=true) {o:Oper} {vc:Prop} {v:AV} {obs:List (Nat×Obj)} (h:opM tb ops q σ0.objs c G E σ.env o (IM o.op)=some (vc,v,obs)) (z:vc) :
  ∃l:Prop,aq tb ⟨(Ar ops en σ0 (Ag i)).env,B5 q (HP o.op) σ0.objs (ES ops en (Ag i))⟩ (o.dst.getD 0) o.op=some (l,v,obs)/\l:=by
 cases hp:IM o.op with
 | none =>
  rw[hp]at h;simp only[opM]at h;refine⟨vc,Uq (σ:=⟨J8 c G σ.env,MF q o.op σ0.objs E⟩) ?_ ?_ h,z⟩
  .intro n x hn;have:MF q o.op σ0.objs E=B5 q (HP o.op) σ0.objs E:=by cases E<;>rfl
   simp only at hn ⊢;rw[this,a.E]at hn;exact hn
  intro x _ v e;cases x with
  | tmp t=>exact i8 a d e
  | const A=>exact e
  | global g=>exact e
  | func f=>exact e
 | some p =>
  obtain⟨s,x,y⟩:=p;rw[hp]at h;have w:o.op=.pick s x y:=by
   unfold IM at hp;grind
  simp only[opM]at h;rw[w];cases s with
  | const _=>simp[OO]at h
  | func _=>simp[OO]at h
  | global _=>simp[OO]at h
  | tmp s =>
   simp only[OO]at h;unfold PI at h;split at h
   .rename_i b p r h1 m u;cases h;have hs:=i8 a d h1;refine⟨True,?_,trivial⟩;have h0:Aq ⟨(Ar ops en σ0 (Ag i)).env,B5 q (HP (Op.pick (.tmp s) x y)) σ0.objs (ES ops en (Ag i))⟩ (.tmp s)=some (.p .bool b):=hs;simp only[aq];rw[h0];cases b with
    | true =>
     simp only[Le];rw[i9 a hu j d hs m];rfl
    | false =>
     simp only[Le];rw[i9 a hu j d hs u];rfl
   cases h
end
theorem Ru {rest:List Oper} (hu:o6 ops k):∀ {fr:List Oper} {i:Nat} {E:List (Nat×List (Nat×Obj))} {G:Gs} {σ σ':St} {en:Nat->En} {vc:Prop},MJ tb ops q σ0.objs rest fr i E G σ=some (vc,σ')->vc->Inv ops q σ0 en i E G σ->i+fr.length=k->(∀j,j<fr.length->ops[i+j]?=fr[j]?) ->
  ∃l:Nat->En,(∀j,j<i->l j=en j)/\(∀j o,i<=j->j<k->ops[j]?=some o->Vo tb ops q σ0 l j o) /\
   ∃(C:Prop) (σ2:St),Br tb ops rest σ2=some (C,σ')/\C/\(∀s v,lk s σ2.env=some v->lk s (Ar ops l σ0 (Ag k)).env=some v)/\σ2.objs=(Ar ops l σ0 (Ag k)).objs
 | [],i,E,G,σ,σ',en,vc,h,F,n,hk,_=>by
  simp only[MJ]at h;simp at hk;subst hk;exact⟨en,λ_ _=>rfl,λj o h1 O=>by omega,vc,σ,h,F,n.env,n.objs⟩
 | o :: r,i,E,G,σ,σ',en,vc,h,F,n,hk,ak=>by
  have ai:ops[i]?=some o:=by simpa using ak 0 (by simp)
  have P:Ak ops i=o.dst:=by simp[Ak,ai]
  have S:i<k:=by simp at hk;omega
  simp only[MJ]at h;cases R:IL ops G σ.env i o.guard with
  | none=>rw[R]at h;simp[evMG]at h
  | some ao =>
   obtain⟨c,T⟩:=ao;obtain⟨be,hT,aa⟩:=A1d n hu (AG0 S) R;rw[R]at h;simp only[evMG]at h;cases V:opM tb ops q σ0.objs c G E σ.env o (IM o.op) with
   | none =>
    rw[V]at h;unfold evMQ at h;split at h
    .rename_i Q;cases Q
    .rename_i Q;cases Q
    cases h
   | some bl =>
    obtain⟨bm,v,obs⟩:=bl;rw[V]at h;have an:∀(d:Nat) (e:En) (K:List (Nat×List (Nat×Obj))) (L:Gs) (J:St) (D:Prop),o.dst=some d->e.b=T->(T=true->bm/\e.v=v/\e.obs=obs/\Bd obs σ=true)->(T=false->e.v=.raw undef/\e.obs=[]) ->
      (∀s a,lk s J.env=some a->if s=d then a=e.v else lk s σ.env=some a)->J.objs=e.obs++σ.objs ->
      (∀s w A a,(s,w,A,a)∈L->(s,w,A,a)∈G\/(s=d/\w=c/\A=T/\a=v))->(∀ts,B5 q ts σ0.objs K=B5 q ts σ0.objs ((d,e.obs) :: E)) ->
      MJ tb ops q σ0.objs rest r (i+1) K L J=some (D,σ')->D ->
      ∃l:Nat->En,(∀j,j<i->l j=en j)/\(∀j o,i<=j->j<k->ops[j]?=some o->Vo tb ops q σ0 l j o) /\
       ∃(C:Prop) (σ2:St),Br tb ops rest σ2=some (C,σ')/\C/\(∀s v,lk s σ2.env=some v->lk s (Ar ops l σ0 (Ag k)).env=some v)/\σ2.objs=(Ar ops l σ0 (Ag k)).objs:=by
     intro d e K L J D t H ae ad bb bf av ar bc bk
     let u:Nat->En:=λj=>if j=i then e else en j
     have N:u i=e:=by simp[u]
     have heq:∀j,j<i->u j=en j:=λj z=>by simp[u,show j≠i by omega]
     have az:Ar ops u σ0 (Ag i)=Ar ops en σ0 (Ag i):=LB λj z=>heq j (BJ.1 z);have Y:ES ops u (Ag i)=ES ops en (Ag i):=by
      apply Of;grind [BJ]
     have ba:Ar ops u σ0 (Ag (i+1))=(Ar ops en σ0 (Ag i)).add e.v e.obs (some d):=by grind [Ag,Ar]
     have aj:∀s a,s≠d->lk s (Ar ops en σ0 (Ag i)).env=some a->lk s (Ar ops u σ0 (Ag (i+1))).env=some a:=by grind [St.add,lk]
     have af:lk d (Ar ops u σ0 (Ag (i+1))).env=some e.v:=by grind [St.add,lk]
     have aw:Inv ops q σ0 u (i+1) K L J:=by
      refine⟨λs a hl=>?_,λs w A a p=>?_,λj z m=>?_,?_,λts=>?_⟩
      .have:=bb s a hl;split at this
       .rename_i hs;rw[hs,this];exact af
       rename_i hs;exact aj s a hs (n.env s a this)
      .rcases av s w A a p with p|⟨rfl,rfl,rfl,rfl⟩
       .obtain⟨h1,O,M,j,z,ab,m⟩:=n.G s w A a p;have bg:s≠d:=by
         rintro rfl;exact hu j i z S (by rw[ab,P,t])
        refine⟨by rw[Vp (en:=en) λk hk=>heq _ (M k hk)];exact h1,λhT=>aj s a bg (O hT),λk hk=>by have:=M k hk;omega,j,by omega,ab,by rw[heq j z];exact m⟩
       refine⟨by rw[Vp (en:=en) λk hk=>heq _ (aa k hk)];exact hT,λax=>?_,λk hk=>by have:=aa k hk;omega,i,by omega,by rw[P,t],by rw[N];exact H⟩;rw[af,(ae ax).2.1]
      .by_cases U:j=i
       .subst U;rw[N]at m ⊢;exact(ad (by rw[<-H];exact m)).1
       rw[heq j (by omega)]at m ⊢;exact n.f j (by omega) m
      .rw[ba,bf,n.objs];rfl
      rw[ar];simp only[ES,Ag,UY,N,P,t,AFP,B5];have:=n.E ts;rw[<-Y]at this;simp only[ES]at this;rw[this]
     obtain⟨l,h1,O,M⟩:=Ru hu bc bk aw (by simp at hk ⊢;omega) (λj z=>by
      have:=ak (j+1) (by simp;omega);rw[show i+(j+1)=i+1+j by omega]at this;simpa using this)
     refine⟨l,λj z=>by rw[h1 j (by omega),heq j z],λj bp bn bo ah=>?_,M⟩;by_cases U:j=i
     .subst U;rw[ai]at ah;cases ah;have I:l j=e:=by rw[h1 j (by omega),N]
      have Z:Ar ops l σ0 (Ag j)=Ar ops en σ0 (Ag j):=by
       rw[<-az];exact LB λq W=>h1 q (by have:=BJ.1 W;omega)
      have au:ES ops l (Ag j)=ES ops en (Ag j):=by
       rw[<-Y];apply Of;intro q W;rw[h1 q (by have:=BJ.1 W;omega)]
      refine⟨by rw[Z,I,H];exact be,λm=>?_,λm=>?_⟩
      .rw[I,H]at m;obtain⟨bh,bi,bj,am⟩:=ae m;obtain⟨C,ap,aq⟩:=AAU n hu (AG0 S) (by rw[<-hT];exact m) V bh;rw[I,Z,au,bi,bj];exact⟨C,ap,aq,by
        simp only[Bd]at am ⊢;rw[<-n.objs];exact am⟩
      rw[I,H]at m;rw[I];exact ad m
     grind
    cases c with
    | nil =>
     cases t:o.dst with
     | none=>rw[t]at h;simp[evMQ]at h
     | some d =>
      rw[t]at h;simp only[evMQ]at h;split at h
      .rename_i bd;cases B:MJ tb ops q σ0.objs rest r (i+1) (J6 d obs E) G (σ.add v obs (some d)) with
       | none=>rw[B]at h;simp[Yy]at h
       | some X =>
        obtain⟨D,σ2⟩:=X;rw[B]at h;simp only[Yy]at h;cases h;have ay:T=true:=by rw[hT];rfl
        refine an d ⟨T,v,obs⟩ _ _ _ D t rfl (λ_=>⟨F.1,rfl,rfl,bd⟩) (λhf=>by rw[ay]at hf;cases hf) (λs a hl=>?_) rfl (λs w A a p=>.inl p) (λts=>?_) B F.2
        .simp only[St.add,lk]at hl;split at hl
         .rename_i hs;cases hl;simp[hs]
         rename_i hs;rw[As hs];exact hl
        cases obs with
        | nil=>simp[J6,B5]
        | cons x y=>rfl
      cases h
    | cons g w =>
     cases obs with
     | cons x y=>simp[evMQ]at h
     | nil =>
      cases t:o.dst with
      | none=>rw[t]at h;simp[evMQ]at h
      | some d =>
       rw[t]at h;simp only[evMQ]at h;split at h
       .rename_i ag;cases B:MJ tb ops q σ0.objs rest r (i+1) E ((d,g :: w,T,v) :: G) σ with
        | none=>rw[B]at h;simp[Yy]at h
        | some X =>
         obtain⟨D,σ2⟩:=X;rw[B]at h;simp only[Yy]at h;cases h;refine an d ⟨T,bif T then v else .raw undef,[]⟩ _ _ _ D t rfl (λal=>⟨F.1 al,by simp[al],rfl,by simp[Bd]⟩) (λhf=>⟨by simp[hf],rfl⟩) (λs a hl=>?_) rfl (λs c2 A a p=>?_) (λts=>?_) B F.2
         .have:s≠d:=by
           rintro rfl;rw[hl]at ag;cases ag
          rw[As this];exact hl
         .rcases By.1 p with p|p
          .cases p;exact .inr ⟨rfl,rfl,rfl,rfl⟩
          exact .inl p
         simp[B5]
       cases h
end
section
variable {c:Cx} {ops:Array Oper} {k:Nat} {anc:List (List Nat)} {σ0 σ':St} {en:Nat->En} {Q:Exit->Act->World->Prop}
theorem A3E {o:Oper} {e:Edge} (b:e∈o.after) (a:Region.binds .any e=true):e.on∈EA o:=by grind [EA]
theorem Df {listed:Array Bool} {i:Nat}:i∈Region.ready .any ops listed↔listed.getD i true=false/\∃o,ops[i]?=some o/\∀e∈EA o,listed.getD e false=true:=by
 rw[mem_ready];grind [EA,A3E]
structure Zo (ops:Array Oper) (k:Nat) (anc:List (List Nat)):Prop where
 lt:∀i o,ops[i]?=some o->∀e∈EA o,e<i
 cl:∀i o,ops[i]?=some o->∀j∈anc.getD i [],j∈EA o\/∃e∈EA o,j∈anc.getD e []
 front:∀i o,ops[i]?=some o->i<k->(∃d,o.dst=some d)/\(∀t∈NV ops.toList o,∀j,j<k->Ak ops.toList j=some t->j∈anc.getD i [])/\∀j,j<i->Ak ops.toList j≠o.dst
 back:∀i o,ops[i]?=some o->k<=i->∀j,j<i->j∈anc.getD i []
 k:k<=ops.size
theorem AC9 (h:o0 ops.toList k anc=true):Zo ops k anc:=by
 simp only[o0,An,OR,Ue,DO]at h;obtain⟨hk,h⟩:=h;have hi:∀i o,ops[i]?=some o->opB ops.toList k anc i o=true:=by grind
 refine⟨λi o a e l=>?_,λi o a j b=>?_,λi o a c=>?_,λi o a c j b=>?_,by simpa using hk⟩
 .grind [opB]
 .grind [opB,Am]
 .have:=hi i o a;simp only[opB,c,ZU,An,OR,Ue,Ub,Am,AFI]at this;obtain⟨_,⟨h1,f⟩,d⟩:=this;refine⟨AB3.1 h1,λt m j b g=>?_,d⟩;grind
 have:=hi i o a;simp only[opB,show ¬i<k by omega,iN,An,OR,Ue,Am]at this;exact this.2 j b
theorem Vq (a:Zo ops k anc) {listed:Array Bool} (g:∀i o,ops[i]?=some o->listed.getD i true=true->∀e∈EA o,listed.getD e false=true) :
  ∀i o,ops[i]?=some o->(∀e∈EA o,listed.getD e false=true)->∀j∈anc.getD i [],listed.getD j false=true:=by
 intro i;induction i using Nat.strongRecOn with
 | _ i m =>
  intro o b c j f;rcases a.cl i o b j f with h1|⟨e,d,h⟩
  .exact c j h1
  have l:=a.lt i o b e d;grind
theorem Zp {l:List Oper} {p:Nat} {o:Oper} {r:List Oper} (h:l.drop p=o :: r):l[p]?=some o/\r=l.drop (p+1):=by
 constructor
 .have:(l.drop p)[0]?=some o:=by rw[h];rfl
  grind
 rw[<-AFp,h];rfl
theorem Qg {F:Fence} {P:Program} (d:Zo ops k anc):∀ {rest:List Oper} {p:Nat} {listed:Array Bool} {a:Act} {w:World},ops.toList.drop p=rest->k<=p->p<=ops.size->listed.size=ops.size ->
  (∀i,i<ops.size->(listed.getD i true=true↔i<p))->wpListIn F 0 P ops Q rest a w->wpAnyIn F 0 P .any ops Q rest.length listed a w
 | [],p,listed,a,w,l,I,K,n,hl,c=>by
  have hp:p=ops.size:=by
   have:=Yp List.length l;simp at this;omega
  refine⟨?_,c⟩;apply AFN.2;grind [Df]
 | o :: r,p,listed,a,w,l,I,K,n,hl,c=>by
  obtain⟨f,B⟩:=Zp l;have f:ops[p]?=some o:=by simpa using f
  have s:p<ops.size:=(YR.1 f).1;have v:∀e b,e<ops.size->listed.getD e b=listed.getD e true:=λe b g=>by grind
  have E:∀i o,ops[i]?=some o->listed.getD i true=true->∀e∈EA o,listed.getD e false=true:=by
   intro i o A h1 e g;have t:i<ops.size:=(YR.1 A).1;have x:=(hl i t).1 h1;have h:=d.lt i o A e g;grind
  have L:∀i,i∈Region.ready .any ops listed->i=p:=by
   intro i hi;rw[Df]at hi;obtain⟨h1,C,q,x⟩:=hi;have t:i<ops.size:=(YR.1 q).1;have N:¬i<p:=λJ=>by rw[(hl i t).2 J]at h1;cases h1
   by_cases m:i=p
   .exact m
   have h:=Vq d E i C q x p (d.back i C q (by omega) p (by omega));rw[v p false s]at h;have:=(hl p s).1 h;omega
  refine⟨λO=>?_,λi hi=>?_⟩
  .exfalso;have:p∈Region.ready .any ops listed:=by
    rw[Df];refine⟨?_,o,f,λe g=>?_⟩
    .cases hh:listed.getD p true with
     | false=>rfl
     | true=>have:=(hl p s).1 hh;omega
    have:=d.lt p o f e g;rw[v e false (by omega)];exact(hl e (by omega)).2 this
   grind
  have m:=L i hi;subst m;have z:∀(j:Nat),j<ops.size->((listed.setIfInBounds i true).getD j true=true↔j<i+1):=by
   intro j G;have H:j<listed.size:=by omega
   by_cases y:j=i
   .subst y;simp[Array.getD,H]
   have h1:(listed.setIfInBounds i true).getD j true=listed.getD j true:=getD_set_ne true (λe=>y e.symm);rw[h1,hl j G];omega
  unfold wpOpIn;rw[f];simp only;unfold wpListIn at c;split
  .rename_i u;rw[Bq u]at c;exact Oper.wpIn_mono (λM w' D=>Qg d B.symm (by omega) (by omega) (by simpa using n) z D) c
  rename_i u;rw[As u]at c;exact⟨c.1,Qg d B.symm (by omega) (by omega) (by simpa using n) z c.2⟩
end
end
section
open Go Go.RowKit
theorem EJ:∀(k:Nat) (l:List Nat),l.Nodup->(∀j∈l,j<k)->l.length<=k
 | 0,l,_,h=>by
  cases l with
  | nil=>simp
  | cons x r=>have:=h x (by simp);omega
 | k+1,l,hn,h=>by
  by_cases hk:k∈l
  .have:=EJ k (l.erase k) (hn.erase k) (λj a=>by
    have h1:=(hn.mem_erase_iff).1 a;have:=h j h1.2;have:=h1.1;omega)
   grind
  have:=EJ k l hn (λj a=>by
   have:=h j a;have:j≠k:=λe=>hk (e▸a);omega)
  omega
theorem tU:∀(k:Nat) (l:List Nat),(∀j,j<k->j∈l)->k<=l.length
 | 0,l,_=>by simp
 | k+1,l,h=>by
  have hk:=h k (by omega);have:=tU k (l.erase k) (λj a=>(AFR (by omega)).2 (h j (by omega)));grind
theorem Vr {c:Cx} {σ σ':St} {a:Act} {w:World} (j:∀s,lk s σ'.env=lk s σ.env) (f:∀n,lk n σ'.objs=lk n σ.objs) (h:c.sat σ a w):c.sat σ' a w:=by
 obtain⟨ρ,h⟩:=h;have d:HL σ'=HL σ:=by
  funext n;simp only[HL,f]
 have g:∀w,vw w c.O0 σ' ρ=vw w c.O0 σ ρ:=by
  intro w;have k:own c.O0 σ' ρ=own c.O0 σ ρ:=by
   funext b;simp only[own,d]
  simp only[vw,d,k]
 refine⟨ρ,h.frm,h.nt,h.defers,λp hp=>by rw[d];exact h.pin p hp,?_,?_,?_,?_⟩
 .intro n o hn;rw[g];exact h.objs n o (by rw[<-f];exact hn)
 .intro n b hl i;exact h.free n b (by rw[<-d];exact hl) i
 .intro n m b h1 e;rw[d]at h1 e;exact h.dist n m b h1 e
 intro s v hs;rw[g];exact h.env s v (by rw[<-j];exact hs)
theorem jA {c:Cx} {σ:St} {a:Act} {w:World} (h:c.sat σ a w):c.sat σ a { w with drawn:=w.drawn+1 }:=by
 obtain⟨ρ,h⟩:=h;have hk:Cs (vw w c.O0 σ ρ) (vw { w with drawn:=w.drawn+1 } c.O0 σ ρ):=⟨λ_ _ h=>h,λ_ h=>h,λ_ _=>rfl,λ_ _ _=>rfl⟩;exact⟨ρ,⟨h.frm.os,h.frm.tape,h.frm.output,h.frm.size,h.frm.block⟩,h.nt,h.defers,h.pin,λn o b=>(h.objs n o b).keeps hk λ_ _=>rfl,h.free,h.dist,λs v hs=>(h.env s v hs).keeps hk⟩
theorem Ur {c:Cx} {σ σ':St} {a:Act} {w:World} (d:∀s v,lk s σ'.env=some v->lk s σ.env=some v) (e:∀n,lk n σ'.objs=lk n σ.objs) (h:c.sat σ a w):c.sat σ' a w:=by
 have b:c.sat ⟨σ.env,σ'.objs⟩ a w:=Vr (σ:=σ) (λ_=>rfl) e h;obtain⟨ρ,h⟩:=b;exact⟨ρ,h.frm,h.nt,h.defers,h.pin,h.objs,h.free,h.dist,λs v hs=>h.env s v (d s v hs)⟩
theorem MK {c:Cx} {ops:Array Oper} {σ:St} {a:Act} {w:World} (hs:c.sat σ a w) {o:Oper} {b:Bool} (h:LA ops.toList σ b o.guard):Region.wanted o (yielded ops a.tmps)=b:=by
 cases d:o.guard with
 | none =>
  rw[d]at h;simp only[LA]at h;simp[Region.wanted,d,h]
 | some g =>
  obtain⟨j,m⟩:=g;rw[d]at h;simp only[LA]at h;obtain⟨s,i,h⟩:=h;rcases h with ⟨x,hl,rfl⟩|⟨hl,rfl⟩
  .refine Hi hs ?_;grind [Et,Ak,Kw,Rh]
  obtain⟨ρ,hs⟩:=hs;have f:a.tmps.getD s undef=undef:=hs.env s _ hl;have k:(ops[j]?).bind (·.dst)=some s:=by simpa[Ak] using i
  have l:yielded ops a.tmps j=none:=by
   simp only[yielded,k,Option.bind_some];by_cases e:s<a.tmps.size
   .have:a.tmps.getD s undef=a.tmps[s]:=by simp[Array.getD,e]
    rw[this]at f;rw[Ym e,f];rfl
   grind
  simp[Region.wanted,d,l]
section
variable {c:Cx} {ops:Array Oper} {k:Nat} {q:Bool} {anc:List (List Nat)} {σ0 σ':St} {en:Nat->En} {Q:Exit->Act->World->Prop}
theorem AAV (hF:∀j o,j<k->ops[j]?=some o->Vo c.tb ops.toList q σ0 en j o) (hk:k<=ops.size):Sep σ0 en k:=by
 have one:∀j,j<k->∀n o,lk n (en j).obs=some o->lk n (Ar ops.toList en σ0 (Ag j)).objs=none:=by
  intro j a n o hn;have l:ops[j]?=some (ops[j]'(by omega)):=Ym (by omega);have h1:=hF j _ a l;cases g:(en j).b with
  | true =>
   obtain⟨_,_,_,hf⟩:=h1.t g;exact Om hf hn
  | false =>
   rw[(h1.f g).2]at hn;simp[lk]at hn
 have low:∀i j,i<j->j<k->∀n o d,lk n (en i).obs=some o->lk n (en j).obs=some d->False:=by
  intro i j h a n o d h1 e;have:=one j a n d e;rw[Fb,A6]at this;cases hl:lk n ((Ag j).flatMap λj=>(en j).obs) with
  | some x=>rw[hl]at this;simp at this
  | none =>
   have:=LC hl i (BJ.2 h);rw[this]at h1;cases h1
 refine⟨λj a n o hn=>?_,λi j hi a n o d h1 e=>?_⟩
 .grind [Fb,A6,lk,Ag]
 grind
theorem A3F (b:Zo ops k anc) {l:List Nat} (hl:∀j∈l,j<k) {s j:Nat} (d:j∈l) (e:Ak ops.toList j=some s):l.find? (λj=>Ak ops.toList j==some s)=some j:=by
 have hu:∀i,i∈l->Ak ops.toList i=some s->i=j:=by
  intro i hi f;have h1:=hl i hi;have a:=hl j d;have g:=b.k;have get:∀x,x<k->Ak ops.toList x=(ops[x]?).bind (·.dst):=λx _=>by simp[Ak]
  rcases AFJ i j with h|h|h
  .have c:ops[j]?=some (ops[j]'(by omega)):=Ym (by omega);have:=(b.front j _ c a).2.2 i h;grind
  .exact h
  have c:ops[i]?=some (ops[i]'(by omega)):=Ym (by omega);have:=(b.front i _ c h1).2.2 j h;grind
 cases hf:l.find? (λj=>Ak ops.toList j==some s) with
 | none =>
  have:=AG6.1 hf j d;simp[e]at this
 | some i =>
  have h1:=AFn hf;have a:=AGs hf;rw[hu i h1 (by simpa using a)]
theorem Vs (a:Zo ops k anc) {l l':List Nat} (hl:∀j∈l,j<k) (b:∀j∈l',j<k) {s:Nat} (h:∀j,j<k->Ak ops.toList j=some s->j∈l/\j∈l') :
  lk s (Ar ops.toList en σ0 l).env=lk s (Ar ops.toList en σ0 l').env:=by
 rw[Fc,Fc];by_cases hx:∃j,j<k/\Ak ops.toList j=some s
 .grind [A3F]
 grind
theorem A1e (Y:c.Ok) (A:Zo ops k anc) (bi:∀o∈ops.toList,JF c.nt o=true) (hF:∀j o,j<k->ops[j]?=some o->Vo c.tb ops.toList false σ0 en j o)
  {σ2:St} (am:∀s v,lk s σ2.env=some v->lk s (Ar ops.toList en σ0 (Ag k)).env=some v) (an:σ2.objs=(Ar ops.toList en σ0 (Ag k)).objs) (hT:∀I w',c.sat σ2 I w'->wpListIn (FR c.r) 0 c.P ops Q (ops.toList.drop k) I w') :
  ∀(m:Nat) (ex:List Nat) (listed:Array Bool) (a:Act) (w:World),ex.Nodup->(∀j∈ex,j<k)->m+ex.length=ops.size->listed.size=ops.size->(∀i,i<ops.size->(listed.getD i true=true↔i∈ex)) ->
   (∀i o,ops[i]?=some o->i∈ex->∀e∈EA o,e∈ex)->c.sat (Ar ops.toList en σ0 ex) a w->wpAnyIn (FR c.r) 0 c.P .any ops Q m listed a w:=by
 have ak:=A.k;have H:=AAV hF ak;intro m;induction m with
 | zero =>
  intro ex listed a w M z bn X hl ao hs;have h1:=EJ k ex M z;have bm:k=ops.size:=by omega
  by_cases D:∀j,j<k->j∈ex
  .have aq:ops.toList.drop k=[]:=by simp[bm]
   have R:c.sat σ2 a w:=Ur am (λ_=>by rw[an]) <| Vr
    (λs=>(Vs A z (λj y=>BJ.1 y) λj y _=>⟨D j y,BJ.2 y⟩).symm)
    (λn=>AGd λo=>by
     rw[Ew H (λj y=>BJ.1 y),Ew H z];simp only[BJ];constructor
     .grind
     rintro (⟨j,y,h⟩|⟨h1,T⟩)
     .grind
     exact .inr ⟨λj y=>h1 j (D j y),T⟩) hs
   have:=Qg (Q:=Q) (F:=FR c.r) (P:=c.P) A (rest:=[]) (p:=k) (listed:=listed) (a:=a) (w:=w) aq (NO _) ak X (λi hi=>by
    rw[hl i hi];exact⟨z i,D i⟩) (by rw[<-aq];exact hT a w R)
   exact this
  exfalso;apply D;intro j y;apply If;intro ay;have:=EJ k (j :: ex) (YT.2 ⟨ay,M⟩) (λi hi=>by
   rcases By.1 hi with rfl|hi
   .exact y
   exact z i hi)
  simp at this;omega
 | succ m bz =>
  intro ex listed a w M z bn X hl ao hs;have be:∀e b,e<ops.size->listed.getD e b=listed.getD e true:=λe b C=>by grind
  by_cases D:∀j,j<k->j∈ex
  .have ci:ex.length=k:=AAg (EJ k ex M z) (tU k ex D);have R:c.sat σ2 a w:=Ur am (λ_=>by rw[an]) <| Vr
    (λs=>(Vs A z (λj y=>BJ.1 y) λj y _=>⟨D j y,BJ.2 y⟩).symm)
    (λn=>AGd λo=>by
     rw[Ew H (λj y=>BJ.1 y),Ew H z];simp only[BJ];constructor
     .grind
     rintro (⟨j,y,h⟩|⟨h1,T⟩)
     .grind
     exact .inr ⟨λj y=>h1 j (D j y),T⟩) hs
   have:=Qg (Q:=Q) (F:=FR c.r) (P:=c.P) A (rest:=ops.toList.drop k) (p:=k) (listed:=listed) (a:=a) (w:=w) rfl (NO _) ak X (λi hi=>by
    rw[hl i hi];exact⟨z i,D i⟩) (hT a w R)
   grind
  refine⟨λbp=>?_,λi hi=>?_⟩
  .exfalso;apply D;intro j;induction j using Nat.strongRecOn with
   | _ j cb =>
    intro y;apply If;intro ay;have N:ops[j]?=some (ops[j]'(by omega)):=Ym (by omega);have:j∈Region.ready .any ops listed:=by
     rw[Df];refine⟨?_,_,N,λe C=>?_⟩
     .grind
     have aa:=A.lt j _ N e C;rw[be e false (by omega)];exact(hl e (by omega)).2 (cb e aa (by omega))
    rw[bp]at this;cases this
  rw[Df]at hi;obtain⟨h1,o,B,T⟩:=hi;have bc:i<ops.size:=(YR.1 B).1;have az:i∉ex:=λh=>by rw[(hl i bc).2 h]at h1;cases h1
  have bh:∀e∈EA o,e∈ex:=λe C=>by grind
  have ad:∀j∈anc.getD i [],j∈ex:=by grind [EA,Vq]
  have L:i<k:=by
   apply If;intro ch;exact D λj y=>ad j (A.back i o B (by omega) j (by omega))
  have ag:=A.front i o B L;obtain⟨d,cg⟩:=ag.1;have bg:Ak ops.toList i=o.dst:=by simp[Ak,B]
  have ba:∀t∈NV ops.toList o,lk t (Ar ops.toList en σ0 ex).env=lk t (Ar ops.toList en σ0 (Ag i)).env:=by
   intro t bw;refine Vs A z (λj y=>by have:=BJ.1 y;omega) λj y ae=>?_;have aw:=ag.2.1 t bw j y ae;refine⟨ad j aw,BJ.2 ?_⟩;have:∀i o,ops[i]?=some o->∀j∈anc.getD i [],j<i:=by
    intro i;induction i using Nat.strongRecOn with
    | _ i ca =>
     intro o B j y;rcases A.cl i o B j y with ab|⟨e,C,bk⟩
     .exact A.lt i o B j ab
     have bf:=A.lt i o B e C;have bc:i<ops.size:=(YR.1 B).1;have:=ca e bf _ (Ym (by omega)) j bk;omega
   exact this i o B j aw
  have br:Ops ⟨(Ar ops.toList en σ0 (Ag i)).env,B5 false (HP o.op) σ0.objs (ES ops.toList en (Ag i))⟩ (Ar ops.toList en σ0 ex) o.op.operands.toList:=by
   intro x hx v S;cases x with
   | tmp t =>
    simp only[Aq]at S ⊢;rw[ba t (by
     simp only[NV,IN,AG5];exact .inl ⟨_,hx,rfl⟩)]
    exact S
   | const cj=>exact S
   | global g=>exact S
   | func f=>exact S
  have bq:gW ⟨(Ar ops.toList en σ0 (Ag i)).env,B5 false (HP o.op) σ0.objs (ES ops.toList en (Ag i))⟩ (Ar ops.toList en σ0 ex):=by
   intro n G hn;refine A3D H (λj y=>by have:=BJ.1 y;omega) z (λj y aj=>?_) hn;have W:=BJ.1 y;have N:ops[j]?=some (ops[j]'(by omega)):=Ym (by omega);obtain⟨al,ae⟩:=(A.front j _ N (by omega)).1;have ap:Ak ops.toList j=some al:=by simp[Ak,N,ae]
   rw[ap]at aj;simp only[Bool.false_or,AFP,Am]at aj;refine ad j (ag.2.1 al ?_ j (by omega) ap);simp only[NV,IN];exact .inl aj
  have af:=hF i o L B;have E:LA ops.toList (Ar ops.toList en σ0 ex) (en i).b o.guard:=by
   have E:=af.g;cases ah:o.guard with
   | none=>rw[ah]at E;exact E
   | some g =>
    obtain⟨j,cm⟩:=g;rw[ah]at E;simp only[LA]at E ⊢;obtain⟨s,au,E⟩:=E;refine⟨s,au,?_⟩;rw[ba s (by
     simp only[NV,ah,IN,au];exact .inr (by simp))]
    exact E
  have Z:=MK hs E;have bo:o∈ops.toList:=by grind
  have ar:=Ct (bi o bo);have bb:∀I w',c.sat ((Ar ops.toList en σ0 ex).add (en i).v (en i).obs o.dst) I w'->wpAnyIn (FR c.r) 0 c.P .any ops Q m (listed.setIfInBounds i true) I w':=by
   intro I w' R;refine bz (i :: ex) _ I w' (YT.2 ⟨az,M⟩) (λj y=>?_) (by simp;omega) (by simpa using X) (λj y=>?_) (λi' G J ai e C=>?_) (by simp only[Ar,bg];exact R)
   .rcases By.1 y with rfl|y
    .exact L
    exact z j y
   .have bl:j<listed.size:=by omega
    by_cases W:j=i
    .subst W;simp[Array.getD,bl]
    have aa:(listed.setIfInBounds i true).getD j true=listed.getD j true:=getD_set_ne true (λe=>W e.symm);rw[aa,hl j y];simp[W]
   rcases By.1 ai with rfl|ai
   .rw[B]at J;cases J;exact GO _ (bh e C)
   exact GO _ (ao i' G J ai e C)
  unfold wpOpIn;rw[B];simp only;cases U:(en i).b with
  | true =>
   rw[U]at Z;rw[Bq Z];obtain⟨ck,bs,bx,bj⟩:=af.t U;obtain⟨ρ,bd⟩:=hs;have bt:=Uq bq br bs;have av:Bd (en i).obs (Ar ops.toList en σ0 ex)=true:=by
    simp only[Bd,OR]at bj ⊢;intro p hp;have bv:∃G,lk p.1 (en i).obs=some G:=by
     have:∀(l:List (Nat×Obj)),p∈l->∃G,lk p.1 l=some G:=by
      intro l;induction l with
      | nil=>intro h;cases h
      | cons q r cc =>
       intro h;obtain⟨ce,cf⟩:=q;simp only[lk];by_cases C:p.1=ce
       .exact⟨cf,by rw[Bq C]⟩
       rw[As C];rcases By.1 h with rfl|h
       .exact absurd rfl C
       exact cc h
     exact this _ hp
    obtain⟨G,J⟩:=bv;have:lk p.1 (Ar ops.toList en σ0 ex).objs=none:=by
     cases ax:lk p.1 (Ar ops.toList en σ0 ex).objs with
     | none=>rfl
     | some cd =>
      rw[Ew H z]at ax;rcases ax with ⟨j,y,V⟩|⟨_,V⟩
      .have:=H.2 i j L (z j y) p.1 G cd J V;subst this;exact absurd y az
      rw[H.1 i L p.1 G J]at V;cases V
    simp[this]
   exact tG (A7b Y bd) bt bx av λu ρ' w' bu=>bb _ _ ⟨ρ',bd.add Y.K Y.O ar av bu⟩
  | false =>
   rw[U]at Z;rw[As (by simp[Z])];refine⟨λ_ _=>trivial,?_⟩;have:=af.f U;have ab:=NL Y hs ar;refine bb _ _ ?_;rw[this.1,this.2];exact ab
end
theorem A1f {c:Cx} {ops:Array Oper} {k:Nat} {σ0:St} {en:Nat->En} {Q:Exit->Act->World->Prop} (h:c.Ok) (I:∀o∈ops.toList,JF c.nt o=true) (hF:∀j o,j<k->ops[j]?=some o->Vo c.tb ops.toList true σ0 en j o) (hk:k<=ops.size)
  {σ2:St} (E:∀s v,lk s σ2.env=some v->lk s (Ar ops.toList en σ0 (Ag k)).env=some v) (F:σ2.objs=(Ar ops.toList en σ0 (Ag k)).objs) (hT:∀d w',c.sat σ2 d w'->wpListIn (FR c.r) 0 c.P ops Q (ops.toList.drop k) d w'):∀(m i:Nat) (a:Act) (w:World),m+i=k->c.sat (Ar ops.toList en σ0 (Ag i)) a w->wpListIn (FR c.r) 0 c.P ops Q (ops.toList.drop i) a w:=by
 intro m;induction m with
 | zero =>
  intro i a w hi hs;have:i=k:=by omega
  subst this;exact hT _ _ (Ur E (λ_=>by rw[F]) hs)
 | succ m U =>
  intro i a w hi hs;have q:ops[i]?=some (ops[i]'(by omega)):=Ym (by omega);generalize ops[i]'(by omega)=o at q;have H:ops.toList.drop i=o :: ops.toList.drop (i+1):=by
   have:i<ops.toList.length:=by simp;omega
   rw[On this];grind
  rw[H];have p:=hF i o (by omega) q;have n:=MK hs p.g;have J:o∈ops.toList:=by grind
  have y:=Ct (I o J);have T:Ak ops.toList i=o.dst:=by simp[Ak,q]
  have B:∀d w',c.sat ((Ar ops.toList en σ0 (Ag i)).add (en i).v (en i).obs o.dst) d w'->wpListIn (FR c.r) 0 c.P ops Q (ops.toList.drop (i+1)) d w':=by grind [Ag,Ar]
  unfold wpListIn;cases e:(en i).b with
  | true =>
   rw[e]at n;rw[Bq n];obtain⟨S,A,R,z⟩:=p.t e;obtain⟨ρ,C⟩:=hs;have L:∀l:List Nat,B5 true (HP o.op) σ0.objs (ES ops.toList en l)=(Ar ops.toList en σ0 l).objs:=by
    intro l;rw[Fb];induction l with
    | nil=>rfl
    | cons x r D=>simp only[ES,UY,B5,Bool.true_or,ZU,AFm,UT]at D ⊢;rw[D]
   have M:aq c.tb (Ar ops.toList en σ0 (Ag i)) (o.dst.getD 0) o.op=some (S,(en i).v,(en i).obs):=by
    rw[L]at A;exact A
   exact tG (A7b h C) M R z λu ρ' w' N=>B _ _ ⟨ρ',C.add h.K h.O y z N⟩
  | false =>
   rw[e]at n;rw[As (by simp[n])];refine⟨λ_ _=>trivial,?_⟩;have:=p.f e;have G:=NL h hs y;refine B _ _ ?_;rw[this.1,this.2];exact G
theorem NW {tb:Tb} {ops:List Oper} {q:Bool} {base:List (Nat×Obj)} {rest:List Oper}:∀ {fr:List Oper} {i:Nat} {E:List (Nat×List (Nat×Obj))} {G:Gs} {σ σ':St} {vc:Prop},MJ tb ops q base rest fr i E G σ=some (vc,σ')->vc ->
  ∃(e f:Prop) (j:St),MJ tb ops q base [] fr i E G σ=some (e,j)/\e/\Br tb ops rest j=some (f,σ')/\f
 | [],i,E,G,σ,σ',vc,h,k=>by grind [MJ,Br]
 | o :: r,i,E,G,σ,σ',vc,h,k=>by
  simp only[MJ]at h;cases l:IL ops G σ.env i o.guard with
  | none=>rw[l]at h;simp[evMG]at h
  | some p =>
   obtain⟨c,T⟩:=p;rw[l]at h;simp only[evMG]at h;cases m:opM tb ops q base c G E σ.env o (IM o.op) with
   | none=>rw[m]at h;cases c<;>simp[evMQ]at h
   | some x =>
    obtain⟨u,v,obs⟩:=x;rw[m]at h;cases c with
    | nil =>
     cases a:o.dst with
     | none=>rw[a]at h;simp[evMQ]at h
     | some d =>
      rw[a]at h;simp only[evMQ]at h;split at h
      .rename_i hf;cases b:MJ tb ops q base rest r (i+1) (J6 d obs E) G (σ.add v obs (some d)) with
       | none=>rw[b]at h;simp[Yy]at h
       | some y =>
        obtain⟨w,σ2⟩:=y;rw[b]at h;simp only[Yy]at h;cases h;obtain⟨e,f,j,h1,n,s,t⟩:=NW b k.2;exact⟨u/\e,f,j,by simp only[MJ,l,evMG,m,a,evMQ,h1,Yy];rw[Bq hf],⟨k.1,n⟩,s,t⟩
      cases h
    | cons g c =>
     cases obs with
     | cons z A=>cases a:o.dst<;>rw[a]at h<;>simp[evMQ]at h
     | nil =>
      cases a:o.dst with
      | none=>rw[a]at h;simp[evMQ]at h
      | some d =>
       rw[a]at h;simp only[evMQ]at h;split at h
       .rename_i hf;cases b:MJ tb ops q base rest r (i+1) E ((d,g :: c,T,v) :: G) σ with
        | none=>rw[b]at h;simp[Yy]at h
        | some y =>
         obtain⟨w,σ2⟩:=y;rw[b]at h;simp only[Yy]at h;cases h;obtain⟨e,f,j,h1,n,s,t⟩:=NW b k.2;exact⟨(T=true->u)/\e,f,j,by simp only[MJ,l,evMG,m,a,evMQ,h1,Yy];rw[Bq hf],⟨k.1,n⟩,s,t⟩
       cases h
theorem ACa {ops:List Oper} {q:Bool} {σ0:St} {en:Nat->En}:Inv ops q σ0 en 0 [] [] σ0 :=
 { env:=λ_ _ h=>h,G:=λs c T v h=>absurd h (by simp),f:=λj a=>absurd a (by omega),objs:=rfl,E:=λ_=>rfl }
section
variable {c:Cx} {R:Exit->Act->World->Prop} {k:List DI} {σ σ':St}
def Lt (c:Cx) (R:Exit->Act->World->Prop) (k:List DI) (ops:Array Oper) (l:List Oper) (σ:St):Prop :=
 (∀o∈l,JF c.nt o=true)->DB c.nt k=true->∀a w,c.sat σ a w->wpListIn (FR c.r) 0 c.P ops (Un c R k) l a w
theorem A7f {ops:Array Oper} (h:Ev c R (.out .normal) k σ):Lt c R k ops [] σ:=λ_ b a w hs=>h rfl b a w hs
theorem Qh (f:c.Ok) {ops:Array Oper} {l:List Oper} (n:Nat) {vc:Prop} (h:Br c.tb ops.toList (l.take n) σ=some (vc,σ')) (i:vc) (hk:Lt c R k ops (l.drop n) σ'):Lt c R k ops l σ:=by
 intro h1 e a w hs;have:=Ro (r:=l.drop n) f (l.take n) hs (λo b=>h1 o (Yb b)) h i (λd w' g=>hk (λo b=>h1 o (AB4 b)) e d w' g)
 rwa [AAT]at this
theorem A3G (z:c.P.follows .mixedOrders=true) (u:c.Ok) {id:Nat} {l:List Oper} (n:Nat) (d:Qb l (l.take n).length=true) {vc:Prop}
  (h:MJ c.tb l false σ.objs [] (l.take n) 0 [] [] σ=some (vc,σ')) (C:vc) (hk:Lt c R k l.toArray (l.drop n) σ') :
  Ev c R (.run (.region id l.toArray true)) k σ:=by
 intro h1 r a w hs;simp only[Ha,BZ,OR]at h1;have d:=AC9 (ops:=l.toArray) (k:=(l.take n).length) (anc:=A3B l) (by simpa only[Qb] using d);have hu:o6 l (l.take n).length:=by
  intro x y D g;have m:y<l.length:=by simp at g;omega
  have A:l.toArray[y]?=some l[y]:=by simp[m]
  have:=(d.front y _ A g).2.2 x D;simpa[Ak,m] using this
 obtain⟨en,_,hF,F,σ2,f,E,s,t⟩:=Ru (ops:=l) (q:=false) (σ0:=σ) (en:=λ_=>⟨false,.top,[]⟩) hu h C ACa (by simp) (λj b=>by
  have b:j<(l.take n).length:=b;rw[tO,YS];simp only[OS]at b;rw[Bq (by omega)])
 refine wpIn_region_any z ?_;have v:l.drop (l.take n).length=l.drop n:=by simp_all
 simp only[Br]at f;cases f;have:=A1e (c:=c) (ops:=l.toArray) (k:=(l.take n).length) (σ0:=σ) (en:=en) (Q:=Un c R k) u d (by simpa using h1)
  (λj o b e=>hF j o (by omega) b (by simpa using e)) (σ2:=σ') s t (λp w' B=>by
   rw[show (l.toArray.toList.drop _)=l.drop n from v];exact hk (λo e=>h1 o (by simpa using AB4 e)) r p w' B)
  l.toArray.size [] (Array.replicate l.toArray.size false) a { w with drawn:=w.drawn+1 } (by simp) (by simp) (by simp) (by simp) (λi hi=>by simp at hi;simp[Array.getD,hi]) (λi o _ hi=>by simp at hi) (jA hs)
 exact this
theorem o7 (r:c.Ok) {id:Nat} {l:List Oper} (n:Nat) (f:o4 l (l.take n).length=true) {vc:Prop}
  (h:MJ c.tb l true σ.objs [] (l.take n) 0 [] [] σ=some (vc,σ')) (u:vc) (hk:Lt c R k l.toArray (l.drop n) σ') :
  Ev c R (.run (.region id l.toArray false)) k σ:=by
 intro h1 i a w hs;simp only[Ha,BZ,OR]at h1;simp only[o4,An,OR,Ue,DO]at f;have hu:o6 l (l.take n).length:=by
  intro x y z A;grind [Ak]
 obtain⟨en,_,hF,B,σ2,e,v,m,p⟩:=Ru (ops:=l) (q:=true) (σ0:=σ) (en:=λ_=>⟨false,.top,[]⟩) hu h u ACa (by simp) (λj b=>by
  have b:j<(l.take n).length:=b;rw[tO,YS];simp only[OS]at b;rw[Bq (by omega)])
 have s:l.drop (l.take n).length=l.drop n:=by simp_all
 refine AFC ?_;simp only[Br]at e;cases e;have:=A1f (c:=c) (ops:=l.toArray) (k:=(l.take n).length) (σ0:=σ) (en:=en) (Q:=Un c R k) r (by simpa using h1)
  (λj o b d=>hF j o (by omega) b (by simpa using d)) (by simpa using f.1) (σ2:=σ') m p (λg w' t=>by
   rw[show (l.toArray.toList.drop _)=l.drop n from s];exact hk (λo d=>h1 o (by simpa using AB4 d)) i g w' t)
  (l.take n).length 0 a w (by simp) hs
 exact this
theorem c8 (e:c.Ok) {ops:Array Oper} {l:List Oper} {vc:Prop} (h:Br c.tb ops.toList l σ=some (vc,σ')) (g:vc) (hk:Ev c R (.out .normal) k σ'):Lt c R k ops l σ:=by
 intro h1 d a w hs;exact QV e l hs h1 h g (λb w' f=>hk rfl d b w' f)
theorem jB (e:c.P.follows .mixedOrders=true) (a:c.Ok) {id:Nat} {l:List Oper} (n:Nat) (d:Qb l (l.take n).length=true) {vc:Prop}
  (h:MJ c.tb l false σ.objs (l.drop n) (l.take n) 0 [] [] σ=some (vc,σ')) (f:vc) (hk:Ev c R (.out .normal) k σ') :
  Ev c R (.run (.region id l.toArray true)) k σ:=by
 obtain⟨j,m,o,h1,g,b,i⟩:=NW h f;exact A3G e a n d h1 g (c8 a b i hk)
theorem o8 (a:c.Ok) {id:Nat} {l:List Oper} (n:Nat) (d:o4 l (l.take n).length=true) {vc:Prop}
  (h:MJ c.tb l true σ.objs (l.drop n) (l.take n) 0 [] [] σ=some (vc,σ')) (e:vc) (hk:Ev c R (.out .normal) k σ') :
  Ev c R (.run (.region id l.toArray false)) k σ:=by
 obtain⟨i,j,m,h1,f,b,g⟩:=NW h e;exact o7 a n d h1 f (c8 a b g hk)
theorem A3H (d:c.P.follows .mixedOrders=true) (a:c.Ok) {id:Nat} {l:List Oper} (b:Qb l l.length=true) {vc:Prop}
  (h:MJ c.tb l false σ.objs [] l 0 [] [] σ=some (vc,σ')) (e:vc) (hk:Ev c R (.out .normal) k σ') :
  Ev c R (.run (.region id l.toArray true)) k σ :=
 jB d a l.length (by rw[UO];exact b) (by rw[UO,AAo];exact h) e hk
theorem A3I (m:Nat) (d:c.P.follows .mixedOrders=true) (a:c.Ok) {id:Nat} {l:List Oper} (b:Qb l (l.take (l.length-m)).length=true) {vc:Prop}
  (h:MJ c.tb l false σ.objs (l.drop (l.length-m)) (l.take (l.length-m)) 0 [] [] σ=some (vc,σ')) (e:vc) (hk:Ev c R (.out .normal) k σ') :
  Ev c R (.run (.region id l.toArray true)) k σ:=jB d a _ b h e hk
theorem o9 (a:c.Ok) {id:Nat} {l:List Oper} (b:o4 l l.length=true) {vc:Prop}
  (h:MJ c.tb l true σ.objs [] l 0 [] [] σ=some (vc,σ')) (d:vc) (hk:Ev c R (.out .normal) k σ') :
  Ev c R (.run (.region id l.toArray false)) k σ :=
 o8 a l.length (by rw[UO];exact b) (by rw[UO,AAo];exact h) d hk
theorem pA (a:c.Ok) {id:Nat} {l:List Oper} (_:(l.all λo=>o.guard.isNone)=true) {vc:Prop} (h:Br c.tb l l σ=some (vc,σ')) (b:vc) (hk:Ev c R (.out .normal) k σ') :
  Ev c R (.run (.region id l.toArray false)) k σ:=oX a h b hk
end
end
section
open Go Go.RowKit
theorem c9 {c:Cx} {σ b σ':St} (l:List Nat) (h:Cr l σ=b) (d:Ent c b σ'):Ent c σ σ':=by
 intro a w hs;obtain⟨ρ,hs⟩:=hs;exact d a w ⟨ρ,by rw[<-h];exact K5 hs⟩
theorem J9 {α:Type} (a b:List α):(a++b).take (a.length+b.length)=a++b:=At (by simp)
theorem Qi {α:Type} (a b:List α):sub (a++b) 0 (a.length+b.length)=a++b:=by rw[IK,J9]
theorem Hw {α:Type} (a:List α) (x:α):(a++[x]).take (a.length+1)=a++[x]:=At (by simp)
theorem ML {α:Type} (a:List α) (x:α):sub (a++[x]) 0 (a.length+1)=a++[x]:=by rw[IK,Hw]
theorem AAW {P:Program} {tb:Tb} {w0:World} {O0:Nat->Prop} {nt:Nat} (b:(cx P tb w0 O0 nt).Ok) {fn:Func} {outs:List RV} {σ:St} {e:Exit} (a:List ResultVar) (f:fn.results.toList=a) (c:e=.ret\/e=.normal) (hp:∀r∈outs,∃t d,r=.p t d) (h:OM tb σ a outs) :
  Ev (cx P tb w0 O0 nt) (TA P fn w0 O0 outs) (.out e) [] σ:=A3y b c hp (by rw[f];exact h)
theorem jC:((0:Nat):Int)=0:=rfl
theorem jD (k:Nat):((k+1:Nat):Int)=(k:Int)+1:=by omega
theorem AE {α:Type} (l:List α) (d:α) {k:Nat} (h:k<l.length):l.getD k d∈l:=by
 rw[AS,AT h];exact YZ h
theorem AH {P:Program} {ty:List (Nat×TI)} {b:List Nat} {ne:List (Nat×TypeId)} {a:List Nat}:JD P ⟨ty,[],b,ne,a⟩:=λf sp h=>by simp[lk]at h
theorem AF {P:Program} {ty:List (Nat×TI)} {c:List Nat} {ne:List (Nat×TypeId)} {b:List Nat} {f:Nat} {sp:AZ} {r:List (Nat×AZ)} (h:Ad P f sp) (d:JD P ⟨ty,r,c,ne,b⟩):JD P ⟨ty,(f,sp) :: r,c,ne,b⟩:=λg i a=>by
 simp only[lk]at a;split at a
 .rename_i e;cases a;rw[e];exact h
 exact d g i a
theorem KA {α:Type} (x:α):[x].take 1=[x]:=rfl
theorem Av {α:Type} (l:List α) (d:α) {k:Nat} (h:k<l.length):l.take (k+1)=l.take k++[l.getD k d]:=by
 rw[AGe,AS,AT h];rfl
theorem Qj {α:Type} (l:List α) (q:Nat):sub l q l.length=l.drop q:=by
 unfold sub;rw[At (by simp)]
end
end Go.Proofs.YtapkhdkbkodbjaaGreat.Fw
