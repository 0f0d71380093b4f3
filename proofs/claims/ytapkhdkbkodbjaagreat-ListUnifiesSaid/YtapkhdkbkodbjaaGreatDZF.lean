/- Regions whose order Go leaves open: the rules. -/
import Derived.Test.YtapkhdkbkodbjaaGreatDZE
set_option linter.unusedVariables false
set_option linter.unusedSimpArgs false
namespace Go.Proofs.YtapkhdkbkodbjaaGreat.Fw
section
open Go Go.RowKit
def EE (o:Oper):List Nat:=(o.after.toList.filter (Region.binds .any)).map (·.on)
def Al (ops:List Oper) (j:Nat):Option Nat:=(ops[j]?).bind (·.dst)
def QG:Operand->Option Nat
 | .tmp t=>some t
 | _=>none
def NE (ops:List Oper) (o:Oper):List Nat:=(o.op.operands.toList.filterMap QG)++(match o.guard with|some (j,_)=>(Al ops j).toList|none=>[])
def AAy (a b:List Nat):List Nat:=a.foldl (λr x=>if Aa x r then r else x :: r) b
def A2j (ops:List Oper):List (List Nat):=ops.foldl (λ(a:List (List Nat)) o=>a++[(EE o).foldl (λr e=>AAy (a.getD e []) (if Aa e r then r else e :: r)) []]) []
def opB (ops:List Oper) (k:Nat) (anc:List (List Nat)) (i:Nat) (o:Oper):Bool :=
  (EE o).all (λe=>decide (e<i)) &&
  (anc.getD i []).all (λj=>Aa j (EE o)||(EE o).any λe=>Aa j (anc.getD e [])) &&
  (if i<k then o.dst.isSome&&((NE ops o).all λt=>(List.range k).all λj=>Al ops j != some t||Aa j (anc.getD i []))&&((List.range i).all λj=>Al ops j != o.dst)
   else (List.range i).all λj=>Aa j (anc.getD i []))
def mE (ops:List Oper) (k:Nat) (anc:List (List Nat)):Bool :=
 decide (k<=ops.length)&&(List.range ops.length).all λi=>match ops[i]? with|some o=>opB ops k anc i o|none=>false
def QH (ops:List Oper) (k:Nat):Bool:=mE ops k (A2j ops)
def mF (ops:List Oper) (k:Nat):Bool :=
 decide (k<=ops.length)&&(List.range k).all λi=>match ops[i]? with|some o=>o.dst.isSome&&((List.range i).all λj=>Al ops j != o.dst)|none=>false
def B4 (q:Bool) (ts:List Nat) (base:List (Nat×Obj)):List (Nat×List (Nat×Obj))->List (Nat×Obj)
 | []=>base
 | (s,obs) :: r=>if (q||Aa s ts)=true then obs++B4 q ts base r else B4 q ts base r
def HK (o:Op):List Nat:=o.operands.toList.filterMap QG
def L2 (q:Bool) (o:Op) (base:List (Nat×Obj)):List (Nat×List (Nat×Obj))->List (Nat×Obj)
 | []=>base
 | e :: r=>B4 q (HK o) base (e :: r)
def Jy (d:Nat) (obs:List (Nat×Obj)) (E:List (Nat×List (Nat×Obj))):List (Nat×List (Nat×Obj)) :=
 match obs with
 | []=>E
 | x :: r=>(d,x :: r) :: E
abbrev Ch:=List (Nat×Bool)
abbrev Gs:=List (Nat×(Ch×Bool×AV))
def Oa:Ch->Ch->Bool
 | [],[]=>true
 | (j,w) :: r,(a,w') :: b=>(j==a)&&(w==w')&&Oa r b
 | [],_ :: _=>false
 | _ :: _,[]=>false
theorem L3:Oa [] []=true:=rfl
theorem QI (x:Nat×Bool) (r:Ch):Oa [] (x :: r)=false:=rfl
theorem QJ (x:Nat×Bool) (r:Ch):Oa (x :: r) []=false:=rfl
theorem Jz (j a:Nat) (w w':Bool) (r b:Ch):Oa ((j,w) :: r) ((a,w') :: b)=(decide (j=a)&&(w==w')&&Oa r b):=by grind [Oa]
def UO (a:Ch):Ch->Bool
 | []=>Oa a []
 | k :: r=>Oa a (k :: r)||UO a r
def J0 (c:Ch):Gs->List (Nat×AV)->List (Nat×AV)
 | [],env=>env
 | (s,a,_,v) :: G,env=>if UO a c=true then (s,v) :: J0 c G env else J0 c G env
def Kx (j:Nat) (a:Bool):Option (Ch×Bool×AV)->Option AV->Option (Ch×Bool)
 | some (c,T,.p .bool b),_=>some ((j,a) :: c,T&&(b==a))
 | none,some (.p .bool b)=>some ([(j,a)],b==a)
 | _,_=>none
def JB (G:Gs) (env:List (Nat×AV)) (j:Nat) (a:Bool):Option Nat->Option (Ch×Bool)
 | some s=>Kx j a (lk s G) (lk s env)
 | none=>none
def IA (ops:List Oper) (G:Gs) (env:List (Nat×AV)) (i:Nat):Option (Nat×Bool)->Option (Ch×Bool)
 | none=>some ([],true)
 | some (j,a)=>if j<i then JB G env j a (Al ops j) else none
def Ob (ops:List Oper) (c:Ch) (s:Nat) (w:Bool):Option (Ch×Bool×AV)->Option AV->Option AV
 | some (a,_,v),_=>if UO a c=true then some v else match a with
  | []=>none
  | (j,w') :: r=>if w'=w/\Al ops j=some s/\Oa r c=true then some v else none
 | none,x=>x
def LY (ops:List Oper) (c:Ch) (G:Gs) (env:List (Nat×AV)) (s:Nat) (w:Bool):Operand->Option AV
 | .tmp t=>Ob ops c s w (lk t G) (lk t env)
 | .const v=>some (HY v)
 | .func _=>none
 | .global _=>none
def Oc:Option AV->Option AV->Option AV->BU
 | some (.p .bool b),some (.p .bool p),some (.p .bool q)=>some (True,.p .bool (bif b then p else q),[])
 | _,_,_=>none
def Nx (ops:List Oper) (c:Ch) (G:Gs) (env:List (Nat×AV)):Operand->Operand->Operand->BU
 | .tmp s,x,y=>Oc (lk s (J0 c G env)) (LY ops c G env s true x) (LY ops c G env s false y)
 | .const _,_,_=>none
 | .func _,_,_=>none
 | .global _,_,_=>none
def IB:Op->Option (Operand×Operand×Operand)
 | .pick s x y=>some (s,x,y)
 | _=>none
def opM (tb:Tb) (ops:List Oper) (q:Bool) (base:List (Nat×Obj)) (c:Ch) (G:Gs) (E:List (Nat×List (Nat×Obj))) (env:List (Nat×AV)) (o:Oper):Option (Operand×Operand×Operand)->BU
 | some (s,x,y)=>Nx ops c G env s x y
 | none=>aq tb ⟨J0 c G env,L2 q o.op base E⟩ (o.dst.getD 0) o.op
mutual
def L4 (tb:Tb) (ops:List Oper) (q:Bool) (base:List (Nat×Obj)) (rest:List Oper):List Oper->Nat->List (Nat×List (Nat×Obj))->Gs->St->DD
 | [],_,_,_,σ=>Bn tb ops rest σ
 | o :: r,i,E,G,σ=>evMG tb ops q base rest o r i E G σ (IA ops G σ.env i o.guard)
def evMG (tb:Tb) (ops:List Oper) (q:Bool) (base:List (Nat×Obj)) (rest:List Oper) (o:Oper) (r:List Oper) (i:Nat) (E:List (Nat×List (Nat×Obj))) (G:Gs) (σ:St):Option (Ch×Bool)->DD
 | some (c,T)=>evMQ tb ops q base rest o.dst r i E G σ c T (opM tb ops q base c G E σ.env o (IB o.op))
 | none=>none
def evMQ (tb:Tb) (ops:List Oper) (q:Bool) (base:List (Nat×Obj)) (rest:List Oper) (dst:Option Nat) (r:List Oper) (i:Nat) (E:List (Nat×List (Nat×Obj))) (G:Gs) (σ:St):Ch->Bool->BU->DD
 | [],_,some (vc,v,obs)=>match dst with
  | some d=>if Bd obs σ=true then YA vc (L4 tb ops q base rest r (i+1) (Jy d obs E) G (σ.add v obs (some d))) else none
  | none=>none
 | g :: c,T,some (vc,v,[])=>match dst with
  | some d=>if (lk d σ.env).isNone=true then YA (T=true->vc) (L4 tb ops q base rest r (i+1) E ((d,g :: c,T,v) :: G) σ) else none
  | none=>none
 | _,_,_=>none
end
structure En where
 b:Bool
 v:AV
 obs:List (Nat×Obj)
def Aq (ops:List Oper) (en:Nat->En) (σ:St):List Nat->St
 | []=>σ
 | i :: r=>(Aq ops en σ r).add (en i).v (en i).obs (Al ops i)
def Ai:Nat->List Nat
 | 0=>[]
 | i+1=>i :: Ai i
end
section
open Go Go.RowKit
section
variable {tb:Tb} {ops:List Oper} {k:Nat} {q:Bool} {anc:List (List Nat)} {σ0:St} {en:Nat->En}
def ES (ops:List Oper) (en:Nat->En) (l:List Nat):List (Nat×List (Nat×Obj)):=l.map λj=>((Al ops j).getD 0,(en j).obs)
def Ky (ops:List Oper) (σ:St) (b:Bool):Option (Nat×Bool)->Prop
 | none=>b=true
 | some (j,a)=>∃s,Al ops j=some s/\((∃x,lk s σ.env=some (.p .bool x)/\b=(x==a))\/(lk s σ.env=some (.raw undef)/\b=false))
structure Ve (tb:Tb) (ops:List Oper) (q:Bool) (σ0:St) (en:Nat->En) (i:Nat) (o:Oper):Prop where
 g:Ky ops (Aq ops en σ0 (Ai i)) (en i).b o.guard
 t:(en i).b=true->∃vc:Prop,aq tb ⟨(Aq ops en σ0 (Ai i)).env,B4 q (HK o.op) σ0.objs (ES ops en (Ai i))⟩ (o.dst.getD 0) o.op=some (vc,(en i).v,(en i).obs)/\vc/\Bd (en i).obs (Aq ops en σ0 (Ai i))=true
 f:(en i).b=false->(en i).v=.raw undef/\(en i).obs=[]
theorem Kz {a:Nat->En}:∀ {l:List Nat},(∀j∈l,a j=en j)->Aq ops a σ0 l=Aq ops en σ0 l
 | [],_=>rfl
 | i :: r,h=>by
  simp only[Aq];rw[Kz (λj b=>h j (by simp[b])),h i (by simp)]
theorem BE {i j:Nat}:j∈Ai i↔j<i:=by
 induction i with
 | zero=>simp[Ai]
 | succ i a=>simp[Ai,a];omega
theorem FY:∀(l:List Nat),(Aq ops en σ0 l).objs=(l.flatMap λj=>(en j).obs)++σ0.objs
 | []=>rfl
 | i :: r=>by
  simp only[Aq,AEP,RN];rw[<-FY r];cases Al ops i<;>rfl
theorem FZ (s:Nat):∀(l:List Nat),lk s (Aq ops en σ0 l).env=match l.find? (λj=>Al ops j==some s) with|some j=>some (en j).v|none=>lk s σ0.env
 | []=>rfl
 | i :: r=>by
  simp only[Aq,List.find?_cons];cases a:Al ops i with
  | none =>
   simp only[St.add];rw[FZ s r];have:((none:Option Nat)==some s)=false:=rfl;rw[this]
  | some d =>
   simp only[St.add,lk];by_cases hs:s=d
   .subst hs;simp
   have h1:((some d:Option Nat)==some s)=false:=by
    have:d≠s:=λe=>hs e.symm;simpa using this
   rw[As hs,FZ s r,h1]
theorem qL {n:Nat} {o:Obj} {l:List Nat} (h:lk n (l.flatMap λj=>(en j).obs)=some o):∃j∈l,lk n (en j).obs=some o:=by
 induction l with
 | nil=>simp[lk]at h
 | cons i r d =>
  rw[AEP,A5]at h;cases a:lk n (en i).obs with
  | some e =>
   rw[a]at h;exact⟨i,by simp,by rw[a];simpa using h⟩
  | none =>
   rw[a]at h;obtain⟨j,b,c⟩:=d (by simpa using h);exact⟨j,by simp[b],c⟩
theorem K0 {n:Nat} {l:List Nat} (h:lk n (l.flatMap λj=>(en j).obs)=none):∀j∈l,lk n (en j).obs=none:=by
 induction l with
 | nil=>simp
 | cons i r c =>
  rw[AEP,A5]at h;cases a:lk n (en i).obs with
  | some d=>rw[a]at h;simp at h
  | none =>
   rw[a]at h;intro j b;rcases DO.1 b with rfl|b
   .exact a
   grind
def Sep (σ0:St) (en:Nat->En) (k:Nat):Prop :=
 (∀j,j<k->∀n o,lk n (en j).obs=some o->lk n σ0.objs=none)/\∀i j,i<k->j<k->∀n o a,lk n (en i).obs=some o->lk n (en j).obs=some a->i=j
theorem Et (f:Sep σ0 en k) {l:List Nat} (hl:∀j∈l,j<k) (n:Nat) (o:Obj):lk n (Aq ops en σ0 l).objs=some o↔(∃j∈l,lk n (en j).obs=some o)\/((∀j∈l,lk n (en j).obs=none)/\lk n σ0.objs=some o):=by
 rw[FY,A5];cases h:lk n (l.flatMap λj=>(en j).obs) with
 | some g =>
  obtain⟨j,b,a⟩:=qL h;simp only[AFo];constructor
  .grind
  rintro (⟨c,d,e⟩|⟨h1,_⟩)
  .have:=f.2 j c (hl j b) (hl c d) n g o a e;grind
  rw[h1 j b]at a;cases a
 | none =>
  have hn:=K0 h;simp only[Option.none_or];constructor
  .grind
  grind
theorem A2l (f:Sep σ0 en k) {ts:List Nat} {l l':List Nat} (hl:∀j∈l,j<k) (e:∀j∈l',j<k) (d:∀j∈l,(q||Aa ((Al ops j).getD 0) ts)=true->j∈l') {n:Nat} {o:Obj} :
  lk n (B4 q ts σ0.objs (ES ops en l))=some o->lk n (Aq ops en σ0 l').objs=some o:=by
 rw[Et f e];induction l with
 | nil =>
  simp only[ES,AEL,B4];intro h;refine .inr ⟨λj b=>?_,h⟩;cases a:lk n (en j).obs with
  | none=>rfl
  | some g=>have:=f.1 j (e j b) n g a;rw[this]at h;cases h
 | cons i r c =>
  simp only[ES,RS,B4];have c:=c (λj b=>hl j (by simp[b])) (λj b=>d j (by simp[b]));split
  .rename_i m;intro h;rw[A5]at h;cases a:lk n (en i).obs with
   | some g =>
    rw[a]at h;simp only[AFo]at h;cases h;exact .inl ⟨i,d i (by simp) m,a⟩
   | none =>
    rw[a]at h;exact c (by simpa[ES] using h)
  exact c
theorem QK:∀ {a b:Ch},Oa a b=true↔a=b
 | [],[]=>by simp[Oa]
 | (j,w) :: r,(d,w') :: c=>by simp[Oa,QK (a:=r) (b:=c),and_assoc]
 | [],_ :: _=>by simp[Oa]
 | _ :: _,[]=>by simp[Oa]
def bv:AV->Bool
 | .p .bool b=>b
 | _=>false
def tr (en:Nat->En):Ch->Bool
 | []=>true
 | (j,w) :: r=>tr en r&&(bv (en j).v==w)
theorem Vf {a:Nat->En}:∀ {c:Ch},(∀k∈c,a k.1=en k.1)->tr a c=tr en c
 | [],_=>rfl
 | (j,w) :: r,h=>by
  have h1:=h (j,w) (by simp);simp only at h1;simp only[tr];rw[Vf (λk hk=>h k (by simp[hk])),h1]
theorem mG {b:Ch}:∀ {c:Ch},UO b c=true->tr en c=true->tr en b=true
 | [],h,a=>by simp only[UO,QK]at h;rw[h];exact a
 | k :: r,h,a=>by
  simp only[UO,Sx,QK]at h;rcases h with rfl|h
  .exact a
  obtain⟨j,w⟩:=k;simp only[tr,An]at a;exact mG h a.1
structure Inv (ops:List Oper) (q:Bool) (σ0:St) (en:Nat->En) (i:Nat) (E:List (Nat×List (Nat×Obj))) (G:Gs) (σ:St):Prop where
 env:∀s v,lk s σ.env=some v->lk s (Aq ops en σ0 (Ai i)).env=some v
 G:∀s c T v,(s,c,T,v)∈G->T=tr en c/\(T=true->lk s (Aq ops en σ0 (Ai i)).env=some v)/\(∀k∈c,k.1<i)/\∃j,j<i/\Al ops j=some s/\(en j).b=T
 f:∀j,j<i->(en j).b=false->(en j).v=.raw undef
 objs:σ.objs=(Aq ops en σ0 (Ai i)).objs
 E:∀ts,B4 q ts σ0.objs E=B4 q ts σ0.objs (ES ops en (Ai i))
def mH (ops:List Oper) (k:Nat):Prop:=∀a b,a<b->b<k->Al ops a≠Al ops b
theorem Yj (hu:mH ops k) {i j s:Nat} (d:i<=k) (c:j<i) (b:Al ops j=some s):lk s (Aq ops en σ0 (Ai i)).env=some (en j).v:=by
 rw[FZ];have:(Ai i).find? (λj=>Al ops j==some s)=some j:=by
  cases hf:(Ai i).find? (λj=>Al ops j==some s) with
  | none =>
   have:=AFj.1 hf j (BE.2 c);simp[b]at this
  | some x =>
   have h1:=BE.1 (AEQ hf);have a:=AFB hf;have a:Al ops x=some s:=by simpa using a
   rcases AEZ x j with h|h|h
   .exact absurd (a.trans b.symm) (hu x j h (by omega))
   .rw[h]
   exact absurd (b.trans a.symm) (hu j x h (by omega))
 rw[this]
theorem Rx {c:Ch} {s:Nat} {v:AV} {env:List (Nat×AV)}:∀ {G:Gs},lk s (J0 c G env)=some v->(∃b T,(s,b,T,v)∈G/\UO b c=true)\/lk s env=some v
 | [],h=>.inr h
 | (e,b,T,f) :: G,h=>by
  simp only[J0]at h;split at h
  .rename_i hs;simp only[lk]at h;split at h
   .grind
   rcases Rx h with ⟨c2,T2,d,a⟩|a
   .grind
   exact .inr a
  rcases Rx h with ⟨c2,T2,d,a⟩|a
  .grind
  exact .inr a
section
variable {i:Nat} {E:List (Nat×List (Nat×Obj))} {G:Gs} {σ:St}
theorem fB (a:Inv ops q σ0 en i E G σ) {c:Ch} (f:tr en c=true) {s:Nat} {v:AV} (h:lk s (J0 c G σ.env)=some v):lk s (Aq ops en σ0 (Ai i)).env=some v:=by
 rcases Rx h with ⟨b,T,d,hs⟩|h
 .obtain⟨h1,e,_⟩:=a.G s b T v d;grind [mG]
 exact a.env s v h
theorem z8 (m:Inv ops q σ0 en i E G σ) (hu:mH ops k) (v:i<=k) {g:Option (Nat×Bool)} {c:Ch} {T:Bool} (h:IA ops G σ.env i g=some (c,T)) :
  Ky ops (Aq ops en σ0 (Ai i)) T g/\T=tr en c/\(∀k∈c,k.1<i):=by
 cases g with
 | none =>
  simp only[IA]at h;cases h;exact⟨rfl,rfl,by simp⟩
 | some g =>
  obtain⟨j,z⟩:=g;simp only[IA]at h;split at h
  .rename_i r;cases d:Al ops j with
   | none=>rw[d]at h;simp[JB]at h
   | some s =>
    rw[d]at h;simp only[JB]at h;have e:=Yj (en:=en) (σ0:=σ0) hu v r d;unfold Kx at h;split at h
    .rename_i c0 o b n;cases h;obtain⟨h1,t,x,l,y,p,u⟩:=m.G s c0 o _ (Fu n);cases hT:o with
     | true =>
      have a:=t hT;rw[e]at a;injection a with a
      refine⟨⟨s,d,.inl ⟨b,by rw[e,a],by simp⟩⟩,?_,?_⟩
      .grind [tr,bv]
      grind
     | false =>
      have w:l=j:=by
       rcases AEZ l j with h|h|h
       .exact absurd (p.trans d.symm) (hu l j h (by omega))
       .exact h
       exact absurd (d.trans p.symm) (hu j l h (by omega))
      subst w;have a:=m.f l r (by rw[u,hT]);refine⟨⟨s,d,.inr ⟨by rw[e,a],by simp⟩⟩,?_,?_⟩
      .grind [tr]
      grind
    .rename_i b _ n;cases h;have a:=m.env s _ n;rw[e]at a;injection a with a
     refine⟨⟨s,d,.inl ⟨b,by rw[e,a],rfl⟩⟩,by simp[tr,a,bv],?_⟩;grind
    cases h
  cases h
theorem fC (d:Inv ops q σ0 en i E G σ) (hu:mH ops k) (o:i<=k) {c:Ch} (z:tr en c=true) {s:Nat} {w:Bool} (hs:lk s (Aq ops en σ0 (Ai i)).env=some (.p .bool w)) {x:Operand} {v:AV}
  (h:LY ops c G σ.env s w x=some v) {objs:List (Nat×Obj)}:Ap ⟨(Aq ops en σ0 (Ai i)).env,objs⟩ x=some v:=by
 cases x with
 | const x=>simp only[LY]at h;exact h
 | func f=>simp[LY]at h
 | global g=>simp[LY]at h
 | tmp t =>
  simp only[LY]at h;simp only[Ap];cases a:lk t G with
  | none =>
   rw[a]at h;exact d.env t v h
  | some e =>
   obtain⟨b,T,u⟩:=e;rw[a]at h;simp only[Ob]at h;obtain⟨h1,y,m,_⟩:=d.G t b T u (Fu a);split at h
   .grind [mG]
   cases b with
   | nil=>cases h
   | cons p r =>
    obtain⟨j,w'⟩:=p;simp only at h;split at h
    .rename_i hh;obtain⟨rfl,n,l⟩:=hh;rw[QK]at l;subst l;cases h;have A:=Yj (en:=en) (σ0:=σ0) hu o (m (j,w') (by simp)) n;grind [tr,bv]
    cases h
theorem A9r (a:Inv ops q σ0 en i E G σ) (hu:mH ops k) (j:i<=k) {c:Ch} (d:tr en c=true) {o:Oper} {vc:Prop} {v:AV} {obs:List (Nat×Obj)} (h:opM tb ops q σ0.objs c G E σ.env o (IB o.op)=some (vc,v,obs)) (z:vc) :
  ∃l:Prop,aq tb ⟨(Aq ops en σ0 (Ai i)).env,B4 q (HK o.op) σ0.objs (ES ops en (Ai i))⟩ (o.dst.getD 0) o.op=some (l,v,obs)/\l:=by
 cases hp:IB o.op with
 | none =>
  rw[hp]at h;simp only[opM]at h;refine⟨vc,Ue (σ:=⟨J0 c G σ.env,L2 q o.op σ0.objs E⟩) ?_ ?_ h,z⟩
  .intro n x hn;have:L2 q o.op σ0.objs E=B4 q (HK o.op) σ0.objs E:=by cases E<;>rfl
   simp only at hn ⊢;rw[this,a.E]at hn;exact hn
  intro x _ v e;cases x with
  | tmp t=>exact fB a d e
  | const A=>exact e
  | global g=>exact e
  | func f=>exact e
 | some p =>
  obtain⟨s,x,y⟩:=p;rw[hp]at h;have w:o.op=.pick s x y:=by
   unfold IB at hp;grind
  simp only[opM]at h;rw[w];cases s with
  | const _=>simp[Nx]at h
  | func _=>simp[Nx]at h
  | global _=>simp[Nx]at h
  | tmp s =>
   simp only[Nx]at h;unfold Oc at h;split at h
   .rename_i b p r h1 m u;cases h;have hs:=fB a d h1;refine⟨True,?_,trivial⟩;have h0:Ap ⟨(Aq ops en σ0 (Ai i)).env,B4 q (HK (Op.pick (.tmp s) x y)) σ0.objs (ES ops en (Ai i))⟩ (.tmp s)=some (.p .bool b):=hs;simp only[aq];rw[h0];cases b with
    | true =>
     simp only[LS];rw[fC a hu j d hs m];rfl
    | false =>
     simp only[LS];rw[fC a hu j d hs u];rfl
   cases h
end
theorem Ry {rest:List Oper} (hu:mH ops k):∀ {fr:List Oper} {i:Nat} {E:List (Nat×List (Nat×Obj))} {G:Gs} {σ σ':St} {en:Nat->En} {vc:Prop},L4 tb ops q σ0.objs rest fr i E G σ=some (vc,σ')->vc->Inv ops q σ0 en i E G σ->i+fr.length=k->(∀j,j<fr.length->ops[i+j]?=fr[j]?) ->
  ∃l:Nat->En,(∀j,j<i->l j=en j)/\(∀j o,i<=j->j<k->ops[j]?=some o->Ve tb ops q σ0 l j o) /\
   ∃(C:Prop) (σ2:St),Bn tb ops rest σ2=some (C,σ')/\C/\(∀s v,lk s σ2.env=some v->lk s (Aq ops l σ0 (Ai k)).env=some v)/\σ2.objs=(Aq ops l σ0 (Ai k)).objs
 | [],i,E,G,σ,σ',en,vc,h,F,n,hk,_=>by
  simp only[L4]at h;simp at hk;subst hk;exact⟨en,λ_ _=>rfl,λj o h1 O=>by omega,vc,σ,h,F,n.env,n.objs⟩
 | o :: r,i,E,G,σ,σ',en,vc,h,F,n,hk,ak=>by
  have ai:ops[i]?=some o:=by simpa using ak 0 (by simp)
  have P:Al ops i=o.dst:=by simp[Al,ai]
  have S:i<k:=by simp at hk;omega
  simp only[L4]at h;cases R:IA ops G σ.env i o.guard with
  | none=>rw[R]at h;simp[evMG]at h
  | some ao =>
   obtain⟨c,T⟩:=ao;obtain⟨be,hT,aa⟩:=z8 n hu (AFe S) R;rw[R]at h;simp only[evMG]at h;cases V:opM tb ops q σ0.objs c G E σ.env o (IB o.op) with
   | none =>
    rw[V]at h;unfold evMQ at h;split at h
    .rename_i Q;cases Q
    .rename_i Q;cases Q
    cases h
   | some bl =>
    obtain⟨bm,v,obs⟩:=bl;rw[V]at h;have an:∀(d:Nat) (e:En) (K:List (Nat×List (Nat×Obj))) (L:Gs) (J:St) (D:Prop),o.dst=some d->e.b=T->(T=true->bm/\e.v=v/\e.obs=obs/\Bd obs σ=true)->(T=false->e.v=.raw undef/\e.obs=[]) ->
      (∀s a,lk s J.env=some a->if s=d then a=e.v else lk s σ.env=some a)->J.objs=e.obs++σ.objs ->
      (∀s w A a,(s,w,A,a)∈L->(s,w,A,a)∈G\/(s=d/\w=c/\A=T/\a=v))->(∀ts,B4 q ts σ0.objs K=B4 q ts σ0.objs ((d,e.obs) :: E)) ->
      L4 tb ops q σ0.objs rest r (i+1) K L J=some (D,σ')->D ->
      ∃l:Nat->En,(∀j,j<i->l j=en j)/\(∀j o,i<=j->j<k->ops[j]?=some o->Ve tb ops q σ0 l j o) /\
       ∃(C:Prop) (σ2:St),Bn tb ops rest σ2=some (C,σ')/\C/\(∀s v,lk s σ2.env=some v->lk s (Aq ops l σ0 (Ai k)).env=some v)/\σ2.objs=(Aq ops l σ0 (Ai k)).objs:=by
     intro d e K L J D t H ae ad bb bf av ar bc bk
     let u:Nat->En:=λj=>if j=i then e else en j
     have N:u i=e:=by simp[u]
     have heq:∀j,j<i->u j=en j:=λj z=>by simp[u,show j≠i by omega]
     have az:Aq ops u σ0 (Ai i)=Aq ops en σ0 (Ai i):=Kz λj z=>heq j (BE.1 z);have Y:ES ops u (Ai i)=ES ops en (Ai i):=by
      apply RI;grind [BE]
     have ba:Aq ops u σ0 (Ai (i+1))=(Aq ops en σ0 (Ai i)).add e.v e.obs (some d):=by grind [Ai,Aq]
     have aj:∀s a,s≠d->lk s (Aq ops en σ0 (Ai i)).env=some a->lk s (Aq ops u σ0 (Ai (i+1))).env=some a:=by grind [St.add,lk]
     have af:lk d (Aq ops u σ0 (Ai (i+1))).env=some e.v:=by grind [St.add,lk]
     have aw:Inv ops q σ0 u (i+1) K L J:=by
      refine⟨λs a hl=>?_,λs w A a p=>?_,λj z m=>?_,?_,λts=>?_⟩
      .have:=bb s a hl;split at this
       .rename_i hs;rw[hs,this];exact af
       rename_i hs;exact aj s a hs (n.env s a this)
      .rcases av s w A a p with p|⟨rfl,rfl,rfl,rfl⟩
       .obtain⟨h1,O,M,j,z,ab,m⟩:=n.G s w A a p;have bg:s≠d:=by
         rintro rfl;exact hu j i z S (by rw[ab,P,t])
        refine⟨by rw[Vf (en:=en) λk hk=>heq _ (M k hk)];exact h1,λhT=>aj s a bg (O hT),λk hk=>by have:=M k hk;omega,j,by omega,ab,by rw[heq j z];exact m⟩
       refine⟨by rw[Vf (en:=en) λk hk=>heq _ (aa k hk)];exact hT,λax=>?_,λk hk=>by have:=aa k hk;omega,i,by omega,by rw[P,t],by rw[N];exact H⟩;rw[af,(ae ax).2.1]
      .by_cases U:j=i
       .subst U;rw[N]at m ⊢;exact(ad (by rw[<-H];exact m)).1
       rw[heq j (by omega)]at m ⊢;exact n.f j (by omega) m
      .rw[ba,bf,n.objs];rfl
      rw[ar];simp only[ES,Ai,RS,N,P,t,AF4,B4];have:=n.E ts;rw[<-Y]at this;simp only[ES]at this;rw[this]
     obtain⟨l,h1,O,M⟩:=Ry hu bc bk aw (by simp at hk ⊢;omega) (λj z=>by
      have:=ak (j+1) (by simp;omega);rw[show i+(j+1)=i+1+j by omega]at this;simpa using this)
     refine⟨l,λj z=>by rw[h1 j (by omega),heq j z],λj bp bn bo ah=>?_,M⟩;by_cases U:j=i
     .subst U;rw[ai]at ah;cases ah;have I:l j=e:=by rw[h1 j (by omega),N]
      have Z:Aq ops l σ0 (Ai j)=Aq ops en σ0 (Ai j):=by
       rw[<-az];exact Kz λq W=>h1 q (by have:=BE.1 W;omega)
      have au:ES ops l (Ai j)=ES ops en (Ai j):=by
       rw[<-Y];apply RI;intro q W;rw[h1 q (by have:=BE.1 W;omega)]
      refine⟨by rw[Z,I,H];exact be,λm=>?_,λm=>?_⟩
      .rw[I,H]at m;obtain⟨bh,bi,bj,am⟩:=ae m;obtain⟨C,ap,aq⟩:=A9r n hu (AFe S) (by rw[<-hT];exact m) V bh;rw[I,Z,au,bi,bj];exact⟨C,ap,aq,by
        simp only[Bd]at am ⊢;rw[<-n.objs];exact am⟩
      rw[I,H]at m;rw[I];exact ad m
     grind
    cases c with
    | nil =>
     cases t:o.dst with
     | none=>rw[t]at h;simp[evMQ]at h
     | some d =>
      rw[t]at h;simp only[evMQ]at h;split at h
      .rename_i bd;cases B:L4 tb ops q σ0.objs rest r (i+1) (Jy d obs E) G (σ.add v obs (some d)) with
       | none=>rw[B]at h;simp[YA]at h
       | some X =>
        obtain⟨D,σ2⟩:=X;rw[B]at h;simp only[YA]at h;cases h;have ay:T=true:=by rw[hT];rfl
        refine an d ⟨T,v,obs⟩ _ _ _ D t rfl (λ_=>⟨F.1,rfl,rfl,bd⟩) (λhf=>by rw[ay]at hf;cases hf) (λs a hl=>?_) rfl (λs w A a p=>.inl p) (λts=>?_) B F.2
        .simp only[St.add,lk]at hl;split at hl
         .rename_i hs;cases hl;simp[hs]
         rename_i hs;rw[As hs];exact hl
        cases obs with
        | nil=>simp[Jy,B4]
        | cons x y=>rfl
      cases h
    | cons g w =>
     cases obs with
     | cons x y=>simp[evMQ]at h
     | nil =>
      cases t:o.dst with
      | none=>rw[t]at h;simp[evMQ]at h
      | some d =>
       rw[t]at h;simp only[evMQ]at h;split at h
       .rename_i ag;cases B:L4 tb ops q σ0.objs rest r (i+1) E ((d,g :: w,T,v) :: G) σ with
        | none=>rw[B]at h;simp[YA]at h
        | some X =>
         obtain⟨D,σ2⟩:=X;rw[B]at h;simp only[YA]at h;cases h;refine an d ⟨T,bif T then v else .raw undef,[]⟩ _ _ _ D t rfl (λal=>⟨F.1 al,by simp[al],rfl,by simp[Bd]⟩) (λhf=>⟨by simp[hf],rfl⟩) (λs a hl=>?_) rfl (λs c2 A a p=>?_) (λts=>?_) B F.2
         .have:s≠d:=by
           rintro rfl;rw[hl]at ag;cases ag
          rw[As this];exact hl
         .rcases DO.1 p with p|p
          .cases p;exact .inr ⟨rfl,rfl,rfl,rfl⟩
          exact .inl p
         simp[B4]
       cases h
end
section
variable {c:Cx} {ops:Array Oper} {k:Nat} {anc:List (List Nat)} {σ0 σ':St} {en:Nat->En} {Q:Exit->Act->World->Prop}
theorem A2m {o:Oper} {e:Edge} (b:e∈o.after) (a:Region.binds .any e=true):e.on∈EE o:=by grind [EE]
theorem De {listed:Array Bool} {i:Nat}:i∈Region.ready .any ops listed↔listed.getD i true=false/\∃o,ops[i]?=some o/\∀e∈EE o,listed.getD e false=true:=by
 rw[mem_ready];grind [EE,A2m]
structure Yk (ops:Array Oper) (k:Nat) (anc:List (List Nat)):Prop where
 lt:∀i o,ops[i]?=some o->∀e∈EE o,e<i
 cl:∀i o,ops[i]?=some o->∀j∈anc.getD i [],j∈EE o\/∃e∈EE o,j∈anc.getD e []
 front:∀i o,ops[i]?=some o->i<k->(∃d,o.dst=some d)/\(∀t∈NE ops.toList o,∀j,j<k->Al ops.toList j=some t->j∈anc.getD i [])/\∀j,j<i->Al ops.toList j≠o.dst
 back:∀i o,ops[i]?=some o->k<=i->∀j,j<i->j∈anc.getD i []
 k:k<=ops.size
theorem AAz (h:mE ops.toList k anc=true):Yk ops k anc:=by
 simp only[mE,An,ON,RY,Do]at h;obtain⟨hk,h⟩:=h;have hi:∀i o,ops[i]?=some o->opB ops.toList k anc i o=true:=by grind
 refine⟨λi o a e l=>?_,λi o a j b=>?_,λi o a c=>?_,λi o a c j b=>?_,by simpa using hk⟩
 .grind [opB]
 .grind [opB,Am]
 .have:=hi i o a;simp only[opB,c,ADv,An,ON,RY,Sx,Am,AEY]at this;obtain⟨_,⟨h1,f⟩,d⟩:=this;refine⟨AEg.1 h1,λt m j b g=>?_,d⟩;grind
 have:=hi i o a;simp only[opB,show ¬i<k by omega,ADz,An,ON,RY,Am]at this;exact this.2 j b
theorem Vg (a:Yk ops k anc) {listed:Array Bool} (g:∀i o,ops[i]?=some o->listed.getD i true=true->∀e∈EE o,listed.getD e false=true) :
  ∀i o,ops[i]?=some o->(∀e∈EE o,listed.getD e false=true)->∀j∈anc.getD i [],listed.getD j false=true:=by
 intro i;induction i using Nat.strongRecOn with
 | _ i m =>
  intro o b c j f;rcases a.cl i o b j f with h1|⟨e,d,h⟩
  .exact c j h1
  have l:=a.lt i o b e d;grind
theorem Yl {l:List Oper} {p:Nat} {o:Oper} {r:List Oper} (h:l.drop p=o :: r):l[p]?=some o/\r=l.drop (p+1):=by
 constructor
 .have:(l.drop p)[0]?=some o:=by rw[h];rfl
  grind
 rw[<-AER,h];rfl
theorem QL {F:Fence} {P:Program} (d:Yk ops k anc):∀ {rest:List Oper} {p:Nat} {listed:Array Bool} {a:Act} {w:World},ops.toList.drop p=rest->k<=p->p<=ops.size->listed.size=ops.size ->
  (∀i,i<ops.size->(listed.getD i true=true↔i<p))->wpListIn F 0 P ops Q rest a w->wpAnyIn F 0 P .any ops Q rest.length listed a w
 | [],p,listed,a,w,l,I,K,n,hl,c=>by
  have hp:p=ops.size:=by
   have:=AAc List.length l;simp at this;omega
  refine⟨?_,c⟩;apply AF3.2;grind [De]
 | o :: r,p,listed,a,w,l,I,K,n,hl,c=>by
  obtain⟨f,B⟩:=Yl l;have f:ops[p]?=some o:=by simpa using f
  have s:p<ops.size:=(Sy.1 f).1;have v:∀e b,e<ops.size->listed.getD e b=listed.getD e true:=λe b g=>by grind
  have E:∀i o,ops[i]?=some o->listed.getD i true=true->∀e∈EE o,listed.getD e false=true:=by
   intro i o A h1 e g;have t:i<ops.size:=(Sy.1 A).1;have x:=(hl i t).1 h1;have h:=d.lt i o A e g;grind
  have L:∀i,i∈Region.ready .any ops listed->i=p:=by
   intro i hi;rw[De]at hi;obtain⟨h1,C,q,x⟩:=hi;have t:i<ops.size:=(Sy.1 q).1;have N:¬i<p:=λJ=>by rw[(hl i t).2 J]at h1;cases h1
   by_cases m:i=p
   .exact m
   have h:=Vg d E i C q x p (d.back i C q (by omega) p (by omega));rw[v p false s]at h;have:=(hl p s).1 h;omega
  refine⟨λO=>?_,λi hi=>?_⟩
  .exfalso;have:p∈Region.ready .any ops listed:=by
    rw[De];refine⟨?_,o,f,λe g=>?_⟩
    .cases hh:listed.getD p true with
     | false=>rfl
     | true=>have:=(hl p s).1 hh;omega
    have:=d.lt p o f e g;rw[v e false (by omega)];exact(hl e (by omega)).2 this
   grind
  have m:=L i hi;subst m;have z:∀(j:Nat),j<ops.size->((listed.setIfInBounds i true).getD j true=true↔j<i+1):=by
   intro j G;have H:j<listed.size:=by omega
   by_cases y:j=i
   .subst y;simp[Array.getD,H]
   have h1:(listed.setIfInBounds i true).getD j true=listed.getD j true:=getD_set_ne true (λe=>y e.symm);rw[h1,hl j G];omega
  unfold wpOpIn;rw[f];simp only;unfold wpListIn at c;split
  .rename_i u;rw[BY u]at c;exact Oper.wpIn_mono (λM w' D=>QL d B.symm (by omega) (by omega) (by simpa using n) z D) c
  rename_i u;rw[As u]at c;exact⟨c.1,QL d B.symm (by omega) (by omega) (by simpa using n) z c.2⟩
end
end
section
open Go Go.RowKit
theorem EM:∀(k:Nat) (l:List Nat),l.Nodup->(∀j∈l,j<k)->l.length<=k
 | 0,l,_,h=>by
  cases l with
  | nil=>simp
  | cons x r=>have:=h x (by simp);omega
 | k+1,l,hn,h=>by
  by_cases hk:k∈l
  .have:=EM k (l.erase k) (hn.erase k) (λj a=>by
    have h1:=(hn.mem_erase_iff).1 a;have:=h j h1.2;have:=h1.1;omega)
   grind
  have:=EM k l hn (λj a=>by
   have:=h j a;have:j≠k:=λe=>hk (e▸a);omega)
  omega
theorem qM:∀(k:Nat) (l:List Nat),(∀j,j<k->j∈l)->k<=l.length
 | 0,l,_=>by simp
 | k+1,l,h=>by
  have hk:=h k (by omega);have:=qM k (l.erase k) (λj a=>(AF6 (by omega)).2 (h j (by omega)));grind
theorem Vh {c:Cx} {σ σ':St} {a:Act} {w:World} (j:∀s,lk s σ'.env=lk s σ.env) (f:∀n,lk n σ'.objs=lk n σ.objs) (h:c.sat σ a w):c.sat σ' a w:=by
 obtain⟨ρ,h⟩:=h;have d:HG σ'=HG σ:=by
  funext n;simp only[HG,f]
 have g:∀w,vw w c.O0 σ' ρ=vw w c.O0 σ ρ:=by
  intro w;have k:own c.O0 σ' ρ=own c.O0 σ ρ:=by
   funext b;simp only[own,d]
  simp only[vw,d,k]
 refine⟨ρ,h.frm,h.nt,h.defers,λp hp=>by rw[d];exact h.pin p hp,?_,?_,?_,?_⟩
 .intro n o hn;rw[g];exact h.objs n o (by rw[<-f];exact hn)
 .intro n b hl i;exact h.free n b (by rw[<-d];exact hl) i
 .intro n m b h1 e;rw[d]at h1 e;exact h.dist n m b h1 e
 intro s v hs;rw[g];exact h.env s v (by rw[<-j];exact hs)
theorem fD {c:Cx} {σ:St} {a:Act} {w:World} (h:c.sat σ a w):c.sat σ a { w with drawn:=w.drawn+1 }:=by
 obtain⟨ρ,h⟩:=h;have hk:Cq (vw w c.O0 σ ρ) (vw { w with drawn:=w.drawn+1 } c.O0 σ ρ):=⟨λ_ _ h=>h,λ_ h=>h,λ_ _=>rfl,λ_ _ _=>rfl⟩;exact⟨ρ,⟨h.frm.os,h.frm.tape,h.frm.output,h.frm.size,h.frm.block⟩,h.nt,h.defers,h.pin,λn o b=>(h.objs n o b).keeps hk λ_ _=>rfl,h.free,h.dist,λs v hs=>(h.env s v hs).keeps hk⟩
theorem Uf {c:Cx} {σ σ':St} {a:Act} {w:World} (d:∀s v,lk s σ'.env=some v->lk s σ.env=some v) (e:∀n,lk n σ'.objs=lk n σ.objs) (h:c.sat σ a w):c.sat σ' a w:=by
 have b:c.sat ⟨σ.env,σ'.objs⟩ a w:=Vh (σ:=σ) (λ_=>rfl) e h;obtain⟨ρ,h⟩:=b;exact⟨ρ,h.frm,h.nt,h.defers,h.pin,h.objs,h.free,h.dist,λs v hs=>h.env s v (d s v hs)⟩
theorem L5 {c:Cx} {ops:Array Oper} {σ:St} {a:Act} {w:World} (hs:c.sat σ a w) {o:Oper} {b:Bool} (h:Ky ops.toList σ b o.guard):Region.wanted o (yielded ops a.tmps)=b:=by
 cases d:o.guard with
 | none =>
  rw[d]at h;simp only[Ky]at h;simp[Region.wanted,d,h]
 | some g =>
  obtain⟨j,m⟩:=g;rw[d]at h;simp only[Ky]at h;obtain⟨s,i,h⟩:=h;rcases h with ⟨x,hl,rfl⟩|⟨hl,rfl⟩
  .refine Hc hs ?_;grind [Er,Al,Ko,Rl]
  obtain⟨ρ,hs⟩:=hs;have f:a.tmps.getD s undef=undef:=hs.env s _ hl;have k:(ops[j]?).bind (·.dst)=some s:=by simpa[Al] using i
  have l:yielded ops a.tmps j=none:=by
   simp only[yielded,k,Option.bind_some];by_cases e:s<a.tmps.size
   .have:a.tmps.getD s undef=a.tmps[s]:=by simp[Array.getD,e]
    rw[this]at f;rw[oR e,f];rfl
   grind
  simp[Region.wanted,d,l]
section
variable {c:Cx} {ops:Array Oper} {k:Nat} {q:Bool} {anc:List (List Nat)} {σ0 σ':St} {en:Nat->En} {Q:Exit->Act->World->Prop}
theorem A9s (hF:∀j o,j<k->ops[j]?=some o->Ve c.tb ops.toList q σ0 en j o) (hk:k<=ops.size):Sep σ0 en k:=by
 have one:∀j,j<k->∀n o,lk n (en j).obs=some o->lk n (Aq ops.toList en σ0 (Ai j)).objs=none:=by
  intro j a n o hn;have l:ops[j]?=some (ops[j]'(by omega)):=oR (by omega);have h1:=hF j _ a l;cases g:(en j).b with
  | true =>
   obtain⟨_,_,_,hf⟩:=h1.t g;exact OQ hf hn
  | false =>
   rw[(h1.f g).2]at hn;simp[lk]at hn
 have low:∀i j,i<j->j<k->∀n o d,lk n (en i).obs=some o->lk n (en j).obs=some d->False:=by
  intro i j h a n o d h1 e;have:=one j a n d e;rw[FY,A5]at this;cases hl:lk n ((Ai j).flatMap λj=>(en j).obs) with
  | some x=>rw[hl]at this;simp at this
  | none =>
   have:=K0 hl i (BE.2 h);rw[this]at h1;cases h1
 refine⟨λj a n o hn=>?_,λi j hi a n o d h1 e=>?_⟩
 .grind [FY,A5,lk,Ai]
 grind
theorem A2n (b:Yk ops k anc) {l:List Nat} (hl:∀j∈l,j<k) {s j:Nat} (d:j∈l) (e:Al ops.toList j=some s):l.find? (λj=>Al ops.toList j==some s)=some j:=by
 have hu:∀i,i∈l->Al ops.toList i=some s->i=j:=by
  intro i hi f;have h1:=hl i hi;have a:=hl j d;have g:=b.k;have get:∀x,x<k->Al ops.toList x=(ops[x]?).bind (·.dst):=λx _=>by simp[Al]
  rcases AEZ i j with h|h|h
  .have c:ops[j]?=some (ops[j]'(by omega)):=oR (by omega);have:=(b.front j _ c a).2.2 i h;grind
  .exact h
  have c:ops[i]?=some (ops[i]'(by omega)):=oR (by omega);have:=(b.front i _ c h1).2.2 j h;grind
 cases hf:l.find? (λj=>Al ops.toList j==some s) with
 | none =>
  have:=AFj.1 hf j d;simp[e]at this
 | some i =>
  have h1:=AEQ hf;have a:=AFB hf;rw[hu i h1 (by simpa using a)]
theorem Vi (a:Yk ops k anc) {l l':List Nat} (hl:∀j∈l,j<k) (b:∀j∈l',j<k) {s:Nat} (h:∀j,j<k->Al ops.toList j=some s->j∈l/\j∈l') :
  lk s (Aq ops.toList en σ0 l).env=lk s (Aq ops.toList en σ0 l').env:=by
 rw[FZ,FZ];by_cases hx:∃j,j<k/\Al ops.toList j=some s
 .grind [A2n]
 grind
theorem z9 (Y:c.Ok) (A:Yk ops k anc) (bi:∀o∈ops.toList,I8 c.nt o=true) (hF:∀j o,j<k->ops[j]?=some o->Ve c.tb ops.toList false σ0 en j o)
  {σ2:St} (am:∀s v,lk s σ2.env=some v->lk s (Aq ops.toList en σ0 (Ai k)).env=some v) (an:σ2.objs=(Aq ops.toList en σ0 (Ai k)).objs) (hT:∀I w',c.sat σ2 I w'->wpListIn (FR c.r) 0 c.P ops Q (ops.toList.drop k) I w') :
  ∀(m:Nat) (ex:List Nat) (listed:Array Bool) (a:Act) (w:World),ex.Nodup->(∀j∈ex,j<k)->m+ex.length=ops.size->listed.size=ops.size->(∀i,i<ops.size->(listed.getD i true=true↔i∈ex)) ->
   (∀i o,ops[i]?=some o->i∈ex->∀e∈EE o,e∈ex)->c.sat (Aq ops.toList en σ0 ex) a w->wpAnyIn (FR c.r) 0 c.P .any ops Q m listed a w:=by
 have ak:=A.k;have H:=A9s hF ak;intro m;induction m with
 | zero =>
  intro ex listed a w M z bn X hl ao hs;have h1:=EM k ex M z;have bm:k=ops.size:=by omega
  by_cases D:∀j,j<k->j∈ex
  .have aq:ops.toList.drop k=[]:=by simp[bm]
   have R:c.sat σ2 a w:=Uf am (λ_=>by rw[an]) <| Vh
    (λs=>(Vi A z (λj y=>BE.1 y) λj y _=>⟨D j y,BE.2 y⟩).symm)
    (λn=>AFr λo=>by
     rw[Et H (λj y=>BE.1 y),Et H z];simp only[BE];constructor
     .grind
     rintro (⟨j,y,h⟩|⟨h1,T⟩)
     .grind
     exact .inr ⟨λj y=>h1 j (D j y),T⟩) hs
   have:=QL (Q:=Q) (F:=FR c.r) (P:=c.P) A (rest:=[]) (p:=k) (listed:=listed) (a:=a) (w:=w) aq (If _) ak X (λi hi=>by
    rw[hl i hi];exact⟨z i,D i⟩) (by rw[<-aq];exact hT a w R)
   exact this
  exfalso;apply D;intro j y;apply FT;intro ay;have:=EM k (j :: ex) (TO.2 ⟨ay,M⟩) (λi hi=>by
   rcases DO.1 hi with rfl|hi
   .exact y
   exact z i hi)
  simp at this;omega
 | succ m bz =>
  intro ex listed a w M z bn X hl ao hs;have be:∀e b,e<ops.size->listed.getD e b=listed.getD e true:=λe b C=>by grind
  by_cases D:∀j,j<k->j∈ex
  .have ci:ex.length=k:=ADO (EM k ex M z) (qM k ex D);have R:c.sat σ2 a w:=Uf am (λ_=>by rw[an]) <| Vh
    (λs=>(Vi A z (λj y=>BE.1 y) λj y _=>⟨D j y,BE.2 y⟩).symm)
    (λn=>AFr λo=>by
     rw[Et H (λj y=>BE.1 y),Et H z];simp only[BE];constructor
     .grind
     rintro (⟨j,y,h⟩|⟨h1,T⟩)
     .grind
     exact .inr ⟨λj y=>h1 j (D j y),T⟩) hs
   have:=QL (Q:=Q) (F:=FR c.r) (P:=c.P) A (rest:=ops.toList.drop k) (p:=k) (listed:=listed) (a:=a) (w:=w) rfl (If _) ak X (λi hi=>by
    rw[hl i hi];exact⟨z i,D i⟩) (hT a w R)
   grind
  refine⟨λbp=>?_,λi hi=>?_⟩
  .exfalso;apply D;intro j;induction j using Nat.strongRecOn with
   | _ j cb =>
    intro y;apply FT;intro ay;have N:ops[j]?=some (ops[j]'(by omega)):=oR (by omega);have:j∈Region.ready .any ops listed:=by
     rw[De];refine⟨?_,_,N,λe C=>?_⟩
     .grind
     have aa:=A.lt j _ N e C;rw[be e false (by omega)];exact(hl e (by omega)).2 (cb e aa (by omega))
    rw[bp]at this;cases this
  rw[De]at hi;obtain⟨h1,o,B,T⟩:=hi;have bc:i<ops.size:=(Sy.1 B).1;have az:i∉ex:=λh=>by rw[(hl i bc).2 h]at h1;cases h1
  have bh:∀e∈EE o,e∈ex:=λe C=>by grind
  have ad:∀j∈anc.getD i [],j∈ex:=by grind [EE,Vg]
  have L:i<k:=by
   apply FT;intro ch;exact D λj y=>ad j (A.back i o B (by omega) j (by omega))
  have ag:=A.front i o B L;obtain⟨d,cg⟩:=ag.1;have bg:Al ops.toList i=o.dst:=by simp[Al,B]
  have ba:∀t∈NE ops.toList o,lk t (Aq ops.toList en σ0 ex).env=lk t (Aq ops.toList en σ0 (Ai i)).env:=by
   intro t bw;refine Vi A z (λj y=>by have:=BE.1 y;omega) λj y ae=>?_;have aw:=ag.2.1 t bw j y ae;refine⟨ad j aw,BE.2 ?_⟩;have:∀i o,ops[i]?=some o->∀j∈anc.getD i [],j<i:=by
    intro i;induction i using Nat.strongRecOn with
    | _ i ca =>
     intro o B j y;rcases A.cl i o B j y with ab|⟨e,C,bk⟩
     .exact A.lt i o B j ab
     have bf:=A.lt i o B e C;have bc:i<ops.size:=(Sy.1 B).1;have:=ca e bf _ (oR (by omega)) j bk;omega
   exact this i o B j aw
  have br:Ops ⟨(Aq ops.toList en σ0 (Ai i)).env,B4 false (HK o.op) σ0.objs (ES ops.toList en (Ai i))⟩ (Aq ops.toList en σ0 ex) o.op.operands.toList:=by
   intro x hx v S;cases x with
   | tmp t =>
    simp only[Ap]at S ⊢;rw[ba t (by
     simp only[NE,Is,AFi];exact .inl ⟨_,hx,rfl⟩)]
    exact S
   | const cj=>exact S
   | global g=>exact S
   | func f=>exact S
  have bq:dU ⟨(Aq ops.toList en σ0 (Ai i)).env,B4 false (HK o.op) σ0.objs (ES ops.toList en (Ai i))⟩ (Aq ops.toList en σ0 ex):=by
   intro n G hn;refine A2l H (λj y=>by have:=BE.1 y;omega) z (λj y aj=>?_) hn;have W:=BE.1 y;have N:ops[j]?=some (ops[j]'(by omega)):=oR (by omega);obtain⟨al,ae⟩:=(A.front j _ N (by omega)).1;have ap:Al ops.toList j=some al:=by simp[Al,N,ae]
   rw[ap]at aj;simp only[Bool.false_or,AF4,Am]at aj;refine ad j (ag.2.1 al ?_ j (by omega) ap);simp only[NE,Is];exact .inl aj
  have af:=hF i o L B;have E:Ky ops.toList (Aq ops.toList en σ0 ex) (en i).b o.guard:=by
   have E:=af.g;cases ah:o.guard with
   | none=>rw[ah]at E;exact E
   | some g =>
    obtain⟨j,cm⟩:=g;rw[ah]at E;simp only[Ky]at E ⊢;obtain⟨s,au,E⟩:=E;refine⟨s,au,?_⟩;rw[ba s (by
     simp only[NE,ah,Is,au];exact .inr (by simp))]
    exact E
  have Z:=L5 hs E;have bo:o∈ops.toList:=by grind
  have ar:=Cr (bi o bo);have bb:∀I w',c.sat ((Aq ops.toList en σ0 ex).add (en i).v (en i).obs o.dst) I w'->wpAnyIn (FR c.r) 0 c.P .any ops Q m (listed.setIfInBounds i true) I w':=by
   intro I w' R;refine bz (i :: ex) _ I w' (TO.2 ⟨az,M⟩) (λj y=>?_) (by simp;omega) (by simpa using X) (λj y=>?_) (λi' G J ai e C=>?_) (by simp only[Aq,bg];exact R)
   .rcases DO.1 y with rfl|y
    .exact L
    exact z j y
   .have bl:j<listed.size:=by omega
    by_cases W:j=i
    .subst W;simp[Array.getD,bl]
    have aa:(listed.setIfInBounds i true).getD j true=listed.getD j true:=getD_set_ne true (λe=>W e.symm);rw[aa,hl j y];simp[W]
   rcases DO.1 ai with rfl|ai
   .rw[B]at J;cases J;exact IF _ (bh e C)
   exact IF _ (ao i' G J ai e C)
  unfold wpOpIn;rw[B];simp only;cases U:(en i).b with
  | true =>
   rw[U]at Z;rw[BY Z];obtain⟨ck,bs,bx,bj⟩:=af.t U;obtain⟨ρ,bd⟩:=hs;have bt:=Ue bq br bs;have av:Bd (en i).obs (Aq ops.toList en σ0 ex)=true:=by
    simp only[Bd,ON]at bj ⊢;intro p hp;have bv:∃G,lk p.1 (en i).obs=some G:=by
     have:∀(l:List (Nat×Obj)),p∈l->∃G,lk p.1 l=some G:=by
      intro l;induction l with
      | nil=>intro h;cases h
      | cons q r cc =>
       intro h;obtain⟨ce,cf⟩:=q;simp only[lk];by_cases C:p.1=ce
       .exact⟨cf,by rw[BY C]⟩
       rw[As C];rcases DO.1 h with rfl|h
       .exact absurd rfl C
       exact cc h
     exact this _ hp
    obtain⟨G,J⟩:=bv;have:lk p.1 (Aq ops.toList en σ0 ex).objs=none:=by
     cases ax:lk p.1 (Aq ops.toList en σ0 ex).objs with
     | none=>rfl
     | some cd =>
      rw[Et H z]at ax;rcases ax with ⟨j,y,V⟩|⟨_,V⟩
      .have:=H.2 i j L (z j y) p.1 G cd J V;subst this;exact absurd y az
      rw[H.1 i L p.1 G J]at V;cases V
    simp[this]
   exact qB (A5P Y bd) bt bx av λu ρ' w' bu=>bb _ _ ⟨ρ',bd.add Y.K Y.O ar av bu⟩
  | false =>
   rw[U]at Z;rw[As (by simp[Z])];refine⟨λ_ _=>trivial,?_⟩;have:=af.f U;have ab:=M6 Y hs ar;refine bb _ _ ?_;rw[this.1,this.2];exact ab
end
theorem A00 {c:Cx} {ops:Array Oper} {k:Nat} {σ0:St} {en:Nat->En} {Q:Exit->Act->World->Prop} (h:c.Ok) (I:∀o∈ops.toList,I8 c.nt o=true) (hF:∀j o,j<k->ops[j]?=some o->Ve c.tb ops.toList true σ0 en j o) (hk:k<=ops.size)
  {σ2:St} (E:∀s v,lk s σ2.env=some v->lk s (Aq ops.toList en σ0 (Ai k)).env=some v) (F:σ2.objs=(Aq ops.toList en σ0 (Ai k)).objs) (hT:∀d w',c.sat σ2 d w'->wpListIn (FR c.r) 0 c.P ops Q (ops.toList.drop k) d w'):∀(m i:Nat) (a:Act) (w:World),m+i=k->c.sat (Aq ops.toList en σ0 (Ai i)) a w->wpListIn (FR c.r) 0 c.P ops Q (ops.toList.drop i) a w:=by
 intro m;induction m with
 | zero =>
  intro i a w hi hs;have:i=k:=by omega
  subst this;exact hT _ _ (Uf E (λ_=>by rw[F]) hs)
 | succ m U =>
  intro i a w hi hs;have q:ops[i]?=some (ops[i]'(by omega)):=oR (by omega);generalize ops[i]'(by omega)=o at q;have H:ops.toList.drop i=o :: ops.toList.drop (i+1):=by
   have:i<ops.toList.length:=by simp;omega
   rw[Of this];grind
  rw[H];have p:=hF i o (by omega) q;have n:=L5 hs p.g;have J:o∈ops.toList:=by grind
  have y:=Cr (I o J);have T:Al ops.toList i=o.dst:=by simp[Al,q]
  have B:∀d w',c.sat ((Aq ops.toList en σ0 (Ai i)).add (en i).v (en i).obs o.dst) d w'->wpListIn (FR c.r) 0 c.P ops Q (ops.toList.drop (i+1)) d w':=by grind [Ai,Aq]
  unfold wpListIn;cases e:(en i).b with
  | true =>
   rw[e]at n;rw[BY n];obtain⟨S,A,R,z⟩:=p.t e;obtain⟨ρ,C⟩:=hs;have L:∀l:List Nat,B4 true (HK o.op) σ0.objs (ES ops.toList en l)=(Aq ops.toList en σ0 l).objs:=by
    intro l;rw[FY];induction l with
    | nil=>rfl
    | cons x r D=>simp only[ES,RS,B4,Bool.true_or,ADv,AEP,RN]at D ⊢;rw[D]
   have M:aq c.tb (Aq ops.toList en σ0 (Ai i)) (o.dst.getD 0) o.op=some (S,(en i).v,(en i).obs):=by
    rw[L]at A;exact A
   exact qB (A5P h C) M R z λu ρ' w' N=>B _ _ ⟨ρ',C.add h.K h.O y z N⟩
  | false =>
   rw[e]at n;rw[As (by simp[n])];refine⟨λ_ _=>trivial,?_⟩;have:=p.f e;have G:=M6 h hs y;refine B _ _ ?_;rw[this.1,this.2];exact G
theorem NF {tb:Tb} {ops:List Oper} {q:Bool} {base:List (Nat×Obj)} {rest:List Oper}:∀ {fr:List Oper} {i:Nat} {E:List (Nat×List (Nat×Obj))} {G:Gs} {σ σ':St} {vc:Prop},L4 tb ops q base rest fr i E G σ=some (vc,σ')->vc ->
  ∃(e f:Prop) (j:St),L4 tb ops q base [] fr i E G σ=some (e,j)/\e/\Bn tb ops rest j=some (f,σ')/\f
 | [],i,E,G,σ,σ',vc,h,k=>by grind [L4,Bn]
 | o :: r,i,E,G,σ,σ',vc,h,k=>by
  simp only[L4]at h;cases l:IA ops G σ.env i o.guard with
  | none=>rw[l]at h;simp[evMG]at h
  | some p =>
   obtain⟨c,T⟩:=p;rw[l]at h;simp only[evMG]at h;cases m:opM tb ops q base c G E σ.env o (IB o.op) with
   | none=>rw[m]at h;cases c<;>simp[evMQ]at h
   | some x =>
    obtain⟨u,v,obs⟩:=x;rw[m]at h;cases c with
    | nil =>
     cases a:o.dst with
     | none=>rw[a]at h;simp[evMQ]at h
     | some d =>
      rw[a]at h;simp only[evMQ]at h;split at h
      .rename_i hf;cases b:L4 tb ops q base rest r (i+1) (Jy d obs E) G (σ.add v obs (some d)) with
       | none=>rw[b]at h;simp[YA]at h
       | some y =>
        obtain⟨w,σ2⟩:=y;rw[b]at h;simp only[YA]at h;cases h;obtain⟨e,f,j,h1,n,s,t⟩:=NF b k.2;exact⟨u/\e,f,j,by simp only[L4,l,evMG,m,a,evMQ,h1,YA];rw[BY hf],⟨k.1,n⟩,s,t⟩
      cases h
    | cons g c =>
     cases obs with
     | cons z A=>cases a:o.dst<;>rw[a]at h<;>simp[evMQ]at h
     | nil =>
      cases a:o.dst with
      | none=>rw[a]at h;simp[evMQ]at h
      | some d =>
       rw[a]at h;simp only[evMQ]at h;split at h
       .rename_i hf;cases b:L4 tb ops q base rest r (i+1) E ((d,g :: c,T,v) :: G) σ with
        | none=>rw[b]at h;simp[YA]at h
        | some y =>
         obtain⟨w,σ2⟩:=y;rw[b]at h;simp only[YA]at h;cases h;obtain⟨e,f,j,h1,n,s,t⟩:=NF b k.2;exact⟨(T=true->u)/\e,f,j,by simp only[L4,l,evMG,m,a,evMQ,h1,YA];rw[BY hf],⟨k.1,n⟩,s,t⟩
       cases h
theorem AAA {ops:List Oper} {q:Bool} {σ0:St} {en:Nat->En}:Inv ops q σ0 en 0 [] [] σ0 :=
 { env:=λ_ _ h=>h,G:=λs c T v h=>absurd h (by simp),f:=λj a=>absurd a (by omega),objs:=rfl,E:=λ_=>rfl }
section
variable {c:Cx} {R:Exit->Act->World->Prop} {k:List DU} {σ σ':St}
def Nh (c:Cx) (R:Exit->Act->World->Prop) (k:List DU) (ops:Array Oper) (l:List Oper) (σ:St):Prop :=
 (∀o∈l,I8 c.nt o=true)->DB c.nt k=true->∀a w,c.sat σ a w->wpListIn (FR c.r) 0 c.P ops (VZ c R k) l a w
theorem A5T {ops:Array Oper} (h:Ev c R (.out .normal) k σ):Nh c R k ops [] σ:=λ_ b a w hs=>h rfl b a w hs
theorem QM (f:c.Ok) {ops:Array Oper} {l:List Oper} (n:Nat) {vc:Prop} (h:Bn c.tb ops.toList (l.take n) σ=some (vc,σ')) (i:vc) (hk:Nh c R k ops (l.drop n) σ'):Nh c R k ops l σ:=by
 intro h1 e a w hs;have:=Rs (r:=l.drop n) f (l.take n) hs (λo b=>h1 o (S4 b)) h i (λd w' g=>hk (λo b=>h1 o (AEi b)) e d w' g)
 rwa [AEe]at this
theorem A2o (z:c.P.follows .mixedOrders=true) (u:c.Ok) {id:Nat} {l:List Oper} (n:Nat) (d:QH l (l.take n).length=true) {vc:Prop}
  (h:L4 c.tb l false σ.objs [] (l.take n) 0 [] [] σ=some (vc,σ')) (C:vc) (hk:Nh c R k l.toArray (l.drop n) σ') :
  Ev c R (.run (.region id l.toArray true)) k σ:=by
 intro h1 r a w hs;simp only[H0,Bl,ON]at h1;have d:=AAz (ops:=l.toArray) (k:=(l.take n).length) (anc:=A2j l) (by simpa only[QH] using d);have hu:mH l (l.take n).length:=by
  intro x y D g;have m:y<l.length:=by simp at g;omega
  have A:l.toArray[y]?=some l[y]:=by simp[m]
  have:=(d.front y _ A g).2.2 x D;simpa[Al,m] using this
 obtain⟨en,_,hF,F,σ2,f,E,s,t⟩:=Ry (ops:=l) (q:=false) (σ0:=σ) (en:=λ_=>⟨false,.top,[]⟩) hu h C AAA (by simp) (λj b=>by
  have b:j<(l.take n).length:=b;rw[AE4,Sz];simp only[OS]at b;rw[BY (by omega)])
 refine wpIn_region_any z ?_;have v:l.drop (l.take n).length=l.drop n:=by simp_all
 simp only[Bn]at f;cases f;have:=z9 (c:=c) (ops:=l.toArray) (k:=(l.take n).length) (σ0:=σ) (en:=en) (Q:=VZ c R k) u d (by simpa using h1)
  (λj o b e=>hF j o (by omega) b (by simpa using e)) (σ2:=σ') s t (λp w' B=>by
   rw[show (l.toArray.toList.drop _)=l.drop n from v];exact hk (λo e=>h1 o (by simpa using AEi e)) r p w' B)
  l.toArray.size [] (Array.replicate l.toArray.size false) a { w with drawn:=w.drawn+1 } (by simp) (by simp) (by simp) (by simp) (λi hi=>by simp at hi;simp[Array.getD,hi]) (λi o _ hi=>by simp at hi) (fD hs)
 exact this
theorem mI (r:c.Ok) {id:Nat} {l:List Oper} (n:Nat) (f:mF l (l.take n).length=true) {vc:Prop}
  (h:L4 c.tb l true σ.objs [] (l.take n) 0 [] [] σ=some (vc,σ')) (u:vc) (hk:Nh c R k l.toArray (l.drop n) σ') :
  Ev c R (.run (.region id l.toArray false)) k σ:=by
 intro h1 i a w hs;simp only[H0,Bl,ON]at h1;simp only[mF,An,ON,RY,Do]at f;have hu:mH l (l.take n).length:=by
  intro x y z A;grind [Al]
 obtain⟨en,_,hF,B,σ2,e,v,m,p⟩:=Ry (ops:=l) (q:=true) (σ0:=σ) (en:=λ_=>⟨false,.top,[]⟩) hu h u AAA (by simp) (λj b=>by
  have b:j<(l.take n).length:=b;rw[AE4,Sz];simp only[OS]at b;rw[BY (by omega)])
 have s:l.drop (l.take n).length=l.drop n:=by simp_all
 refine AET ?_;simp only[Bn]at e;cases e;have:=A00 (c:=c) (ops:=l.toArray) (k:=(l.take n).length) (σ0:=σ) (en:=en) (Q:=VZ c R k) r (by simpa using h1)
  (λj o b d=>hF j o (by omega) b (by simpa using d)) (by simpa using f.1) (σ2:=σ') m p (λg w' t=>by
   rw[show (l.toArray.toList.drop _)=l.drop n from s];exact hk (λo d=>h1 o (by simpa using AEi d)) i g w' t)
  (l.take n).length 0 a w (by simp) hs
 exact this
theorem aR (e:c.Ok) {ops:Array Oper} {l:List Oper} {vc:Prop} (h:Bn c.tb ops.toList l σ=some (vc,σ')) (g:vc) (hk:Ev c R (.out .normal) k σ'):Nh c R k ops l σ:=by
 intro h1 d a w hs;exact QB e l hs h1 h g (λb w' f=>hk rfl d b w' f)
theorem fE (e:c.P.follows .mixedOrders=true) (a:c.Ok) {id:Nat} {l:List Oper} (n:Nat) (d:QH l (l.take n).length=true) {vc:Prop}
  (h:L4 c.tb l false σ.objs (l.drop n) (l.take n) 0 [] [] σ=some (vc,σ')) (f:vc) (hk:Ev c R (.out .normal) k σ') :
  Ev c R (.run (.region id l.toArray true)) k σ:=by
 obtain⟨j,m,o,h1,g,b,i⟩:=NF h f;exact A2o e a n d h1 g (aR a b i hk)
theorem mJ (a:c.Ok) {id:Nat} {l:List Oper} (n:Nat) (d:mF l (l.take n).length=true) {vc:Prop}
  (h:L4 c.tb l true σ.objs (l.drop n) (l.take n) 0 [] [] σ=some (vc,σ')) (e:vc) (hk:Ev c R (.out .normal) k σ') :
  Ev c R (.run (.region id l.toArray false)) k σ:=by
 obtain⟨i,j,m,h1,f,b,g⟩:=NF h e;exact mI a n d h1 f (aR a b g hk)
theorem A2p (d:c.P.follows .mixedOrders=true) (a:c.Ok) {id:Nat} {l:List Oper} (b:QH l l.length=true) {vc:Prop}
  (h:L4 c.tb l false σ.objs [] l 0 [] [] σ=some (vc,σ')) (e:vc) (hk:Ev c R (.out .normal) k σ') :
  Ev c R (.run (.region id l.toArray true)) k σ :=
 fE d a l.length (by rw[RD];exact b) (by rw[RD,AEh];exact h) e hk
theorem A2q (m:Nat) (d:c.P.follows .mixedOrders=true) (a:c.Ok) {id:Nat} {l:List Oper} (b:QH l (l.take (l.length-m)).length=true) {vc:Prop}
  (h:L4 c.tb l false σ.objs (l.drop (l.length-m)) (l.take (l.length-m)) 0 [] [] σ=some (vc,σ')) (e:vc) (hk:Ev c R (.out .normal) k σ') :
  Ev c R (.run (.region id l.toArray true)) k σ:=fE d a _ b h e hk
theorem mK (a:c.Ok) {id:Nat} {l:List Oper} (b:mF l l.length=true) {vc:Prop}
  (h:L4 c.tb l true σ.objs [] l 0 [] [] σ=some (vc,σ')) (d:vc) (hk:Ev c R (.out .normal) k σ') :
  Ev c R (.run (.region id l.toArray false)) k σ :=
 mJ a l.length (by rw[RD];exact b) (by rw[RD,AEh];exact h) d hk
theorem mL (a:c.Ok) {id:Nat} {l:List Oper} (_:(l.all λo=>o.guard.isNone)=true) {vc:Prop} (h:Bn c.tb l l σ=some (vc,σ')) (b:vc) (hk:Ev c R (.out .normal) k σ') :
  Ev c R (.run (.region id l.toArray false)) k σ:=mB a h b hk
end
end
section
open Go Go.RowKit
theorem qN {c:Cx} {σ b σ':St} (l:List Nat) (h:DG l σ=b) (d:Ent c b σ'):Ent c σ σ':=by
 intro a w hs;obtain⟨ρ,hs⟩:=hs;exact d a w ⟨ρ,by rw[<-h];exact Kt hs⟩
theorem J4 {α:Type} (a b:List α):(a++b).take (a.length+b.length)=a++b:=At (by simp)
theorem QN {α:Type} (a b:List α):sub (a++b) 0 (a.length+b.length)=a++b:=by rw[H9,J4]
theorem Hm {α:Type} (a:List α) (x:α):(a++[x]).take (a.length+1)=a++[x]:=At (by simp)
theorem L6 {α:Type} (a:List α) (x:α):sub (a++[x]) 0 (a.length+1)=a++[x]:=by rw[H9,Hm]
theorem A9t {P:Program} {tb:Tb} {w0:World} {O0:Nat->Prop} {nt:Nat} (b:(cx P tb w0 O0 nt).Ok) {fn:Func} {outs:List RV} {σ:St} {e:Exit} (a:List ResultVar) (f:fn.results.toList=a) (c:e=.ret\/e=.normal) (hp:∀r∈outs,∃t d,r=.p t d) (h:Nw tb σ a outs) :
  Ev (cx P tb w0 O0 nt) (Va P fn w0 O0 outs) (.out e) [] σ:=A2g b c hp (by rw[f];exact h)
theorem fF:((0:Nat):Int)=0:=rfl
theorem fG (k:Nat):((k+1:Nat):Int)=(k:Int)+1:=by omega
theorem AE {α:Type} (l:List α) (d:α) {k:Nat} (h:k<l.length):l.getD k d∈l:=by
 rw[AS,AT h];exact S3 h
theorem AH {P:Program} {ty:List (Nat×TI)} {b:List Nat} {ne:List (Nat×TypeId)} {a:List Nat}:Iz P ⟨ty,[],b,ne,a⟩:=λf sp h=>by simp[lk]at h
theorem AF {P:Program} {ty:List (Nat×TI)} {c:List Nat} {ne:List (Nat×TypeId)} {b:List Nat} {f:Nat} {sp:AZ} {r:List (Nat×AZ)} (h:Af P f sp) (d:Iz P ⟨ty,r,c,ne,b⟩):Iz P ⟨ty,(f,sp) :: r,c,ne,b⟩:=λg i a=>by
 simp only[lk]at a;split at a
 .rename_i e;cases a;rw[e];exact h
 exact d g i a
theorem J5 {α:Type} (x:α):[x].take 1=[x]:=rfl
theorem Au {α:Type} (l:List α) (d:α) {k:Nat} (h:k<l.length):l.take (k+1)=l.take k++[l.getD k d]:=by
 rw[AFs,AS,AT h];rfl
theorem QO {α:Type} (l:List α) (q:Nat):sub l q l.length=l.drop q:=by
 unfold sub;rw[At (by simp)]
end
end Go.Proofs.YtapkhdkbkodbjaaGreat.Fw
