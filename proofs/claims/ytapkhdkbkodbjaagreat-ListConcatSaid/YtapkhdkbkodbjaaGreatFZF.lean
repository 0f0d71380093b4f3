/- Regions whose order Go leaves open: the rules. -/
import Derived.Test.YtapkhdkbkodbjaaGreatFZE
set_option linter.unusedVariables false
set_option linter.unusedSimpArgs false
namespace Go.Proofs.YtapkhdkbkodbjaaGreat.Fw
section
open Go Go.RowKit
def DF (o:Oper):List Nat:=(o.after.toList.filter (Region.binds .any)).map (·.on)
def Ak (ops:List Oper) (j:Nat):Option Nat:=(ops[j]?).bind (·.dst)
def TC:Operand->Option Nat
 | .tmp t=>some t
 | _=>none
def Mw (ops:List Oper) (o:Oper):List Nat:=(o.op.operands.toList.filterMap TC)++(match o.guard with|some (j,_)=>(Ak ops j).toList|none=>[])
def A8t (a b:List Nat):List Nat:=a.foldl (λr x=>if AU x r then r else x :: r) b
def fL (ops:List Oper):List (List Nat):=ops.foldl (λ(a:List (List Nat)) o=>a++[(DF o).foldl (λr e=>A8t (a.getD e []) (if AU e r then r else e :: r)) []]) []
def opB (ops:List Oper) (k:Nat) (anc:List (List Nat)) (i:Nat) (o:Oper):Bool :=
  (DF o).all (λe=>decide (e<i)) &&
  (anc.getD i []).all (λj=>AU j (DF o)||(DF o).any λe=>AU j (anc.getD e [])) &&
  (if i<k then o.dst.isSome&&((Mw ops o).all λt=>(List.range k).all λj=>Ak ops j != some t||AU j (anc.getD i []))&&((List.range i).all λj=>Ak ops j != o.dst)
   else (List.range i).all λj=>AU j (anc.getD i []))
def mH (ops:List Oper) (k:Nat) (anc:List (List Nat)):Bool :=
 decide (k<=ops.length)&&(List.range ops.length).all λi=>match ops[i]? with|some o=>opB ops k anc i o|none=>false
def Ps (ops:List Oper) (k:Nat):Bool:=mH ops k (fL ops)
def mI (ops:List Oper) (k:Nat):Bool :=
 decide (k<=ops.length)&&(List.range k).all λi=>match ops[i]? with|some o=>o.dst.isSome&&((List.range i).all λj=>Ak ops j != o.dst)|none=>false
def B8 (q:Bool) (ts:List Nat) (base:List (Nat×Obj)):List (Nat×List (Nat×Obj))->List (Nat×Obj)
 | []=>base
 | (s,obs) :: r=>if (q||AU s ts)=true then obs++B8 q ts base r else B8 q ts base r
def Hc (o:Op):List Nat:=o.operands.toList.filterMap TC
def Nh (q:Bool) (o:Op) (base:List (Nat×Obj)):List (Nat×List (Nat×Obj))->List (Nat×Obj)
 | []=>base
 | e :: r=>B8 q (Hc o) base (e :: r)
def LE (d:Nat) (obs:List (Nat×Obj)) (E:List (Nat×List (Nat×Obj))):List (Nat×List (Nat×Obj)) :=
 match obs with
 | []=>E
 | x :: r=>(d,x :: r) :: E
abbrev Ch:=List (Nat×Bool)
abbrev Gs:=List (Nat×(Ch×Bool×AV))
def OT:Ch->Ch->Bool
 | [],[]=>true
 | (j,w) :: r,(a,w') :: b=>(j==a)&&(w==w')&&OT r b
 | [],_ :: _=>false
 | _ :: _,[]=>false
theorem Pt:OT [] []=true:=rfl
theorem Uc (x:Nat×Bool) (r:Ch):OT [] (x :: r)=false:=rfl
theorem Ud (x:Nat×Bool) (r:Ch):OT (x :: r) []=false:=rfl
theorem Mx (j a:Nat) (w w':Bool) (r b:Ch):OT ((j,w) :: r) ((a,w') :: b)=(decide (j=a)&&(w==w')&&OT r b):=by grind [OT]
def Vm (a:Ch):Ch->Bool
 | []=>OT a []
 | k :: r=>OT a (k :: r)||Vm a r
def LF (c:Ch):Gs->List (Nat×AV)->List (Nat×AV)
 | [],env=>env
 | (s,a,_,v) :: G,env=>if Vm a c=true then (s,v) :: LF c G env else LF c G env
def My (j:Nat) (a:Bool):Option (Ch×Bool×AV)->Option AV->Option (Ch×Bool)
 | some (c,T,.p .bool b),_=>some ((j,a) :: c,T&&(b==a))
 | none,some (.p .bool b)=>some ([(j,a)],b==a)
 | _,_=>none
def Kd (G:Gs) (env:List (Nat×AV)) (j:Nat) (a:Bool):Option Nat->Option (Ch×Bool)
 | some s=>My j a (lk s G) (lk s env)
 | none=>none
def JM (ops:List Oper) (G:Gs) (env:List (Nat×AV)) (i:Nat):Option (Nat×Bool)->Option (Ch×Bool)
 | none=>some ([],true)
 | some (j,a)=>if j<i then Kd G env j a (Ak ops j) else none
def RJ (ops:List Oper) (c:Ch) (s:Nat) (w:Bool):Option (Ch×Bool×AV)->Option AV->Option AV
 | some (a,_,v),_=>if Vm a c=true then some v else match a with
  | []=>none
  | (j,w') :: r=>if w'=w/\Ak ops j=some s/\OT r c=true then some v else none
 | none,x=>x
def Ls (ops:List Oper) (c:Ch) (G:Gs) (env:List (Nat×AV)) (s:Nat) (w:Bool):Operand->Option AV
 | .tmp t=>RJ ops c s w (lk t G) (lk t env)
 | .const v=>some (Il v)
 | .func _=>none
 | .global _=>none
def RK:Option AV->Option AV->Option AV->BZ
 | some (.p .bool b),some (.p .bool p),some (.p .bool q)=>some (True,.p .bool (bif b then p else q),[])
 | _,_,_=>none
def Pu (ops:List Oper) (c:Ch) (G:Gs) (env:List (Nat×AV)):Operand->Operand->Operand->BZ
 | .tmp s,x,y=>RK (lk s (LF c G env)) (Ls ops c G env s true x) (Ls ops c G env s false y)
 | .const _,_,_=>none
 | .func _,_,_=>none
 | .global _,_,_=>none
def JN:Op->Option (Operand×Operand×Operand)
 | .pick s x y=>some (s,x,y)
 | _=>none
def opM (tb:Tb) (ops:List Oper) (q:Bool) (base:List (Nat×Obj)) (c:Ch) (G:Gs) (E:List (Nat×List (Nat×Obj))) (env:List (Nat×AV)) (o:Oper):Option (Operand×Operand×Operand)->BZ
 | some (s,x,y)=>Pu ops c G env s x y
 | none=>aq tb ⟨LF c G env,Nh q o.op base E⟩ (o.dst.getD 0) o.op
mutual
def Mz (tb:Tb) (ops:List Oper) (q:Bool) (base:List (Nat×Obj)) (rest:List Oper):List Oper->Nat->List (Nat×List (Nat×Obj))->Gs->St->Cz
 | [],_,_,_,σ=>B1 tb ops rest σ
 | o :: r,i,E,G,σ=>evMG tb ops q base rest o r i E G σ (JM ops G σ.env i o.guard)
def evMG (tb:Tb) (ops:List Oper) (q:Bool) (base:List (Nat×Obj)) (rest:List Oper) (o:Oper) (r:List Oper) (i:Nat) (E:List (Nat×List (Nat×Obj))) (G:Gs) (σ:St):Option (Ch×Bool)->Cz
 | some (c,T)=>evMQ tb ops q base rest o.dst r i E G σ c T (opM tb ops q base c G E σ.env o (JN o.op))
 | none=>none
def evMQ (tb:Tb) (ops:List Oper) (q:Bool) (base:List (Nat×Obj)) (rest:List Oper) (dst:Option Nat) (r:List Oper) (i:Nat) (E:List (Nat×List (Nat×Obj))) (G:Gs) (σ:St):Ch->Bool->BZ->Cz
 | [],_,some (vc,v,obs)=>match dst with
  | some d=>if Bg obs σ=true then YK vc (Mz tb ops q base rest r (i+1) (LE d obs E) G (σ.add v obs (some d))) else none
  | none=>none
 | g :: c,T,some (vc,v,[])=>match dst with
  | some d=>if (lk d σ.env).isNone=true then YK (T=true->vc) (Mz tb ops q base rest r (i+1) E ((d,g :: c,T,v) :: G) σ) else none
  | none=>none
 | _,_,_=>none
end
structure En where
 b:Bool
 v:AV
 obs:List (Nat×Obj)
def Am (ops:List Oper) (en:Nat->En) (σ:St):List Nat->St
 | []=>σ
 | i :: r=>(Am ops en σ r).add (en i).v (en i).obs (Ak ops i)
def Ah:Nat->List Nat
 | 0=>[]
 | i+1=>i :: Ah i
end
section
open Go Go.RowKit
section
variable {tb:Tb} {ops:List Oper} {k:Nat} {q:Bool} {anc:List (List Nat)} {σ0:St} {en:Nat->En}
def ES (ops:List Oper) (en:Nat->En) (l:List Nat):List (Nat×List (Nat×Obj)):=l.map λj=>((Ak ops j).getD 0,(en j).obs)
def Ke (ops:List Oper) (σ:St) (b:Bool):Option (Nat×Bool)->Prop
 | none=>b=true
 | some (j,a)=>∃s,Ak ops j=some s/\((∃x,lk s σ.env=some (.p .bool x)/\b=(x==a))\/(lk s σ.env=some (.raw undef)/\b=false))
structure Vn (tb:Tb) (ops:List Oper) (q:Bool) (σ0:St) (en:Nat->En) (i:Nat) (o:Oper):Prop where
 g:Ke ops (Am ops en σ0 (Ah i)) (en i).b o.guard
 t:(en i).b=true->∃vc:Prop,aq tb ⟨(Am ops en σ0 (Ah i)).env,B8 q (Hc o.op) σ0.objs (ES ops en (Ah i))⟩ (o.dst.getD 0) o.op=some (vc,(en i).v,(en i).obs)/\vc/\Bg (en i).obs (Am ops en σ0 (Ah i))=true
 f:(en i).b=false->(en i).v=.raw undef/\(en i).obs=[]
theorem IA {a:Nat->En}:∀ {l:List Nat},(∀j∈l,a j=en j)->Am ops a σ0 l=Am ops en σ0 l
 | [],_=>rfl
 | i :: r,h=>by
  simp only[Am];rw[IA (λj b=>h j (by simp[b])),h i sc]
theorem BK {i j:Nat}:j∈Ah i↔j<i:=by
 induction i with
 | zero=>simp[Ah]
 | succ i a=>simp[Ah,a];omega
theorem FU:∀(l:List Nat),(Am ops en σ0 l).objs=(l.flatMap λj=>(en j).obs)++σ0.objs
 | []=>rfl
 | i :: r=>by
  simp only[Am,ABn,SZ];rw[<-FU r];cases Ak ops i<;>rfl
theorem FW (s:Nat):∀(l:List Nat),lk s (Am ops en σ0 l).env=match l.find? (λj=>Ak ops j==some s) with|some j=>some (en j).v|none=>lk s σ0.env
 | []=>rfl
 | i :: r=>by
  simp only[Am,List.find?_cons];cases hd:Ak ops i with
  | none =>
   simp only[St.add];rw[FW s r];have:((none:Option Nat)==some s)=false:=rfl;rw[this]
  | some d =>
   simp only[St.add,lk];by_cases hs:s=d
   .subst hs;simp
   have h1:((some d:Option Nat)==some s)=false:=by
    have:d≠s:=λe=>hs e.symm;simpa using this
   rw[BY hs,FW s r,h1]
theorem rH {n:Nat} {o:Obj} {l:List Nat} (h:lk n (l.flatMap λj=>(en j).obs)=some o):∃j∈l,lk n (en j).obs=some o:=by
 induction l with
 | nil=>simp[lk]at h
 | cons i r d =>
  rw[ABn,A7]at h;cases a:lk n (en i).obs with
  | some e =>
   rw[a]at h;exact⟨i,by simp,by rw[a];simpa using h⟩
  | none =>
   rw[a]at h;obtain⟨j,b,c⟩:=d (by simpa using h);exact⟨j,by simp[b],c⟩
theorem Kg {n:Nat} {l:List Nat} (h:lk n (l.flatMap λj=>(en j).obs)=none):∀j∈l,lk n (en j).obs=none:=by
 induction l with
 | nil=>simp
 | cons i r c =>
  rw[ABn,A7]at h;cases a:lk n (en i).obs with
  | some d=>rw[a]at h;simp at h
  | none =>
   rw[a]at h;intro j b;rcases At.1 b with rfl|b
   .exact a
   grind
def Sep (σ0:St) (en:Nat->En) (k:Nat):Prop :=
 (∀j,j<k->∀n o,lk n (en j).obs=some o->lk n σ0.objs=none)/\∀i j,i<k->j<k->∀n o a,lk n (en i).obs=some o->lk n (en j).obs=some a->i=j
theorem Em (f:Sep σ0 en k) {l:List Nat} (hl:∀j∈l,j<k) (n:Nat) (o:Obj):lk n (Am ops en σ0 l).objs=some o↔(∃j∈l,lk n (en j).obs=some o)\/((∀j∈l,lk n (en j).obs=none)/\lk n σ0.objs=some o):=by
 rw[FU,A7];cases h:lk n (l.flatMap λj=>(en j).obs) with
 | some g =>
  obtain⟨j,b,a⟩:=rH h;simp only[ABX];constructor
  .grind
  rintro (⟨c,d,e⟩|⟨h1,_⟩)
  .have:=f.2 j c (hl j b) (hl c d) n g o a e;grind
  rw[h1 j b]at a;cases a
 | none =>
  have hn:=Kg h;simp only[Option.none_or];constructor
  .grind
  grind
theorem A0h (f:Sep σ0 en k) {ts:List Nat} {l l':List Nat} (hl:∀j∈l,j<k) (e:∀j∈l',j<k) (d:∀j∈l,(q||AU ((Ak ops j).getD 0) ts)=true->j∈l') {n:Nat} {o:Obj} :
  lk n (B8 q ts σ0.objs (ES ops en l))=some o->lk n (Am ops en σ0 l').objs=some o:=by
 rw[Em f e];induction l with
 | nil =>
  simp only[ES,ABj,B8];intro h;refine .inr ⟨λj b=>?_,h⟩;cases a:lk n (en j).obs with
  | none=>rfl
  | some g=>have:=f.1 j (e j b) n g a;rw[this]at h;cases h
 | cons i r c =>
  simp only[ES,Sj,B8];have c:=c (λj b=>hl j (by simp[b])) (λj b=>d j (by simp[b]));split
  .rename_i m;intro h;rw[A7]at h;cases a:lk n (en i).obs with
   | some g =>
    rw[a]at h;simp only[ABX]at h;cases h;exact .inl ⟨i,d i sc m,a⟩
   | none =>
    rw[a]at h;exact c (by simpa[ES] using h)
  exact c
theorem Pv:∀ {a b:Ch},OT a b=true↔a=b
 | [],[]=>by simp[OT]
 | (j,w) :: r,(d,w') :: c=>by simp[OT,Pv (a:=r) (b:=c),and_assoc]
 | [],_ :: _=>by simp[OT]
 | _ :: _,[]=>by simp[OT]
def bv:AV->Bool
 | .p .bool b=>b
 | _=>false
def tr (en:Nat->En):Ch->Bool
 | []=>true
 | (j,w) :: r=>tr en r&&(bv (en j).v==w)
theorem Vo {a:Nat->En}:∀ {c:Ch},(∀k∈c,a k.1=en k.1)->tr a c=tr en c
 | [],_=>rfl
 | (j,w) :: r,h=>by
  have h1:=h (j,w) sc;simp only at h1;simp only[tr];rw[Vo (λk hk=>h k (by simp[hk])),h1]
theorem mJ {a:Ch}:∀ {c:Ch},Vm a c=true->tr en c=true->tr en a=true
 | [],h,ht=>by simp only[Vm,Pv]at h;rw[h];exact ht
 | k :: r,h,ht=>by
  simp only[Vm,UO,Pv]at h;rcases h with rfl|h
  .exact ht
  obtain⟨j,w⟩:=k;simp only[tr,An]at ht;exact mJ h ht.1
structure Inv (ops:List Oper) (q:Bool) (σ0:St) (en:Nat->En) (i:Nat) (E:List (Nat×List (Nat×Obj))) (G:Gs) (σ:St):Prop where
 env:∀s v,lk s σ.env=some v->lk s (Am ops en σ0 (Ah i)).env=some v
 G:∀s c T v,(s,c,T,v)∈G->T=tr en c/\(T=true->lk s (Am ops en σ0 (Ah i)).env=some v)/\(∀k∈c,k.1<i)/\∃j,j<i/\Ak ops j=some s/\(en j).b=T
 f:∀j,j<i->(en j).b=false->(en j).v=.raw undef
 objs:σ.objs=(Am ops en σ0 (Ah i)).objs
 E:∀ts,B8 q ts σ0.objs E=B8 q ts σ0.objs (ES ops en (Ah i))
def mK (ops:List Oper) (k:Nat):Prop:=∀a b,a<b->b<k->Ak ops a≠Ak ops b
theorem Yr (hu:mK ops k) {i j s:Nat} (c:i<=k) (b:j<i) (hd:Ak ops j=some s):lk s (Am ops en σ0 (Ah i)).env=some (en j).v:=by
 rw[FW];have:(Ah i).find? (λj=>Ak ops j==some s)=some j:=by
  cases hf:(Ah i).find? (λj=>Ak ops j==some s) with
  | none =>
   have:=ABU.1 hf j (BK.2 b);simp[hd]at this
  | some x =>
   have h1:=BK.1 (ABo hf);have a:=AC9 hf;have a:Ak ops x=some s:=by simpa using a
   rcases ABy x j with h|h|h
   .exact absurd (a.trans hd.symm) (hu x j h oa)
   .rw[h]
   exact absurd (hd.trans a.symm) (hu j x h oa)
 rw[this]
theorem RL {c:Ch} {s:Nat} {v:AV} {env:List (Nat×AV)}:∀ {G:Gs},lk s (LF c G env)=some v->(∃b T,(s,b,T,v)∈G/\Vm b c=true)\/lk s env=some v
 | [],h=>.inr h
 | (e,b,T,f) :: G,h=>by
  simp only[LF]at h;split at h
  .rename_i hs;simp only[lk]at h;split at h
   .grind
   rcases RL h with ⟨c2,T2,d,a⟩|a
   .grind
   exact .inr a
  rcases RL h with ⟨c2,T2,d,a⟩|a
  .grind
  exact .inr a
section
variable {i:Nat} {E:List (Nat×List (Nat×Obj))} {G:Gs} {σ:St}
theorem fO (a:Inv ops q σ0 en i E G σ) {c:Ch} (f:tr en c=true) {s:Nat} {v:AV} (h:lk s (LF c G σ.env)=some v):lk s (Am ops en σ0 (Ah i)).env=some v:=by
 rcases RL h with ⟨b,T,d,hs⟩|h
 .obtain⟨h1,e,_⟩:=a.G s b T v d;grind [mJ]
 exact a.env s v h
theorem wA (l:Inv ops q σ0 en i E G σ) (hu:mK ops k) (u:i<=k) {g:Option (Nat×Bool)} {c:Ch} {T:Bool} (h:JM ops G σ.env i g=some (c,T)) :
  Ke ops (Am ops en σ0 (Ah i)) T g/\T=tr en c/\(∀k∈c,k.1<i):=by
 cases g with
 | none =>
  simp only[JM]at h;cases h;exact⟨rfl,rfl,by simp⟩
 | some g =>
  obtain⟨j,y⟩:=g;simp only[JM]at h;split at h
  .rename_i p;cases hd:Ak ops j with
   | none=>rw[hd]at h;simp[Kd]at h
   | some s =>
    rw[hd]at h;simp only[Kd]at h;have d:=Yr (en:=en) (σ0:=σ0) hu u p hd;unfold My at h;split at h
    .rename_i c0 n b m;cases h;obtain⟨h1,r,w,e,x,o,t⟩:=l.G s c0 n _ (FK m);cases hT:n with
     | true =>
      have a:=r hT;rw[d]at a;injection a with a
      refine⟨⟨s,hd,.inl ⟨b,by rw[d,a],by simp⟩⟩,?_,?_⟩
      .grind [tr,bv]
      grind
     | false =>
      have v:e=j:=by
       rcases ABy e j with h|h|h
       .exact absurd (o.trans hd.symm) (hu e j h oa)
       .exact h
       exact absurd (hd.trans o.symm) (hu j e h oa)
      subst v;have a:=l.f e p (by rw[t,hT]);refine⟨⟨s,hd,.inr ⟨by rw[d,a],by simp⟩⟩,?_,?_⟩
      .grind [tr]
      grind
    .rename_i b _ m;cases h;have a:=l.env s _ m;rw[d]at a;injection a with a
     refine⟨⟨s,hd,.inl ⟨b,by rw[d,a],rfl⟩⟩,by simp[tr,a,bv],?_⟩;grind
    cases h
  cases h
theorem fP (d:Inv ops q σ0 en i E G σ) (hu:mK ops k) (n:i<=k) {c:Ch} (y:tr en c=true) {s:Nat} {w:Bool} (hs:lk s (Am ops en σ0 (Ah i)).env=some (.p .bool w)) {x:Operand} {v:AV}
  (h:Ls ops c G σ.env s w x=some v) {objs:List (Nat×Obj)}:Aq ⟨(Am ops en σ0 (Ah i)).env,objs⟩ x=some v:=by
 cases x with
 | const x=>simp only[Ls]at h;exact h
 | func f=>simp[Ls]at h
 | global g=>simp[Ls]at h
 | tmp t =>
  simp only[Ls]at h;simp only[Aq];cases a:lk t G with
  | none =>
   rw[a]at h;exact d.env t v h
  | some e =>
   obtain⟨b,T,o⟩:=e;rw[a]at h;simp only[RJ]at h;obtain⟨h1,u,m,_⟩:=d.G t b T o (FK a);split at h
   .grind [mJ]
   cases b with
   | nil=>cases h
   | cons p r =>
    obtain⟨j,w'⟩:=p;simp only at h;split at h
    .rename_i hh;obtain⟨rfl,hd,l⟩:=hh;rw[Pv]at l;subst l;cases h;have z:=Yr (en:=en) (σ0:=σ0) hu n (m (j,w') sc) hd;grind [tr,bv]
    cases h
theorem A6Z (a:Inv ops q σ0 en i E G σ) (hu:mK ops k) (l:i<=k) {c:Ch} (d:tr en c=true) {o:Oper} {vc:Prop} {v:AV} {obs:List (Nat×Obj)} (h:opM tb ops q σ0.objs c G E σ.env o (JN o.op)=some (vc,v,obs)) (A:vc) :
  ∃m:Prop,aq tb ⟨(Am ops en σ0 (Ah i)).env,B8 q (Hc o.op) σ0.objs (ES ops en (Ah i))⟩ (o.dst.getD 0) o.op=some (m,v,obs)/\m:=by
 cases j:JN o.op with
 | none =>
  rw[j]at h;simp only[opM]at h;refine⟨vc,Ub (σ:=⟨LF c G σ.env,Nh q o.op σ0.objs E⟩) ?_ ?_ h,A⟩
  .intro n x hn;have:Nh q o.op σ0.objs E=B8 q (Hc o.op) σ0.objs E:=by cases E<;>rfl
   simp only at hn ⊢;rw[this,a.E]at hn;exact hn
  intro x _ v e;cases x with
  | tmp t=>exact fO a d e
  | const B=>exact e
  | global g=>exact e
  | func f=>exact e
 | some p =>
  obtain⟨s,x,y⟩:=p;rw[j]at h;have z:o.op=.pick s x y:=by
   unfold JN at j;grind
  simp only[opM]at h;rw[z];cases s with
  | const _=>simp[Pu]at h
  | func _=>simp[Pu]at h
  | global _=>simp[Pu]at h
  | tmp s =>
   simp only[Pu]at h;unfold RK at h;split at h
   .rename_i b p r h1 u w;cases h;have hs:=fO a d h1;refine⟨True,?_,trivial⟩;have h0:Aq ⟨(Am ops en σ0 (Ah i)).env,B8 q (Hc (Op.pick (.tmp s) x y)) σ0.objs (ES ops en (Ah i))⟩ (.tmp s)=some (.p .bool b):=hs;simp only[aq];rw[h0];cases b with
    | true =>
     simp only[LU];rw[fP a hu l d hs u];rfl
    | false =>
     simp only[LU];rw[fP a hu l d hs w];rfl
   cases h
end
theorem RM {rest:List Oper} (hu:mK ops k):∀ {fr:List Oper} {i:Nat} {E:List (Nat×List (Nat×Obj))} {G:Gs} {σ σ':St} {en:Nat->En} {vc:Prop},Mz tb ops q σ0.objs rest fr i E G σ=some (vc,σ')->vc->Inv ops q σ0 en i E G σ->i+fr.length=k->(∀j,j<fr.length->ops[i+j]?=fr[j]?) ->
  ∃l:Nat->En,(∀j,j<i->l j=en j)/\(∀j o,i<=j->j<k->ops[j]?=some o->Vn tb ops q σ0 l j o) /\
   ∃(B:Prop) (σ2:St),B1 tb ops rest σ2=some (B,σ')/\B/\(∀s v,lk s σ2.env=some v->lk s (Am ops l σ0 (Ah k)).env=some v)/\σ2.objs=(Am ops l σ0 (Ah k)).objs
 | [],i,E,G,σ,σ',en,vc,h,D,m,hk,_=>by
  simp only[Mz]at h;simp at hk;subst hk;exact⟨en,λ_ _=>rfl,λj o h1 N=>by omega,vc,σ,h,D,m.env,m.objs⟩
 | o :: r,i,E,G,σ,σ',en,vc,h,D,m,hk,ai=>by
  have ag:ops[i]?=some o:=by simpa using ai 0 sc
  have O:Ak ops i=o.dst:=by simp[Ak,ag]
  have R:i<k:=by simp at hk;omega
  simp only[Mz]at h;cases Q:JM ops G σ.env i o.guard with
  | none=>rw[Q]at h;simp[evMG]at h
  | some al =>
   obtain⟨c,T⟩:=al;obtain⟨bb,hT,Z⟩:=wA m hu (ABO R) Q;rw[Q]at h;simp only[evMG]at h;cases U:opM tb ops q σ0.objs c G E σ.env o (JN o.op) with
   | none =>
    rw[U]at h;unfold evMQ at h;split at h
    .rename_i P;cases P
    .rename_i P;cases P
    cases h
   | some bi =>
    obtain⟨bj,v,obs⟩:=bi;rw[U]at h;have ak:∀(d:Nat) (e:En) (J:List (Nat×List (Nat×Obj))) (K:Gs) (I:St) (C:Prop),o.dst=some d->e.b=T->(T=true->bj/\e.v=v/\e.obs=obs/\Bg obs σ=true)->(T=false->e.v=.raw undef/\e.obs=[]) ->
      (∀s a,lk s I.env=some a->if s=d then a=e.v else lk s σ.env=some a)->I.objs=e.obs++σ.objs ->
      (∀s u z a,(s,u,z,a)∈K->(s,u,z,a)∈G\/(s=d/\u=c/\z=T/\a=v))->(∀ts,B8 q ts σ0.objs J=B8 q ts σ0.objs ((d,e.obs) :: E)) ->
      Mz tb ops q σ0.objs rest r (i+1) J K I=some (C,σ')->C ->
      ∃l:Nat->En,(∀j,j<i->l j=en j)/\(∀j o,i<=j->j<k->ops[j]?=some o->Vn tb ops q σ0 l j o) /\
       ∃(B:Prop) (σ2:St),B1 tb ops rest σ2=some (B,σ')/\B/\(∀s v,lk s σ2.env=some v->lk s (Am ops l σ0 (Ah k)).env=some v)/\σ2.objs=(Am ops l σ0 (Ah k)).objs:=by
     intro d e J K I C p F ab aa ay bc aq ao az bh
     let t:Nat->En:=λj=>if j=i then e else en j
     have M:t i=e:=by simp[t]
     have heq:∀j,j<i->t j=en j:=λj w=>by simp[t,show j≠i by omega]
     have aw:Am ops t σ0 (Ah i)=Am ops en σ0 (Ah i):=IA λj w=>heq j (BK.1 w);have X:ES ops t (Ah i)=ES ops en (Ah i):=by
      apply Of;grind [BK]
     have ax:Am ops t σ0 (Ah (i+1))=(Am ops en σ0 (Ah i)).add e.v e.obs (some d):=by grind [Ah,Am]
     have ah:∀s a,s≠d->lk s (Am ops en σ0 (Ah i)).env=some a->lk s (Am ops t σ0 (Ah (i+1))).env=some a:=by grind [St.add,lk]
     have ad:lk d (Am ops t σ0 (Ah (i+1))).env=some e.v:=by grind [St.add,lk]
     have ar:Inv ops q σ0 t (i+1) J K I:=by
      refine⟨λs a hl=>?_,λs u z a n=>?_,λj w hb=>?_,?_,λts=>?_⟩
      .have:=ay s a hl;split at this
       .rename_i hs;rw[hs,this];exact ad
       rename_i hs;exact ah s a hs (m.env s a this)
      .rcases aq s u z a n with n|⟨rfl,rfl,rfl,rfl⟩
       .obtain⟨h1,N,L,j,w,hd,hb⟩:=m.G s u z a n;have bd:s≠d:=by
         rintro rfl;exact hu j i w R (by rw[hd,O,p])
        refine⟨by rw[Vo (en:=en) λk hk=>heq _ (L k hk)];exact h1,λhT=>ah s a bd (N hT),λk hk=>by have:=L k hk;omega,j,by omega,hd,by rw[heq j w];exact hb⟩
       refine⟨by rw[Vo (en:=en) λk hk=>heq _ (Z k hk)];exact hT,λau=>?_,λk hk=>by have:=Z k hk;omega,i,by omega,by rw[O,p],by rw[M];exact F⟩;rw[ad,(ab au).2.1]
      .by_cases S:j=i
       .subst S;rw[M]at hb ⊢;exact(aa (by rw[<-F];exact hb)).1
       rw[heq j oa]at hb ⊢;exact m.f j oa hb
      .rw[ax,bc,m.objs];rfl
      rw[ao];simp only[ES,Ah,Sj,M,O,p,ABF,B8];have:=m.E ts;rw[<-X]at this;simp only[ES]at this;rw[this]
     obtain⟨l,h1,N,L⟩:=RM hu az bh ar (by simp at hk ⊢;omega) (λj w=>by
      have:=ai (j+1) (by simp;omega);rw[show i+(j+1)=i+1+j by omega]at this;simpa using this)
     refine⟨l,λj w=>by rw[h1 j oa,heq j w],λj bm bk bl af=>?_,L⟩;by_cases S:j=i
     .subst S;rw[ag]at af;cases af;have H:l j=e:=by rw[h1 j oa,M]
      have Y:Am ops l σ0 (Ah j)=Am ops en σ0 (Ah j):=by
       rw[<-aw];exact IA λq V=>h1 q (by have:=BK.1 V;omega)
      have ap:ES ops l (Ah j)=ES ops en (Ah j):=by
       rw[<-X];apply Of;intro q V;rw[h1 q (by have:=BK.1 V;omega)]
      refine⟨by rw[Y,H,F];exact bb,λhb=>?_,λhb=>?_⟩
      .rw[H,F]at hb;obtain⟨be,bf,bg,aj⟩:=ab hb;obtain⟨B,am,an⟩:=A6Z m hu (ABO R) (by rw[<-hT];exact hb) U be;rw[H,Y,ap,bf,bg];exact⟨B,am,an,by
        simp only[Bg]at aj ⊢;rw[<-m.objs];exact aj⟩
      rw[H,F]at hb;rw[H];exact aa hb
     grind
    cases c with
    | nil =>
     cases p:o.dst with
     | none=>rw[p]at h;simp[evMQ]at h
     | some d =>
      rw[p]at h;simp only[evMQ]at h;split at h
      .rename_i ba;cases A:Mz tb ops q σ0.objs rest r (i+1) (LE d obs E) G (σ.add v obs (some d)) with
       | none=>rw[A]at h;simp[YK]at h
       | some W =>
        obtain⟨C,σ2⟩:=W;rw[A]at h;simp only[YK]at h;cases h;have av:T=true:=by rw[hT];rfl
        refine ak d ⟨T,v,obs⟩ _ _ _ C p rfl (λ_=>⟨D.1,rfl,rfl,ba⟩) (λhf=>by rw[av]at hf;cases hf) (λs a hl=>?_) rfl (λs u z a n=>.inl n) (λts=>?_) A D.2
        .simp only[St.add,lk]at hl;split at hl
         .rename_i hs;cases hl;simp[hs]
         rename_i hs;rw[BY hs];exact hl
        cases obs with
        | nil=>simp[LE,B8]
        | cons x y=>rfl
      cases h
    | cons g u =>
     cases obs with
     | cons x y=>simp[evMQ]at h
     | nil =>
      cases p:o.dst with
      | none=>rw[p]at h;simp[evMQ]at h
      | some d =>
       rw[p]at h;simp only[evMQ]at h;split at h
       .rename_i ae;cases A:Mz tb ops q σ0.objs rest r (i+1) E ((d,g :: u,T,v) :: G) σ with
        | none=>rw[A]at h;simp[YK]at h
        | some W =>
         obtain⟨C,σ2⟩:=W;rw[A]at h;simp only[YK]at h;cases h;refine ak d ⟨T,bif T then v else .raw undef,[]⟩ _ _ _ C p rfl (λht=>⟨D.1 ht,by simp[ht],rfl,by simp[Bg]⟩) (λhf=>⟨by simp[hf],rfl⟩) (λs a hl=>?_) rfl (λs c2 z a n=>?_) (λts=>?_) A D.2
         .have:s≠d:=by
           rintro rfl;rw[hl]at ae;cases ae
          rw[BY this];exact hl
         .rcases At.1 n with n|n
          .cases n;exact .inr ⟨rfl,rfl,rfl,rfl⟩
          exact .inl n
         simp[B8]
       cases h
end
section
variable {c:Cx} {ops:Array Oper} {k:Nat} {anc:List (List Nat)} {σ0 σ':St} {en:Nat->En} {Q:Exit->Act->World->Prop}
theorem A0i {o:Oper} {e:Edge} (a:e∈o.after) (hb:Region.binds .any e=true):e.on∈DF o:=by grind [DF]
theorem CS {listed:Array Bool} {i:Nat}:i∈Region.ready .any ops listed↔listed.getD i true=false/\∃o,ops[i]?=some o/\∀e∈DF o,listed.getD e false=true:=by
 rw[mem_ready];grind [DF,A0i]
structure Ys (ops:Array Oper) (k:Nat) (anc:List (List Nat)):Prop where
 lt:∀i o,ops[i]?=some o->∀e∈DF o,e<i
 cl:∀i o,ops[i]?=some o->∀j∈anc.getD i [],j∈DF o\/∃e∈DF o,j∈anc.getD e []
 front:∀i o,ops[i]?=some o->i<k->(∃d,o.dst=some d)/\(∀t∈Mw ops.toList o,∀j,j<k->Ak ops.toList j=some t->j∈anc.getD i [])/\∀j,j<i->Ak ops.toList j≠o.dst
 back:∀i o,ops[i]?=some o->k<=i->∀j,j<i->j∈anc.getD i []
 k:k<=ops.size
theorem A8u (h:mH ops.toList k anc=true):Ys ops k anc:=by
 simp only[mH,An,NO,UJ,Is]at h;obtain⟨hk,h⟩:=h;have hi:∀i o,ops[i]?=some o->opB ops.toList k anc i o=true:=by grind
 refine⟨λi o a e g=>?_,λi o a j b=>?_,λi o a c=>?_,λi o a c j b=>?_,by simpa using hk⟩
 .grind [opB]
 .grind [opB,Aa]
 .have:=hi i o a;simp only[opB,c,AAd,An,NO,UJ,UO,Aa,ABw]at this;obtain⟨_,⟨h1,f⟩,d⟩:=this;refine⟨AAM.1 h1,λt ht j b hd=>?_,d⟩;grind
 have:=hi i o a;simp only[opB,show ¬i<k by omega,AAp,An,NO,UJ,Aa]at this;exact this.2 j b
theorem Vp (a:Ys ops k anc) {listed:Array Bool} (f:∀i o,ops[i]?=some o->listed.getD i true=true->∀e∈DF o,listed.getD e false=true) :
  ∀i o,ops[i]?=some o->(∀e∈DF o,listed.getD e false=true)->∀j∈anc.getD i [],listed.getD j false=true:=by
 intro i;induction i using Nat.strongRecOn with
 | _ i l =>
  intro o b hd j d;rcases a.cl i o b j d with h1|⟨e,c,g⟩
  .exact hd j h1
  have h:=a.lt i o b e c;grind
theorem Yt {l:List Oper} {p:Nat} {o:Oper} {r:List Oper} (h:l.drop p=o :: r):l[p]?=some o/\r=l.drop (p+1):=by
 constructor
 .have:(l.drop p)[0]?=some o:=by rw[h];rfl
  grind
 rw[<-ABp,h];rfl
theorem Pw {F:Fence} {P:Program} (d:Ys ops k anc):∀ {rest:List Oper} {p:Nat} {listed:Array Bool} {a:Act} {w:World},ops.toList.drop p=rest->k<=p->p<=ops.size->listed.size=ops.size ->
  (∀i,i<ops.size->(listed.getD i true=true↔i<p))->wpListIn F 0 P ops Q rest a w->wpAnyIn F 0 P .any ops Q rest.length listed a w
 | [],p,listed,a,w,hd,H,J,m,hl,c=>by
  have O:p=ops.size:=by
   have:=oN List.length hd;simp at this;omega
  refine⟨?_,c⟩;apply ABD.2;grind [CS]
 | o :: r,p,listed,a,w,hd,H,J,m,hl,c=>by
  obtain⟨f,A⟩:=Yt hd;have f:ops[p]?=some o:=by simpa using f
  have q:p<ops.size:=(Sg.1 f).1;have u:∀e b,e<ops.size->listed.getD e b=listed.getD e true:=λe b g=>by grind
  have D:∀i o,ops[i]?=some o->listed.getD i true=true->∀e∈DF o,listed.getD e false=true:=by
   intro i o z h1 e g;have s:i<ops.size:=(Sg.1 z).1;have v:=(hl i s).1 h1;have h:=d.lt i o z e g;grind
  have K:∀i,i∈Region.ready .any ops listed->i=p:=by
   intro i hi;rw[CS]at hi;obtain⟨h1,B,n,v⟩:=hi;have s:i<ops.size:=(Sg.1 n).1;have M:¬i<p:=λI=>by rw[(hl i s).2 I]at h1;cases h1
   by_cases l:i=p
   .exact l
   have h:=Vp d D i B n v p (d.back i B n oa p oa);rw[u p false q]at h;have:=(hl p q).1 h;omega
  refine⟨λN=>?_,λi hi=>?_⟩
  .exfalso;have:p∈Region.ready .any ops listed:=by
    rw[CS];refine⟨?_,o,f,λe g=>?_⟩
    .cases hh:listed.getD p true with
     | false=>rfl
     | true=>have:=(hl p q).1 hh;omega
    have:=d.lt p o f e g;rw[u e false oa];exact(hl e oa).2 this
   grind
  have l:=K i hi;subst l;have y:∀(j:Nat),j<ops.size->((listed.setIfInBounds i true).getD j true=true↔j<i+1):=by
   intro j E;have G:j<listed.size:=by omega
   by_cases x:j=i
   .subst x;simp[Array.getD,G]
   have h1:(listed.setIfInBounds i true).getD j true=listed.getD j true:=getD_set_ne true (λe=>x e.symm);rw[h1,hl j E];omega
  unfold wpOpIn;rw[f];simp only;unfold wpListIn at c;split
  .rename_i t;rw[DO t]at c;exact Oper.wpIn_mono (λL w' C=>Pw d A.symm oa oa (by simpa using m) y C) c
  rename_i t;rw[BY t]at c;exact⟨c.1,Pw d A.symm oa oa (by simpa using m) y c.2⟩
end
end
section
open Go Go.RowKit
theorem DY:∀(k:Nat) (l:List Nat),l.Nodup->(∀j∈l,j<k)->l.length<=k
 | 0,l,_,h=>by
  cases l with
  | nil=>simp
  | cons x r=>have:=h x sc;omega
 | k+1,l,hn,h=>by
  by_cases hk:k∈l
  .have:=DY k (l.erase k) (hn.erase k) (λj a=>by
    have h1:=(hn.mem_erase_iff).1 a;have:=h j h1.2;have:=h1.1;omega)
   grind
  have:=DY k l hn (λj a=>by
   have:=h j a;have:j≠k:=λe=>hk (e▸a);omega)
  omega
theorem rI:∀(k:Nat) (l:List Nat),(∀j,j<k->j∈l)->k<=l.length
 | 0,l,_=>by simp
 | k+1,l,h=>by
  have hk:=h k oa;have:=rI k (l.erase k) (λj a=>(ABH oa).2 (h j oa));grind
theorem OU {c:Cx} {σ σ':St} {a:Act} {w:World} (i:∀s,lk s σ'.env=lk s σ.env) (f:∀n,lk n σ'.objs=lk n σ.objs) (h:c.sat σ a w):c.sat σ' a w:=by
 obtain⟨ρ,h⟩:=h;have d:Gz σ'=Gz σ:=by
  funext n;simp only[Gz,f]
 have g:∀w,vw w c.O0 σ' ρ=vw w c.O0 σ ρ:=by
  intro w;have j:own c.O0 σ' ρ=own c.O0 σ ρ:=by
   funext b;simp only[own,d]
  simp only[vw,d,j]
 refine⟨ρ,h.frm,h.nt,h.defers,λp k=>by rw[d];exact h.pin p k,?_,?_,?_,?_⟩
 .intro n o hn;rw[g];exact h.objs n o (by rw[<-f];exact hn)
 .intro n b hl hb;exact h.free n b (by rw[<-d];exact hl) hb
 .intro n m b h1 e;rw[d]at h1 e;exact h.dist n m b h1 e
 intro s v hs;rw[g];exact h.env s v (by rw[<-i];exact hs)
theorem Vq {c:Cx} {σ:St} {a:Act} {w:World} (h:c.sat σ a w):c.sat σ a { w with drawn:=w.drawn+1 }:=by
 obtain⟨ρ,h⟩:=h;have hk:Cl (vw w c.O0 σ ρ) (vw { w with drawn:=w.drawn+1 } c.O0 σ ρ):=⟨λ_ _ h=>h,λ_ h=>h,λ_ _=>rfl,λ_ _ _=>rfl⟩;exact⟨ρ,⟨h.frm.os,h.frm.tape,h.frm.output,h.frm.size,h.frm.block⟩,h.nt,h.defers,h.pin,λn o b=>(h.objs n o b).keeps hk λ_ _=>rfl,h.free,h.dist,λs v hs=>(h.env s v hs).keeps hk⟩
theorem Ue {c:Cx} {σ σ':St} {a:Act} {w:World} (d:∀s v,lk s σ'.env=some v->lk s σ.env=some v) (e:∀n,lk n σ'.objs=lk n σ.objs) (h:c.sat σ a w):c.sat σ' a w:=by
 have b:c.sat ⟨σ.env,σ'.objs⟩ a w:=OU (σ:=σ) (λ_=>rfl) e h;obtain⟨ρ,h⟩:=b;exact⟨ρ,h.frm,h.nt,h.defers,h.pin,h.objs,h.free,h.dist,λs v hs=>h.env s v (d s v hs)⟩
theorem Lt {c:Cx} {ops:Array Oper} {σ:St} {a:Act} {w:World} (hs:c.sat σ a w) {o:Oper} {b:Bool} (h:Ke ops.toList σ b o.guard):Region.wanted o (yielded ops a.tmps)=b:=by
 cases d:o.guard with
 | none =>
  rw[d]at h;simp only[Ke]at h;simp[Region.wanted,d,h]
 | some g =>
  obtain⟨j,k⟩:=g;rw[d]at h;simp only[Ke]at h;obtain⟨s,hd,h⟩:=h;rcases h with ⟨x,hl,rfl⟩|⟨hl,rfl⟩
  .refine HZ hs ?_;grind [FF,Ak,Lg,Q9]
  obtain⟨ρ,hs⟩:=hs;have f:a.tmps.getD s undef=undef:=hs.env s _ hl;have i:(ops[j]?).bind (·.dst)=some s:=by simpa[Ak] using hd
  have hy:yielded ops a.tmps j=none:=by
   simp only[yielded,i,Option.bind_some];by_cases e:s<a.tmps.size
   .have:a.tmps.getD s undef=a.tmps[s]:=by simp[Array.getD,e]
    rw[this]at f;rw[AA4 e,f];rfl
   grind
  simp[Region.wanted,d,hy]
section
variable {c:Cx} {ops:Array Oper} {k:Nat} {q:Bool} {anc:List (List Nat)} {σ0 σ':St} {en:Nat->En} {Q:Exit->Act->World->Prop}
theorem A70 (hF:∀j o,j<k->ops[j]?=some o->Vn c.tb ops.toList q σ0 en j o) (hk:k<=ops.size):Sep σ0 en k:=by
 have one:∀j,j<k->∀n o,lk n (en j).obs=some o->lk n (Am ops.toList en σ0 (Ah j)).objs=none:=by
  intro j a n o hn;have h:ops[j]?=some (ops[j]'(by omega)):=AA4 oa;have h1:=hF j _ a h;cases hb:(en j).b with
  | true =>
   obtain⟨_,_,_,hf⟩:=h1.t hb;exact OI hf hn
  | false =>
   rw[(h1.f hb).2]at hn;simp[lk]at hn
 have low:∀i j,i<j->j<k->∀n o d,lk n (en i).obs=some o->lk n (en j).obs=some d->False:=by
  intro i j g a n o d h1 e;have:=one j a n d e;rw[FU,A7]at this;cases hl:lk n ((Ah j).flatMap λj=>(en j).obs) with
  | some x=>rw[hl]at this;simp at this
  | none =>
   have:=Kg hl i (BK.2 g);rw[this]at h1;cases h1
 refine⟨λj a n o hn=>?_,λi j hi a n o d h1 e=>?_⟩
 .grind [FU,A7,lk,Ah]
 grind
theorem A0j (b:Ys ops k anc) {l:List Nat} (hl:∀j∈l,j<k) {s j:Nat} (d:j∈l) (hd:Ak ops.toList j=some s):l.find? (λj=>Ak ops.toList j==some s)=some j:=by
 have hu:∀i,i∈l->Ak ops.toList i=some s->i=j:=by
  intro i hi e;have h1:=hl i hi;have a:=hl j d;have f:=b.k;have get:∀x,x<k->Ak ops.toList x=(ops[x]?).bind (·.dst):=λx _=>by simp[Ak]
  rcases ABy i j with h|h|h
  .have c:ops[j]?=some (ops[j]'(by omega)):=AA4 oa;have:=(b.front j _ c a).2.2 i h;grind
  .exact h
  have c:ops[i]?=some (ops[i]'(by omega)):=AA4 oa;have:=(b.front i _ c h1).2.2 j h;grind
 cases hf:l.find? (λj=>Ak ops.toList j==some s) with
 | none =>
  have:=ABU.1 hf j d;simp[hd]at this
 | some i =>
  have h1:=ABo hf;have a:=AC9 hf;rw[hu i h1 (by simpa using a)]
theorem Vr (a:Ys ops k anc) {l l':List Nat} (hl:∀j∈l,j<k) (b:∀j∈l',j<k) {s:Nat} (h:∀j,j<k->Ak ops.toList j=some s->j∈l/\j∈l') :
  lk s (Am ops.toList en σ0 l).env=lk s (Am ops.toList en σ0 l').env:=by
 rw[FW,FW];by_cases hx:∃j,j<k/\Ak ops.toList j=some s
 .grind [A0j]
 grind
theorem wB (Y:c.Ok) (A:Ys ops k anc) (bi:∀o∈ops.toList,H8 c.nt o=true) (hF:∀j o,j<k->ops[j]?=some o->Vn c.tb ops.toList false σ0 en j o)
  {σ2:St} (am:∀s v,lk s σ2.env=some v->lk s (Am ops.toList en σ0 (Ah k)).env=some v) (an:σ2.objs=(Am ops.toList en σ0 (Ah k)).objs) (hT:∀I w',c.sat σ2 I w'->wpListIn (FR c.r) 0 c.P ops Q (ops.toList.drop k) I w') :
  ∀(m:Nat) (ex:List Nat) (listed:Array Bool) (a:Act) (w:World),ex.Nodup->(∀j∈ex,j<k)->m+ex.length=ops.size->listed.size=ops.size->(∀i,i<ops.size->(listed.getD i true=true↔i∈ex)) ->
   (∀i o,ops[i]?=some o->i∈ex->∀e∈DF o,e∈ex)->c.sat (Am ops.toList en σ0 ex) a w->wpAnyIn (FR c.r) 0 c.P .any ops Q m listed a w:=by
 have ak:=A.k;have H:=A70 hF ak;intro m;induction m with
 | zero =>
  intro ex listed a w M z bn X hl ao hs;have h1:=DY k ex M z;have bm:k=ops.size:=by omega
  by_cases D:∀j,j<k->j∈ex
  .have aq:ops.toList.drop k=[]:=by simp[bm]
   have R:c.sat σ2 a w:=Ue am (λ_=>by rw[an]) <| OU
    (λs=>(Vr A z (λj y=>BK.1 y) λj y _=>⟨D j y,BK.2 y⟩).symm)
    (λn=>ABx λo=>by
     rw[Em H (λj y=>BK.1 y),Em H z];simp only[BK];constructor
     .grind
     rintro (⟨j,y,h⟩|⟨h1,T⟩)
     .grind
     exact .inr ⟨λj y=>h1 j (D j y),T⟩) hs
   have:=Pw (Q:=Q) (F:=FR c.r) (P:=c.P) A (rest:=[]) (p:=k) (listed:=listed) (a:=a) (w:=w) aq (No _) ak X (λi hi=>by
    rw[hl i hi];exact⟨z i,D i⟩) (by rw[<-aq];exact hT a w R)
   exact this
  exfalso;apply D;intro j y;apply IS;intro ay;have:=DY k (j :: ex) (UN.2 ⟨ay,M⟩) (λi hi=>by
   rcases At.1 hi with rfl|hi
   .exact y
   exact z i hi)
  simp at this;omega
 | succ m bz =>
  intro ex listed a w M z bn X hl ao hs;have be:∀e b,e<ops.size->listed.getD e b=listed.getD e true:=λe b C=>by grind
  by_cases D:∀j,j<k->j∈ex
  .have ch:ex.length=k:=AAy (DY k ex M z) (rI k ex D);have R:c.sat σ2 a w:=Ue am (λ_=>by rw[an]) <| OU
    (λs=>(Vr A z (λj y=>BK.1 y) λj y _=>⟨D j y,BK.2 y⟩).symm)
    (λn=>ABx λo=>by
     rw[Em H (λj y=>BK.1 y),Em H z];simp only[BK];constructor
     .grind
     rintro (⟨j,y,h⟩|⟨h1,T⟩)
     .grind
     exact .inr ⟨λj y=>h1 j (D j y),T⟩) hs
   have:=Pw (Q:=Q) (F:=FR c.r) (P:=c.P) A (rest:=ops.toList.drop k) (p:=k) (listed:=listed) (a:=a) (w:=w) rfl (No _) ak X (λi hi=>by
    rw[hl i hi];exact⟨z i,D i⟩) (hT a w R)
   grind
  refine⟨λbp=>?_,λi hi=>?_⟩
  .exfalso;apply D;intro j;induction j using Nat.strongRecOn with
   | _ j cb =>
    intro y;apply IS;intro ay;have N:ops[j]?=some (ops[j]'(by omega)):=AA4 oa;have:j∈Region.ready .any ops listed:=by
     rw[CS];refine⟨?_,_,N,λe C=>?_⟩
     .grind
     have aa:=A.lt j _ N e C;rw[be e false oa];exact(hl e oa).2 (cb e aa oa)
    rw[bp]at this;cases this
  rw[CS]at hi;obtain⟨h1,o,B,T⟩:=hi;have bc:i<ops.size:=(Sg.1 B).1;have az:i∉ex:=λh=>by rw[(hl i bc).2 h]at h1;cases h1
  have bh:∀e∈DF o,e∈ex:=λe C=>by grind
  have ad:∀j∈anc.getD i [],j∈ex:=by grind [DF,Vp]
  have L:i<k:=by
   apply IS;intro cg;exact D λj y=>ad j (A.back i o B oa j oa)
  have ag:=A.front i o B L;obtain⟨d,hd⟩:=ag.1;have bg:Ak ops.toList i=o.dst:=by simp[Ak,B]
  have ba:∀t∈Mw ops.toList o,lk t (Am ops.toList en σ0 ex).env=lk t (Am ops.toList en σ0 (Ah i)).env:=by
   intro t ht;refine Vr A z (λj y=>by have:=BK.1 y;omega) λj y ae=>?_;have aw:=ag.2.1 t ht j y ae;refine⟨ad j aw,BK.2 ?_⟩;have:∀i o,ops[i]?=some o->∀j∈anc.getD i [],j<i:=by
    intro i;induction i using Nat.strongRecOn with
    | _ i ca =>
     intro o B j y;rcases A.cl i o B j y with ab|⟨e,C,bk⟩
     .exact A.lt i o B j ab
     have bf:=A.lt i o B e C;have bc:i<ops.size:=(Sg.1 B).1;have:=ca e bf _ (AA4 oa) j bk;omega
   exact this i o B j aw
  have br:Ops ⟨(Am ops.toList en σ0 (Ah i)).env,B8 false (Hc o.op) σ0.objs (ES ops.toList en (Ah i))⟩ (Am ops.toList en σ0 ex) o.op.operands.toList:=by
   intro x hx v S;cases x with
   | tmp t =>
    simp only[Aq]at S ⊢;rw[ba t (by
     simp only[Mw,Do,ABS];exact .inl ⟨_,hx,rfl⟩)]
    exact S
   | const ci=>exact S
   | global g=>exact S
   | func f=>exact S
  have bq:dZ ⟨(Am ops.toList en σ0 (Ah i)).env,B8 false (Hc o.op) σ0.objs (ES ops.toList en (Ah i))⟩ (Am ops.toList en σ0 ex):=by
   intro n G hn;refine A0h H (λj y=>by have:=BK.1 y;omega) z (λj y aj=>?_) hn;have W:=BK.1 y;have N:ops[j]?=some (ops[j]'(by omega)):=AA4 oa;obtain⟨al,ae⟩:=(A.front j _ N oa).1;have ap:Ak ops.toList j=some al:=by simp[Ak,N,ae]
   rw[ap]at aj;simp only[Bool.false_or,ABF,Aa]at aj;refine ad j (ag.2.1 al ?_ j oa ap);simp only[Mw,Do];exact .inl aj
  have af:=hF i o L B;have E:Ke ops.toList (Am ops.toList en σ0 ex) (en i).b o.guard:=by
   have E:=af.g;cases ah:o.guard with
   | none=>rw[ah]at E;exact E
   | some g =>
    obtain⟨j,ck⟩:=g;rw[ah]at E;simp only[Ke]at E ⊢;obtain⟨s,au,E⟩:=E;refine⟨s,au,?_⟩;rw[ba s (by
     simp only[Mw,ah,Do,au];exact .inr sc)]
    exact E
  have Z:=Lt hs E;have bo:o∈ops.toList:=by grind
  have ar:=CX (bi o bo);have bb:∀I w',c.sat ((Am ops.toList en σ0 ex).add (en i).v (en i).obs o.dst) I w'->wpAnyIn (FR c.r) 0 c.P .any ops Q m (listed.setIfInBounds i true) I w':=by
   intro I w' R;refine bz (i :: ex) _ I w' (UN.2 ⟨az,M⟩) (λj y=>?_) (by simp;omega) (by simpa using X) (λj y=>?_) (λi' G J ai e C=>?_) (by simp only[Am,bg];exact R)
   .rcases At.1 y with rfl|y
    .exact L
    exact z j y
   .have bl:j<listed.size:=by omega
    by_cases W:j=i
    .subst W;simp[Array.getD,bl]
    have aa:(listed.setIfInBounds i true).getD j true=listed.getD j true:=getD_set_ne true (λe=>W e.symm);rw[aa,hl j y];simp[W]
   rcases At.1 ai with rfl|ai
   .rw[B]at J;cases J;exact GO _ (bh e C)
   exact GO _ (ao i' G J ai e C)
  unfold wpOpIn;rw[B];simp only;cases U:(en i).b with
  | true =>
   rw[U]at Z;rw[DO Z];obtain⟨cj,bt,bx,bj⟩:=af.t U;obtain⟨ρ,bd⟩:=hs;have bu:=Ub bq br bt;have av:Bg (en i).obs (Am ops.toList en σ0 ex)=true:=by
    simp only[Bg,NO]at bj ⊢;intro p bs;have bw:∃G,lk p.1 (en i).obs=some G:=by
     have:∀(l:List (Nat×Obj)),p∈l->∃G,lk p.1 l=some G:=by
      intro l;induction l with
      | nil=>intro h;cases h
      | cons q r cc =>
       intro h;obtain⟨ce,cf⟩:=q;simp only[lk];by_cases C:p.1=ce
       .exact⟨cf,by rw[DO C]⟩
       rw[BY C];rcases At.1 h with rfl|h
       .exact absurd rfl C
       exact cc h
     exact this _ bs
    obtain⟨G,J⟩:=bw;have:lk p.1 (Am ops.toList en σ0 ex).objs=none:=by
     cases ax:lk p.1 (Am ops.toList en σ0 ex).objs with
     | none=>rfl
     | some cd =>
      rw[Em H z]at ax;rcases ax with ⟨j,y,V⟩|⟨_,V⟩
      .have:=H.2 i j L (z j y) p.1 G cd J V;subst this;exact absurd y az
      rw[H.1 i L p.1 G J]at V;cases V
    simp[this]
   exact qW (A4o Y bd) bu bx av λu ρ' w' bv=>bb _ _ ⟨ρ',bd.add Y.K Y.O ar av bv⟩
  | false =>
   rw[U]at Z;rw[BY (by simp[Z])];refine⟨λ_ _=>trivial,?_⟩;have:=af.f U;have ab:=Mt Y hs ar;refine bb _ _ ?_;rw[this.1,this.2];exact ab
end
theorem wC {c:Cx} {ops:Array Oper} {k:Nat} {σ0:St} {en:Nat->En} {Q:Exit->Act->World->Prop} (h:c.Ok) (H:∀o∈ops.toList,H8 c.nt o=true) (hF:∀j o,j<k->ops[j]?=some o->Vn c.tb ops.toList true σ0 en j o) (hk:k<=ops.size)
  {σ2:St} (E:∀s v,lk s σ2.env=some v->lk s (Am ops.toList en σ0 (Ah k)).env=some v) (F:σ2.objs=(Am ops.toList en σ0 (Ah k)).objs) (hT:∀d w',c.sat σ2 d w'->wpListIn (FR c.r) 0 c.P ops Q (ops.toList.drop k) d w'):∀(m i:Nat) (a:Act) (w:World),m+i=k->c.sat (Am ops.toList en σ0 (Ah i)) a w->wpListIn (FR c.r) 0 c.P ops Q (ops.toList.drop i) a w:=by
 intro m;induction m with
 | zero =>
  intro i a w hi hs;have:i=k:=by omega
  subst this;exact hT _ _ (Ue E (λ_=>by rw[F]) hs)
 | succ m T =>
  intro i a w hi hs;have q:ops[i]?=some (ops[i]'(by omega)):=AA4 oa;generalize ops[i]'(by omega)=o at q;have hd:ops.toList.drop i=o :: ops.toList.drop (i+1):=by
   have:i<ops.toList.length:=by simp;omega
   rw[SR this];grind
  rw[hd];have p:=hF i o oa q;have n:=Lt hs p.g;have I:o∈ops.toList:=by grind
  have y:=CX (H o I);have S:Ak ops.toList i=o.dst:=by simp[Ak,q]
  have B:∀d w',c.sat ((Am ops.toList en σ0 (Ah i)).add (en i).v (en i).obs o.dst) d w'->wpListIn (FR c.r) 0 c.P ops Q (ops.toList.drop (i+1)) d w':=by grind [Ah,Am]
  unfold wpListIn;cases e:(en i).b with
  | true =>
   rw[e]at n;rw[DO n];obtain⟨R,A,N,z⟩:=p.t e;obtain⟨ρ,C⟩:=hs;have J:∀l:List Nat,B8 true (Hc o.op) σ0.objs (ES ops.toList en l)=(Am ops.toList en σ0 l).objs:=by
    intro l;rw[FU];induction l with
    | nil=>rfl
    | cons x r D=>simp only[ES,Sj,B8,Bool.true_or,AAd,ABn,SZ]at D ⊢;rw[D]
   have L:aq c.tb (Am ops.toList en σ0 (Ah i)) (o.dst.getD 0) o.op=some (R,(en i).v,(en i).obs):=by
    rw[J]at A;exact A
   exact qW (A4o h C) L N z λu ρ' w' M=>B _ _ ⟨ρ',C.add h.K h.O y z M⟩
  | false =>
   rw[e]at n;rw[BY (by simp[n])];refine⟨λ_ _=>trivial,?_⟩;have:=p.f e;have G:=Mt h hs y;refine B _ _ ?_;rw[this.1,this.2];exact G
theorem M0 {tb:Tb} {ops:List Oper} {q:Bool} {base:List (Nat×Obj)} {rest:List Oper}:∀ {fr:List Oper} {i:Nat} {E:List (Nat×List (Nat×Obj))} {G:Gs} {σ σ':St} {vc:Prop},Mz tb ops q base rest fr i E G σ=some (vc,σ')->vc ->
  ∃(b e:Prop) (f:St),Mz tb ops q base [] fr i E G σ=some (b,f)/\b/\B1 tb ops rest f=some (e,σ')/\e
 | [],i,E,G,σ,σ',vc,h,j=>by grind [Mz,B1]
 | o :: r,i,E,G,σ,σ',vc,h,j=>by
  simp only[Mz]at h;cases k:JM ops G σ.env i o.guard with
  | none=>rw[k]at h;simp[evMG]at h
  | some p =>
   obtain⟨c,T⟩:=p;rw[k]at h;simp only[evMG]at h;cases l:opM tb ops q base c G E σ.env o (JN o.op) with
   | none=>rw[l]at h;cases c<;>simp[evMQ]at h
   | some x =>
    obtain⟨t,v,obs⟩:=x;rw[l]at h;cases c with
    | nil =>
     cases hd:o.dst with
     | none=>rw[hd]at h;simp[evMQ]at h
     | some d =>
      rw[hd]at h;simp only[evMQ]at h;split at h
      .rename_i hf;cases a:Mz tb ops q base rest r (i+1) (LE d obs E) G (σ.add v obs (some d)) with
       | none=>rw[a]at h;simp[YK]at h
       | some y =>
        obtain⟨u,σ2⟩:=y;rw[a]at h;simp only[YK]at h;cases h;obtain⟨b,e,f,h1,m,n,s⟩:=M0 a j.2;exact⟨t/\b,e,f,by simp only[Mz,k,evMG,l,hd,evMQ,h1,YK];rw[DO hf],⟨j.1,m⟩,n,s⟩
      cases h
    | cons g c =>
     cases obs with
     | cons z w=>cases hd:o.dst<;>rw[hd]at h<;>simp[evMQ]at h
     | nil =>
      cases hd:o.dst with
      | none=>rw[hd]at h;simp[evMQ]at h
      | some d =>
       rw[hd]at h;simp only[evMQ]at h;split at h
       .rename_i hf;cases a:Mz tb ops q base rest r (i+1) E ((d,g :: c,T,v) :: G) σ with
        | none=>rw[a]at h;simp[YK]at h
        | some y =>
         obtain⟨u,σ2⟩:=y;rw[a]at h;simp only[YK]at h;cases h;obtain⟨b,e,f,h1,m,n,s⟩:=M0 a j.2;exact⟨(T=true->t)/\b,e,f,by simp only[Mz,k,evMG,l,hd,evMQ,h1,YK];rw[DO hf],⟨j.1,m⟩,n,s⟩
       cases h
theorem A8v {ops:List Oper} {q:Bool} {σ0:St} {en:Nat->En}:Inv ops q σ0 en 0 [] [] σ0 :=
 { env:=λ_ _ h=>h,G:=λs c T v h=>absurd h sc,f:=λj a=>absurd a oa,objs:=rfl,E:=λ_=>rfl }
section
variable {c:Cx} {R:Exit->Act->World->Prop} {k:List DD} {σ σ':St}
def Lu (c:Cx) (R:Exit->Act->World->Prop) (k:List DD) (ops:Array Oper) (l:List Oper) (σ:St):Prop :=
 (∀o∈l,H8 c.nt o=true)->Ct c.nt k=true->∀a w,c.sat σ a w->wpListIn (FR c.r) 0 c.P ops (UX c R k) l a w
theorem A4v {ops:Array Oper} (h:Ev c R (.out .normal) k σ):Lu c R k ops [] σ:=λ_ b a w hs=>h rfl b a w hs
theorem Px (f:c.Ok) {ops:Array Oper} {l:List Oper} (n:Nat) {vc:Prop} (h:B1 c.tb ops.toList (l.take n) σ=some (vc,σ')) (i:vc) (hk:Lu c R k ops (l.drop n) σ'):Lu c R k ops l σ:=by
 intro h1 e a w hs;have:=RH (r:=l.drop n) f (l.take n) hs (λo b=>h1 o (iS b)) h i (λd w' g=>hk (λo b=>h1 o (AAA b)) e d w' g)
 rwa [AAL]at this
theorem A0k (u:c.P.follows .mixedOrders=true) (s:c.Ok) {id:Nat} {l:List Oper} (n:Nat) (d:Ps l (l.take n).length=true) {vc:Prop}
  (h:Mz c.tb l false σ.objs [] (l.take n) 0 [] [] σ=some (vc,σ')) (A:vc) (hk:Lu c R k l.toArray (l.drop n) σ') :
  Ev c R (.run (.region id l.toArray true)) k σ:=by
 intro h1 m a w hs;simp only[HO,Bh,NO]at h1;have d:=A8u (ops:=l.toArray) (k:=(l.take n).length) (anc:=fL l) (by simpa only[Ps] using d);have hu:mK l (l.take n).length:=by
  intro x y B hy;have f:y<l.length:=by simp at hy;omega
  have v:l.toArray[y]?=some l[y]:=by simp[f]
  have:=(d.front y _ v hy).2.2 x B;simpa[Ak,f] using this
 obtain⟨en,_,hF,D,σ2,hb,C,p,r⟩:=RM (ops:=l) (q:=false) (σ0:=σ) (en:=λ_=>⟨false,.top,[]⟩) hu h A A8v sc (λj b=>by
  have b:j<(l.take n).length:=b;rw[AAC,UP];simp only[OS]at b;rw[DO oa])
 refine wpIn_region_any u ?_;have t:l.drop (l.take n).length=l.drop n:=by simp_all
 simp only[B1]at hb;cases hb;have:=wB (c:=c) (ops:=l.toArray) (k:=(l.take n).length) (σ0:=σ) (en:=en) (Q:=UX c R k) s d (by simpa using h1)
  (λj o b e=>hF j o oa b (by simpa using e)) (σ2:=σ') p r (λg w' z=>by
   rw[show (l.toArray.toList.drop _)=l.drop n from t];exact hk (λo e=>h1 o (by simpa using AAA e)) m g w' z)
  l.toArray.size [] (Array.replicate l.toArray.size false) a { w with drawn:=w.drawn+1 } sc sc sc sc (λi hi=>by simp at hi;simp[Array.getD,hi]) (λi o _ hi=>by simp at hi) (Vq hs)
 exact this
theorem mL (p:c.Ok) {id:Nat} {l:List Oper} (n:Nat) (e:mI l (l.take n).length=true) {vc:Prop}
  (h:Mz c.tb l true σ.objs [] (l.take n) 0 [] [] σ=some (vc,σ')) (t:vc) (hk:Lu c R k l.toArray (l.drop n) σ') :
  Ev c R (.run (.region id l.toArray false)) k σ:=by
 intro h1 g a w hs;simp only[HO,Bh,NO]at h1;simp only[mI,An,NO,UJ,Is]at e;have hu:mK l (l.take n).length:=by
  intro x y v hy;grind [Ak]
 obtain⟨en,_,hF,z,σ2,hb,u,i,m⟩:=RM (ops:=l) (q:=true) (σ0:=σ) (en:=λ_=>⟨false,.top,[]⟩) hu h t A8v sc (λj b=>by
  have b:j<(l.take n).length:=b;rw[AAC,UP];simp only[OS]at b;rw[DO oa])
 have r:l.drop (l.take n).length=l.drop n:=by simp_all
 refine ABr ?_;simp only[B1]at hb;cases hb;have:=wC (c:=c) (ops:=l.toArray) (k:=(l.take n).length) (σ0:=σ) (en:=en) (Q:=UX c R k) p (by simpa using h1)
  (λj o b d=>hF j o oa b (by simpa using d)) (by simpa using e.1) (σ2:=σ') i m (λf w' s=>by
   rw[show (l.toArray.toList.drop _)=l.drop n from r];exact hk (λo d=>h1 o (by simpa using AAA d)) g f w' s)
  (l.take n).length 0 a w sc hs
 exact this
theorem bC (e:c.Ok) {ops:Array Oper} {l:List Oper} {vc:Prop} (h:B1 c.tb ops.toList l σ=some (vc,σ')) (g:vc) (hk:Ev c R (.out .normal) k σ'):Lu c R k ops l σ:=by
 intro h1 d a w hs;exact Pk e l hs h1 h g (λb w' f=>hk rfl d b w' f)
theorem fQ (e:c.P.follows .mixedOrders=true) (a:c.Ok) {id:Nat} {l:List Oper} (n:Nat) (d:Ps l (l.take n).length=true) {vc:Prop}
  (h:Mz c.tb l false σ.objs (l.drop n) (l.take n) 0 [] [] σ=some (vc,σ')) (f:vc) (hk:Ev c R (.out .normal) k σ') :
  Ev c R (.run (.region id l.toArray true)) k σ:=by
 obtain⟨j,m,o,h1,g,b,i⟩:=M0 h f;exact A0k e a n d h1 g (bC a b i hk)
theorem mM (a:c.Ok) {id:Nat} {l:List Oper} (n:Nat) (d:mI l (l.take n).length=true) {vc:Prop}
  (h:Mz c.tb l true σ.objs (l.drop n) (l.take n) 0 [] [] σ=some (vc,σ')) (e:vc) (hk:Ev c R (.out .normal) k σ') :
  Ev c R (.run (.region id l.toArray false)) k σ:=by
 obtain⟨i,j,m,h1,f,b,g⟩:=M0 h e;exact mL a n d h1 f (bC a b g hk)
theorem A0l (d:c.P.follows .mixedOrders=true) (a:c.Ok) {id:Nat} {l:List Oper} (b:Ps l l.length=true) {vc:Prop}
  (h:Mz c.tb l false σ.objs [] l 0 [] [] σ=some (vc,σ')) (e:vc) (hk:Ev c R (.out .normal) k σ') :
  Ev c R (.run (.region id l.toArray true)) k σ :=
 fQ d a l.length (by rw[SW];exact b) (by rw[SW,AAV];exact h) e hk
theorem A0m (m:Nat) (d:c.P.follows .mixedOrders=true) (a:c.Ok) {id:Nat} {l:List Oper} (b:Ps l (l.take (l.length-m)).length=true) {vc:Prop}
  (h:Mz c.tb l false σ.objs (l.drop (l.length-m)) (l.take (l.length-m)) 0 [] [] σ=some (vc,σ')) (e:vc) (hk:Ev c R (.out .normal) k σ') :
  Ev c R (.run (.region id l.toArray true)) k σ:=fQ d a _ b h e hk
theorem mN (a:c.Ok) {id:Nat} {l:List Oper} (b:mI l l.length=true) {vc:Prop}
  (h:Mz c.tb l true σ.objs [] l 0 [] [] σ=some (vc,σ')) (d:vc) (hk:Ev c R (.out .normal) k σ') :
  Ev c R (.run (.region id l.toArray false)) k σ :=
 mM a l.length (by rw[SW];exact b) (by rw[SW,AAV];exact h) d hk
theorem mO (a:c.Ok) {id:Nat} {l:List Oper} (_:(l.all λo=>o.guard.isNone)=true) {vc:Prop} (h:B1 c.tb l l σ=some (vc,σ')) (b:vc) (hk:Ev c R (.out .normal) k σ') :
  Ev c R (.run (.region id l.toArray false)) k σ:=mE a h b hk
end
end
section
open Go Go.RowKit
theorem rJ {c:Cx} {σ b σ':St} (l:List Nat) (h:DN l σ=b) (d:Ent c b σ'):Ent c σ σ':=by
 intro a w hs;obtain⟨ρ,hs⟩:=hs;exact d a w ⟨ρ,by rw[<-h];exact KX hs⟩
theorem Lv {α:Type} (a b:List α):(a++b).take (a.length+b.length)=a++b:=By sc
theorem Uf {α:Type} (a b:List α):sub (a++b) 0 (a.length+b.length)=a++b:=by rw[Jm,Lv]
theorem Jo {α:Type} (a:List α) (x:α):(a++[x]).take (a.length+1)=a++[x]:=By sc
theorem Py {α:Type} (a:List α) (x:α):sub (a++[x]) 0 (a.length+1)=a++[x]:=by rw[Jm,Jo]
theorem A71 {P:Program} {tb:Tb} {w0:World} {O0:Nat->Prop} {nt:Nat} (b:(cx P tb w0 O0 nt).Ok) {fn:Func} {outs:List RV} {σ:St} {e:Exit} (a:List ResultVar) (g:fn.results.toList=a) (c:e=.ret\/e=.normal) (f:∀r∈outs,∃t d,r=.p t d) (h:Ng tb σ a outs) :
  Ev (cx P tb w0 O0 nt) (Vg P fn w0 O0 outs) (.out e) [] σ:=A0f b c f (by rw[g];exact h)
theorem rK:((0:Nat):Int)=0:=rfl
theorem rO (k:Nat):((k+1:Nat):Int)=(k:Int)+1:=by omega
theorem AE {α:Type} (l:List α) (d:α) {k:Nat} (h:k<l.length):l.getD k d∈l:=by
 rw[AS,AT h];exact aT h
theorem AI {P:Program} {ty:List (Nat×TI)} {b:List Nat} {ne:List (Nat×TypeId)} {a:List Nat}:Iq P ⟨ty,[],b,ne,a⟩:=λf sp h=>by simp[lk]at h
theorem AF {P:Program} {ty:List (Nat×TI)} {c:List Nat} {ne:List (Nat×TypeId)} {b:List Nat} {f:Nat} {sp:Ab} {r:List (Nat×Ab)} (h:Ag P f sp) (d:Iq P ⟨ty,r,c,ne,b⟩):Iq P ⟨ty,(f,sp) :: r,c,ne,b⟩:=λg i a=>by
 simp only[lk]at a;split at a
 .rename_i e;cases a;rw[e];exact h
 exact d g i a
theorem M2 {α:Type} (x:α):[x].take 1=[x]:=rfl
theorem Aw {α:Type} (l:List α) (d:α) {k:Nat} (h:k<l.length):l.take (k+1)=l.take k++[l.getD k d]:=by
 rw[AC0,AS,AT h];rfl
theorem Ug {α:Type} (l:List α) (q:Nat):sub l q l.length=l.drop q:=by
 unfold sub;rw[By sc]
end
end Go.Proofs.YtapkhdkbkodbjaaGreat.Fw
