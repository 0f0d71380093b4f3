/- Regions whose order Go leaves open: the rules. -/
import Derived.Test.YtaoonfcjbmcmpaaGreatDoorFZE
set_option linter.unusedVariables false
set_option linter.unusedSimpArgs false
namespace Go.Proofs.YtaoonfcjbmcmpaaGreatDoor.Fw
section
open Go Go.RowKit
def Dh (o:Oper):List Nat:=(o.after.toList.filter (Region.binds .any)).map (·.on)
def Am (ops:List Oper) (j:Nat):Option Nat:=(ops[j]?).bind (·.dst)
def Mx:Operand->Option Nat
 | .tmp t=>some t
 | _=>none
def LH (ops:List Oper) (o:Oper):List Nat:=(o.op.operands.toList.filterMap Mx)++(match o.guard with|some (j,_)=>(Am ops j).toList|none=>[])
def A0e (a b:List Nat):List Nat:=a.foldl (λr x=>if Ac x r then r else x :: r) b
def k4 (ops:List Oper):List (List Nat):=ops.foldl (λ(a:List (List Nat)) o=>a++[(Dh o).foldl (λr e=>A0e (a.getD e []) (if Ac e r then r else e :: r)) []]) []
def zU (ops:List Oper) (k:Nat) (anc:List (List Nat)) (i:Nat) (o:Oper):Bool :=
  (Dh o).all (λe=>decide (e<i)) &&
  (anc.getD i []).all (λj=>Ac j (Dh o)||(Dh o).any λe=>Ac j (anc.getD e [])) &&
  (if i<k then o.dst.isSome&&((LH ops o).all λt=>(List.range k).all λj=>Am ops j != some t||Ac j (anc.getD i []))&&((List.range i).all λj=>Am ops j != o.dst)
   else (List.range i).all λj=>Ac j (anc.getD i []))
def Yw (ops:List Oper) (k:Nat) (anc:List (List Nat)):Bool :=
 decide (k<=ops.length)&&(List.range ops.length).all λi=>match ops[i]? with|some o=>zU ops k anc i o|none=>false
def KM (ops:List Oper) (k:Nat):Bool:=Yw ops k (k4 ops)
def eY (ops:List Oper) (k:Nat):Bool :=
 decide (k<=ops.length)&&(List.range k).all λi=>match ops[i]? with|some o=>o.dst.isSome&&((List.range i).all λj=>Am ops j != o.dst)|none=>false
def B1 (q:Bool) (ts:List Nat) (base:List (Nat×Obj)):List (Nat×List (Nat×Obj))->List (Nat×Obj)
 | []=>base
 | (s,obs) :: r=>if (q||Ac s ts)=true then obs++B1 q ts base r else B1 q ts base r
def GQ (o:Op):List Nat:=o.operands.toList.filterMap Mx
def KN (q:Bool) (o:Op) (base:List (Nat×Obj)):List (Nat×List (Nat×Obj))->List (Nat×Obj)
 | []=>base
 | e :: r=>B1 q (GQ o) base (e :: r)
def Ia (d:Nat) (obs:List (Nat×Obj)) (E:List (Nat×List (Nat×Obj))):List (Nat×List (Nat×Obj)) :=
 match obs with
 | []=>E
 | x :: r=>(d,x :: r) :: E
abbrev Ch:=List (Nat×Bool)
abbrev Gs:=List (Nat×(Ch×Bool×AV))
def L9:Ch->Ch->Bool
 | [],[]=>true
 | (j,w) :: r,(a,w') :: b=>(j==a)&&(w==w')&&L9 r b
 | [],_ :: _=>false
 | _ :: _,[]=>false
theorem KO:L9 [] []=true:=rfl
theorem My (x:Nat×Bool) (r:Ch):L9 [] (x :: r)=false:=rfl
theorem Mz (x:Nat×Bool) (r:Ch):L9 (x :: r) []=false:=rfl
theorem Ib (j a:Nat) (w w':Bool) (r b:Ch):L9 ((j,w) :: r) ((a,w') :: b)=(decide (j=a)&&(w==w')&&L9 r b):=by grind [L9]
def Pj (a:Ch):Ch->Bool
 | []=>L9 a []
 | k :: r=>L9 a (k :: r)||Pj a r
def Ic (c:Ch):Gs->List (Nat×AV)->List (Nat×AV)
 | [],env=>env
 | (s,a,_,v) :: G,env=>if Pj a c=true then (s,v) :: Ic c G env else Ic c G env
def JG (j:Nat) (a:Bool):Option (Ch×Bool×AV)->Option AV->Option (Ch×Bool)
 | some (c,T,.p .bool b),_=>some ((j,a) :: c,T&&(b==a))
 | none,some (.p .bool b)=>some ([(j,a)],b==a)
 | _,_=>none
def Ho (G:Gs) (env:List (Nat×AV)) (j:Nat) (a:Bool):Option Nat->Option (Ch×Bool)
 | some s=>JG j a (lk s G) (lk s env)
 | none=>none
def HC (ops:List Oper) (G:Gs) (env:List (Nat×AV)) (i:Nat):Option (Nat×Bool)->Option (Ch×Bool)
 | none=>some ([],true)
 | some (j,a)=>if j<i then Ho G env j a (Am ops j) else none
def MA (ops:List Oper) (c:Ch) (s:Nat) (w:Bool):Option (Ch×Bool×AV)->Option AV->Option AV
 | some (a,_,v),_=>if Pj a c=true then some v else match a with
  | []=>none
  | (j,w') :: r=>if w'=w/\Am ops j=some s/\L9 r c=true then some v else none
 | none,x=>x
def Jt (ops:List Oper) (c:Ch) (G:Gs) (env:List (Nat×AV)) (s:Nat) (w:Bool):Operand->Option AV
 | .tmp t=>MA ops c s w (lk t G) (lk t env)
 | .const v=>some (Ga v)
 | .func _=>none
 | .global _=>none
def MB:Option AV->Option AV->Option AV->BU
 | some (.p .bool b),some (.p .bool p),some (.p .bool q)=>some (True,.p .bool (bif b then p else q),[])
 | _,_,_=>none
def Lu (ops:List Oper) (c:Ch) (G:Gs) (env:List (Nat×AV)):Operand->Operand->Operand->BU
 | .tmp s,x,y=>MB (lk s (Ic c G env)) (Jt ops c G env s true x) (Jt ops c G env s false y)
 | .const _,_,_=>none
 | .func _,_,_=>none
 | .global _,_,_=>none
def HD:Op->Option (Operand×Operand×Operand)
 | .pick s x y=>some (s,x,y)
 | _=>none
def k5 (tb:Tb) (ops:List Oper) (q:Bool) (base:List (Nat×Obj)) (c:Ch) (G:Gs) (E:List (Nat×List (Nat×Obj))) (env:List (Nat×AV)) (o:Oper):Option (Operand×Operand×Operand)->BU
 | some (s,x,y)=>Lu ops c G env s x y
 | none=>aq tb ⟨Ic c G env,KN q o.op base E⟩ (o.dst.getD 0) o.op
mutual
def J3 (tb:Tb) (ops:List Oper) (q:Bool) (base:List (Nat×Obj)) (rest:List Oper):List Oper->Nat->List (Nat×List (Nat×Obj))->Gs->St->Cr
 | [],_,_,_,σ=>Bu tb ops rest σ
 | o :: r,i,E,G,σ=>evMG tb ops q base rest o r i E G σ (HC ops G σ.env i o.guard)
def evMG (tb:Tb) (ops:List Oper) (q:Bool) (base:List (Nat×Obj)) (rest:List Oper) (o:Oper) (r:List Oper) (i:Nat) (E:List (Nat×List (Nat×Obj))) (G:Gs) (σ:St):Option (Ch×Bool)->Cr
 | some (c,T)=>evMQ tb ops q base rest o.dst r i E G σ c T (k5 tb ops q base c G E σ.env o (HD o.op))
 | none=>none
def evMQ (tb:Tb) (ops:List Oper) (q:Bool) (base:List (Nat×Obj)) (rest:List Oper) (dst:Option Nat) (r:List Oper) (i:Nat) (E:List (Nat×List (Nat×Obj))) (G:Gs) (σ:St):Ch->Bool->BU->Cr
 | [],_,some (vc,v,obs)=>match dst with
  | some d=>if BS obs σ=true then SV vc (J3 tb ops q base rest r (i+1) (Ia d obs E) G (σ.add v obs (some d))) else none
  | none=>none
 | g :: c,T,some (vc,v,[])=>match dst with
  | some d=>if (lk d σ.env).isNone=true then SV (T=true->vc) (J3 tb ops q base rest r (i+1) E ((d,g :: c,T,v) :: G) σ) else none
  | none=>none
 | _,_,_=>none
end
structure En where
 b:Bool
 v:AV
 obs:List (Nat×Obj)
def Ar (ops:List Oper) (en:Nat->En) (σ:St):List Nat->St
 | []=>σ
 | i :: r=>(Ar ops en σ r).add (en i).v (en i).obs (Am ops i)
def Al:Nat->List Nat
 | 0=>[]
 | i+1=>i :: Al i
end
section
open Go Go.RowKit
section
variable {tb:Tb} {ops:List Oper} {k:Nat} {q:Bool} {anc:List (List Nat)} {σ0:St} {en:Nat->En}
def ES (ops:List Oper) (en:Nat->En) (l:List Nat):List (Nat×List (Nat×Obj)):=l.map λj=>((Am ops j).getD 0,(en j).obs)
def JH (ops:List Oper) (σ:St) (b:Bool):Option (Nat×Bool)->Prop
 | none=>b=true
 | some (j,a)=>∃s,Am ops j=some s/\((∃x,lk s σ.env=some (.p .bool x)/\b=(x==a))\/(lk s σ.env=some (.raw undef)/\b=false))
structure Qi (tb:Tb) (ops:List Oper) (q:Bool) (σ0:St) (en:Nat->En) (i:Nat) (o:Oper):Prop where
 g:JH ops (Ar ops en σ0 (Al i)) (en i).b o.guard
 t:(en i).b=true->∃vc:Prop,aq tb ⟨(Ar ops en σ0 (Al i)).env,B1 q (GQ o.op) σ0.objs (ES ops en (Al i))⟩ (o.dst.getD 0) o.op=some (vc,(en i).v,(en i).obs)/\vc/\BS (en i).obs (Ar ops en σ0 (Al i))=true
 f:(en i).b=false->(en i).v=.raw undef/\(en i).obs=[]
theorem JI {a:Nat->En}:∀ {l:List Nat},(∀j∈l,a j=en j)->Ar ops a σ0 l=Ar ops en σ0 l
 | [],_=>rfl
 | i :: r,h=>by
  simp only[Ar];rw[JI (λj b=>h j (by simp[b])),h i sa]
theorem BL {i j:Nat}:j∈Al i↔j<i:=by
 induction i with
 | zero=>simp[Al]
 | succ i a=>simp[Al,a];omega
theorem E6:∀(l:List Nat),(Ar ops en σ0 l).objs=(l.flatMap λj=>(en j).obs)++σ0.objs
 | []=>rfl
 | i :: r=>by
  simp only[Ar,ABC,oN];rw[<-E6 r];cases Am ops i<;>rfl
theorem E7 (s:Nat):∀(l:List Nat),lk s (Ar ops en σ0 l).env=match l.find? (λj=>Am ops j==some s) with|some j=>some (en j).v|none=>lk s σ0.env
 | []=>rfl
 | i :: r=>by
  simp only[Ar,List.find?_cons];cases b:Am ops i with
  | none =>
   simp only[St.add];rw[E7 s r];have:((none:Option Nat)==some s)=false:=rfl;rw[this]
  | some d =>
   simp only[St.add,lk];by_cases hs:s=d
   .subst hs;simp
   have a:((some d:Option Nat)==some s)=false:=by
    have:d≠s:=λe=>hs e.symm;simpa using this
   rw[As hs,E7 s r,a]
theorem aV {n:Nat} {o:Obj} {l:List Nat} (h:lk n (l.flatMap λj=>(en j).obs)=some o):∃j∈l,lk n (en j).obs=some o:=by
 induction l with
 | nil=>simp[lk]at h
 | cons i r d =>
  rw[ABC,BI]at h;cases a:lk n (en i).obs with
  | some e =>
   rw[a]at h;exact⟨i,by simp,by rw[a];simpa using h⟩
  | none =>
   rw[a]at h;obtain⟨j,b,c⟩:=d (by simpa using h);exact⟨j,by simp[b],c⟩
theorem JJ {n:Nat} {l:List Nat} (h:lk n (l.flatMap λj=>(en j).obs)=none):∀j∈l,lk n (en j).obs=none:=by
 induction l with
 | nil=>simp
 | cons i r c =>
  rw[ABC,BI]at h;cases a:lk n (en i).obs with
  | some d=>rw[a]at h;simp at h
  | none =>
   rw[a]at h;intro j b;rcases Is.1 b with rfl|b
   .exact a
   grind
def Sep (σ0:St) (en:Nat->En) (k:Nat):Prop :=
 (∀j,j<k->∀n o,lk n (en j).obs=some o->lk n σ0.objs=none)/\∀i j,i<k->j<k->∀n o a,lk n (en i).obs=some o->lk n (en j).obs=some a->i=j
theorem EL (i:Sep σ0 en k) {l:List Nat} (c:∀j∈l,j<k) (n:Nat) (o:Obj):lk n (Ar ops en σ0 l).objs=some o↔(∃j∈l,lk n (en j).obs=some o)\/((∀j∈l,lk n (en j).obs=none)/\lk n σ0.objs=some o):=by
 rw[E6,BI];cases h:lk n (l.flatMap λj=>(en j).obs) with
 | some m =>
  obtain⟨j,b,a⟩:=aV h;simp only[ACv];constructor
  .grind
  rintro (⟨d,f,g⟩|⟨e,_⟩)
  .have:=i.2 j d (c j b) (c d f) n m o a g;grind
  rw[e j b]at a;cases a
 | none =>
  have p:=JJ h;simp only[Option.none_or];constructor
  .grind
  grind
theorem k6 (f:Sep σ0 en k) {ts:List Nat} {l l':List Nat} (m:∀j∈l,j<k) (e:∀j∈l',j<k) (d:∀j∈l,(q||Ac ((Am ops j).getD 0) ts)=true->j∈l') {n:Nat} {o:Obj} :
  lk n (B1 q ts σ0.objs (ES ops en l))=some o->lk n (Ar ops en σ0 l').objs=some o:=by
 rw[EL f e];induction l with
 | nil =>
  simp only[ES,ACK,B1];intro h;refine .inr ⟨λj b=>?_,h⟩;cases a:lk n (en j).obs with
  | none=>rfl
  | some g=>have:=f.1 j (e j b) n g a;rw[this]at h;cases h
 | cons i r c =>
  simp only[ES,oR,B1];have c:=c (λj b=>m j (by simp[b])) (λj b=>d j (by simp[b]));split
  .rename_i p;intro h;rw[BI]at h;cases a:lk n (en i).obs with
   | some g =>
    rw[a]at h;simp only[ACv]at h;cases h;exact .inl ⟨i,d i sa p,a⟩
   | none =>
    rw[a]at h;exact c (by simpa[ES] using h)
  exact c
theorem M0:∀ {a b:Ch},L9 a b=true↔a=b
 | [],[]=>by simp[L9]
 | (j,w) :: r,(d,w') :: c=>by simp[L9,M0 (a:=r) (b:=c),and_assoc]
 | [],_ :: _=>by simp[L9]
 | _ :: _,[]=>by simp[L9]
def bv:AV->Bool
 | .p .bool b=>b
 | _=>false
def tr (en:Nat->En):Ch->Bool
 | []=>true
 | (j,w) :: r=>tr en r&&(bv (en j).v==w)
theorem Qj {a:Nat->En}:∀ {c:Ch},(∀k∈c,a k.1=en k.1)->tr a c=tr en c
 | [],_=>rfl
 | (j,w) :: r,h=>by
  have b:=h (j,w) sa;simp only at b;simp only[tr];rw[Qj (λk d=>h k (by simp[d])),b]
theorem Yx {b:Ch}:∀ {c:Ch},Pj b c=true->tr en c=true->tr en b=true
 | [],h,a=>by simp only[Pj,M0]at h;rw[h];exact a
 | k :: r,h,a=>by
  simp only[Pj,bY,M0]at h;rcases h with rfl|h
  .exact a
  obtain⟨j,w⟩:=k;simp only[tr,AT]at a;exact Yx h a.1
structure x9 (ops:List Oper) (q:Bool) (σ0:St) (en:Nat->En) (i:Nat) (E:List (Nat×List (Nat×Obj))) (G:Gs) (σ:St):Prop where
 env:∀s v,lk s σ.env=some v->lk s (Ar ops en σ0 (Al i)).env=some v
 G:∀s c T v,(s,c,T,v)∈G->T=tr en c/\(T=true->lk s (Ar ops en σ0 (Al i)).env=some v)/\(∀k∈c,k.1<i)/\∃j,j<i/\Am ops j=some s/\(en j).b=T
 f:∀j,j<i->(en j).b=false->(en j).v=.raw undef
 objs:σ.objs=(Ar ops en σ0 (Al i)).objs
 E:∀ts,B1 q ts σ0.objs E=B1 q ts σ0.objs (ES ops en (Al i))
def Yy (ops:List Oper) (k:Nat):Prop:=∀a b,a<b->b<k->Am ops a≠Am ops b
theorem S9 (d:Yy ops k) {i j s:Nat} (g:i<=k) (e:j<i) (b:Am ops j=some s):lk s (Ar ops en σ0 (Al i)).env=some (en j).v:=by
 rw[E7];have:(Al i).find? (λj=>Am ops j==some s)=some j:=by
  cases c:(Al i).find? (λj=>Am ops j==some s) with
  | none =>
   have:=ACr.1 c j (BL.2 e);simp[b]at this
  | some x =>
   have f:=BL.1 (ABG c);have a:=ACL c;have a:Am ops x=some s:=by simpa using a
   rcases ABX x j with h|h|h
   .exact absurd (a.trans b.symm) (d x j h oa)
   .rw[h]
   exact absurd (b.trans a.symm) (d j x h oa)
 rw[this]
theorem N4 {c:Ch} {s:Nat} {v:AV} {env:List (Nat×AV)}:∀ {G:Gs},lk s (Ic c G env)=some v->(∃b T,(s,b,T,v)∈G/\Pj b c=true)\/lk s env=some v
 | [],h=>.inr h
 | (e,b,T,f) :: G,h=>by
  simp only[Ic]at h;split at h
  .rename_i hs;simp only[lk]at h;split at h
   .grind
   rcases N4 h with ⟨c2,T2,d,a⟩|a
   .grind
   exact .inr a
  rcases N4 h with ⟨c2,T2,d,a⟩|a
  .grind
  exact .inr a
section
variable {i:Nat} {E:List (Nat×List (Nat×Obj))} {G:Gs} {σ:St}
theorem Wf (a:x9 ops q σ0 en i E G σ) {c:Ch} (g:tr en c=true) {s:Nat} {v:AV} (h:lk s (Ic c G σ.env)=some v):lk s (Ar ops en σ0 (Al i)).env=some v:=by
 rcases N4 h with ⟨b,T,d,hs⟩|h
 .obtain⟨e,f,_⟩:=a.G s b T v d;grind [Yx]
 exact a.env s v h
theorem eZ (m:x9 ops q σ0 en i E G σ) (o:Yy ops k) (w:i<=k) {g:Option (Nat×Bool)} {c:Ch} {T:Bool} (h:HC ops G σ.env i g=some (c,T)) :
  JH ops (Ar ops en σ0 (Al i)) T g/\T=tr en c/\(∀k∈c,k.1<i):=by
 cases g with
 | none =>
  simp only[HC]at h;cases h;exact⟨rfl,rfl,by simp⟩
 | some g =>
  obtain⟨j,B⟩:=g;simp only[HC]at h;split at h
  .rename_i t;cases d:Am ops j with
   | none=>rw[d]at h;simp[Ho]at h
   | some s =>
    rw[d]at h;simp only[Ho]at h;have e:=S9 (en:=en) (σ0:=σ0) o w t d;unfold JG at h;split at h
    .rename_i c0 p b n;cases h;obtain⟨y,u,z,l,A,r,v⟩:=m.G s c0 p _ (FM n);cases hT:p with
     | true =>
      have a:=u hT;rw[e]at a;injection a with a
      refine⟨⟨s,d,.inl ⟨b,by rw[e,a],by simp⟩⟩,?_,?_⟩
      .grind [tr,bv]
      grind
     | false =>
      have x:l=j:=by
       rcases ABX l j with h|h|h
       .exact absurd (r.trans d.symm) (o l j h oa)
       .exact h
       exact absurd (d.trans r.symm) (o j l h oa)
      subst x;have a:=m.f l t (by rw[v,hT]);refine⟨⟨s,d,.inr ⟨by rw[e,a],by simp⟩⟩,?_,?_⟩
      .grind [tr]
      grind
    .rename_i b _ n;cases h;have a:=m.env s _ n;rw[e]at a;injection a with a
     refine⟨⟨s,d,.inl ⟨b,by rw[e,a],rfl⟩⟩,by simp[tr,a,bv],?_⟩;grind
    cases h
  cases h
theorem Wg (d:x9 ops q σ0 en i E G σ) (y:Yy ops k) (u:i<=k) {c:Ch} (C:tr en c=true) {s:Nat} {w:Bool} (hs:lk s (Ar ops en σ0 (Al i)).env=some (.p .bool w)) {x:Operand} {v:AV}
  (h:Jt ops c G σ.env s w x=some v) {objs:List (Nat×Obj)}:Ae ⟨(Ar ops en σ0 (Al i)).env,objs⟩ x=some v:=by
 cases x with
 | const x=>simp only[Jt]at h;exact h
 | func f=>simp[Jt]at h
 | global g=>simp[Jt]at h
 | tmp t =>
  simp only[Jt]at h;simp only[Ae];cases a:lk t G with
  | none =>
   rw[a]at h;exact d.env t v h
  | some e =>
   obtain⟨b,T,z⟩:=e;rw[a]at h;simp only[MA]at h;obtain⟨A,B,m,_⟩:=d.G t b T z (FM a);split at h
   .grind [Yx]
   cases b with
   | nil=>cases h
   | cons p r =>
    obtain⟨j,w'⟩:=p;simp only at h;split at h
    .rename_i o;obtain⟨rfl,n,l⟩:=o;rw[M0]at l;subst l;cases h;have D:=S9 (en:=en) (σ0:=σ0) y u (m (j,w') sa) n;grind [tr,bv]
    cases h
theorem yA (a:x9 ops q σ0 en i E G σ) (m:Yy ops k) (l:i<=k) {c:Ch} (d:tr en c=true) {o:Oper} {vc:Prop} {v:AV} {obs:List (Nat×Obj)} (h:k5 tb ops q σ0.objs c G E σ.env o (HD o.op)=some (vc,v,obs)) (D:vc) :
  ∃u:Prop,aq tb ⟨(Ar ops en σ0 (Al i)).env,B1 q (GQ o.op) σ0.objs (ES ops en (Al i))⟩ (o.dst.getD 0) o.op=some (u,v,obs)/\u:=by
 cases hp:HD o.op with
 | none =>
  rw[hp]at h;simp only[k5]at h;refine⟨vc,Pu (σ:=⟨Ic c G σ.env,KN q o.op σ0.objs E⟩) ?_ ?_ h,D⟩
  .intro n x j;have:KN q o.op σ0.objs E=B1 q (GQ o.op) σ0.objs E:=by cases E<;>rfl
   simp only at j ⊢;rw[this,a.E]at j;exact j
  intro x _ v e;cases x with
  | tmp t=>exact Wf a d e
  | const F=>exact e
  | global g=>exact e
  | func f=>exact e
 | some p =>
  obtain⟨s,x,y⟩:=p;rw[hp]at h;have C:o.op=.pick s x y:=by
   unfold HD at hp;grind
  simp only[k5]at h;rw[C];cases s with
  | const _=>simp[Lu]at h
  | func _=>simp[Lu]at h
  | global _=>simp[Lu]at h
  | tmp s =>
   simp only[Lu]at h;unfold MB at h;split at h
   .rename_i b p r z A B;cases h;have hs:=Wf a d z;refine⟨True,?_,trivial⟩;have w:Ae ⟨(Ar ops en σ0 (Al i)).env,B1 q (GQ (Op.pick (.tmp s) x y)) σ0.objs (ES ops en (Al i))⟩ (.tmp s)=some (.p .bool b):=hs;simp only[aq];rw[w];cases b with
    | true =>
     simp only[Jn];rw[Wg a m l d hs A];rfl
    | false =>
     simp only[Jn];rw[Wg a m l d hs B];rfl
   cases h
end
theorem N5 {rest:List Oper} (S:Yy ops k):∀ {O:List Oper} {i:Nat} {E:List (Nat×List (Nat×Obj))} {G:Gs} {σ σ':St} {en:Nat->En} {vc:Prop},J3 tb ops q σ0.objs rest O i E G σ=some (vc,σ')->vc->x9 ops q σ0 en i E G σ->i+O.length=k->(∀j,j<O.length->ops[i+j]?=O[j]?) ->
  ∃l:Nat->En,(∀j,j<i->l j=en j)/\(∀j o,i<=j->j<k->ops[j]?=some o->Qi tb ops q σ0 l j o) /\
   ∃(H:Prop) (σ2:St),Bu tb ops rest σ2=some (H,σ')/\H/\(∀s v,lk s σ2.env=some v->lk s (Ar ops l σ0 (Al k)).env=some v)/\σ2.objs=(Ar ops l σ0 (Al k)).objs
 | [],i,E,G,σ,σ',en,vc,h,J,p,n,_=>by
  simp only[J3]at h;simp at n;subst n;exact⟨en,λ_ _=>rfl,λj o D U=>by omega,vc,σ,h,J,p.env,p.objs⟩
 | o :: r,i,E,G,σ,σ',en,vc,h,J,p,n,ap=>by
  have an:ops[i]?=some o:=by simpa using ap 0 sa
  have V:Am ops i=o.dst:=by simp[Am,an]
  have Y:i<k:=by simp at n;omega
  simp only[J3]at h;cases X:HC ops G σ.env i o.guard with
  | none=>rw[X]at h;simp[evMG]at h
  | some av =>
   obtain⟨c,T⟩:=av;obtain⟨bi,hT,ag⟩:=eZ p S (Nat.le_of_lt Y) X;rw[X]at h;simp only[evMG]at h;cases aa:k5 tb ops q σ0.objs c G E σ.env o (HD o.op) with
   | none =>
    rw[aa]at h;unfold evMQ at h;split at h
    .rename_i W;cases W
    .rename_i W;cases W
    cases h
   | some bp =>
    obtain⟨bq,v,obs⟩:=bp;rw[aa]at h;have au:∀(d:Nat) (e:En) (M:List (Nat×List (Nat×Obj))) (N:Gs) (σ1:St) (I:Prop),o.dst=some d->e.b=T->(T=true->bq/\e.v=v/\e.obs=obs/\BS obs σ=true)->(T=false->e.v=.raw undef/\e.obs=[]) ->
      (∀s a,lk s σ1.env=some a->if s=d then a=e.v else lk s σ.env=some a)->σ1.objs=e.obs++σ.objs ->
      (∀s z C a,(s,z,C,a)∈N->(s,z,C,a)∈G\/(s=d/\z=c/\C=T/\a=v))->(∀ts,B1 q ts σ0.objs M=B1 q ts σ0.objs ((d,e.obs) :: E)) ->
      J3 tb ops q σ0.objs rest r (i+1) M N σ1=some (I,σ')->I ->
      ∃l:Nat->En,(∀j,j<i->l j=en j)/\(∀j o,i<=j->j<k->ops[j]?=some o->Qi tb ops q σ0 l j o) /\
       ∃(H:Prop) (σ2:St),Bu tb ops rest σ2=some (H,σ')/\H/\(∀s v,lk s σ2.env=some v->lk s (Ar ops l σ0 (Al k)).env=some v)/\σ2.objs=(Ar ops l σ0 (Al k)).objs:=by
     intro d e M N σ1 I u K aj ai bf bj hG ay bg bo
     let w:Nat->En:=λj=>if j=i then e else en j
     have Q:w i=e:=by simp[w]
     have heq:∀j,j<i->w j=en j:=λj A=>by simp[w,show j≠i by omega]
     have bd:Ar ops w σ0 (Al i)=Ar ops en σ0 (Al i):=JI λj A=>heq j (BL.1 A);have ae:ES ops w (Al i)=ES ops en (Al i):=by
      apply ABs;grind [BL]
     have be:Ar ops w σ0 (Al (i+1))=(Ar ops en σ0 (Al i)).add e.v e.obs (some d):=by grind [Al,Ar]
     have ao:∀s a,s≠d->lk s (Ar ops en σ0 (Al i)).env=some a->lk s (Ar ops w σ0 (Al (i+1))).env=some a:=by grind [St.add,lk]
     have ak:lk d (Ar ops w σ0 (Al (i+1))).env=some e.v:=by grind [St.add,lk]
     have ba:x9 ops q σ0 w (i+1) M N σ1:=by
      refine⟨λs a B=>?_,λs z C a t=>?_,λj A m=>?_,?_,λts=>?_⟩
      .have:=bf s a B;split at this
       .rename_i hs;rw[hs,this];exact ak
       rename_i hs;exact ao s a hs (p.env s a this)
      .rcases hG s z C a t with t|⟨rfl,rfl,rfl,rfl⟩
       .obtain⟨D,U,P,j,A,ah,m⟩:=p.G s z C a t;have bk:s≠d:=by
         rintro rfl;exact S j i A Y (by rw[ah,V,u])
        refine⟨by rw[Qj (en:=en) λk n=>heq _ (P k n)];exact D,λhT=>ao s a bk (U hT),λk n=>by have:=P k n;omega,j,by omega,ah,by rw[heq j A];exact m⟩
       refine⟨by rw[Qj (en:=en) λk n=>heq _ (ag k n)];exact hT,λbb=>?_,λk n=>by have:=ag k n;omega,i,by omega,by rw[V,u],by rw[Q];exact K⟩;rw[ak,(aj bb).2.1]
      .by_cases Z:j=i
       .subst Z;rw[Q]at m ⊢;exact(ai (by rw[<-K];exact m)).1
       rw[heq j oa]at m ⊢;exact p.f j oa m
      .rw[be,bj,p.objs];rfl
      rw[ay];simp only[ES,Al,oR,Q,V,u,ABJ,B1];have:=p.E ts;rw[<-ae]at this;simp only[ES]at this;rw[this]
     obtain⟨l,D,U,P⟩:=N5 S bg bo ba (by simp at n ⊢;omega) (λj A=>by
      have:=ap (j+1) (by simp;omega);rw[show i+(j+1)=i+1+j by omega]at this;simpa using this)
     refine⟨l,λj A=>by rw[D j oa,heq j A],λj bt br bs am=>?_,P⟩;by_cases Z:j=i
     .subst Z;rw[an]at am;cases am;have L:l j=e:=by rw[D j oa,Q]
      have af:Ar ops l σ0 (Al j)=Ar ops en σ0 (Al j):=by
       rw[<-bd];exact JI λq ab=>D q (by have:=BL.1 ab;omega)
      have az:ES ops l (Al j)=ES ops en (Al j):=by
       rw[<-ae];apply ABs;intro q ab;rw[D q (by have:=BL.1 ab;omega)]
      refine⟨by rw[af,L,K];exact bi,λm=>?_,λm=>?_⟩
      .rw[L,K]at m;obtain⟨bl,bm,bn,ar⟩:=aj m;obtain⟨H,aw,ax⟩:=yA p S (Nat.le_of_lt Y) (by rw[<-hT];exact m) aa bl;rw[L,af,az,bm,bn];exact⟨H,aw,ax,by
        simp only[BS]at ar ⊢;rw[<-p.objs];exact ar⟩
      rw[L,K]at m;rw[L];exact ai m
     grind
    cases c with
    | nil =>
     cases u:o.dst with
     | none=>rw[u]at h;simp[evMQ]at h
     | some d =>
      rw[u]at h;simp only[evMQ]at h;split at h
      .rename_i bh;cases F:J3 tb ops q σ0.objs rest r (i+1) (Ia d obs E) G (σ.add v obs (some d)) with
       | none=>rw[F]at h;simp[SV]at h
       | some ad =>
        obtain⟨I,σ2⟩:=ad;rw[F]at h;simp only[SV]at h;cases h;have bc:T=true:=by rw[hT];rfl
        refine au d ⟨T,v,obs⟩ _ _ _ I u rfl (λ_=>⟨J.1,rfl,rfl,bh⟩) (λR=>by rw[bc]at R;cases R) (λs a B=>?_) rfl (λs z C a t=>.inl t) (λts=>?_) F J.2
        .simp only[St.add,lk]at B;split at B
         .rename_i hs;cases B;simp[hs]
         rename_i hs;rw[As hs];exact B
        cases obs with
        | nil=>simp[Ia,B1]
        | cons x y=>rfl
      cases h
    | cons g z =>
     cases obs with
     | cons x y=>simp[evMQ]at h
     | nil =>
      cases u:o.dst with
      | none=>rw[u]at h;simp[evMQ]at h
      | some d =>
       rw[u]at h;simp only[evMQ]at h;split at h
       .rename_i al;cases F:J3 tb ops q σ0.objs rest r (i+1) E ((d,g :: z,T,v) :: G) σ with
        | none=>rw[F]at h;simp[SV]at h
        | some ad =>
         obtain⟨I,σ2⟩:=ad;rw[F]at h;simp only[SV]at h;cases h;refine au d ⟨T,bif T then v else .raw undef,[]⟩ _ _ _ I u rfl (λaq=>⟨J.1 aq,by simp[aq],rfl,by simp[BS]⟩) (λR=>⟨by simp[R],rfl⟩) (λs a B=>?_) rfl (λs c2 C a t=>?_) (λts=>?_) F J.2
         .have:s≠d:=by
           rintro rfl;rw[B]at al;cases al
          rw[As this];exact B
         .rcases Is.1 t with t|t
          .cases t;exact .inr ⟨rfl,rfl,rfl,rfl⟩
          exact .inl t
         simp[B1]
       cases h
end
section
variable {c:Cx} {ops:Array Oper} {k:Nat} {anc:List (List Nat)} {σ0 σ':St} {en:Nat->En} {Q:Exit->Act->World->Prop}
theorem k7 {o:Oper} {e:Edge} (b:e∈o.after) (a:Region.binds .any e=true):e.on∈Dh o:=by grind [Dh]
theorem DL {listed:Array Bool} {i:Nat}:i∈Region.ready .any ops listed↔listed.getD i true=false/\∃o,ops[i]?=some o/\∀e∈Dh o,listed.getD e false=true:=by
 rw[mem_ready];grind [Dh,k7]
structure TA (ops:Array Oper) (k:Nat) (anc:List (List Nat)):Prop where
 lt:∀i o,ops[i]?=some o->∀e∈Dh o,e<i
 cl:∀i o,ops[i]?=some o->∀j∈anc.getD i [],j∈Dh o\/∃e∈Dh o,j∈anc.getD e []
 front:∀i o,ops[i]?=some o->i<k->(∃d,o.dst=some d)/\(∀t∈LH ops.toList o,∀j,j<k->Am ops.toList j=some t->j∈anc.getD i [])/\∀j,j<i->Am ops.toList j≠o.dst
 back:∀i o,ops[i]?=some o->k<=i->∀j,j<i->j∈anc.getD i []
 k:k<=ops.size
theorem A0f (h:Yw ops.toList k anc=true):TA ops k anc:=by
 simp only[Yw,AT,IS,gO,Do]at h;obtain⟨g,h⟩:=h;have hi:∀i o,ops[i]?=some o->zU ops.toList k anc i o=true:=by grind
 refine⟨λi o a e n=>?_,λi o a j b=>?_,λi o a c=>?_,λi o a c j b=>?_,by simpa using g⟩
 .grind [zU]
 .grind [zU,Ah]
 .have:=hi i o a;simp only[zU,c,AAH,AT,IS,gO,bY,Ah,ABW]at this;obtain⟨_,⟨d,l⟩,f⟩:=this;refine⟨ABa.1 d,λt p j b m=>?_,f⟩;grind
 have:=hi i o a;simp only[zU,show ¬i<k by omega,AAX,AT,IS,gO,Ah]at this;exact this.2 j b
theorem Qk (a:TA ops k anc) {listed:Array Bool} (h:∀i o,ops[i]?=some o->listed.getD i true=true->∀e∈Dh o,listed.getD e false=true) :
  ∀i o,ops[i]?=some o->(∀e∈Dh o,listed.getD e false=true)->∀j∈anc.getD i [],listed.getD j false=true:=by
 intro i;induction i using Nat.strongRecOn with
 | _ i n =>
  intro o b d j g;rcases a.cl i o b j g with c|⟨e,f,l⟩
  .exact d j c
  have m:=a.lt i o b e f;grind
theorem TB {l:List Oper} {p:Nat} {o:Oper} {r:List Oper} (h:l.drop p=o :: r):l[p]?=some o/\r=l.drop (p+1):=by
 constructor
 .have:(l.drop p)[0]?=some o:=by rw[h];rfl
  grind
 rw[<-ABZ,h];rfl
theorem M2 {F:Fence} {P:Program} (g:TA ops k anc):∀ {rest:List Oper} {p:Nat} {listed:Array Bool} {a:Act} {w:World},ops.toList.drop p=rest->k<=p->p<=ops.size->listed.size=ops.size ->
  (∀i,i<ops.size->(listed.getD i true=true↔i<p))->wpListIn F 0 P ops Q rest a w->wpAnyIn F 0 P .any ops Q rest.length listed a w
 | [],p,listed,a,w,n,L,N,s,d,c=>by
  have hp:p=ops.size:=by
   have:=p7 List.length n;simp at this;omega
  refine⟨?_,c⟩;apply AC5.2;grind [DL]
 | o :: r,p,listed,a,w,n,L,N,s,d,c=>by
  obtain⟨h,D⟩:=TB n;have h:ops[p]?=some o:=by simpa using h
  have u:p<ops.size:=(oS.1 h).1;have y:∀e b,e<ops.size->listed.getD e b=listed.getD e true:=λe b l=>by grind
  have H:∀i o,ops[i]?=some o->listed.getD i true=true->∀e∈Dh o,listed.getD e false=true:=by
   intro i o C f e l;have v:i<ops.size:=(oS.1 C).1;have z:=(d i v).1 f;have m:=g.lt i o C e l;grind
  have O:∀i,i∈Region.ready .any ops listed->i=p:=by
   intro i hi;rw[DL]at hi;obtain⟨f,E,t,z⟩:=hi;have v:i<ops.size:=(oS.1 t).1;have S:¬i<p:=λM=>by rw[(d i v).2 M]at f;cases f
   by_cases q:i=p
   .exact q
   have m:=Qk g H i E t z p (g.back i E t oa p oa);rw[y p false u]at m;have:=(d p u).1 m;omega
  refine⟨λT=>?_,λi hi=>?_⟩
  .exfalso;have:p∈Region.ready .any ops listed:=by
    rw[DL];refine⟨?_,o,h,λe l=>?_⟩
    .cases I:listed.getD p true with
     | false=>rfl
     | true=>have:=(d p u).1 I;omega
    have:=g.lt p o h e l;rw[y e false oa];exact(d e oa).2 this
   grind
  have q:=O i hi;subst q;have B:∀(j:Nat),j<ops.size->((listed.setIfInBounds i true).getD j true=true↔j<i+1):=by
   intro j J;have K:j<listed.size:=by omega
   by_cases A:j=i
   .subst A;simp[Array.getD,K]
   have f:(listed.setIfInBounds i true).getD j true=listed.getD j true:=getD_set_ne true (λe=>A e.symm);rw[f,d j J];omega
  unfold wpOpIn;rw[h];simp only;unfold wpListIn at c;split
  .rename_i x;rw[At x]at c;exact Oper.wpIn_mono (λR w' G=>M2 g D.symm oa oa (by simpa using s) B G) c
  rename_i x;rw[As x]at c;exact⟨c.1,M2 g D.symm oa oa (by simpa using s) B c.2⟩
end
end
section
open Go Go.RowKit
theorem E8:∀(k:Nat) (l:List Nat),l.Nodup->(∀j∈l,j<k)->l.length<=k
 | 0,l,_,h=>by
  cases l with
  | nil=>simp
  | cons x r=>have:=h x sa;omega
 | k+1,l,b,h=>by
  by_cases d:k∈l
  .have:=E8 k (l.erase k) (b.erase k) (λj a=>by
    have c:=(b.mem_erase_iff).1 a;have:=h j c.2;have:=c.1;omega)
   grind
  have:=E8 k l b (λj a=>by
   have:=h j a;have:j≠k:=λe=>d (e▸a);omega)
  omega
theorem aW:∀(k:Nat) (l:List Nat),(∀j,j<k->j∈l)->k<=l.length
 | 0,l,_=>by simp
 | k+1,l,h=>by
  have b:=h k oa;have:=aW k (l.erase k) (λj a=>(ABE oa).2 (h j oa));grind
theorem Ql {c:Cx} {σ σ':St} {a:Act} {w:World} (k:∀s,lk s σ'.env=lk s σ.env) (g:∀n,lk n σ'.objs=lk n σ.objs) (h:c.sat σ a w):c.sat σ' a w:=by
 obtain⟨ρ,h⟩:=h;have d:GL σ'=GL σ:=by
  funext n;simp only[GL,g]
 have i:∀w,vw w c.O0 σ' ρ=vw w c.O0 σ ρ:=by
  intro w;have r:own c.O0 σ' ρ=own c.O0 σ ρ:=by
   funext b;simp only[own,d]
  simp only[vw,d,r]
 refine⟨ρ,h.frm,h.nt,h.defers,λp hp=>by rw[d];exact h.pin p hp,?_,?_,?_,?_⟩
 .intro n o q;rw[i];exact h.objs n o (by rw[<-g];exact q)
 .intro n b l j;exact h.free n b (by rw[<-d];exact l) j
 .intro n m b e f;rw[d]at e f;exact h.dist n m b e f
 intro s v hs;rw[i];exact h.env s v (by rw[<-k];exact hs)
theorem Wh {c:Cx} {σ:St} {a:Act} {w:World} (h:c.sat σ a w):c.sat σ a { w with drawn:=w.drawn+1 }:=by
 obtain⟨ρ,h⟩:=h;have b:CG (vw w c.O0 σ ρ) (vw { w with drawn:=w.drawn+1 } c.O0 σ ρ):=⟨λ_ _ h=>h,λ_ h=>h,λ_ _=>rfl,λ_ _ _=>rfl⟩;exact⟨ρ,⟨h.frm.os,h.frm.tape,h.frm.output,h.frm.size,h.frm.block⟩,h.nt,h.defers,h.pin,λn o d=>(h.objs n o d).keeps b λ_ _=>rfl,h.free,h.dist,λs v hs=>(h.env s v hs).keeps b⟩
theorem Pv {c:Cx} {σ σ':St} {a:Act} {w:World} (d:∀s v,lk s σ'.env=some v->lk s σ.env=some v) (e:∀n,lk n σ'.objs=lk n σ.objs) (h:c.sat σ a w):c.sat σ' a w:=by
 have b:c.sat ⟨σ.env,σ'.objs⟩ a w:=Ql (σ:=σ) (λ_=>rfl) e h;obtain⟨ρ,h⟩:=b;exact⟨ρ,h.frm,h.nt,h.defers,h.pin,h.objs,h.free,h.dist,λs v hs=>h.env s v (d s v hs)⟩
theorem KP {c:Cx} {ops:Array Oper} {σ:St} {a:Act} {w:World} (hs:c.sat σ a w) {o:Oper} {b:Bool} (h:JH ops.toList σ b o.guard):Region.wanted o (yielded ops a.tmps)=b:=by
 cases d:o.guard with
 | none =>
  rw[d]at h;simp only[JH]at h;simp[Region.wanted,d,h]
 | some g =>
  obtain⟨j,n⟩:=g;rw[d]at h;simp only[JH]at h;obtain⟨s,k,h⟩:=h;rcases h with ⟨x,e,rfl⟩|⟨e,rfl⟩
  .refine Ge hs ?_;grind [EH,Am,JC,Nt]
  obtain⟨ρ,hs⟩:=hs;have i:a.tmps.getD s undef=undef:=hs.env s _ e;have l:(ops[j]?).bind (·.dst)=some s:=by simpa[Am] using k
  have m:yielded ops a.tmps j=none:=by
   simp only[yielded,l,Option.bind_some];by_cases f:s<a.tmps.size
   .have:a.tmps.getD s undef=a.tmps[s]:=by simp[Array.getD,f]
    rw[this]at i;rw[AA8 f,i];rfl
   grind
  simp[Region.wanted,d,m]
section
variable {c:Cx} {ops:Array Oper} {k:Nat} {q:Bool} {anc:List (List Nat)} {σ0 σ':St} {en:Nat->En} {Q:Exit->Act->World->Prop}
theorem yB (hF:∀j o,j<k->ops[j]?=some o->Qi c.tb ops.toList q σ0 en j o) (u:k<=ops.size):Sep σ0 en k:=by
 have one:∀j,j<k->∀n o,lk n (en j).obs=some o->lk n (Ar ops.toList en σ0 (Al j)).objs=none:=by
  intro j d n o e;have s:ops[j]?=some (ops[j]'(by omega)):=AA8 oa;have a:=hF j _ d s;cases l:(en j).b with
  | true =>
   obtain⟨_,_,_,p⟩:=a.t l;exact L4 p e
  | false =>
   rw[(a.f l).2]at e;simp[lk]at e
 have low:∀i j,i<j->j<k->∀n o g,lk n (en i).obs=some o->lk n (en j).obs=some g->False:=by
  intro i j r d n o g a h;have:=one j d n g h;rw[E6,BI]at this;cases m:lk n ((Al j).flatMap λj=>(en j).obs) with
  | some x=>rw[m]at this;simp at this
  | none =>
   have:=JJ m i (BL.2 r);rw[this]at a;cases a
 refine⟨λj d n o e=>?_,λi j hi d n o g a h=>?_⟩
 .grind [E6,BI,lk,Al]
 grind
theorem k8 (c:TA ops k anc) {l:List Nat} (g:∀j∈l,j<k) {s j:Nat} (f:j∈l) (m:Am ops.toList j=some s):l.find? (λj=>Am ops.toList j==some s)=some j:=by
 have n:∀i,i∈l->Am ops.toList i=some s->i=j:=by
  intro i hi o;have a:=g i hi;have b:=g j f;have p:=c.k;have get:∀x,x<k->Am ops.toList x=(ops[x]?).bind (·.dst):=λx _=>by simp[Am]
  rcases ABX i j with h|h|h
  .have e:ops[j]?=some (ops[j]'(by omega)):=AA8 oa;have:=(c.front j _ e b).2.2 i h;grind
  .exact h
  have e:ops[i]?=some (ops[i]'(by omega)):=AA8 oa;have:=(c.front i _ e a).2.2 j h;grind
 cases d:l.find? (λj=>Am ops.toList j==some s) with
 | none =>
  have:=ACr.1 d j f;simp[m]at this
 | some i =>
  have a:=ABG d;have b:=ACL d;rw[n i a (by simpa using b)]
theorem Qm (a:TA ops k anc) {l l':List Nat} (b:∀j∈l,j<k) (c:∀j∈l',j<k) {s:Nat} (h:∀j,j<k->Am ops.toList j=some s->j∈l/\j∈l') :
  lk s (Ar ops.toList en σ0 l).env=lk s (Ar ops.toList en σ0 l').env:=by
 rw[E7,E7];by_cases d:∃j,j<k/\Am ops.toList j=some s
 .grind [k8]
 grind
theorem e7 (ab:c.Ok) (B:TA ops k anc) (bl:∀o∈ops.toList,IX c.nt o=true) (hF:∀j o,j<k->ops[j]?=some o->Qi c.tb ops.toList false σ0 en j o)
  {σ2:St} (ap:∀s v,lk s σ2.env=some v->lk s (Ar ops.toList en σ0 (Al k)).env=some v) (aq:σ2.objs=(Ar ops.toList en σ0 (Al k)).objs) (hT:∀J w',c.sat σ2 J w'->wpListIn (FR c.r) 0 c.P ops Q (ops.toList.drop k) J w') :
  ∀(m:Nat) (z:List Nat) (listed:Array Bool) (a:Act) (w:World),z.Nodup->(∀j∈z,j<k)->m+z.length=ops.size->listed.size=ops.size->(∀i,i<ops.size->(listed.getD i true=true↔i∈z)) ->
   (∀i o,ops[i]?=some o->i∈z->∀e∈Dh o,e∈z)->c.sat (Ar ops.toList en σ0 z) a w->wpAnyIn (FR c.r) 0 c.P .any ops Q m listed a w:=by
 have an:=B.k;have I:=yB hF an;intro m;induction m with
 | zero =>
  intro z listed a w S A bq aa M ar hs;have L:=E8 k z S A;have bp:k=ops.size:=by omega
  by_cases E:∀j,j<k->j∈z
  .have av:ops.toList.drop k=[]:=by simp[bp]
   have U:c.sat σ2 a w:=Pv ap (λ_=>by rw[aq]) <| Ql
    (λs=>(Qm B A (λj y=>BL.1 y) λj y _=>⟨E j y,BL.2 y⟩).symm)
    (λn=>ACy λo=>by
     rw[EL I (λj y=>BL.1 y),EL I A];simp only[BL];constructor
     .grind
     rintro (⟨j,y,h⟩|⟨L,W⟩)
     .grind
     exact .inr ⟨λj y=>L j (E j y),W⟩) hs
   have:=M2 (Q:=Q) (F:=FR c.r) (P:=c.P) B (rest:=[]) (p:=k) (listed:=listed) (a:=a) (w:=w) av (If _) an aa (λi hi=>by
    rw[M i hi];exact⟨A i,E i⟩) (by rw[<-av];exact hT a w U)
   exact this
  exfalso;apply E;intro j y;apply IN;intro bb;have:=E8 k (j :: z) (AAn.2 ⟨bb,S⟩) (λi hi=>by
   rcases Is.1 hi with rfl|hi
   .exact y
   exact A i hi)
  simp at this;omega
 | succ m ce =>
  intro z listed a w S A bq aa M ar hs;have bh:∀e b,e<ops.size->listed.getD e b=listed.getD e true:=λe b D=>by grind
  by_cases E:∀j,j<k->j∈z
  .have co:z.length=k:=jM (E8 k z S A) (aW k z E);have U:c.sat σ2 a w:=Pv ap (λ_=>by rw[aq]) <| Ql
    (λs=>(Qm B A (λj y=>BL.1 y) λj y _=>⟨E j y,BL.2 y⟩).symm)
    (λn=>ACy λo=>by
     rw[EL I (λj y=>BL.1 y),EL I A];simp only[BL];constructor
     .grind
     rintro (⟨j,y,h⟩|⟨L,W⟩)
     .grind
     exact .inr ⟨λj y=>L j (E j y),W⟩) hs
   have:=M2 (Q:=Q) (F:=FR c.r) (P:=c.P) B (rest:=ops.toList.drop k) (p:=k) (listed:=listed) (a:=a) (w:=w) rfl (If _) an aa (λi hi=>by
    rw[M i hi];exact⟨A i,E i⟩) (hT a w U)
   grind
  refine⟨λbt=>?_,λi hi=>?_⟩
  .exfalso;apply E;intro j;induction j using Nat.strongRecOn with
   | _ j cg =>
    intro y;apply IN;intro bb;have T:ops[j]?=some (ops[j]'(by omega)):=AA8 oa;have:j∈Region.ready .any ops listed:=by
     rw[DL];refine⟨?_,_,T,λe D=>?_⟩
     .grind
     have ae:=B.lt j _ T e D;rw[bh e false oa];exact(M e oa).2 (cg e ae oa)
    rw[bt]at this;cases this
  rw[DL]at hi;obtain⟨L,o,C,W⟩:=hi;have bf:i<ops.size:=(oS.1 C).1;have bc:i∉z:=λh=>by rw[(M i bf).2 h]at L;cases L
  have bk:∀e∈Dh o,e∈z:=λe D=>by grind
  have ag:∀j∈anc.getD i [],j∈z:=by grind [Dh,Qk]
  have R:i<k:=by
   apply IN;intro cn;exact E λj y=>ag j (B.back i o C oa j oa)
  have aj:=B.front i o C R;obtain⟨d,cm⟩:=aj.1;have bj:Am ops.toList i=o.dst:=by simp[Am,C]
  have bd:∀t∈LH ops.toList o,lk t (Ar ops.toList en σ0 z).env=lk t (Ar ops.toList en σ0 (Al i)).env:=by
   intro t cb;refine Qm B A (λj y=>by have:=BL.1 y;omega) λj y ah=>?_;have az:=aj.2.1 t cb j y ah;refine⟨ag j az,BL.2 ?_⟩;have:∀i o,ops[i]?=some o->∀j∈anc.getD i [],j<i:=by
    intro i;induction i using Nat.strongRecOn with
    | _ i cf =>
     intro o C j y;rcases B.cl i o C j y with af|⟨e,D,bn⟩
     .exact B.lt i o C j af
     have bi:=B.lt i o C e D;have bf:i<ops.size:=(oS.1 C).1;have:=cf e bi _ (AA8 oa) j bn;omega
   exact this i o C j az
  have bv:x8 ⟨(Ar ops.toList en σ0 (Al i)).env,B1 false (GQ o.op) σ0.objs (ES ops.toList en (Al i))⟩ (Ar ops.toList en σ0 z) o.op.operands.toList:=by
   intro x cd v V;cases x with
   | tmp t =>
    simp only[Ae]at V ⊢;rw[bd t (by
     simp only[LH,aT,ACp];exact .inl ⟨_,cd,rfl⟩)]
    exact V
   | const cp=>exact V
   | global g=>exact V
   | func f=>exact V
  have bu:V9 ⟨(Ar ops.toList en σ0 (Al i)).env,B1 false (GQ o.op) σ0.objs (ES ops.toList en (Al i))⟩ (Ar ops.toList en σ0 z):=by
   intro n H bs;refine k6 I (λj y=>by have:=BL.1 y;omega) A (λj y am=>?_) bs;have Z:=BL.1 y;have T:ops[j]?=some (ops[j]'(by omega)):=AA8 oa;obtain⟨ao,ah⟩:=(B.front j _ T oa).1;have au:Am ops.toList j=some ao:=by simp[Am,T,ah]
   rw[au]at am;simp only[ACG,ABJ,Ah]at am;refine ag j (aj.2.1 ao ?_ j oa au);simp only[LH,aT];exact .inl am
  have ai:=hF i o R C;have G:JH ops.toList (Ar ops.toList en σ0 z) (en i).b o.guard:=by
   have G:=ai.g;cases ak:o.guard with
   | none=>rw[ak]at G;exact G
   | some g =>
    obtain⟨j,cr⟩:=g;rw[ak]at G;simp only[JH]at G ⊢;obtain⟨s,ax,G⟩:=G;refine⟨s,ax,?_⟩;rw[bd s (by
     simp only[LH,ak,aT,ax];exact .inr sa)]
    exact G
  have ad:=KP hs G;have br:o∈ops.toList:=by grind
  have aw:=BB (bl o br);have be:∀J w',c.sat ((Ar ops.toList en σ0 z).add (en i).v (en i).obs o.dst) J w'->wpAnyIn (FR c.r) 0 c.P .any ops Q m (listed.setIfInBounds i true) J w':=by
   intro J w' U;refine ce (i :: z) _ J w' (AAn.2 ⟨bc,S⟩) (λj y=>?_) (by simp;omega) (by simpa using aa) (λj y=>?_) (λi' H N al e D=>?_) (by simp only[Ar,bj];exact U)
   .rcases Is.1 y with rfl|y
    .exact R
    exact A j y
   .have bo:j<listed.size:=by omega
    by_cases Z:j=i
    .subst Z;simp[Array.getD,bo]
    have ae:(listed.setIfInBounds i true).getD j true=listed.getD j true:=getD_set_ne true (λe=>Z e.symm);rw[ae,M j y];simp[Z]
   rcases Is.1 al with rfl|al
   .rw[C]at N;cases N;exact AAp _ (bk e D)
   exact AAp _ (ar i' H N al e D)
  unfold wpOpIn;rw[C];simp only;cases X:(en i).b with
  | true =>
   rw[X]at ad;rw[At ad];obtain⟨cq,bw,cc,bm⟩:=ai.t X;obtain⟨ρ,bg⟩:=hs;have bx:=Pu bu bv bw;have ay:BS (en i).obs (Ar ops.toList en σ0 z)=true:=by
    simp only[BS,IS]at bm ⊢;intro p hp;have ca:∃H,lk p.1 (en i).obs=some H:=by
     have:∀(l:List (Nat×Obj)),p∈l->∃H,lk p.1 l=some H:=by
      intro l;induction l with
      | nil=>intro h;cases h
      | cons q r ch =>
       intro h;obtain⟨cj,ck⟩:=q;simp only[lk];by_cases D:p.1=cj
       .exact⟨ck,by rw[At D]⟩
       rw[As D];rcases Is.1 h with rfl|h
       .exact absurd rfl D
       exact ch h
     exact this _ hp
    obtain⟨H,N⟩:=ca;have:lk p.1 (Ar ops.toList en σ0 z).objs=none:=by
     cases ba:lk p.1 (Ar ops.toList en σ0 z).objs with
     | none=>rfl
     | some ci =>
      rw[EL I A]at ba;rcases ba with ⟨j,y,Y⟩|⟨_,Y⟩
      .have:=I.2 i j R (A j y) p.1 H ci N Y;subst this;exact absurd y bc
      rw[I.1 i R p.1 H N]at Y;cases Y
    simp[this]
   exact aM (rK ab bg) bx cc ay λu ρ' w' bz=>be _ _ ⟨ρ',bg.add ab.K ab.O aw ay bz⟩
  | false =>
   rw[X]at ad;rw[As (by simp[ad])];refine⟨λ_ _=>trivial,?_⟩;have:=ai.f X;have af:=LA ab hs aw;refine be _ _ ?_;rw[this.1,this.2];exact af
end
theorem e9 {c:Cx} {ops:Array Oper} {k:Nat} {σ0:St} {en:Nat->En} {Q:Exit->Act->World->Prop} (h:c.Ok) (I:∀o∈ops.toList,IX c.nt o=true) (hF:∀j o,j<k->ops[j]?=some o->Qi c.tb ops.toList true σ0 en j o) (U:k<=ops.size)
  {σ2:St} (E:∀s v,lk s σ2.env=some v->lk s (Ar ops.toList en σ0 (Al k)).env=some v) (F:σ2.objs=(Ar ops.toList en σ0 (Al k)).objs) (hT:∀d w',c.sat σ2 d w'->wpListIn (FR c.r) 0 c.P ops Q (ops.toList.drop k) d w'):∀(m i:Nat) (a:Act) (w:World),m+i=k->c.sat (Ar ops.toList en σ0 (Al i)) a w->wpListIn (FR c.r) 0 c.P ops Q (ops.toList.drop i) a w:=by
 intro m;induction m with
 | zero =>
  intro i a w hi hs;have:i=k:=by omega
  subst this;exact hT _ _ (Pv E (λ_=>by rw[F]) hs)
 | succ m V =>
  intro i a w hi hs;have q:ops[i]?=some (ops[i]'(by omega)):=AA8 oa;generalize ops[i]'(by omega)=o at q;have H:ops.toList.drop i=o :: ops.toList.drop (i+1):=by
   have:i<ops.toList.length:=by simp;omega
   rw[iS this];grind
  rw[H];have p:=hF i o oa q;have n:=KP hs p.g;have J:o∈ops.toList:=by grind
  have y:=BB (I o J);have T:Am ops.toList i=o.dst:=by simp[Am,q]
  have B:∀d w',c.sat ((Ar ops.toList en σ0 (Al i)).add (en i).v (en i).obs o.dst) d w'->wpListIn (FR c.r) 0 c.P ops Q (ops.toList.drop (i+1)) d w':=by grind [Al,Ar]
  unfold wpListIn;cases e:(en i).b with
  | true =>
   rw[e]at n;rw[At n];obtain⟨S,A,R,z⟩:=p.t e;obtain⟨ρ,C⟩:=hs;have L:∀l:List Nat,B1 true (GQ o.op) σ0.objs (ES ops.toList en l)=(Ar ops.toList en σ0 l).objs:=by
    intro l;rw[E6];induction l with
    | nil=>rfl
    | cons x r D=>simp only[ES,oR,B1,Bool.true_or,AAH,ABC,oN]at D ⊢;rw[D]
   have M:aq c.tb (Ar ops.toList en σ0 (Al i)) (o.dst.getD 0) o.op=some (S,(en i).v,(en i).obs):=by
    rw[L]at A;exact A
   exact aM (rK h C) M R z λu ρ' w' N=>B _ _ ⟨ρ',C.add h.K h.O y z N⟩
  | false =>
   rw[e]at n;rw[As (by simp[n])];refine⟨λ_ _=>trivial,?_⟩;have:=p.f e;have G:=LA h hs y;refine B _ _ ?_;rw[this.1,this.2];exact G
theorem LI {tb:Tb} {ops:List Oper} {q:Bool} {base:List (Nat×Obj)} {rest:List Oper}:∀ {w:List Oper} {i:Nat} {E:List (Nat×List (Nat×Obj))} {G:Gs} {σ σ':St} {vc:Prop},J3 tb ops q base rest w i E G σ=some (vc,σ')->vc ->
  ∃(e f:Prop) (σ1:St),J3 tb ops q base [] w i E G σ=some (e,σ1)/\e/\Bu tb ops rest σ1=some (f,σ')/\f
 | [],i,E,G,σ,σ',vc,h,j=>by grind [J3,Bu]
 | o :: r,i,E,G,σ,σ',vc,h,j=>by
  simp only[J3]at h;cases k:HC ops G σ.env i o.guard with
  | none=>rw[k]at h;simp[evMG]at h
  | some p =>
   obtain⟨c,T⟩:=p;rw[k]at h;simp only[evMG]at h;cases l:k5 tb ops q base c G E σ.env o (HD o.op) with
   | none=>rw[l]at h;cases c<;>simp[evMQ]at h
   | some x =>
    obtain⟨A,v,obs⟩:=x;rw[l]at h;cases c with
    | nil =>
     cases a:o.dst with
     | none=>rw[a]at h;simp[evMQ]at h
     | some d =>
      rw[a]at h;simp only[evMQ]at h;split at h
      .rename_i u;cases b:J3 tb ops q base rest r (i+1) (Ia d obs E) G (σ.add v obs (some d)) with
       | none=>rw[b]at h;simp[SV]at h
       | some y =>
        obtain⟨B,σ2⟩:=y;rw[b]at h;simp only[SV]at h;cases h;obtain⟨e,f,σ1,m,n,s,t⟩:=LI b j.2;exact⟨A/\e,f,σ1,by simp only[J3,k,evMG,l,a,evMQ,m,SV];rw[At u],⟨j.1,n⟩,s,t⟩
      cases h
    | cons g c =>
     cases obs with
     | cons z C=>cases a:o.dst<;>rw[a]at h<;>simp[evMQ]at h
     | nil =>
      cases a:o.dst with
      | none=>rw[a]at h;simp[evMQ]at h
      | some d =>
       rw[a]at h;simp only[evMQ]at h;split at h
       .rename_i u;cases b:J3 tb ops q base rest r (i+1) E ((d,g :: c,T,v) :: G) σ with
        | none=>rw[b]at h;simp[SV]at h
        | some y =>
         obtain⟨B,σ2⟩:=y;rw[b]at h;simp only[SV]at h;cases h;obtain⟨e,f,σ1,m,n,s,t⟩:=LI b j.2;exact⟨(T=true->A)/\e,f,σ1,by simp only[J3,k,evMG,l,a,evMQ,m,SV];rw[At u],⟨j.1,n⟩,s,t⟩
       cases h
theorem A0g {ops:List Oper} {q:Bool} {σ0:St} {en:Nat->En}:x9 ops q σ0 en 0 [] [] σ0 :=
 { env:=λ_ _ h=>h,G:=λs c T v h=>absurd h sa,f:=λj a=>absurd a oa,objs:=rfl,E:=λ_=>rfl }
section
variable {c:Cx} {R:Exit->Act->World->Prop} {k:List Cl} {σ σ':St}
def Cu (c:Cx) (R:Exit->Act->World->Prop) (k:List Cl) (ops:Array Oper) (l:List Oper) (σ:St):Prop :=
 (∀o∈l,IX c.nt o=true)->Cz c.nt k=true->∀a w,c.sat σ a w->wpListIn (FR c.r) 0 c.P ops (aQ c R k) l a w
theorem rS {ops:Array Oper} (h:Ev c R (.out .normal) k σ):Cu c R k ops [] σ:=λ_ b a w hs=>h rfl b a w hs
theorem Pw (g:c.Ok) {ops:Array Oper} {l:List Oper} (n:Nat) {vc:Prop} (h:Bu c.tb ops.toList (l.take n) σ=some (vc,σ')) (m:vc) (i:Cu c R k ops (l.drop n) σ'):Cu c R k ops l σ:=by
 intro d f a w hs;have:=N0 (r:=l.drop n) g (l.take n) hs (λo b=>d o (AAv b)) h m (λe w' j=>i (λo b=>d o (ABf b)) f e w' j)
 rwa [ABz]at this
theorem Wi (B:c.P.follows .mixedOrders=true) (v:c.Ok) {id:Nat} {l:List Oper} (n:Nat) (d:KM l (l.take n).length=true) {vc:Prop}
  (h:J3 c.tb l false σ.objs [] (l.take n) 0 [] [] σ=some (vc,σ')) (F:vc) (A:Cu c R k l.toArray (l.drop n) σ') :
  Ev c R (.run (.region id l.toArray true)) k σ:=by
 intro e s a w hs;simp only[Jq,CN,IS]at e;have d:=A0f (ops:=l.toArray) (k:=(l.take n).length) (anc:=k4 l) (by simpa only[KM] using d);have E:Yy l (l.take n).length:=by
  intro x y G m;have p:y<l.length:=by simp at m;omega
  have C:l.toArray[y]?=some l[y]:=by simp[p]
  have:=(d.front y _ C m).2.2 x G;simpa[Am,p] using this
 obtain⟨en,_,hF,I,σ2,g,H,t,u⟩:=N5 (ops:=l) (q:=false) (σ0:=σ) (en:=λ_=>⟨false,.top,[]⟩) E h F A0g sa (λj b=>by
  have b:j<(l.take n).length:=b;rw[AAO,AA3];simp only[OS]at b;rw[At oa])
 refine wpIn_region_any B ?_;have z:l.drop (l.take n).length=l.drop n:=by simp_all
 simp only[Bu]at g;cases g;have:=e7 (c:=c) (ops:=l.toArray) (k:=(l.take n).length) (σ0:=σ) (en:=en) (Q:=aQ c R k) v d (by simpa using e)
  (λj o b f=>hF j o oa b (by simpa using f)) (σ2:=σ') t u (λr w' D=>by
   rw[show (l.toArray.toList.drop _)=l.drop n from z];exact A (λo f=>e o (by simpa using ABf f)) s r w' D)
  l.toArray.size [] (Array.replicate l.toArray.size false) a { w with drawn:=w.drawn+1 } sa sa sa sa (λi hi=>by simp at hi;simp[Array.getD,hi]) (λi o _ hi=>by simp at hi) (Wh hs)
 exact this
theorem Yz (s:c.Ok) {id:Nat} {l:List Oper} (n:Nat) (g:eY l (l.take n).length=true) {vc:Prop}
  (h:J3 c.tb l true σ.objs [] (l.take n) 0 [] [] σ=some (vc,σ')) (A:vc) (u:Cu c R k l.toArray (l.drop n) σ') :
  Ev c R (.run (.region id l.toArray false)) k σ:=by
 intro d m a w hs;simp only[Jq,CN,IS]at d;simp only[eY,AT,IS,gO,Do]at g;have z:Yy l (l.take n).length:=by
  intro x y C D;grind [Am]
 obtain⟨en,_,hF,E,σ2,f,B,p,r⟩:=N5 (ops:=l) (q:=true) (σ0:=σ) (en:=λ_=>⟨false,.top,[]⟩) z h A A0g sa (λj b=>by
  have b:j<(l.take n).length:=b;rw[AAO,AA3];simp only[OS]at b;rw[At oa])
 have t:l.drop (l.take n).length=l.drop n:=by simp_all
 refine ACd ?_;simp only[Bu]at f;cases f;have:=e9 (c:=c) (ops:=l.toArray) (k:=(l.take n).length) (σ0:=σ) (en:=en) (Q:=aQ c R k) s (by simpa using d)
  (λj o b e=>hF j o oa b (by simpa using e)) (by simpa using g.1) (σ2:=σ') p r (λi w' v=>by
   rw[show (l.toArray.toList.drop _)=l.drop n from t];exact u (λo e=>d o (by simpa using ABf e)) m i w' v)
  (l.take n).length 0 a w sa hs
 exact this
theorem Ux (f:c.Ok) {ops:Array Oper} {l:List Oper} {vc:Prop} (h:Bu c.tb ops.toList l σ=some (vc,σ')) (j:vc) (g:Ev c R (.out .normal) k σ'):Cu c R k ops l σ:=by
 intro d e a w hs;exact Ms f l hs d h j (λb w' i=>g rfl e b w' i)
theorem Wj (g:c.P.follows .mixedOrders=true) (a:c.Ok) {id:Nat} {l:List Oper} (n:Nat) (e:KM l (l.take n).length=true) {vc:Prop}
  (h:J3 c.tb l false σ.objs (l.drop n) (l.take n) 0 [] [] σ=some (vc,σ')) (i:vc) (f:Ev c R (.out .normal) k σ') :
  Ev c R (.run (.region id l.toArray true)) k σ:=by
 obtain⟨o,p,σ1,b,j,d,m⟩:=LI h i;exact Wi g a n e b j (Ux a d m f)
theorem Y0 (a:c.Ok) {id:Nat} {l:List Oper} (n:Nat) (e:eY l (l.take n).length=true) {vc:Prop}
  (h:J3 c.tb l true σ.objs (l.drop n) (l.take n) 0 [] [] σ=some (vc,σ')) (g:vc) (f:Ev c R (.out .normal) k σ') :
  Ev c R (.run (.region id l.toArray false)) k σ:=by
 obtain⟨m,o,σ1,b,i,d,j⟩:=LI h g;exact Yz a n e b i (Ux a d j f)
theorem k9 (e:c.P.follows .mixedOrders=true) (a:c.Ok) {id:Nat} {l:List Oper} (b:KM l l.length=true) {vc:Prop}
  (h:J3 c.tb l false σ.objs [] l 0 [] [] σ=some (vc,σ')) (f:vc) (d:Ev c R (.out .normal) k σ') :
  Ev c R (.run (.region id l.toArray true)) k σ :=
 Wj e a l.length (by rw[TO];exact b) (by rw[TO,List.drop_length];exact h) f d
theorem lA (m:Nat) (e:c.P.follows .mixedOrders=true) (a:c.Ok) {id:Nat} {l:List Oper} (b:KM l (l.take (l.length-m)).length=true) {vc:Prop}
  (h:J3 c.tb l false σ.objs (l.drop (l.length-m)) (l.take (l.length-m)) 0 [] [] σ=some (vc,σ')) (f:vc) (d:Ev c R (.out .normal) k σ') :
  Ev c R (.run (.region id l.toArray true)) k σ:=Wj e a _ b h f d
theorem Y2 (a:c.Ok) {id:Nat} {l:List Oper} (b:eY l l.length=true) {vc:Prop}
  (h:J3 c.tb l true σ.objs [] l 0 [] [] σ=some (vc,σ')) (e:vc) (d:Ev c R (.out .normal) k σ') :
  Ev c R (.run (.region id l.toArray false)) k σ :=
 Y0 a l.length (by rw[TO];exact b) (by rw[TO,List.drop_length];exact h) e d
theorem Y3 (a:c.Ok) {id:Nat} {l:List Oper} (_:(l.all λo=>o.guard.isNone)=true) {vc:Prop} (h:Bu c.tb l l σ=some (vc,σ')) (d:vc) (b:Ev c R (.out .normal) k σ') :
  Ev c R (.run (.region id l.toArray false)) k σ:=Ys a h d b
end
end
section
open Go Go.RowKit
theorem rT {c:Cx} {σ σ1 σ':St} (l:List Nat) (h:DB l σ=σ1) (b:qC c σ1 σ'):qC c σ σ':=by
 intro a w hs;obtain⟨ρ,hs⟩:=hs;exact b a w ⟨ρ,by rw[<-h];exact JE hs⟩
theorem Id {α:Type} (a b:List α):(a++b).take (a.length+b.length)=a++b:=By sa
theorem M3 {α:Type} (a b:List α):sub (a++b) 0 (a.length+b.length)=a++b:=by rw[HB,Id]
theorem Gq {α:Type} (a:List α) (x:α):(a++[x]).take (a.length+1)=a++[x]:=By sa
theorem KQ {α:Type} (a:List α) (x:α):sub (a++[x]) 0 (a.length+1)=a++[x]:=by rw[HB,Gq]
theorem yC {P:Program} {tb:Tb} {w0:World} {O0:Nat->Prop} {nt:Nat} (b:(cx P tb w0 O0 nt).Ok) {fn:Func} {outs:List RV} {σ:St} {e:Exit} (a:List ResultVar) (f:fn.results.toList=a) (c:e=.ret\/e=.normal) (hp:∀r∈outs,∃t d,r=.p t d) (h:Lt tb σ a outs) :
  Ev (cx P tb w0 O0 nt) (S5 P fn w0 O0 outs) (.out e) [] σ:=kX b c hp (by rw[f];exact h)
theorem Wk:((0:Nat):Int)=0:=rfl
theorem Wl (k:Nat):((k+1:Nat):Int)=(k:Int)+1:=by omega
theorem AW {α:Type} (l:List α) (d:α) {k:Nat} (h:k<l.length):l.getD k d∈l:=by
 rw[AS,DO h];exact ACc h
theorem AH {P:Program} {ty:List (Nat×TI)} {b:List Nat} {ne:List (Nat×TypeId)} {a:List Nat}:KH P ⟨ty,[],b,ne,a⟩:=λf c h=>by simp[lk]at h
theorem AF {P:Program} {ty:List (Nat×TI)} {c:List Nat} {ne:List (Nat×TypeId)} {b:List Nat} {f:Nat} {d:Spec} {r:List (Nat×Spec)} (h:Ap P f d) (i:KH P ⟨ty,r,c,ne,b⟩):KH P ⟨ty,(f,d) :: r,c,ne,b⟩:=λg j a=>by
 simp only[lk]at a;split at a
 .rename_i e;cases a;rw[e];exact h
 exact i g j a
theorem Ie {α:Type} (x:α):[x].take 1=[x]:=rfl
theorem Ai {α:Type} (l:List α) (d:α) {k:Nat} (h:k<l.length):l.take (k+1)=l.take k++[l.getD k d]:=by
 rw[List.take_add_one,AS,DO h];rfl
theorem M4 {α:Type} (l:List α) (q:Nat):sub l q l.length=l.drop q:=by
 unfold sub;rw[By sa]
end
end Go.Proofs.YtaoonfcjbmcmpaaGreatDoor.Fw
