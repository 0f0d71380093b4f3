/- Regions whose order Go leaves open: the rules. -/
import Derived.Test.YtapkhdkbkodbjaaGreatIZE
set_option linter.unusedVariables false
set_option linter.unusedSimpArgs false
namespace Go.Proofs.YtapkhdkbkodbjaaGreat.Fw
section
open Go Go.RowKit
def EE (o:Oper):List Nat:=(o.after.toList.filter (Region.binds .any)).map (·.on)
def Aj (ops:List Oper) (j:Nat):Option Nat:=(ops[j]?).bind (·.dst)
def QA:Operand->Option Nat
 | .tmp t=>some t
 | _=>none
def NE (ops:List Oper) (o:Oper):List Nat:=(o.op.operands.toList.filterMap QA)++(match o.guard with|some (j,_)=>(Aj ops j).toList|none=>[])
def AAx (a b:List Nat):List Nat:=a.foldl (λr x=>if Ac x r then r else x :: r) b
def A25 (ops:List Oper):List (List Nat):=ops.foldl (λ(a:List (List Nat)) o=>a++[(EE o).foldl (λr e=>AAx (a.getD e []) (if Ac e r then r else e :: r)) []]) []
def opB (ops:List Oper) (k:Nat) (anc:List (List Nat)) (i:Nat) (o:Oper):Bool :=
  (EE o).all (λe=>decide (e<i)) &&
  (anc.getD i []).all (λj=>Ac j (EE o)||(EE o).any λe=>Ac j (anc.getD e [])) &&
  (if i<k then o.dst.isSome&&((NE ops o).all λt=>(List.range k).all λj=>Aj ops j != some t||Ac j (anc.getD i []))&&((List.range i).all λj=>Aj ops j != o.dst)
   else (List.range i).all λj=>Ac j (anc.getD i []))
def lZ (ops:List Oper) (k:Nat) (anc:List (List Nat)):Bool :=
 decide (k<=ops.length)&&(List.range ops.length).all λi=>match ops[i]? with|some o=>opB ops k anc i o|none=>false
def LT (ops:List Oper) (k:Nat):Bool:=lZ ops k (A25 ops)
def zI (ops:List Oper) (k:Nat):Bool :=
 decide (k<=ops.length)&&(List.range k).all λi=>match ops[i]? with|some o=>o.dst.isSome&&((List.range i).all λj=>Aj ops j != o.dst)|none=>false
def B4 (q:Bool) (ts:List Nat) (base:List (Nat×Obj)):List (Nat×List (Nat×Obj))->List (Nat×Obj)
 | []=>base
 | (s,obs) :: r=>if (q||Ac s ts)=true then obs++B4 q ts base r else B4 q ts base r
def HI (o:Op):List Nat:=o.operands.toList.filterMap QA
def L8 (q:Bool) (o:Op) (base:List (Nat×Obj)):List (Nat×List (Nat×Obj))->List (Nat×Obj)
 | []=>base
 | e :: r=>B4 q (HI o) base (e :: r)
def Ju (d:Nat) (obs:List (Nat×Obj)) (E:List (Nat×List (Nat×Obj))):List (Nat×List (Nat×Obj)) :=
 match obs with
 | []=>E
 | x :: r=>(d,x :: r) :: E
abbrev Ch:=List (Nat×Bool)
abbrev Gs:=List (Nat×(Ch×Bool×AV))
def Ob:Ch->Ch->Bool
 | [],[]=>true
 | (j,w) :: r,(a,w') :: b=>(j==a)&&(w==w')&&Ob r b
 | [],_ :: _=>false
 | _ :: _,[]=>false
theorem L9:Ob [] []=true:=rfl
theorem QB (x:Nat×Bool) (r:Ch):Ob [] (x :: r)=false:=rfl
theorem QC (x:Nat×Bool) (r:Ch):Ob (x :: r) []=false:=rfl
theorem Jv (j a:Nat) (w w':Bool) (r b:Ch):Ob ((j,w) :: r) ((a,w') :: b)=(decide (j=a)&&(w==w')&&Ob r b):=by grind [Ob]
def UW (a:Ch):Ch->Bool
 | []=>Ob a []
 | k :: r=>Ob a (k :: r)||UW a r
def Jw (c:Ch):Gs->List (Nat×AV)->List (Nat×AV)
 | [],env=>env
 | (s,a,_,v) :: G,env=>if UW a c=true then (s,v) :: Jw c G env else Jw c G env
def Kn (j:Nat) (a:Bool):Option (Ch×Bool×AV)->Option AV->Option (Ch×Bool)
 | some (c,T,.p .bool b),_=>some ((j,a) :: c,T&&(b==a))
 | none,some (.p .bool b)=>some ([(j,a)],b==a)
 | _,_=>none
def Iy (G:Gs) (env:List (Nat×AV)) (j:Nat) (a:Bool):Option Nat->Option (Ch×Bool)
 | some s=>Kn j a (lk s G) (lk s env)
 | none=>none
def H0 (ops:List Oper) (G:Gs) (env:List (Nat×AV)) (i:Nat):Option (Nat×Bool)->Option (Ch×Bool)
 | none=>some ([],true)
 | some (j,a)=>if j<i then Iy G env j a (Aj ops j) else none
def Oc (ops:List Oper) (c:Ch) (s:Nat) (w:Bool):Option (Ch×Bool×AV)->Option AV->Option AV
 | some (a,_,v),_=>if UW a c=true then some v else match a with
  | []=>none
  | (j,w') :: r=>if w'=w/\Aj ops j=some s/\Ob r c=true then some v else none
 | none,x=>x
def LU (ops:List Oper) (c:Ch) (G:Gs) (env:List (Nat×AV)) (s:Nat) (w:Bool):Operand->Option AV
 | .tmp t=>Oc ops c s w (lk t G) (lk t env)
 | .const v=>some (HV v)
 | .func _=>none
 | .global _=>none
def Od:Option AV->Option AV->Option AV->Ba
 | some (.p .bool b),some (.p .bool p),some (.p .bool q)=>some (True,.p .bool (bif b then p else q),[])
 | _,_,_=>none
def Nv (ops:List Oper) (c:Ch) (G:Gs) (env:List (Nat×AV)):Operand->Operand->Operand->Ba
 | .tmp s,x,y=>Od (lk s (Jw c G env)) (LU ops c G env s true x) (LU ops c G env s false y)
 | .const _,_,_=>none
 | .func _,_,_=>none
 | .global _,_,_=>none
def H5:Op->Option (Operand×Operand×Operand)
 | .pick s x y=>some (s,x,y)
 | _=>none
def opM (tb:Tb) (ops:List Oper) (q:Bool) (base:List (Nat×Obj)) (c:Ch) (G:Gs) (E:List (Nat×List (Nat×Obj))) (env:List (Nat×AV)) (o:Oper):Option (Operand×Operand×Operand)->Ba
 | some (s,x,y)=>Nv ops c G env s x y
 | none=>aq tb ⟨Jw c G env,L8 q o.op base E⟩ (o.dst.getD 0) o.op
mutual
def Lk (tb:Tb) (ops:List Oper) (q:Bool) (base:List (Nat×Obj)) (rest:List Oper):List Oper->Nat->List (Nat×List (Nat×Obj))->Gs->St->DA
 | [],_,_,_,σ=>Bu tb ops rest σ
 | o :: r,i,E,G,σ=>evMG tb ops q base rest o r i E G σ (H0 ops G σ.env i o.guard)
def evMG (tb:Tb) (ops:List Oper) (q:Bool) (base:List (Nat×Obj)) (rest:List Oper) (o:Oper) (r:List Oper) (i:Nat) (E:List (Nat×List (Nat×Obj))) (G:Gs) (σ:St):Option (Ch×Bool)->DA
 | some (c,T)=>evMQ tb ops q base rest o.dst r i E G σ c T (opM tb ops q base c G E σ.env o (H5 o.op))
 | none=>none
def evMQ (tb:Tb) (ops:List Oper) (q:Bool) (base:List (Nat×Obj)) (rest:List Oper) (dst:Option Nat) (r:List Oper) (i:Nat) (E:List (Nat×List (Nat×Obj))) (G:Gs) (σ:St):Ch->Bool->Ba->DA
 | [],_,some (vc,v,obs)=>match dst with
  | some d=>if Bi obs σ=true then YM vc (Lk tb ops q base rest r (i+1) (Ju d obs E) G (σ.add v obs (some d))) else none
  | none=>none
 | g :: c,T,some (vc,v,[])=>match dst with
  | some d=>if (lk d σ.env).isNone=true then YM (T=true->vc) (Lk tb ops q base rest r (i+1) E ((d,g :: c,T,v) :: G) σ) else none
  | none=>none
 | _,_,_=>none
end
structure En where
 b:Bool
 v:AV
 obs:List (Nat×Obj)
def Ar (ops:List Oper) (en:Nat->En) (σ:St):List Nat->St
 | []=>σ
 | i :: r=>(Ar ops en σ r).add (en i).v (en i).obs (Aj ops i)
def Ah:Nat->List Nat
 | 0=>[]
 | i+1=>i :: Ah i
end
section
open Go Go.RowKit
section
variable {tb:Tb} {ops:List Oper} {k:Nat} {q:Bool} {anc:List (List Nat)} {σ0:St} {en:Nat->En}
def ES (ops:List Oper) (en:Nat->En) (l:List Nat):List (Nat×List (Nat×Obj)):=l.map λj=>((Aj ops j).getD 0,(en j).obs)
def Ko (ops:List Oper) (σ:St) (b:Bool):Option (Nat×Bool)->Prop
 | none=>b=true
 | some (j,a)=>∃s,Aj ops j=some s/\((∃x,lk s σ.env=some (.p .bool x)/\b=(x==a))\/(lk s σ.env=some (.raw undef)/\b=false))
structure Vo (tb:Tb) (ops:List Oper) (q:Bool) (σ0:St) (en:Nat->En) (i:Nat) (o:Oper):Prop where
 g:Ko ops (Ar ops en σ0 (Ah i)) (en i).b o.guard
 t:(en i).b=true->∃vc:Prop,aq tb ⟨(Ar ops en σ0 (Ah i)).env,B4 q (HI o.op) σ0.objs (ES ops en (Ah i))⟩ (o.dst.getD 0) o.op=some (vc,(en i).v,(en i).obs)/\vc/\Bi (en i).obs (Ar ops en σ0 (Ah i))=true
 f:(en i).b=false->(en i).v=.raw undef/\(en i).obs=[]
theorem Kp {a:Nat->En}:∀ {l:List Nat},(∀j∈l,a j=en j)->Ar ops a σ0 l=Ar ops en σ0 l
 | [],_=>rfl
 | i :: r,h=>by
  simp only[Ar];rw[Kp (λj b=>h j (by simp[b])),h i (by simp)]
theorem BL {i j:Nat}:j∈Ah i↔j<i:=by
 induction i with
 | zero=>simp[Ah]
 | succ i a=>simp[Ah,a];omega
theorem Fk:∀(l:List Nat),(Ar ops en σ0 l).objs=(l.flatMap λj=>(en j).obs)++σ0.objs
 | []=>rfl
 | i :: r=>by
  simp only[Ar,AEG,Rl];rw[<-Fk r];cases Aj ops i<;>rfl
theorem Fl (s:Nat):∀(l:List Nat),lk s (Ar ops en σ0 l).env=match l.find? (λj=>Aj ops j==some s) with|some j=>some (en j).v|none=>lk s σ0.env
 | []=>rfl
 | i :: r=>by
  simp only[Ar,List.find?_cons];cases a:Aj ops i with
  | none =>
   simp only[St.add];rw[Fl s r];have:((none:Option Nat)==some s)=false:=rfl;rw[this]
  | some d =>
   simp only[St.add,lk];by_cases hs:s=d
   ·subst hs;simp
   ·have h1:((some d:Option Nat)==some s)=false:=by
     have:d≠s:=λe=>hs e.symm;simpa using this
    rw[An hs,Fl s r,h1]
theorem qA {n:Nat} {o:Obj} {l:List Nat} (h:lk n (l.flatMap λj=>(en j).obs)=some o):∃j∈l,lk n (en j).obs=some o:=by
 induction l with
 | nil=>simp[lk]at h
 | cons i r d =>
  rw[AEG,BB]at h;cases a:lk n (en i).obs with
  | some e =>
   rw[a]at h;exact⟨i,by simp,by rw[a];simpa using h⟩
  | none =>
   rw[a]at h;obtain⟨j,b,c⟩:=d (by simpa using h);exact⟨j,by simp[b],c⟩
theorem Kq {n:Nat} {l:List Nat} (h:lk n (l.flatMap λj=>(en j).obs)=none):∀j∈l,lk n (en j).obs=none:=by
 induction l with
 | nil=>simp
 | cons i r c =>
  rw[AEG,BB]at h;cases a:lk n (en i).obs with
  | some d=>rw[a]at h;simp at h
  | none =>
   rw[a]at h;intro j b;rcases DO.1 b with rfl|b
   ·exact a
   ·grind
def Sep (σ0:St) (en:Nat->En) (k:Nat):Prop :=
 (∀j,j<k->∀n o,lk n (en j).obs=some o->lk n σ0.objs=none)/\∀i j,i<k->j<k->∀n o a,lk n (en i).obs=some o->lk n (en j).obs=some a->i=j
theorem E0 (g:Sep σ0 en k) {l:List Nat} (c:∀j∈l,j<k) (n:Nat) (o:Obj):lk n (Ar ops en σ0 l).objs=some o↔(∃j∈l,lk n (en j).obs=some o)\/((∀j∈l,lk n (en j).obs=none)/\lk n σ0.objs=some o):=by
 rw[Fk,BB];cases h:lk n (l.flatMap λj=>(en j).obs) with
 | some i =>
  obtain⟨j,b,a⟩:=qA h;simp only[AFl];constructor
  ·grind
  ·rintro (⟨d,e,f⟩|⟨h1,_⟩)
   ·have:=g.2 j d (c j b) (c d e) n i o a f;grind
   ·rw[h1 j b]at a;cases a
 | none =>
  have hn:=Kq h;simp only[Option.none_or];constructor
  ·grind
  ·grind
theorem A27 (f:Sep σ0 en k) {ts:List Nat} {l l':List Nat} (m:∀j∈l,j<k) (e:∀j∈l',j<k) (d:∀j∈l,(q||Ac ((Aj ops j).getD 0) ts)=true->j∈l') {n:Nat} {o:Obj} :
  lk n (B4 q ts σ0.objs (ES ops en l))=some o->lk n (Ar ops en σ0 l').objs=some o:=by
 rw[E0 f e];induction l with
 | nil =>
  simp only[ES,AEY,B4];intro h;refine .inr ⟨λj b=>?_,h⟩;cases a:lk n (en j).obs with
  | none=>rfl
  | some g=>have:=f.1 j (e j b) n g a;rw[this]at h;cases h
 | cons i r c =>
  simp only[ES,Rp,B4];have c:=c (λj b=>m j (by simp[b])) (λj b=>d j (by simp[b]));split
  ·rename_i p;intro h;rw[BB]at h;cases a:lk n (en i).obs with
   | some g =>
    rw[a]at h;simp only[AFl]at h;cases h;exact .inl ⟨i,d i (by simp) p,a⟩
   | none =>
    rw[a]at h;exact c (by simpa[ES] using h)
  ·exact c
theorem QD:∀ {a b:Ch},Ob a b=true↔a=b
 | [],[]=>by simp[Ob]
 | (j,w) :: r,(d,w') :: c=>by simp[Ob,QD (a:=r) (b:=c),and_assoc]
 | [],_ :: _=>by simp[Ob]
 | _ :: _,[]=>by simp[Ob]
def bv:AV->Bool
 | .p .bool b=>b
 | _=>false
def tr (en:Nat->En):Ch->Bool
 | []=>true
 | (j,w) :: r=>tr en r&&(bv (en j).v==w)
theorem Vp {a:Nat->En}:∀ {c:Ch},(∀k∈c,a k.1=en k.1)->tr a c=tr en c
 | [],_=>rfl
 | (j,w) :: r,h=>by
  have h1:=h (j,w) (by simp);simp only at h1;simp only[tr];rw[Vp (λk hk=>h k (by simp[hk])),h1]
theorem l3 {b:Ch}:∀ {c:Ch},UW b c=true->tr en c=true->tr en b=true
 | [],h,a=>by simp only[UW,QD]at h;rw[h];exact a
 | k :: r,h,a=>by
  simp only[UW,S8,QD]at h;rcases h with rfl|h
  ·exact a
  ·obtain⟨j,w⟩:=k;simp only[tr,AT]at a;exact l3 h a.1
structure Inv (ops:List Oper) (q:Bool) (σ0:St) (en:Nat->En) (i:Nat) (E:List (Nat×List (Nat×Obj))) (G:Gs) (σ:St):Prop where
 env:∀s v,lk s σ.env=some v->lk s (Ar ops en σ0 (Ah i)).env=some v
 G:∀s c T v,(s,c,T,v)∈G->T=tr en c/\(T=true->lk s (Ar ops en σ0 (Ah i)).env=some v)/\(∀k∈c,k.1<i)/\∃j,j<i/\Aj ops j=some s/\(en j).b=T
 f:∀j,j<i->(en j).b=false->(en j).v=.raw undef
 objs:σ.objs=(Ar ops en σ0 (Ah i)).objs
 E:∀ts,B4 q ts σ0.objs E=B4 q ts σ0.objs (ES ops en (Ah i))
def l4 (ops:List Oper) (k:Nat):Prop:=∀a b,a<b->b<k->Aj ops a≠Aj ops b
theorem Yt (hu:l4 ops k) {i j s:Nat} (d:i<=k) (c:j<i) (b:Aj ops j=some s):lk s (Ar ops en σ0 (Ah i)).env=some (en j).v:=by
 rw[Fl];have:(Ah i).find? (λj=>Aj ops j==some s)=some j:=by
  cases hf:(Ah i).find? (λj=>Aj ops j==some s) with
  | none =>
   have:=AFi.1 hf j (BL.2 c);simp[b]at this
  | some x =>
   have h1:=BL.1 (AEI hf);have a:=AFz hf;have a:Aj ops x=some s:=by simpa using a
   rcases AET x j with h|h|h
   ·exact absurd (a.trans b.symm) (hu x j h (by omega))
   ·rw[h]
   ·exact absurd (b.trans a.symm) (hu j x h (by omega))
 rw[this]
theorem SC {c:Ch} {s:Nat} {v:AV} {env:List (Nat×AV)}:∀ {G:Gs},lk s (Jw c G env)=some v->(∃b T,(s,b,T,v)∈G/\UW b c=true)\/lk s env=some v
 | [],h=>.inr h
 | (e,b,T,f) :: G,h=>by
  simp only[Jw]at h;split at h
  ·rename_i hs;simp only[lk]at h;split at h
   ·grind
   ·rcases SC h with ⟨c2,T2,d,a⟩|a
    ·grind
    ·exact .inr a
  ·rcases SC h with ⟨c2,T2,d,a⟩|a
   ·grind
   ·exact .inr a
section
variable {i:Nat} {E:List (Nat×List (Nat×Obj))} {G:Gs} {σ:St}
theorem fY (a:Inv ops q σ0 en i E G σ) {c:Ch} (f:tr en c=true) {s:Nat} {v:AV} (h:lk s (Jw c G σ.env)=some v):lk s (Ar ops en σ0 (Ah i)).env=some v:=by
 rcases SC h with ⟨b,T,d,hs⟩|h
 ·obtain⟨h1,e,_⟩:=a.G s b T v d;grind [l3]
 ·exact a.env s v h
theorem zJ (m:Inv ops q σ0 en i E G σ) (hu:l4 ops k) (v:i<=k) {g:Option (Nat×Bool)} {c:Ch} {T:Bool} (h:H0 ops G σ.env i g=some (c,T)) :
  Ko ops (Ar ops en σ0 (Ah i)) T g/\T=tr en c/\(∀k∈c,k.1<i):=by
 cases g with
 | none =>
  simp only[H0]at h;cases h;exact⟨rfl,rfl,by simp⟩
 | some g =>
  obtain⟨j,z⟩:=g;simp only[H0]at h;split at h
  ·rename_i r;cases d:Aj ops j with
   | none=>rw[d]at h;simp[Iy]at h
   | some s =>
    rw[d]at h;simp only[Iy]at h;have e:=Yt (en:=en) (σ0:=σ0) hu v r d;unfold Kn at h;split at h
    ·rename_i c0 o b n;cases h;obtain⟨h1,t,x,l,y,p,u⟩:=m.G s c0 o _ (F5 n);cases hT:o with
     | true =>
      have a:=t hT;rw[e]at a;injection a with a
      refine⟨⟨s,d,.inl ⟨b,by rw[e,a],by simp⟩⟩,?_,?_⟩
      ·grind [tr,bv]
      ·grind
     | false =>
      have w:l=j:=by
       rcases AET l j with h|h|h
       ·exact absurd (p.trans d.symm) (hu l j h (by omega))
       ·exact h
       ·exact absurd (d.trans p.symm) (hu j l h (by omega))
      subst w;have a:=m.f l r (by rw[u,hT]);refine⟨⟨s,d,.inr ⟨by rw[e,a],by simp⟩⟩,?_,?_⟩
      ·grind [tr]
      ·grind
    ·rename_i b _ n;cases h;have a:=m.env s _ n;rw[e]at a;injection a with a
     refine⟨⟨s,d,.inl ⟨b,by rw[e,a],rfl⟩⟩,by simp[tr,a,bv],?_⟩;grind
    ·cases h
  ·cases h
theorem fZ (d:Inv ops q σ0 en i E G σ) (hu:l4 ops k) (o:i<=k) {c:Ch} (z:tr en c=true) {s:Nat} {w:Bool} (hs:lk s (Ar ops en σ0 (Ah i)).env=some (.p .bool w)) {x:Operand} {v:AV}
  (h:LU ops c G σ.env s w x=some v) {objs:List (Nat×Obj)}:Am ⟨(Ar ops en σ0 (Ah i)).env,objs⟩ x=some v:=by
 cases x with
 | const x=>simp only[LU]at h;exact h
 | func f=>simp[LU]at h
 | global g=>simp[LU]at h
 | tmp t =>
  simp only[LU]at h;simp only[Am];cases a:lk t G with
  | none =>
   rw[a]at h;exact d.env t v h
  | some e =>
   obtain⟨b,T,u⟩:=e;rw[a]at h;simp only[Oc]at h;obtain⟨h1,y,m,_⟩:=d.G t b T u (F5 a);split at h
   ·grind [l3]
   ·cases b with
    | nil=>cases h
    | cons p r =>
     obtain⟨j,w'⟩:=p;simp only at h;split at h
     ·rename_i hh;obtain⟨rfl,n,l⟩:=hh;rw[QD]at l;subst l;cases h;have A:=Yt (en:=en) (σ0:=σ0) hu o (m (j,w') (by simp)) n;grind [tr,bv]
     ·cases h
theorem A9g (a:Inv ops q σ0 en i E G σ) (hu:l4 ops k) (j:i<=k) {c:Ch} (d:tr en c=true) {o:Oper} {vc:Prop} {v:AV} {obs:List (Nat×Obj)} (h:opM tb ops q σ0.objs c G E σ.env o (H5 o.op)=some (vc,v,obs)) (z:vc) :
  ∃l:Prop,aq tb ⟨(Ar ops en σ0 (Ah i)).env,B4 q (HI o.op) σ0.objs (ES ops en (Ah i))⟩ (o.dst.getD 0) o.op=some (l,v,obs)/\l:=by
 cases hp:H5 o.op with
 | none =>
  rw[hp]at h;simp only[opM]at h;refine⟨vc,Un (σ:=⟨Jw c G σ.env,L8 q o.op σ0.objs E⟩) ?_ ?_ h,z⟩
  ·intro n x hn;have:L8 q o.op σ0.objs E=B4 q (HI o.op) σ0.objs E:=by cases E<;>rfl
   simp only at hn ⊢;rw[this,a.E]at hn;exact hn
  ·intro x _ v e;cases x with
   | tmp t=>exact fY a d e
   | const A=>exact e
   | global g=>exact e
   | func f=>exact e
 | some p =>
  obtain⟨s,x,y⟩:=p;rw[hp]at h;have w:o.op=.pick s x y:=by
   unfold H5 at hp;grind
  simp only[opM]at h;rw[w];cases s with
  | const _=>simp[Nv]at h
  | func _=>simp[Nv]at h
  | global _=>simp[Nv]at h
  | tmp s =>
   simp only[Nv]at h;unfold Od at h;split at h
   ·rename_i b p r h1 m u;cases h;have hs:=fY a d h1;refine⟨True,?_,trivial⟩;have h0:Am ⟨(Ar ops en σ0 (Ah i)).env,B4 q (HI (Op.pick (.tmp s) x y)) σ0.objs (ES ops en (Ah i))⟩ (.tmp s)=some (.p .bool b):=hs;simp only[aq];rw[h0];cases b with
    | true =>
     simp only[LO];rw[fZ a hu j d hs m];rfl
    | false =>
     simp only[LO];rw[fZ a hu j d hs u];rfl
   ·cases h
end
theorem SD {rest:List Oper} (hu:l4 ops k):∀ {fr:List Oper} {i:Nat} {E:List (Nat×List (Nat×Obj))} {G:Gs} {σ σ':St} {en:Nat->En} {vc:Prop},Lk tb ops q σ0.objs rest fr i E G σ=some (vc,σ')->vc->Inv ops q σ0 en i E G σ->i+fr.length=k->(∀j,j<fr.length->ops[i+j]?=fr[j]?) ->
  ∃l:Nat->En,(∀j,j<i->l j=en j)/\(∀j o,i<=j->j<k->ops[j]?=some o->Vo tb ops q σ0 l j o) /\
   ∃(D:Prop) (σ2:St),Bu tb ops rest σ2=some (D,σ')/\D/\(∀s v,lk s σ2.env=some v->lk s (Ar ops l σ0 (Ah k)).env=some v)/\σ2.objs=(Ar ops l σ0 (Ah k)).objs
 | [],i,E,G,σ,σ',en,vc,h,H,n,hk,_=>by
  simp only[Lk]at h;simp at hk;subst hk;exact⟨en,λ_ _=>rfl,λj o h1 P=>by omega,vc,σ,h,H,n.env,n.objs⟩
 | o :: r,i,E,G,σ,σ',en,vc,h,H,n,hk,al=>by
  have aj:ops[i]?=some o:=by simpa using al 0 (by simp)
  have Q:Aj ops i=o.dst:=by simp[Aj,aj]
  have U:i<k:=by simp at hk;omega
  simp only[Lk]at h;cases S:H0 ops G σ.env i o.guard with
  | none=>rw[S]at h;simp[evMG]at h
  | some ap =>
   obtain⟨c,T⟩:=ap;obtain⟨bf,hT,ab⟩:=zJ n hu (AFc U) S;rw[S]at h;simp only[evMG]at h;cases W:opM tb ops q σ0.objs c G E σ.env o (H5 o.op) with
   | none =>
    rw[W]at h;unfold evMQ at h;split at h
    ·rename_i R;cases R
    ·rename_i R;cases R
    ·cases h
   | some bm =>
    obtain⟨bn,v,obs⟩:=bm;rw[W]at h;have ao:∀(d:Nat) (e:En) (L:List (Nat×List (Nat×Obj))) (M:Gs) (K:St) (F:Prop),o.dst=some d->e.b=T->(T=true->bn/\e.v=v/\e.obs=obs/\Bi obs σ=true)->(T=false->e.v=.raw undef/\e.obs=[]) ->
      (∀s a,lk s K.env=some a->if s=d then a=e.v else lk s σ.env=some a)->K.objs=e.obs++σ.objs ->
      (∀s w B a,(s,w,B,a)∈M->(s,w,B,a)∈G\/(s=d/\w=c/\B=T/\a=v))->(∀ts,B4 q ts σ0.objs L=B4 q ts σ0.objs ((d,e.obs) :: E)) ->
      Lk tb ops q σ0.objs rest r (i+1) L M K=some (F,σ')->F ->
      ∃l:Nat->En,(∀j,j<i->l j=en j)/\(∀j o,i<=j->j<k->ops[j]?=some o->Vo tb ops q σ0 l j o) /\
       ∃(D:Prop) (σ2:St),Bu tb ops rest σ2=some (D,σ')/\D/\(∀s v,lk s σ2.env=some v->lk s (Ar ops l σ0 (Ah k)).env=some v)/\σ2.objs=(Ar ops l σ0 (Ah k)).objs:=by
     intro d e L M K F t I af ae bc bg aw au bd bl
     let u:Nat->En:=λj=>if j=i then e else en j
     have O:u i=e:=by simp[u]
     have heq:∀j,j<i->u j=en j:=λj z=>by simp[u,show j≠i by omega]
     have ba:Ar ops u σ0 (Ah i)=Ar ops en σ0 (Ah i):=Kp λj z=>heq j (BL.1 z);have Z:ES ops u (Ah i)=ES ops en (Ah i):=by
      apply Rf;grind [BL]
     have bb:Ar ops u σ0 (Ah (i+1))=(Ar ops en σ0 (Ah i)).add e.v e.obs (some d):=by grind [Ah,Ar]
     have ak:∀s a,s≠d->lk s (Ar ops en σ0 (Ah i)).env=some a->lk s (Ar ops u σ0 (Ah (i+1))).env=some a:=by grind [St.add,lk]
     have ag:lk d (Ar ops u σ0 (Ah (i+1))).env=some e.v:=by grind [St.add,lk]
     have ax:Inv ops q σ0 u (i+1) L M K:=by
      refine⟨λs a A=>?_,λs w B a p=>?_,λj z m=>?_,?_,λts=>?_⟩
      ·have:=bc s a A;split at this
       ·rename_i hs;rw[hs,this];exact ag
       ·rename_i hs;exact ak s a hs (n.env s a this)
      ·rcases aw s w B a p with p|⟨rfl,rfl,rfl,rfl⟩
       ·obtain⟨h1,P,N,j,z,ad,m⟩:=n.G s w B a p;have bh:s≠d:=by
         rintro rfl;exact hu j i z U (by rw[ad,Q,t])
        refine⟨by rw[Vp (en:=en) λk hk=>heq _ (N k hk)];exact h1,λhT=>ak s a bh (P hT),λk hk=>by have:=N k hk;omega,j,by omega,ad,by rw[heq j z];exact m⟩
       ·refine⟨by rw[Vp (en:=en) λk hk=>heq _ (ab k hk)];exact hT,λay=>?_,λk hk=>by have:=ab k hk;omega,i,by omega,by rw[Q,t],by rw[O];exact I⟩;rw[ag,(af ay).2.1]
      ·by_cases V:j=i
       ·subst V;rw[O]at m ⊢;exact(ae (by rw[<-I];exact m)).1
       ·rw[heq j (by omega)]at m ⊢;exact n.f j (by omega) m
      ·rw[bb,bg,n.objs];rfl
      ·rw[au];simp only[ES,Ah,Rp,O,Q,t,AF2,B4];have:=n.E ts;rw[<-Z]at this;simp only[ES]at this;rw[this]
     obtain⟨l,h1,P,N⟩:=SD hu bd bl ax (by simp at hk ⊢;omega) (λj z=>by
      have:=al (j+1) (by simp;omega);rw[show i+(j+1)=i+1+j by omega]at this;simpa using this)
     refine⟨l,λj z=>by rw[h1 j (by omega),heq j z],λj bq bo bp ai=>?_,N⟩;by_cases V:j=i
     ·subst V;rw[aj]at ai;cases ai;have J:l j=e:=by rw[h1 j (by omega),O]
      have aa:Ar ops l σ0 (Ah j)=Ar ops en σ0 (Ah j):=by
       rw[<-ba];exact Kp λq X=>h1 q (by have:=BL.1 X;omega)
      have av:ES ops l (Ah j)=ES ops en (Ah j):=by
       rw[<-Z];apply Rf;intro q X;rw[h1 q (by have:=BL.1 X;omega)]
      refine⟨by rw[aa,J,I];exact bf,λm=>?_,λm=>?_⟩
      ·rw[J,I]at m;obtain⟨bi,bj,bk,an⟩:=af m;obtain⟨D,aq,ar⟩:=A9g n hu (AFc U) (by rw[<-hT];exact m) W bi;rw[J,aa,av,bj,bk];exact⟨D,aq,ar,by
        simp only[Bi]at an ⊢;rw[<-n.objs];exact an⟩
      ·rw[J,I]at m;rw[J];exact ae m
     ·grind
    cases c with
    | nil =>
     cases t:o.dst with
     | none=>rw[t]at h;simp[evMQ]at h
     | some d =>
      rw[t]at h;simp only[evMQ]at h;split at h
      ·rename_i be;cases C:Lk tb ops q σ0.objs rest r (i+1) (Ju d obs E) G (σ.add v obs (some d)) with
       | none=>rw[C]at h;simp[YM]at h
       | some Y =>
        obtain⟨F,σ2⟩:=Y;rw[C]at h;simp only[YM]at h;cases h;have az:T=true:=by rw[hT];rfl
        refine ao d ⟨T,v,obs⟩ _ _ _ F t rfl (λ_=>⟨H.1,rfl,rfl,be⟩) (λhf=>by rw[az]at hf;cases hf) (λs a A=>?_) rfl (λs w B a p=>.inl p) (λts=>?_) C H.2
        ·simp only[St.add,lk]at A;split at A
         ·rename_i hs;cases A;simp[hs]
         ·rename_i hs;rw[An hs];exact A
        ·cases obs with
         | nil=>simp[Ju,B4]
         | cons x y=>rfl
      ·cases h
    | cons g w =>
     cases obs with
     | cons x y=>simp[evMQ]at h
     | nil =>
      cases t:o.dst with
      | none=>rw[t]at h;simp[evMQ]at h
      | some d =>
       rw[t]at h;simp only[evMQ]at h;split at h
       ·rename_i ah;cases C:Lk tb ops q σ0.objs rest r (i+1) E ((d,g :: w,T,v) :: G) σ with
        | none=>rw[C]at h;simp[YM]at h
        | some Y =>
         obtain⟨F,σ2⟩:=Y;rw[C]at h;simp only[YM]at h;cases h;refine ao d ⟨T,bif T then v else .raw undef,[]⟩ _ _ _ F t rfl (λam=>⟨H.1 am,by simp[am],rfl,by simp[Bi]⟩) (λhf=>⟨by simp[hf],rfl⟩) (λs a A=>?_) rfl (λs c2 B a p=>?_) (λts=>?_) C H.2
         ·have:s≠d:=by
           rintro rfl;rw[A]at ah;cases ah
          rw[An this];exact A
         ·rcases DO.1 p with p|p
          ·cases p;exact .inr ⟨rfl,rfl,rfl,rfl⟩
          ·exact .inl p
         ·simp[B4]
       ·cases h
end
section
variable {c:Cx} {ops:Array Oper} {k:Nat} {anc:List (List Nat)} {σ0 σ':St} {en:Nat->En} {Q:Exit->Act->World->Prop}
theorem A28 {o:Oper} {e:Edge} (b:e∈o.after) (a:Region.binds .any e=true):e.on∈EE o:=by grind [EE]
theorem Dl {listed:Array Bool} {i:Nat}:i∈Region.ready .any ops listed↔listed.getD i true=false/\∃o,ops[i]?=some o/\∀e∈EE o,listed.getD e false=true:=by
 rw[mem_ready];grind [EE,A28]
structure Yu (ops:Array Oper) (k:Nat) (anc:List (List Nat)):Prop where
 lt:∀i o,ops[i]?=some o->∀e∈EE o,e<i
 cl:∀i o,ops[i]?=some o->∀j∈anc.getD i [],j∈EE o\/∃e∈EE o,j∈anc.getD e []
 front:∀i o,ops[i]?=some o->i<k->(∃d,o.dst=some d)/\(∀t∈NE ops.toList o,∀j,j<k->Aj ops.toList j=some t->j∈anc.getD i [])/\∀j,j<i->Aj ops.toList j≠o.dst
 back:∀i o,ops[i]?=some o->k<=i->∀j,j<i->j∈anc.getD i []
 k:k<=ops.size
theorem AAy (h:lZ ops.toList k anc=true):Yu ops k anc:=by
 simp only[lZ,AT,If,Ri,Ff]at h;obtain⟨hk,h⟩:=h;have hi:∀i o,ops[i]?=some o->opB ops.toList k anc i o=true:=by grind
 refine⟨λi o a e l=>?_,λi o a j b=>?_,λi o a c=>?_,λi o a c j b=>?_,by simpa using hk⟩
 ·grind [opB]
 ·grind [opB,Al]
 ·have:=hi i o a;simp only[opB,c,AAv,AT,If,Ri,S8,Al,AEN]at this;obtain⟨_,⟨h1,f⟩,d⟩:=this;refine⟨AEa.1 h1,λt m j b g=>?_,d⟩;grind
 ·have:=hi i o a;simp only[opB,show ¬i<k by omega,AE3,AT,If,Ri,Al]at this;exact this.2 j b
theorem Vq (a:Yu ops k anc) {listed:Array Bool} (g:∀i o,ops[i]?=some o->listed.getD i true=true->∀e∈EE o,listed.getD e false=true) :
  ∀i o,ops[i]?=some o->(∀e∈EE o,listed.getD e false=true)->∀j∈anc.getD i [],listed.getD j false=true:=by
 intro i;induction i using Nat.strongRecOn with
 | _ i m =>
  intro o b c j f;rcases a.cl i o b j f with h1|⟨e,d,h⟩
  ·exact c j h1
  ·have l:=a.lt i o b e d;grind
theorem Yv {l:List Oper} {p:Nat} {o:Oper} {r:List Oper} (h:l.drop p=o :: r):l[p]?=some o/\r=l.drop (p+1):=by
 constructor
 ·have:(l.drop p)[0]?=some o:=by rw[h];rfl
  grind
 ·rw[<-AEJ,h];rfl
theorem QE {F:Fence} {P:Program} (f:Yu ops k anc):∀ {rest:List Oper} {p:Nat} {listed:Array Bool} {a:Act} {w:World},ops.toList.drop p=rest->k<=p->p<=ops.size->listed.size=ops.size ->
  (∀i,i<ops.size->(listed.getD i true=true↔i<p))->wpListIn F 0 P ops Q rest a w->wpAnyIn F 0 P .any ops Q rest.length listed a w
 | [],p,listed,a,w,m,J,L,q,d,c=>by
  have hp:p=ops.size:=by
   have:=ADB List.length m;simp at this;omega
  refine⟨?_,c⟩;apply AEZ.2;grind [Dl]
 | o :: r,p,listed,a,w,m,J,L,q,d,c=>by
  obtain⟨g,C⟩:=Yv m;have g:ops[p]?=some o:=by simpa using g
  have t:p<ops.size:=(S9.1 g).1;have x:∀e b,e<ops.size->listed.getD e b=listed.getD e true:=λe b h=>by grind
  have G:∀i o,ops[i]?=some o->listed.getD i true=true->∀e∈EE o,listed.getD e false=true:=by
   intro i o B h1 e h;have u:i<ops.size:=(S9.1 B).1;have y:=(d i u).1 h1;have l:=f.lt i o B e h;grind
  have M:∀i,i∈Region.ready .any ops listed->i=p:=by
   intro i hi;rw[Dl]at hi;obtain⟨h1,D,s,y⟩:=hi;have u:i<ops.size:=(S9.1 s).1;have O:¬i<p:=λK=>by rw[(d i u).2 K]at h1;cases h1
   by_cases n:i=p
   ·exact n
   ·have l:=Vq f G i D s y p (f.back i D s (by omega) p (by omega));rw[x p false t]at l;have:=(d p t).1 l;omega
  refine⟨λR=>?_,λi hi=>?_⟩
  ·exfalso;have:p∈Region.ready .any ops listed:=by
    rw[Dl];refine⟨?_,o,g,λe h=>?_⟩
    ·cases hh:listed.getD p true with
     | false=>rfl
     | true=>have:=(d p t).1 hh;omega
    ·have:=f.lt p o g e h;rw[x e false (by omega)];exact(d e (by omega)).2 this
   grind
  ·have n:=M i hi;subst n;have A:∀(j:Nat),j<ops.size->((listed.setIfInBounds i true).getD j true=true↔j<i+1):=by
    intro j H;have I:j<listed.size:=by omega
    by_cases z:j=i
    ·subst z;simp[Array.getD,I]
    ·have h1:(listed.setIfInBounds i true).getD j true=listed.getD j true:=getD_set_ne true (λe=>z e.symm);rw[h1,d j H];omega
   unfold wpOpIn;rw[g];simp only;unfold wpListIn at c;split
   ·rename_i v;rw[BY v]at c;exact Oper.wpIn_mono (λN w' E=>QE f C.symm (by omega) (by omega) (by simpa using q) A E) c
   ·rename_i v;rw[An v]at c;exact⟨c.1,QE f C.symm (by omega) (by omega) (by simpa using q) A c.2⟩
end
end
section
open Go Go.RowKit
theorem EJ:∀(k:Nat) (l:List Nat),l.Nodup->(∀j∈l,j<k)->l.length<=k
 | 0,l,_,h=>by
  cases l with
  | nil=>simp
  | cons x r=>have:=h x (by simp);omega
 | k+1,l,hn,h=>by
  by_cases hk:k∈l
  ·have:=EJ k (l.erase k) (hn.erase k) (λj a=>by
    have h1:=(hn.mem_erase_iff).1 a;have:=h j h1.2;have:=h1.1;omega)
   grind
  ·have:=EJ k l hn (λj a=>by
    have:=h j a;have:j≠k:=λe=>hk (e▸a);omega)
   omega
theorem qB:∀(k:Nat) (l:List Nat),(∀j,j<k->j∈l)->k<=l.length
 | 0,l,_=>by simp
 | k+1,l,h=>by
  have hk:=h k (by omega);have:=qB k (l.erase k) (λj a=>(AF6 (by omega)).2 (h j (by omega)));grind
theorem Vr {c:Cx} {σ σ':St} {a:Act} {w:World} (j:∀s,lk s σ'.env=lk s σ.env) (f:∀n,lk n σ'.objs=lk n σ.objs) (h:c.sat σ a w):c.sat σ' a w:=by
 obtain⟨ρ,h⟩:=h;have d:HF σ'=HF σ:=by
  funext n;simp only[HF,f]
 have g:∀w,vw w c.O0 σ' ρ=vw w c.O0 σ ρ:=by
  intro w;have l:own c.O0 σ' ρ=own c.O0 σ ρ:=by
   funext b;simp only[own,d]
  simp only[vw,d,l]
 refine⟨ρ,h.frm,h.nt,h.defers,λp hp=>by rw[d];exact h.pin p hp,?_,?_,?_,?_⟩
 ·intro n o hn;rw[g];exact h.objs n o (by rw[<-f];exact hn)
 ·intro n b k i;exact h.free n b (by rw[<-d];exact k) i
 ·intro n m b h1 e;rw[d]at h1 e;exact h.dist n m b h1 e
 ·intro s v hs;rw[g];exact h.env s v (by rw[<-j];exact hs)
theorem f2 {c:Cx} {σ:St} {a:Act} {w:World} (h:c.sat σ a w):c.sat σ a { w with drawn:=w.drawn+1 }:=by
 obtain⟨ρ,h⟩:=h;have hk:Cr (vw w c.O0 σ ρ) (vw { w with drawn:=w.drawn+1 } c.O0 σ ρ):=⟨λ_ _ h=>h,λ_ h=>h,λ_ _=>rfl,λ_ _ _=>rfl⟩;exact⟨ρ,⟨h.frm.os,h.frm.tape,h.frm.output,h.frm.size,h.frm.block⟩,h.nt,h.defers,h.pin,λn o b=>(h.objs n o b).keeps hk λ_ _=>rfl,h.free,h.dist,λs v hs=>(h.env s v hs).keeps hk⟩
theorem Uo {c:Cx} {σ σ':St} {a:Act} {w:World} (d:∀s v,lk s σ'.env=some v->lk s σ.env=some v) (e:∀n,lk n σ'.objs=lk n σ.objs) (h:c.sat σ a w):c.sat σ' a w:=by
 have b:c.sat ⟨σ.env,σ'.objs⟩ a w:=Vr (σ:=σ) (λ_=>rfl) e h;obtain⟨ρ,h⟩:=b;exact⟨ρ,h.frm,h.nt,h.defers,h.pin,h.objs,h.free,h.dist,λs v hs=>h.env s v (d s v hs)⟩
theorem MA {c:Cx} {ops:Array Oper} {σ:St} {a:Act} {w:World} (hs:c.sat σ a w) {o:Oper} {b:Bool} (h:Ko ops.toList σ b o.guard):Region.wanted o (yielded ops a.tmps)=b:=by
 cases d:o.guard with
 | none =>
  rw[d]at h;simp only[Ko]at h;simp[Region.wanted,d,h]
 | some g =>
  obtain⟨j,n⟩:=g;rw[d]at h;simp only[Ko]at h;obtain⟨s,k,h⟩:=h;rcases h with ⟨x,e,rfl⟩|⟨e,rfl⟩
  ·refine HY hs ?_;grind [Ey,Aj,Ke,R1]
  ·obtain⟨ρ,hs⟩:=hs;have i:a.tmps.getD s undef=undef:=hs.env s _ e;have l:(ops[j]?).bind (·.dst)=some s:=by simpa[Aj] using k
   have m:yielded ops a.tmps j=none:=by
    simp only[yielded,l,Option.bind_some];by_cases f:s<a.tmps.size
    ·have:a.tmps.getD s undef=a.tmps[s]:=by simp[Array.getD,f]
     rw[this]at i;rw[nO f,i];rfl
    ·grind
   simp[Region.wanted,d,m]
section
variable {c:Cx} {ops:Array Oper} {k:Nat} {q:Bool} {anc:List (List Nat)} {σ0 σ':St} {en:Nat->En} {Q:Exit->Act->World->Prop}
theorem A9h (hF:∀j o,j<k->ops[j]?=some o->Vo c.tb ops.toList q σ0 en j o) (hk:k<=ops.size):Sep σ0 en k:=by
 have one:∀j,j<k->∀n o,lk n (en j).obs=some o->lk n (Ar ops.toList en σ0 (Ah j)).objs=none:=by
  intro j a n o hn;have m:ops[j]?=some (ops[j]'(by omega)):=nO (by omega);have h1:=hF j _ a m;cases g:(en j).b with
  | true =>
   obtain⟨_,_,_,hf⟩:=h1.t g;exact OQ hf hn
  | false =>
   rw[(h1.f g).2]at hn;simp[lk]at hn
 have low:∀i j,i<j->j<k->∀n o d,lk n (en i).obs=some o->lk n (en j).obs=some d->False:=by
  intro i j l a n o d h1 e;have:=one j a n d e;rw[Fk,BB]at this;cases h:lk n ((Ah j).flatMap λj=>(en j).obs) with
  | some x=>rw[h]at this;simp at this
  | none =>
   have:=Kq h i (BL.2 l);rw[this]at h1;cases h1
 refine⟨λj a n o hn=>?_,λi j hi a n o d h1 e=>?_⟩
 ·grind [Fk,BB,lk,Ah]
 ·grind
theorem A29 (b:Yu ops k anc) {l:List Nat} (e:∀j∈l,j<k) {s j:Nat} (d:j∈l) (f:Aj ops.toList j=some s):l.find? (λj=>Aj ops.toList j==some s)=some j:=by
 have hu:∀i,i∈l->Aj ops.toList i=some s->i=j:=by
  intro i hi g;have h1:=e i hi;have a:=e j d;have m:=b.k;have get:∀x,x<k->Aj ops.toList x=(ops[x]?).bind (·.dst):=λx _=>by simp[Aj]
  rcases AET i j with h|h|h
  ·have c:ops[j]?=some (ops[j]'(by omega)):=nO (by omega);have:=(b.front j _ c a).2.2 i h;grind
  ·exact h
  ·have c:ops[i]?=some (ops[i]'(by omega)):=nO (by omega);have:=(b.front i _ c h1).2.2 j h;grind
 cases hf:l.find? (λj=>Aj ops.toList j==some s) with
 | none =>
  have:=AFi.1 hf j d;simp[f]at this
 | some i =>
  have h1:=AEI hf;have a:=AFz hf;rw[hu i h1 (by simpa using a)]
theorem Vs (a:Yu ops k anc) {l l':List Nat} (b:∀j∈l,j<k) (c:∀j∈l',j<k) {s:Nat} (h:∀j,j<k->Aj ops.toList j=some s->j∈l/\j∈l') :
  lk s (Ar ops.toList en σ0 l).env=lk s (Ar ops.toList en σ0 l').env:=by
 rw[Fl,Fl];by_cases d:∃j,j<k/\Aj ops.toList j=some s
 ·grind [A29]
 ·grind
theorem zK (Z:c.Ok) (A:Yu ops k anc) (bj:∀o∈ops.toList,Jr c.nt o=true) (hF:∀j o,j<k->ops[j]?=some o->Vo c.tb ops.toList false σ0 en j o)
  {σ2:St} (an:∀s v,lk s σ2.env=some v->lk s (Ar ops.toList en σ0 (Ah k)).env=some v) (ao:σ2.objs=(Ar ops.toList en σ0 (Ah k)).objs) (hT:∀I w',c.sat σ2 I w'->wpListIn (FR c.r) 0 c.P ops Q (ops.toList.drop k) I w') :
  ∀(m:Nat) (ex:List Nat) (listed:Array Bool) (a:Act) (w:World),ex.Nodup->(∀j∈ex,j<k)->m+ex.length=ops.size->listed.size=ops.size->(∀i,i<ops.size->(listed.getD i true=true↔i∈ex)) ->
   (∀i o,ops[i]?=some o->i∈ex->∀e∈EE o,e∈ex)->c.sat (Ar ops.toList en σ0 ex) a w->wpAnyIn (FR c.r) 0 c.P .any ops Q m listed a w:=by
 have al:=A.k;have H:=A9h hF al;intro m;induction m with
 | zero =>
  intro ex listed a w N z bo Y J ap hs;have h1:=EJ k ex N z;have bn:k=ops.size:=by omega
  by_cases D:∀j,j<k->j∈ex
  ·have ar:ops.toList.drop k=[]:=by simp[bn]
   have S:c.sat σ2 a w:=Uo an (λ_=>by rw[ao]) <| Vr
    (λs=>(Vs A z (λj y=>BL.1 y) λj y _=>⟨D j y,BL.2 y⟩).symm)
    (λn=>AFn λo=>by
     rw[E0 H (λj y=>BL.1 y),E0 H z];simp only[BL];constructor
     ·grind
     ·rintro (⟨j,y,h⟩|⟨h1,U⟩)
      ·grind
      ·exact .inr ⟨λj y=>h1 j (D j y),U⟩) hs
   have:=QE (Q:=Q) (F:=FR c.r) (P:=c.P) A (rest:=[]) (p:=k) (listed:=listed) (a:=a) (w:=w) ar (NO _) al Y (λi hi=>by
    rw[J i hi];exact⟨z i,D i⟩) (by rw[<-ar];exact hT a w S)
   exact this
  ·exfalso;apply D;intro j y;apply Do;intro az;have:=EJ k (j :: ex) (TO.2 ⟨az,N⟩) (λi hi=>by
    rcases DO.1 hi with rfl|hi
    ·exact y
    ·exact z i hi)
   simp at this;omega
 | succ m cb =>
  intro ex listed a w N z bo Y J ap hs;have bf:∀e b,e<ops.size->listed.getD e b=listed.getD e true:=λe b C=>by grind
  by_cases D:∀j,j<k->j∈ex
  ·have ck:ex.length=k:=AEi (EJ k ex N z) (qB k ex D);have S:c.sat σ2 a w:=Uo an (λ_=>by rw[ao]) <| Vr
    (λs=>(Vs A z (λj y=>BL.1 y) λj y _=>⟨D j y,BL.2 y⟩).symm)
    (λn=>AFn λo=>by
     rw[E0 H (λj y=>BL.1 y),E0 H z];simp only[BL];constructor
     ·grind
     ·rintro (⟨j,y,h⟩|⟨h1,U⟩)
      ·grind
      ·exact .inr ⟨λj y=>h1 j (D j y),U⟩) hs
   have:=QE (Q:=Q) (F:=FR c.r) (P:=c.P) A (rest:=ops.toList.drop k) (p:=k) (listed:=listed) (a:=a) (w:=w) rfl (NO _) al Y (λi hi=>by
    rw[J i hi];exact⟨z i,D i⟩) (hT a w S)
   grind
  ·refine⟨λbq=>?_,λi hi=>?_⟩
   ·exfalso;apply D;intro j;induction j using Nat.strongRecOn with
    | _ j cd =>
     intro y;apply Do;intro az;have R:ops[j]?=some (ops[j]'(by omega)):=nO (by omega);have:j∈Region.ready .any ops listed:=by
      rw[Dl];refine⟨?_,_,R,λe C=>?_⟩
      ·grind
      ·have ab:=A.lt j _ R e C;rw[bf e false (by omega)];exact(J e (by omega)).2 (cd e ab (by omega))
     rw[bq]at this;cases this
   ·rw[Dl]at hi;obtain⟨h1,o,B,U⟩:=hi;have bd:i<ops.size:=(S9.1 B).1;have ba:i∉ex:=λh=>by rw[(J i bd).2 h]at h1;cases h1
    have bi:∀e∈EE o,e∈ex:=λe C=>by grind
    have ae:∀j∈anc.getD i [],j∈ex:=by grind [EE,Vq]
    have M:i<k:=by
     apply Do;intro cj;exact D λj y=>ae j (A.back i o B (by omega) j (by omega))
    have ah:=A.front i o B M;obtain⟨d,ci⟩:=ah.1;have bh:Aj ops.toList i=o.dst:=by simp[Aj,B]
    have bb:∀t∈NE ops.toList o,lk t (Ar ops.toList en σ0 ex).env=lk t (Ar ops.toList en σ0 (Ah i)).env:=by
     intro t bx;refine Vs A z (λj y=>by have:=BL.1 y;omega) λj y af=>?_;have ax:=ah.2.1 t bx j y af;refine⟨ae j ax,BL.2 ?_⟩;have:∀i o,ops[i]?=some o->∀j∈anc.getD i [],j<i:=by
      intro i;induction i using Nat.strongRecOn with
      | _ i cc =>
       intro o B j y;rcases A.cl i o B j y with ad|⟨e,C,bl⟩
       ·exact A.lt i o B j ad
       ·have bg:=A.lt i o B e C;have bd:i<ops.size:=(S9.1 B).1;have:=cc e bg _ (nO (by omega)) j bl;omega
     exact this i o B j ax
    have bs:Ops ⟨(Ar ops.toList en σ0 (Ah i)).env,B4 false (HI o.op) σ0.objs (ES ops.toList en (Ah i))⟩ (Ar ops.toList en σ0 ex) o.op.operands.toList:=by
     intro x ca v T;cases x with
     | tmp t =>
      simp only[Am]at T ⊢;rw[bb t (by
       simp only[NE,No,AFh];exact .inl ⟨_,ca,rfl⟩)]
      exact T
     | const cm=>exact T
     | global g=>exact T
     | func f=>exact T
    have br:eL ⟨(Ar ops.toList en σ0 (Ah i)).env,B4 false (HI o.op) σ0.objs (ES ops.toList en (Ah i))⟩ (Ar ops.toList en σ0 ex):=by
     intro n G hn;refine A27 H (λj y=>by have:=BL.1 y;omega) z (λj y ak=>?_) hn;have X:=BL.1 y;have R:ops[j]?=some (ops[j]'(by omega)):=nO (by omega);obtain⟨am,af⟩:=(A.front j _ R (by omega)).1;have aq:Aj ops.toList j=some am:=by simp[Aj,R,af]
     rw[aq]at ak;simp only[AFt,AF2,Al]at ak;refine ae j (ah.2.1 am ?_ j (by omega) aq);simp only[NE,No];exact .inl ak
    have ag:=hF i o M B;have E:Ko ops.toList (Ar ops.toList en σ0 ex) (en i).b o.guard:=by
     have E:=ag.g;cases ai:o.guard with
     | none=>rw[ai]at E;exact E
     | some g =>
      obtain⟨j,co⟩:=g;rw[ai]at E;simp only[Ko]at E ⊢;obtain⟨s,av,E⟩:=E;refine⟨s,av,?_⟩;rw[bb s (by
       simp only[NE,ai,No,av];exact .inr (by simp))]
      exact E
    have aa:=MA hs E;have bp:o∈ops.toList:=by grind
    have au:=CL (bj o bp);have bc:∀I w',c.sat ((Ar ops.toList en σ0 ex).add (en i).v (en i).obs o.dst) I w'->wpAnyIn (FR c.r) 0 c.P .any ops Q m (listed.setIfInBounds i true) I w':=by
     intro I w' S;refine cb (i :: ex) _ I w' (TO.2 ⟨ba,N⟩) (λj y=>?_) (by simp;omega) (by simpa using Y) (λj y=>?_) (λi' G L aj e C=>?_) (by simp only[Ar,bh];exact S)
     ·rcases DO.1 y with rfl|y
      ·exact M
      ·exact z j y
     ·have bm:j<listed.size:=by omega
      by_cases X:j=i
      ·subst X;simp[Array.getD,bm]
      ·have ab:(listed.setIfInBounds i true).getD j true=listed.getD j true:=getD_set_ne true (λe=>X e.symm);rw[ab,J j y];simp[X]
     ·rcases DO.1 aj with rfl|aj
      ·rw[B]at L;cases L;exact OF _ (bi e C)
      ·exact OF _ (ap i' G L aj e C)
    unfold wpOpIn;rw[B];simp only;cases V:(en i).b with
    | true =>
     rw[V]at aa;rw[BY aa];obtain⟨cn,bt,bz,bk⟩:=ag.t V;obtain⟨ρ,be⟩:=hs;have bu:=Un br bs bt;have aw:Bi (en i).obs (Ar ops.toList en σ0 ex)=true:=by
      simp only[Bi,If]at bk ⊢;intro p hp;have bw:∃G,lk p.1 (en i).obs=some G:=by
       have:∀(l:List (Nat×Obj)),p∈l->∃G,lk p.1 l=some G:=by
        intro l;induction l with
        | nil=>intro h;cases h
        | cons q r ce =>
         intro h;obtain⟨cg,ch⟩:=q;simp only[lk];by_cases C:p.1=cg
         ·exact⟨ch,by rw[BY C]⟩
         ·rw[An C];rcases DO.1 h with rfl|h
          ·exact absurd rfl C
          ·exact ce h
       exact this _ hp
      obtain⟨G,L⟩:=bw;have:lk p.1 (Ar ops.toList en σ0 ex).objs=none:=by
       cases ay:lk p.1 (Ar ops.toList en σ0 ex).objs with
       | none=>rfl
       | some cf =>
        rw[E0 H z]at ay;rcases ay with ⟨j,y,W⟩|⟨_,W⟩
        ·have:=H.2 i j M (z j y) p.1 G cf L W;subst this;exact absurd y ba
        ·rw[H.1 i M p.1 G L]at W;cases W
      simp[this]
     exact pW (A5w Z be) bu bz aw λu ρ' w' bv=>bc _ _ ⟨ρ',be.add Z.K Z.O au aw bv⟩
    | false =>
     rw[V]at aa;rw[An (by simp[aa])];refine⟨λ_ _=>trivial,?_⟩;have:=ag.f V;have ad:=M6 Z hs au;refine bc _ _ ?_;rw[this.1,this.2];exact ad
end
theorem zL {c:Cx} {ops:Array Oper} {k:Nat} {σ0:St} {en:Nat->En} {Q:Exit->Act->World->Prop} (h:c.Ok) (I:∀o∈ops.toList,Jr c.nt o=true) (hF:∀j o,j<k->ops[j]?=some o->Vo c.tb ops.toList true σ0 en j o) (hk:k<=ops.size)
  {σ2:St} (E:∀s v,lk s σ2.env=some v->lk s (Ar ops.toList en σ0 (Ah k)).env=some v) (F:σ2.objs=(Ar ops.toList en σ0 (Ah k)).objs) (hT:∀d w',c.sat σ2 d w'->wpListIn (FR c.r) 0 c.P ops Q (ops.toList.drop k) d w'):∀(m i:Nat) (a:Act) (w:World),m+i=k->c.sat (Ar ops.toList en σ0 (Ah i)) a w->wpListIn (FR c.r) 0 c.P ops Q (ops.toList.drop i) a w:=by
 intro m;induction m with
 | zero =>
  intro i a w hi hs;have:i=k:=by omega
  subst this;exact hT _ _ (Uo E (λ_=>by rw[F]) hs)
 | succ m U =>
  intro i a w hi hs;have q:ops[i]?=some (ops[i]'(by omega)):=nO (by omega);generalize ops[i]'(by omega)=o at q;have H:ops.toList.drop i=o :: ops.toList.drop (i+1):=by
   have:i<ops.toList.length:=by simp;omega
   rw[On this];grind
  rw[H];have p:=hF i o (by omega) q;have n:=MA hs p.g;have J:o∈ops.toList:=by grind
  have y:=CL (I o J);have T:Aj ops.toList i=o.dst:=by simp[Aj,q]
  have B:∀d w',c.sat ((Ar ops.toList en σ0 (Ah i)).add (en i).v (en i).obs o.dst) d w'->wpListIn (FR c.r) 0 c.P ops Q (ops.toList.drop (i+1)) d w':=by grind [Ah,Ar]
  unfold wpListIn;cases e:(en i).b with
  | true =>
   rw[e]at n;rw[BY n];obtain⟨S,A,R,z⟩:=p.t e;obtain⟨ρ,C⟩:=hs;have L:∀l:List Nat,B4 true (HI o.op) σ0.objs (ES ops.toList en l)=(Ar ops.toList en σ0 l).objs:=by
    intro l;rw[Fk];induction l with
    | nil=>rfl
    | cons x r D=>simp only[ES,Rp,B4,Bool.true_or,AAv,AEG,Rl]at D ⊢;rw[D]
   have M:aq c.tb (Ar ops.toList en σ0 (Ah i)) (o.dst.getD 0) o.op=some (S,(en i).v,(en i).obs):=by
    rw[L]at A;exact A
   exact pW (A5w h C) M R z λu ρ' w' N=>B _ _ ⟨ρ',C.add h.K h.O y z N⟩
  | false =>
   rw[e]at n;rw[An (by simp[n])];refine⟨λ_ _=>trivial,?_⟩;have:=p.f e;have G:=M6 h hs y;refine B _ _ ?_;rw[this.1,this.2];exact G
theorem NF {tb:Tb} {ops:List Oper} {q:Bool} {base:List (Nat×Obj)} {rest:List Oper}:∀ {fr:List Oper} {i:Nat} {E:List (Nat×List (Nat×Obj))} {G:Gs} {σ σ':St} {vc:Prop},Lk tb ops q base rest fr i E G σ=some (vc,σ')->vc ->
  ∃(e f:Prop) (j:St),Lk tb ops q base [] fr i E G σ=some (e,j)/\e/\Bu tb ops rest j=some (f,σ')/\f
 | [],i,E,G,σ,σ',vc,h,k=>by grind [Lk,Bu]
 | o :: r,i,E,G,σ,σ',vc,h,k=>by
  simp only[Lk]at h;cases l:H0 ops G σ.env i o.guard with
  | none=>rw[l]at h;simp[evMG]at h
  | some p =>
   obtain⟨c,T⟩:=p;rw[l]at h;simp only[evMG]at h;cases m:opM tb ops q base c G E σ.env o (H5 o.op) with
   | none=>rw[m]at h;cases c<;>simp[evMQ]at h
   | some x =>
    obtain⟨u,v,obs⟩:=x;rw[m]at h;cases c with
    | nil =>
     cases a:o.dst with
     | none=>rw[a]at h;simp[evMQ]at h
     | some d =>
      rw[a]at h;simp only[evMQ]at h;split at h
      ·rename_i hf;cases b:Lk tb ops q base rest r (i+1) (Ju d obs E) G (σ.add v obs (some d)) with
       | none=>rw[b]at h;simp[YM]at h
       | some y =>
        obtain⟨w,σ2⟩:=y;rw[b]at h;simp only[YM]at h;cases h;obtain⟨e,f,j,h1,n,s,t⟩:=NF b k.2;exact⟨u/\e,f,j,by simp only[Lk,l,evMG,m,a,evMQ,h1,YM];rw[BY hf],⟨k.1,n⟩,s,t⟩
      ·cases h
    | cons g c =>
     cases obs with
     | cons z A=>cases a:o.dst<;>rw[a]at h<;>simp[evMQ]at h
     | nil =>
      cases a:o.dst with
      | none=>rw[a]at h;simp[evMQ]at h
      | some d =>
       rw[a]at h;simp only[evMQ]at h;split at h
       ·rename_i hf;cases b:Lk tb ops q base rest r (i+1) E ((d,g :: c,T,v) :: G) σ with
        | none=>rw[b]at h;simp[YM]at h
        | some y =>
         obtain⟨w,σ2⟩:=y;rw[b]at h;simp only[YM]at h;cases h;obtain⟨e,f,j,h1,n,s,t⟩:=NF b k.2;exact⟨(T=true->u)/\e,f,j,by simp only[Lk,l,evMG,m,a,evMQ,h1,YM];rw[BY hf],⟨k.1,n⟩,s,t⟩
       ·cases h
theorem AAz {ops:List Oper} {q:Bool} {σ0:St} {en:Nat->En}:Inv ops q σ0 en 0 [] [] σ0 :=
 { env:=λ_ _ h=>h,G:=λs c T v h=>absurd h (by simp),f:=λj a=>absurd a (by omega),objs:=rfl,E:=λ_=>rfl }
section
variable {c:Cx} {R:Exit->Act->World->Prop} {k:List DW} {σ σ':St}
def Jx (c:Cx) (R:Exit->Act->World->Prop) (k:List DW) (ops:Array Oper) (l:List Oper) (σ:St):Prop :=
 (∀o∈l,Jr c.nt o=true)->Cy c.nt k=true->∀a w,c.sat σ a w->wpListIn (FR c.r) 0 c.P ops (Vj c R k) l a w
theorem A5A {ops:Array Oper} (h:Ev c R (.out .normal) k σ):Jx c R k ops [] σ:=λ_ b a w hs=>h rfl b a w hs
theorem QF (f:c.Ok) {ops:Array Oper} {l:List Oper} (n:Nat) {vc:Prop} (h:Bu c.tb ops.toList (l.take n) σ=some (vc,σ')) (i:vc) (hk:Jx c R k ops (l.drop n) σ'):Jx c R k ops l σ:=by
 intro h1 e a w hs;have:=R8 (r:=l.drop n) f (l.take n) hs (λo b=>h1 o (gO b)) h i (λd w' g=>hk (λo b=>h1 o (AEb b)) e d w' g)
 rwa [AE6]at this
theorem f3 (z:c.P.follows .mixedOrders=true) (u:c.Ok) {id:Nat} {l:List Oper} (n:Nat) (d:LT l (l.take n).length=true) {vc:Prop}
  (h:Lk c.tb l false σ.objs [] (l.take n) 0 [] [] σ=some (vc,σ')) (C:vc) (hk:Jx c R k l.toArray (l.drop n) σ') :
  Ev c R (.run (.region id l.toArray true)) k σ:=by
 intro h1 r a w hs;simp only[Ht,Bt,If]at h1;have d:=AAy (ops:=l.toArray) (k:=(l.take n).length) (anc:=A25 l) (by simpa only[LT] using d);have hu:l4 l (l.take n).length:=by
  intro x y D g;have m:y<l.length:=by simp at g;omega
  have A:l.toArray[y]?=some l[y]:=by simp[m]
  have:=(d.front y _ A g).2.2 x D;simpa[Aj,m] using this
 obtain⟨en,_,hF,F,σ2,f,E,s,t⟩:=SD (ops:=l) (q:=false) (σ0:=σ) (en:=λ_=>⟨false,.top,[]⟩) hu h C AAz (by simp) (λj b=>by
  have b:j<(l.take n).length:=b;rw[ADG,Rs];simp only[OR]at b;rw[BY (by omega)])
 refine wpIn_region_any z ?_;have v:l.drop (l.take n).length=l.drop n:=by simp_all
 simp only[Bu]at f;cases f;have:=zK (c:=c) (ops:=l.toArray) (k:=(l.take n).length) (σ0:=σ) (en:=en) (Q:=Vj c R k) u d (by simpa using h1)
  (λj o b e=>hF j o (by omega) b (by simpa using e)) (σ2:=σ') s t (λp w' B=>by
   rw[show (l.toArray.toList.drop _)=l.drop n from v];exact hk (λo e=>h1 o (by simpa using AEb e)) r p w' B)
  l.toArray.size [] (Array.replicate l.toArray.size false) a { w with drawn:=w.drawn+1 } (by simp) (by simp) (by simp) (by simp) (λi hi=>by simp at hi;simp[Array.getD,hi]) (λi o _ hi=>by simp at hi) (f2 hs)
 exact this
theorem l7 (r:c.Ok) {id:Nat} {l:List Oper} (n:Nat) (f:zI l (l.take n).length=true) {vc:Prop}
  (h:Lk c.tb l true σ.objs [] (l.take n) 0 [] [] σ=some (vc,σ')) (u:vc) (hk:Jx c R k l.toArray (l.drop n) σ') :
  Ev c R (.run (.region id l.toArray false)) k σ:=by
 intro h1 i a w hs;simp only[Ht,Bt,If]at h1;simp only[zI,AT,If,Ri,Ff]at f;have hu:l4 l (l.take n).length:=by
  intro x y z A;grind [Aj]
 obtain⟨en,_,hF,B,σ2,e,v,m,p⟩:=SD (ops:=l) (q:=true) (σ0:=σ) (en:=λ_=>⟨false,.top,[]⟩) hu h u AAz (by simp) (λj b=>by
  have b:j<(l.take n).length:=b;rw[ADG,Rs];simp only[OR]at b;rw[BY (by omega)])
 have s:l.drop (l.take n).length=l.drop n:=by simp_all
 refine AEL ?_;simp only[Bu]at e;cases e;have:=zL (c:=c) (ops:=l.toArray) (k:=(l.take n).length) (σ0:=σ) (en:=en) (Q:=Vj c R k) r (by simpa using h1)
  (λj o b d=>hF j o (by omega) b (by simpa using d)) (by simpa using f.1) (σ2:=σ') m p (λg w' t=>by
   rw[show (l.toArray.toList.drop _)=l.drop n from s];exact hk (λo d=>h1 o (by simpa using AEb d)) i g w' t)
  (l.take n).length 0 a w (by simp) hs
 exact this
theorem bO (e:c.Ok) {ops:Array Oper} {l:List Oper} {vc:Prop} (h:Bu c.tb ops.toList l σ=some (vc,σ')) (g:vc) (hk:Ev c R (.out .normal) k σ'):Jx c R k ops l σ:=by
 intro h1 d a w hs;exact Px e l hs h1 h g (λb w' f=>hk rfl d b w' f)
theorem f4 (e:c.P.follows .mixedOrders=true) (a:c.Ok) {id:Nat} {l:List Oper} (n:Nat) (d:LT l (l.take n).length=true) {vc:Prop}
  (h:Lk c.tb l false σ.objs (l.drop n) (l.take n) 0 [] [] σ=some (vc,σ')) (f:vc) (hk:Ev c R (.out .normal) k σ') :
  Ev c R (.run (.region id l.toArray true)) k σ:=by
 obtain⟨j,m,o,h1,g,b,i⟩:=NF h f;exact f3 e a n d h1 g (bO a b i hk)
theorem l8 (a:c.Ok) {id:Nat} {l:List Oper} (n:Nat) (d:zI l (l.take n).length=true) {vc:Prop}
  (h:Lk c.tb l true σ.objs (l.drop n) (l.take n) 0 [] [] σ=some (vc,σ')) (e:vc) (hk:Ev c R (.out .normal) k σ') :
  Ev c R (.run (.region id l.toArray false)) k σ:=by
 obtain⟨i,j,m,h1,f,b,g⟩:=NF h e;exact l7 a n d h1 f (bO a b g hk)
theorem A2a (d:c.P.follows .mixedOrders=true) (a:c.Ok) {id:Nat} {l:List Oper} (b:LT l l.length=true) {vc:Prop}
  (h:Lk c.tb l false σ.objs [] l 0 [] [] σ=some (vc,σ')) (e:vc) (hk:Ev c R (.out .normal) k σ') :
  Ev c R (.run (.region id l.toArray true)) k σ :=
 f4 d a l.length (by rw[Re];exact b) (by rw[Re,AF5];exact h) e hk
theorem A2b (m:Nat) (d:c.P.follows .mixedOrders=true) (a:c.Ok) {id:Nat} {l:List Oper} (b:LT l (l.take (l.length-m)).length=true) {vc:Prop}
  (h:Lk c.tb l false σ.objs (l.drop (l.length-m)) (l.take (l.length-m)) 0 [] [] σ=some (vc,σ')) (e:vc) (hk:Ev c R (.out .normal) k σ') :
  Ev c R (.run (.region id l.toArray true)) k σ:=f4 d a _ b h e hk
theorem l9 (a:c.Ok) {id:Nat} {l:List Oper} (b:zI l l.length=true) {vc:Prop}
  (h:Lk c.tb l true σ.objs [] l 0 [] [] σ=some (vc,σ')) (d:vc) (hk:Ev c R (.out .normal) k σ') :
  Ev c R (.run (.region id l.toArray false)) k σ :=
 l8 a l.length (by rw[Re];exact b) (by rw[Re,AF5];exact h) d hk
theorem mA (a:c.Ok) {id:Nat} {l:List Oper} (_:(l.all λo=>o.guard.isNone)=true) {vc:Prop} (h:Bu c.tb l l σ=some (vc,σ')) (b:vc) (hk:Ev c R (.out .normal) k σ') :
  Ev c R (.run (.region id l.toArray false)) k σ:=lW a h b hk
end
end
section
open Go Go.RowKit
theorem qC {c:Cx} {σ b σ':St} (l:List Nat) (h:DC l σ=b) (d:Ent c b σ'):Ent c σ σ':=by
 intro a w hs;obtain⟨ρ,hs⟩:=hs;exact d a w ⟨ρ,by rw[<-h];exact Kk hs⟩
theorem Jy {α:Type} (a b:List α):(a++b).take (a.length+b.length)=a++b:=As (by simp)
theorem QG {α:Type} (a b:List α):sub (a++b) 0 (a.length+b.length)=a++b:=by rw[Hz,Jy]
theorem Hh {α:Type} (a:List α) (x:α):(a++[x]).take (a.length+1)=a++[x]:=As (by simp)
theorem MB {α:Type} (a:List α) (x:α):sub (a++[x]) 0 (a.length+1)=a++[x]:=by rw[Hz,Hh]
theorem A9i {P:Program} {tb:Tb} {w0:World} {O0:Nat->Prop} {nt:Nat} (c:(cx P tb w0 O0 nt).Ok) {fn:Func} {a:List RV} {σ:St} {e:Exit} (b:List ResultVar) (g:fn.results.toList=b) (f:e=.ret\/e=.normal) (hp:∀r∈a,∃t d,r=.p t d) (h:Nu tb σ b a) :
  Ev (cx P tb w0 O0 nt) (Vk P fn w0 O0 a) (.out e) [] σ:=A22 c f hp (by rw[g];exact h)
theorem f6:((0:Nat):Int)=0:=rfl
theorem f7 (k:Nat):((k+1:Nat):Int)=(k:Int)+1:=by omega
theorem AE {α:Type} (l:List α) (d:α) {k:Nat} (h:k<l.length):l.getD k d∈l:=by
 rw[AS,At h];exact oF h
theorem AH {P:Program} {ty:List (Nat×TI)} {b:List Nat} {ne:List (Nat×TypeId)} {a:List Nat}:Iu P ⟨ty,[],b,ne,a⟩:=λf sp h=>by simp[lk]at h
theorem AF {P:Program} {ty:List (Nat×TI)} {c:List Nat} {ne:List (Nat×TypeId)} {b:List Nat} {f:Nat} {sp:Aa} {r:List (Nat×Aa)} (h:Ad P f sp) (d:Iu P ⟨ty,r,c,ne,b⟩):Iu P ⟨ty,(f,sp) :: r,c,ne,b⟩:=λg i a=>by
 simp only[lk]at a;split at a
 ·rename_i e;cases a;rw[e];exact h
 ·exact d g i a
theorem Jz {α:Type} (x:α):[x].take 1=[x]:=rfl
theorem A0 {α:Type} (l:List α) (d:α) {k:Nat} (h:k<l.length):l.take (k+1)=l.take k++[l.getD k d]:=by
 rw[List.take_add_one,AS,At h];rfl
theorem QH {α:Type} (l:List α) (q:Nat):sub l q l.length=l.drop q:=by
 unfold sub;rw[As (by simp)]
end
end Go.Proofs.YtapkhdkbkodbjaaGreat.Fw
