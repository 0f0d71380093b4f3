/- Regions whose order Go leaves open: the rules. -/
import Derived.Test.YtapkhdkbkodbjaaGreatJZE
set_option linter.unusedVariables false
set_option linter.unusedSimpArgs false
namespace Go.Proofs.YtapkhdkbkodbjaaGreat.Fw
section
open Go Go.RowKit
def EI (o:Oper):List Nat:=(o.after.toList.filter (Region.binds .any)).map (·.on)
def Ap (ops:List Oper) (j:Nat):Option Nat:=(ops[j]?).bind (·.dst)
def QA:Operand->Option Nat
 | .tmp t=>some t
 | _=>none
def NK (ops:List Oper) (o:Oper):List Nat:=(o.op.operands.toList.filterMap QA)++(match o.guard with|some (j,_)=>(Ap ops j).toList|none=>[])
def AAs (a b:List Nat):List Nat:=a.foldl (λr x=>if Ac x r then r else x :: r) b
def A1S (ops:List Oper):List (List Nat):=ops.foldl (λ(a:List (List Nat)) o=>a++[(EI o).foldl (λr e=>AAs (a.getD e []) (if Ac e r then r else e :: r)) []]) []
def opB (ops:List Oper) (k:Nat) (anc:List (List Nat)) (i:Nat) (o:Oper):Bool :=
  (EI o).all (λe=>decide (e<i)) &&
  (anc.getD i []).all (λj=>Ac j (EI o)||(EI o).any λe=>Ac j (anc.getD e [])) &&
  (if i<k then o.dst.isSome&&((NK ops o).all λt=>(List.range k).all λj=>Ap ops j != some t||Ac j (anc.getD i []))&&((List.range i).all λj=>Ap ops j != o.dst)
   else (List.range i).all λj=>Ac j (anc.getD i []))
def lX (ops:List Oper) (k:Nat) (anc:List (List Nat)):Bool :=
 decide (k<=ops.length)&&(List.range ops.length).all λi=>match ops[i]? with|some o=>opB ops k anc i o|none=>false
def LY (ops:List Oper) (k:Nat):Bool:=lX ops k (A1S ops)
def y9 (ops:List Oper) (k:Nat):Bool :=
 decide (k<=ops.length)&&(List.range k).all λi=>match ops[i]? with|some o=>o.dst.isSome&&((List.range i).all λj=>Ap ops j != o.dst)|none=>false
def B8 (q:Bool) (ts:List Nat) (base:List (Nat×Obj)):List (Nat×List (Nat×Obj))->List (Nat×Obj)
 | []=>base
 | (s,obs) :: r=>if (q||Ac s ts)=true then obs++B8 q ts base r else B8 q ts base r
def Gx (o:Op):List Nat:=o.operands.toList.filterMap QA
def MF (q:Bool) (o:Op) (base:List (Nat×Obj)):List (Nat×List (Nat×Obj))->List (Nat×Obj)
 | []=>base
 | e :: r=>B8 q (Gx o) base (e :: r)
def Jw (d:Nat) (obs:List (Nat×Obj)) (E:List (Nat×List (Nat×Obj))):List (Nat×List (Nat×Obj)) :=
 match obs with
 | []=>E
 | x :: r=>(d,x :: r) :: E
abbrev Ch:=List (Nat×Bool)
abbrev Gs:=List (Nat×(Ch×Bool×AV))
def Og:Ch->Ch->Bool
 | [],[]=>true
 | (j,w) :: r,(a,w') :: b=>(j==a)&&(w==w')&&Og r b
 | [],_ :: _=>false
 | _ :: _,[]=>false
theorem MG:Og [] []=true:=rfl
theorem QB (x:Nat×Bool) (r:Ch):Og [] (x :: r)=false:=rfl
theorem QC (x:Nat×Bool) (r:Ch):Og (x :: r) []=false:=rfl
theorem Jx (j a:Nat) (w w':Bool) (r b:Ch):Og ((j,w) :: r) ((a,w') :: b)=(decide (j=a)&&(w==w')&&Og r b):=by grind [Og]
def Tn (a:Ch):Ch->Bool
 | []=>Og a []
 | k :: r=>Og a (k :: r)||Tn a r
def Jy (c:Ch):Gs->List (Nat×AV)->List (Nat×AV)
 | [],env=>env
 | (s,a,_,v) :: G,env=>if Tn a c=true then (s,v) :: Jy c G env else Jy c G env
def Kn (j:Nat) (a:Bool):Option (Ch×Bool×AV)->Option AV->Option (Ch×Bool)
 | some (c,T,.p .bool b),_=>some ((j,a) :: c,T&&(b==a))
 | none,some (.p .bool b)=>some ([(j,a)],b==a)
 | _,_=>none
def I0 (G:Gs) (env:List (Nat×AV)) (j:Nat) (a:Bool):Option Nat->Option (Ch×Bool)
 | some s=>Kn j a (lk s G) (lk s env)
 | none=>none
def H0 (ops:List Oper) (G:Gs) (env:List (Nat×AV)) (i:Nat):Option (Nat×Bool)->Option (Ch×Bool)
 | none=>some ([],true)
 | some (j,a)=>if j<i then I0 G env j a (Ap ops j) else none
def Oh (ops:List Oper) (c:Ch) (s:Nat) (w:Bool):Option (Ch×Bool×AV)->Option AV->Option AV
 | some (a,_,v),_=>if Tn a c=true then some v else match a with
  | []=>none
  | (j,w') :: r=>if w'=w/\Ap ops j=some s/\Og r c=true then some v else none
 | none,x=>x
def LZ (ops:List Oper) (c:Ch) (G:Gs) (env:List (Nat×AV)) (s:Nat) (w:Bool):Operand->Option AV
 | .tmp t=>Oh ops c s w (lk t G) (lk t env)
 | .const v=>some (HV v)
 | .func _=>none
 | .global _=>none
def Oi:Option AV->Option AV->Option AV->Ba
 | some (.p .bool b),some (.p .bool p),some (.p .bool q)=>some (True,.p .bool (bif b then p else q),[])
 | _,_,_=>none
def N0 (ops:List Oper) (c:Ch) (G:Gs) (env:List (Nat×AV)):Operand->Operand->Operand->Ba
 | .tmp s,x,y=>Oi (lk s (Jy c G env)) (LZ ops c G env s true x) (LZ ops c G env s false y)
 | .const _,_,_=>none
 | .func _,_,_=>none
 | .global _,_,_=>none
def H5:Op->Option (Operand×Operand×Operand)
 | .pick s x y=>some (s,x,y)
 | _=>none
def opM (tb:Tb) (ops:List Oper) (q:Bool) (base:List (Nat×Obj)) (c:Ch) (G:Gs) (E:List (Nat×List (Nat×Obj))) (env:List (Nat×AV)) (o:Oper):Option (Operand×Operand×Operand)->Ba
 | some (s,x,y)=>N0 ops c G env s x y
 | none=>aq tb ⟨Jy c G env,MF q o.op base E⟩ (o.dst.getD 0) o.op
mutual
def Lo (tb:Tb) (ops:List Oper) (q:Bool) (base:List (Nat×Obj)) (rest:List Oper):List Oper->Nat->List (Nat×List (Nat×Obj))->Gs->St->DE
 | [],_,_,_,σ=>B1 tb ops rest σ
 | o :: r,i,E,G,σ=>evMG tb ops q base rest o r i E G σ (H0 ops G σ.env i o.guard)
def evMG (tb:Tb) (ops:List Oper) (q:Bool) (base:List (Nat×Obj)) (rest:List Oper) (o:Oper) (r:List Oper) (i:Nat) (E:List (Nat×List (Nat×Obj))) (G:Gs) (σ:St):Option (Ch×Bool)->DE
 | some (c,T)=>evMQ tb ops q base rest o.dst r i E G σ c T (opM tb ops q base c G E σ.env o (H5 o.op))
 | none=>none
def evMQ (tb:Tb) (ops:List Oper) (q:Bool) (base:List (Nat×Obj)) (rest:List Oper) (dst:Option Nat) (r:List Oper) (i:Nat) (E:List (Nat×List (Nat×Obj))) (G:Gs) (σ:St):Ch->Bool->Ba->DE
 | [],_,some (vc,v,obs)=>match dst with
  | some d=>if Bi obs σ=true then YL vc (Lo tb ops q base rest r (i+1) (Jw d obs E) G (σ.add v obs (some d))) else none
  | none=>none
 | g :: c,T,some (vc,v,[])=>match dst with
  | some d=>if (lk d σ.env).isNone=true then YL (T=true->vc) (Lo tb ops q base rest r (i+1) E ((d,g :: c,T,v) :: G) σ) else none
  | none=>none
 | _,_,_=>none
end
structure En where
 b:Bool
 v:AV
 obs:List (Nat×Obj)
def Aw (ops:List Oper) (en:Nat->En) (σ:St):List Nat->St
 | []=>σ
 | i :: r=>(Aw ops en σ r).add (en i).v (en i).obs (Ap ops i)
def Al:Nat->List Nat
 | 0=>[]
 | i+1=>i :: Al i
end
section
open Go Go.RowKit
section
variable {tb:Tb} {ops:List Oper} {k:Nat} {q:Bool} {anc:List (List Nat)} {σ0:St} {en:Nat->En}
def ES (ops:List Oper) (en:Nat->En) (l:List Nat):List (Nat×List (Nat×Obj)):=l.map λj=>((Ap ops j).getD 0,(en j).obs)
def Ko (ops:List Oper) (σ:St) (b:Bool):Option (Nat×Bool)->Prop
 | none=>b=true
 | some (j,a)=>∃s,Ap ops j=some s/\((∃x,lk s σ.env=some (.p .bool x)/\b=(x==a))\/(lk s σ.env=some (.raw undef)/\b=false))
structure Vd (tb:Tb) (ops:List Oper) (q:Bool) (σ0:St) (en:Nat->En) (i:Nat) (o:Oper):Prop where
 g:Ko ops (Aw ops en σ0 (Al i)) (en i).b o.guard
 t:(en i).b=true->∃vc:Prop,aq tb ⟨(Aw ops en σ0 (Al i)).env,B8 q (Gx o.op) σ0.objs (ES ops en (Al i))⟩ (o.dst.getD 0) o.op=some (vc,(en i).v,(en i).obs)/\vc/\Bi (en i).obs (Aw ops en σ0 (Al i))=true
 f:(en i).b=false->(en i).v=.raw undef/\(en i).obs=[]
theorem Kp {a:Nat->En}:∀ {l:List Nat},(∀j∈l,a j=en j)->Aw ops a σ0 l=Aw ops en σ0 l
 | [],_=>rfl
 | i :: r,h=>by
  simp only[Aw];rw[Kp (λj b=>h j (by simp[b])),h i (by simp)]
theorem BL {i j:Nat}:j∈Al i↔j<i:=by
 induction i with
 | zero=>simp[Al]
 | succ i a=>simp[Al,a];omega
theorem Fm:∀(l:List Nat),(Aw ops en σ0 l).objs=(l.flatMap λj=>(en j).obs)++σ0.objs
 | []=>rfl
 | i :: r=>by
  simp only[Aw,AEF,UN];rw[<-Fm r];cases Ap ops i<;>rfl
theorem Fq (s:Nat):∀(l:List Nat),lk s (Aw ops en σ0 l).env=match l.find? (λj=>Ap ops j==some s) with|some j=>some (en j).v|none=>lk s σ0.env
 | []=>rfl
 | i :: r=>by
  simp only[Aw,List.find?_cons];cases a:Ap ops i with
  | none =>
   simp only[St.add];rw[Fq s r];have:((none:Option Nat)==some s)=false:=rfl;rw[this]
  | some d =>
   simp only[St.add,lk];by_cases hs:s=d
   ·subst hs;simp
   ·have h1:((some d:Option Nat)==some s)=false:=by
     have:d≠s:=λe=>hs e.symm;simpa using this
    rw[An hs,Fq s r,h1]
theorem pZ {n:Nat} {o:Obj} {l:List Nat} (h:lk n (l.flatMap λj=>(en j).obs)=some o):∃j∈l,lk n (en j).obs=some o:=by
 induction l with
 | nil=>simp[lk]at h
 | cons i r d =>
  rw[AEF,A5]at h;cases a:lk n (en i).obs with
  | some e =>
   rw[a]at h;exact⟨i,by simp,by rw[a];simpa using h⟩
  | none =>
   rw[a]at h;obtain⟨j,b,c⟩:=d (by simpa using h);exact⟨j,by simp[b],c⟩
theorem Kq {n:Nat} {l:List Nat} (h:lk n (l.flatMap λj=>(en j).obs)=none):∀j∈l,lk n (en j).obs=none:=by
 induction l with
 | nil=>simp
 | cons i r c =>
  rw[AEF,A5]at h;cases a:lk n (en i).obs with
  | some d=>rw[a]at h;simp at h
  | none =>
   rw[a]at h;intro j b;rcases DO.1 b with rfl|b
   ·exact a
   ·grind
def Sep (σ0:St) (en:Nat->En) (k:Nat):Prop :=
 (∀j,j<k->∀n o,lk n (en j).obs=some o->lk n σ0.objs=none)/\∀i j,i<k->j<k->∀n o a,lk n (en i).obs=some o->lk n (en j).obs=some a->i=j
theorem E3 (g:Sep σ0 en k) {l:List Nat} (c:∀j∈l,j<k) (n:Nat) (o:Obj):lk n (Aw ops en σ0 l).objs=some o↔(∃j∈l,lk n (en j).obs=some o)\/((∀j∈l,lk n (en j).obs=none)/\lk n σ0.objs=some o):=by
 rw[Fm,A5];cases h:lk n (l.flatMap λj=>(en j).obs) with
 | some i =>
  obtain⟨j,b,a⟩:=pZ h;simp only[AFl];constructor
  ·grind
  ·rintro (⟨d,e,f⟩|⟨h1,_⟩)
   ·have:=g.2 j d (c j b) (c d e) n i o a f;grind
   ·rw[h1 j b]at a;cases a
 | none =>
  have hn:=Kq h;simp only[Option.none_or];constructor
  ·grind
  ·grind
theorem A1U (f:Sep σ0 en k) {ts:List Nat} {l l':List Nat} (m:∀j∈l,j<k) (e:∀j∈l',j<k) (d:∀j∈l,(q||Ac ((Ap ops j).getD 0) ts)=true->j∈l') {n:Nat} {o:Obj} :
  lk n (B8 q ts σ0.objs (ES ops en l))=some o->lk n (Aw ops en σ0 l').objs=some o:=by
 rw[E3 f e];induction l with
 | nil =>
  simp only[ES,AEW,B8];intro h;refine .inr ⟨λj b=>?_,h⟩;cases a:lk n (en j).obs with
  | none=>rfl
  | some g=>have:=f.1 j (e j b) n g a;rw[this]at h;cases h
 | cons i r c =>
  simp only[ES,UQ,B8];have c:=c (λj b=>m j (by simp[b])) (λj b=>d j (by simp[b]));split
  ·rename_i p;intro h;rw[A5]at h;cases a:lk n (en i).obs with
   | some g =>
    rw[a]at h;simp only[AFl]at h;cases h;exact .inl ⟨i,d i (by simp) p,a⟩
   | none =>
    rw[a]at h;exact c (by simpa[ES] using h)
  ·exact c
theorem QD:∀ {a b:Ch},Og a b=true↔a=b
 | [],[]=>by simp[Og]
 | (j,w) :: r,(d,w') :: c=>by simp[Og,QD (a:=r) (b:=c),and_assoc]
 | [],_ :: _=>by simp[Og]
 | _ :: _,[]=>by simp[Og]
def bv:AV->Bool
 | .p .bool b=>b
 | _=>false
def tr (en:Nat->En):Ch->Bool
 | []=>true
 | (j,w) :: r=>tr en r&&(bv (en j).v==w)
theorem Ve {a:Nat->En}:∀ {c:Ch},(∀k∈c,a k.1=en k.1)->tr a c=tr en c
 | [],_=>rfl
 | (j,w) :: r,h=>by
  have h1:=h (j,w) (by simp);simp only at h1;simp only[tr];rw[Ve (λk hk=>h k (by simp[hk])),h1]
theorem lY {b:Ch}:∀ {c:Ch},Tn b c=true->tr en c=true->tr en b=true
 | [],h,a=>by simp only[Tn,QD]at h;rw[h];exact a
 | k :: r,h,a=>by
  simp only[Tn,UU,QD]at h;rcases h with rfl|h
  ·exact a
  ·obtain⟨j,w⟩:=k;simp only[tr,AT]at a;exact lY h a.1
structure Inv (ops:List Oper) (q:Bool) (σ0:St) (en:Nat->En) (i:Nat) (E:List (Nat×List (Nat×Obj))) (G:Gs) (σ:St):Prop where
 env:∀s v,lk s σ.env=some v->lk s (Aw ops en σ0 (Al i)).env=some v
 G:∀s c T v,(s,c,T,v)∈G->T=tr en c/\(T=true->lk s (Aw ops en σ0 (Al i)).env=some v)/\(∀k∈c,k.1<i)/\∃j,j<i/\Ap ops j=some s/\(en j).b=T
 f:∀j,j<i->(en j).b=false->(en j).v=.raw undef
 objs:σ.objs=(Aw ops en σ0 (Al i)).objs
 E:∀ts,B8 q ts σ0.objs E=B8 q ts σ0.objs (ES ops en (Al i))
def lZ (ops:List Oper) (k:Nat):Prop:=∀a b,a<b->b<k->Ap ops a≠Ap ops b
theorem Ys (hu:lZ ops k) {i j s:Nat} (d:i<=k) (c:j<i) (b:Ap ops j=some s):lk s (Aw ops en σ0 (Al i)).env=some (en j).v:=by
 rw[Fq];have:(Al i).find? (λj=>Ap ops j==some s)=some j:=by
  cases hf:(Al i).find? (λj=>Ap ops j==some s) with
  | none =>
   have:=AFi.1 hf j (BL.2 c);simp[b]at this
  | some x =>
   have h1:=BL.1 (AEG hf);have a:=AFx hf;have a:Ap ops x=some s:=by simpa using a
   rcases AES x j with h|h|h
   ·exact absurd (a.trans b.symm) (hu x j h (by omega))
   ·rw[h]
   ·exact absurd (b.trans a.symm) (hu j x h (by omega))
 rw[this]
theorem Rn {c:Ch} {s:Nat} {v:AV} {env:List (Nat×AV)}:∀ {G:Gs},lk s (Jy c G env)=some v->(∃b T,(s,b,T,v)∈G/\Tn b c=true)\/lk s env=some v
 | [],h=>.inr h
 | (e,b,T,f) :: G,h=>by
  simp only[Jy]at h;split at h
  ·rename_i hs;simp only[lk]at h;split at h
   ·grind
   ·rcases Rn h with ⟨c2,T2,d,a⟩|a
    ·grind
    ·exact .inr a
  ·rcases Rn h with ⟨c2,T2,d,a⟩|a
   ·grind
   ·exact .inr a
section
variable {i:Nat} {E:List (Nat×List (Nat×Obj))} {G:Gs} {σ:St}
theorem fW (a:Inv ops q σ0 en i E G σ) {c:Ch} (f:tr en c=true) {s:Nat} {v:AV} (h:lk s (Jy c G σ.env)=some v):lk s (Aw ops en σ0 (Al i)).env=some v:=by
 rcases Rn h with ⟨b,T,d,hs⟩|h
 ·obtain⟨h1,e,_⟩:=a.G s b T v d;grind [lY]
 ·exact a.env s v h
theorem zA (m:Inv ops q σ0 en i E G σ) (hu:lZ ops k) (v:i<=k) {g:Option (Nat×Bool)} {c:Ch} {T:Bool} (h:H0 ops G σ.env i g=some (c,T)) :
  Ko ops (Aw ops en σ0 (Al i)) T g/\T=tr en c/\(∀k∈c,k.1<i):=by
 cases g with
 | none =>
  simp only[H0]at h;cases h;exact⟨rfl,rfl,by simp⟩
 | some g =>
  obtain⟨j,z⟩:=g;simp only[H0]at h;split at h
  ·rename_i r;cases d:Ap ops j with
   | none=>rw[d]at h;simp[I0]at h
   | some s =>
    rw[d]at h;simp only[I0]at h;have e:=Ys (en:=en) (σ0:=σ0) hu v r d;unfold Kn at h;split at h
    ·rename_i c0 o b n;cases h;obtain⟨h1,t,x,l,y,p,u⟩:=m.G s c0 o _ (F8 n);cases hT:o with
     | true =>
      have a:=t hT;rw[e]at a;injection a with a
      refine⟨⟨s,d,.inl ⟨b,by rw[e,a],by simp⟩⟩,?_,?_⟩
      ·grind [tr,bv]
      ·grind
     | false =>
      have w:l=j:=by
       rcases AES l j with h|h|h
       ·exact absurd (p.trans d.symm) (hu l j h (by omega))
       ·exact h
       ·exact absurd (d.trans p.symm) (hu j l h (by omega))
      subst w;have a:=m.f l r (by rw[u,hT]);refine⟨⟨s,d,.inr ⟨by rw[e,a],by simp⟩⟩,?_,?_⟩
      ·grind [tr]
      ·grind
    ·rename_i b _ n;cases h;have a:=m.env s _ n;rw[e]at a;injection a with a
     refine⟨⟨s,d,.inl ⟨b,by rw[e,a],rfl⟩⟩,by simp[tr,a,bv],?_⟩;grind
    ·cases h
  ·cases h
theorem fX (d:Inv ops q σ0 en i E G σ) (hu:lZ ops k) (o:i<=k) {c:Ch} (z:tr en c=true) {s:Nat} {w:Bool} (hs:lk s (Aw ops en σ0 (Al i)).env=some (.p .bool w)) {x:Operand} {v:AV}
  (h:LZ ops c G σ.env s w x=some v) {objs:List (Nat×Obj)}:Ak ⟨(Aw ops en σ0 (Al i)).env,objs⟩ x=some v:=by
 cases x with
 | const x=>simp only[LZ]at h;exact h
 | func f=>simp[LZ]at h
 | global g=>simp[LZ]at h
 | tmp t =>
  simp only[LZ]at h;simp only[Ak];cases a:lk t G with
  | none =>
   rw[a]at h;exact d.env t v h
  | some e =>
   obtain⟨b,T,u⟩:=e;rw[a]at h;simp only[Oh]at h;obtain⟨h1,y,m,_⟩:=d.G t b T u (F8 a);split at h
   ·grind [lY]
   ·cases b with
    | nil=>cases h
    | cons p r =>
     obtain⟨j,w'⟩:=p;simp only at h;split at h
     ·rename_i hh;obtain⟨rfl,n,l⟩:=hh;rw[QD]at l;subst l;cases h;have A:=Ys (en:=en) (σ0:=σ0) hu o (m (j,w') (by simp)) n;grind [tr,bv]
     ·cases h
theorem A97 (a:Inv ops q σ0 en i E G σ) (hu:lZ ops k) (j:i<=k) {c:Ch} (d:tr en c=true) {o:Oper} {vc:Prop} {v:AV} {obs:List (Nat×Obj)} (h:opM tb ops q σ0.objs c G E σ.env o (H5 o.op)=some (vc,v,obs)) (z:vc) :
  ∃l:Prop,aq tb ⟨(Aw ops en σ0 (Al i)).env,B8 q (Gx o.op) σ0.objs (ES ops en (Al i))⟩ (o.dst.getD 0) o.op=some (l,v,obs)/\l:=by
 cases hp:H5 o.op with
 | none =>
  rw[hp]at h;simp only[opM]at h;refine⟨vc,Ue (σ:=⟨Jy c G σ.env,MF q o.op σ0.objs E⟩) ?_ ?_ h,z⟩
  ·intro n x hn;have:MF q o.op σ0.objs E=B8 q (Gx o.op) σ0.objs E:=by cases E<;>rfl
   simp only at hn ⊢;rw[this,a.E]at hn;exact hn
  ·intro x _ v e;cases x with
   | tmp t=>exact fW a d e
   | const A=>exact e
   | global g=>exact e
   | func f=>exact e
 | some p =>
  obtain⟨s,x,y⟩:=p;rw[hp]at h;have w:o.op=.pick s x y:=by
   unfold H5 at hp;grind
  simp only[opM]at h;rw[w];cases s with
  | const _=>simp[N0]at h
  | func _=>simp[N0]at h
  | global _=>simp[N0]at h
  | tmp s =>
   simp only[N0]at h;unfold Oi at h;split at h
   ·rename_i b p r h1 m u;cases h;have hs:=fW a d h1;refine⟨True,?_,trivial⟩;have h0:Ak ⟨(Aw ops en σ0 (Al i)).env,B8 q (Gx (Op.pick (.tmp s) x y)) σ0.objs (ES ops en (Al i))⟩ (.tmp s)=some (.p .bool b):=hs;simp only[aq];rw[h0];cases b with
    | true =>
     simp only[LR];rw[fX a hu j d hs m];rfl
    | false =>
     simp only[LR];rw[fX a hu j d hs u];rfl
   ·cases h
end
theorem Ro {rest:List Oper} (hu:lZ ops k):∀ {fr:List Oper} {i:Nat} {E:List (Nat×List (Nat×Obj))} {G:Gs} {σ σ':St} {en:Nat->En} {vc:Prop},Lo tb ops q σ0.objs rest fr i E G σ=some (vc,σ')->vc->Inv ops q σ0 en i E G σ->i+fr.length=k->(∀j,j<fr.length->ops[i+j]?=fr[j]?) ->
  ∃l:Nat->En,(∀j,j<i->l j=en j)/\(∀j o,i<=j->j<k->ops[j]?=some o->Vd tb ops q σ0 l j o) /\
   ∃(D:Prop) (σ2:St),B1 tb ops rest σ2=some (D,σ')/\D/\(∀s v,lk s σ2.env=some v->lk s (Aw ops l σ0 (Al k)).env=some v)/\σ2.objs=(Aw ops l σ0 (Al k)).objs
 | [],i,E,G,σ,σ',en,vc,h,H,n,hk,_=>by
  simp only[Lo]at h;simp at hk;subst hk;exact⟨en,λ_ _=>rfl,λj o h1 P=>by omega,vc,σ,h,H,n.env,n.objs⟩
 | o :: r,i,E,G,σ,σ',en,vc,h,H,n,hk,al=>by
  have aj:ops[i]?=some o:=by simpa using al 0 (by simp)
  have Q:Ap ops i=o.dst:=by simp[Ap,aj]
  have U:i<k:=by simp at hk;omega
  simp only[Lo]at h;cases S:H0 ops G σ.env i o.guard with
  | none=>rw[S]at h;simp[evMG]at h
  | some ap =>
   obtain⟨c,T⟩:=ap;obtain⟨bf,hT,ab⟩:=zA n hu (AFd U) S;rw[S]at h;simp only[evMG]at h;cases W:opM tb ops q σ0.objs c G E σ.env o (H5 o.op) with
   | none =>
    rw[W]at h;unfold evMQ at h;split at h
    ·rename_i R;cases R
    ·rename_i R;cases R
    ·cases h
   | some bm =>
    obtain⟨bn,v,obs⟩:=bm;rw[W]at h;have ao:∀(d:Nat) (e:En) (L:List (Nat×List (Nat×Obj))) (M:Gs) (K:St) (F:Prop),o.dst=some d->e.b=T->(T=true->bn/\e.v=v/\e.obs=obs/\Bi obs σ=true)->(T=false->e.v=.raw undef/\e.obs=[]) ->
      (∀s a,lk s K.env=some a->if s=d then a=e.v else lk s σ.env=some a)->K.objs=e.obs++σ.objs ->
      (∀s w B a,(s,w,B,a)∈M->(s,w,B,a)∈G\/(s=d/\w=c/\B=T/\a=v))->(∀ts,B8 q ts σ0.objs L=B8 q ts σ0.objs ((d,e.obs) :: E)) ->
      Lo tb ops q σ0.objs rest r (i+1) L M K=some (F,σ')->F ->
      ∃l:Nat->En,(∀j,j<i->l j=en j)/\(∀j o,i<=j->j<k->ops[j]?=some o->Vd tb ops q σ0 l j o) /\
       ∃(D:Prop) (σ2:St),B1 tb ops rest σ2=some (D,σ')/\D/\(∀s v,lk s σ2.env=some v->lk s (Aw ops l σ0 (Al k)).env=some v)/\σ2.objs=(Aw ops l σ0 (Al k)).objs:=by
     intro d e L M K F t I af ae bc bg aw au bd bl
     let u:Nat->En:=λj=>if j=i then e else en j
     have O:u i=e:=by simp[u]
     have heq:∀j,j<i->u j=en j:=λj z=>by simp[u,show j≠i by omega]
     have ba:Aw ops u σ0 (Al i)=Aw ops en σ0 (Al i):=Kp λj z=>heq j (BL.1 z);have Z:ES ops u (Al i)=ES ops en (Al i):=by
      apply UI;grind [BL]
     have bb:Aw ops u σ0 (Al (i+1))=(Aw ops en σ0 (Al i)).add e.v e.obs (some d):=by grind [Al,Aw]
     have ak:∀s a,s≠d->lk s (Aw ops en σ0 (Al i)).env=some a->lk s (Aw ops u σ0 (Al (i+1))).env=some a:=by grind [St.add,lk]
     have ag:lk d (Aw ops u σ0 (Al (i+1))).env=some e.v:=by grind [St.add,lk]
     have ax:Inv ops q σ0 u (i+1) L M K:=by
      refine⟨λs a A=>?_,λs w B a p=>?_,λj z m=>?_,?_,λts=>?_⟩
      ·have:=bc s a A;split at this
       ·rename_i hs;rw[hs,this];exact ag
       ·rename_i hs;exact ak s a hs (n.env s a this)
      ·rcases aw s w B a p with p|⟨rfl,rfl,rfl,rfl⟩
       ·obtain⟨h1,P,N,j,z,ad,m⟩:=n.G s w B a p;have bh:s≠d:=by
         rintro rfl;exact hu j i z U (by rw[ad,Q,t])
        refine⟨by rw[Ve (en:=en) λk hk=>heq _ (N k hk)];exact h1,λhT=>ak s a bh (P hT),λk hk=>by have:=N k hk;omega,j,by omega,ad,by rw[heq j z];exact m⟩
       ·refine⟨by rw[Ve (en:=en) λk hk=>heq _ (ab k hk)];exact hT,λay=>?_,λk hk=>by have:=ab k hk;omega,i,by omega,by rw[Q,t],by rw[O];exact I⟩;rw[ag,(af ay).2.1]
      ·by_cases V:j=i
       ·subst V;rw[O]at m ⊢;exact(ae (by rw[<-I];exact m)).1
       ·rw[heq j (by omega)]at m ⊢;exact n.f j (by omega) m
      ·rw[bb,bg,n.objs];rfl
      ·rw[au];simp only[ES,Al,UQ,O,Q,t,AF1,B8];have:=n.E ts;rw[<-Z]at this;simp only[ES]at this;rw[this]
     obtain⟨l,h1,P,N⟩:=Ro hu bd bl ax (by simp at hk ⊢;omega) (λj z=>by
      have:=al (j+1) (by simp;omega);rw[show i+(j+1)=i+1+j by omega]at this;simpa using this)
     refine⟨l,λj z=>by rw[h1 j (by omega),heq j z],λj bq bo bp ai=>?_,N⟩;by_cases V:j=i
     ·subst V;rw[aj]at ai;cases ai;have J:l j=e:=by rw[h1 j (by omega),O]
      have aa:Aw ops l σ0 (Al j)=Aw ops en σ0 (Al j):=by
       rw[<-ba];exact Kp λq X=>h1 q (by have:=BL.1 X;omega)
      have av:ES ops l (Al j)=ES ops en (Al j):=by
       rw[<-Z];apply UI;intro q X;rw[h1 q (by have:=BL.1 X;omega)]
      refine⟨by rw[aa,J,I];exact bf,λm=>?_,λm=>?_⟩
      ·rw[J,I]at m;obtain⟨bi,bj,bk,an⟩:=af m;obtain⟨D,aq,ar⟩:=A97 n hu (AFd U) (by rw[<-hT];exact m) W bi;rw[J,aa,av,bj,bk];exact⟨D,aq,ar,by
        simp only[Bi]at an ⊢;rw[<-n.objs];exact an⟩
      ·rw[J,I]at m;rw[J];exact ae m
     ·grind
    cases c with
    | nil =>
     cases t:o.dst with
     | none=>rw[t]at h;simp[evMQ]at h
     | some d =>
      rw[t]at h;simp only[evMQ]at h;split at h
      ·rename_i be;cases C:Lo tb ops q σ0.objs rest r (i+1) (Jw d obs E) G (σ.add v obs (some d)) with
       | none=>rw[C]at h;simp[YL]at h
       | some Y =>
        obtain⟨F,σ2⟩:=Y;rw[C]at h;simp only[YL]at h;cases h;have az:T=true:=by rw[hT];rfl
        refine ao d ⟨T,v,obs⟩ _ _ _ F t rfl (λ_=>⟨H.1,rfl,rfl,be⟩) (λhf=>by rw[az]at hf;cases hf) (λs a A=>?_) rfl (λs w B a p=>.inl p) (λts=>?_) C H.2
        ·simp only[St.add,lk]at A;split at A
         ·rename_i hs;cases A;simp[hs]
         ·rename_i hs;rw[An hs];exact A
        ·cases obs with
         | nil=>simp[Jw,B8]
         | cons x y=>rfl
      ·cases h
    | cons g w =>
     cases obs with
     | cons x y=>simp[evMQ]at h
     | nil =>
      cases t:o.dst with
      | none=>rw[t]at h;simp[evMQ]at h
      | some d =>
       rw[t]at h;simp only[evMQ]at h;split at h
       ·rename_i ah;cases C:Lo tb ops q σ0.objs rest r (i+1) E ((d,g :: w,T,v) :: G) σ with
        | none=>rw[C]at h;simp[YL]at h
        | some Y =>
         obtain⟨F,σ2⟩:=Y;rw[C]at h;simp only[YL]at h;cases h;refine ao d ⟨T,bif T then v else .raw undef,[]⟩ _ _ _ F t rfl (λam=>⟨H.1 am,by simp[am],rfl,by simp[Bi]⟩) (λhf=>⟨by simp[hf],rfl⟩) (λs a A=>?_) rfl (λs c2 B a p=>?_) (λts=>?_) C H.2
         ·have:s≠d:=by
           rintro rfl;rw[A]at ah;cases ah
          rw[An this];exact A
         ·rcases DO.1 p with p|p
          ·cases p;exact .inr ⟨rfl,rfl,rfl,rfl⟩
          ·exact .inl p
         ·simp[B8]
       ·cases h
end
section
variable {c:Cx} {ops:Array Oper} {k:Nat} {anc:List (List Nat)} {σ0 σ':St} {en:Nat->En} {Q:Exit->Act->World->Prop}
theorem A1V {o:Oper} {e:Edge} (b:e∈o.after) (a:Region.binds .any e=true):e.on∈EI o:=by grind [EI]
theorem Dq {listed:Array Bool} {i:Nat}:i∈Region.ready .any ops listed↔listed.getD i true=false/\∃o,ops[i]?=some o/\∀e∈EI o,listed.getD e false=true:=by
 rw[mem_ready];grind [EI,A1V]
structure Yt (ops:Array Oper) (k:Nat) (anc:List (List Nat)):Prop where
 lt:∀i o,ops[i]?=some o->∀e∈EI o,e<i
 cl:∀i o,ops[i]?=some o->∀j∈anc.getD i [],j∈EI o\/∃e∈EI o,j∈anc.getD e []
 front:∀i o,ops[i]?=some o->i<k->(∃d,o.dst=some d)/\(∀t∈NK ops.toList o,∀j,j<k->Ap ops.toList j=some t->j∈anc.getD i [])/\∀j,j<i->Ap ops.toList j≠o.dst
 back:∀i o,ops[i]?=some o->k<=i->∀j,j<i->j∈anc.getD i []
 k:k<=ops.size
theorem AAt (h:lX ops.toList k anc=true):Yt ops k anc:=by
 simp only[lX,AT,Is,UM,Fe]at h;obtain⟨hk,h⟩:=h;have hi:∀i o,ops[i]?=some o->opB ops.toList k anc i o=true:=by grind
 refine⟨λi o a e l=>?_,λi o a j b=>?_,λi o a c=>?_,λi o a c j b=>?_,by simpa using hk⟩
 ·grind [opB]
 ·grind [opB,Af]
 ·have:=hi i o a;simp only[opB,c,AD1,AT,Is,UM,UU,Af,AEM]at this;obtain⟨_,⟨h1,f⟩,d⟩:=this;refine⟨AEb.1 h1,λt m j b g=>?_,d⟩;grind
 ·have:=hi i o a;simp only[opB,show ¬i<k by omega,AE4,AT,Is,UM,Af]at this;exact this.2 j b
theorem Vf (a:Yt ops k anc) {listed:Array Bool} (g:∀i o,ops[i]?=some o->listed.getD i true=true->∀e∈EI o,listed.getD e false=true) :
  ∀i o,ops[i]?=some o->(∀e∈EI o,listed.getD e false=true)->∀j∈anc.getD i [],listed.getD j false=true:=by
 intro i;induction i using Nat.strongRecOn with
 | _ i m =>
  intro o b c j f;rcases a.cl i o b j f with h1|⟨e,d,h⟩
  ·exact c j h1
  ·have l:=a.lt i o b e d;grind
theorem Yu {l:List Oper} {p:Nat} {o:Oper} {r:List Oper} (h:l.drop p=o :: r):l[p]?=some o/\r=l.drop (p+1):=by
 constructor
 ·have:(l.drop p)[0]?=some o:=by rw[h];rfl
  grind
 ·rw[<-AEH,h];rfl
theorem QE {F:Fence} {P:Program} (f:Yt ops k anc):∀ {rest:List Oper} {p:Nat} {listed:Array Bool} {a:Act} {w:World},ops.toList.drop p=rest->k<=p->p<=ops.size->listed.size=ops.size ->
  (∀i,i<ops.size->(listed.getD i true=true↔i<p))->wpListIn F 0 P ops Q rest a w->wpAnyIn F 0 P .any ops Q rest.length listed a w
 | [],p,listed,a,w,m,J,L,q,d,c=>by
  have hp:p=ops.size:=by
   have:=ADx List.length m;simp at this;omega
  refine⟨?_,c⟩;apply AEY.2;grind [Dq]
 | o :: r,p,listed,a,w,m,J,L,q,d,c=>by
  obtain⟨g,C⟩:=Yu m;have g:ops[p]?=some o:=by simpa using g
  have t:p<ops.size:=(UV.1 g).1;have x:∀e b,e<ops.size->listed.getD e b=listed.getD e true:=λe b h=>by grind
  have G:∀i o,ops[i]?=some o->listed.getD i true=true->∀e∈EI o,listed.getD e false=true:=by
   intro i o B h1 e h;have u:i<ops.size:=(UV.1 B).1;have y:=(d i u).1 h1;have l:=f.lt i o B e h;grind
  have M:∀i,i∈Region.ready .any ops listed->i=p:=by
   intro i hi;rw[Dq]at hi;obtain⟨h1,D,s,y⟩:=hi;have u:i<ops.size:=(UV.1 s).1;have O:¬i<p:=λK=>by rw[(d i u).2 K]at h1;cases h1
   by_cases n:i=p
   ·exact n
   ·have l:=Vf f G i D s y p (f.back i D s (by omega) p (by omega));rw[x p false t]at l;have:=(d p t).1 l;omega
  refine⟨λR=>?_,λi hi=>?_⟩
  ·exfalso;have:p∈Region.ready .any ops listed:=by
    rw[Dq];refine⟨?_,o,g,λe h=>?_⟩
    ·cases hh:listed.getD p true with
     | false=>rfl
     | true=>have:=(d p t).1 hh;omega
    ·have:=f.lt p o g e h;rw[x e false (by omega)];exact(d e (by omega)).2 this
   grind
  ·have n:=M i hi;subst n;have A:∀(j:Nat),j<ops.size->((listed.setIfInBounds i true).getD j true=true↔j<i+1):=by
    intro j H;have I:j<listed.size:=by omega
    by_cases z:j=i
    ·subst z;simp[Array.getD,I]
    ·have h1:(listed.setIfInBounds i true).getD j true=listed.getD j true:=getD_set_ne true (λe=>z e.symm);rw[h1,d j H];omega
   unfold wpOpIn;rw[g];simp only;unfold wpListIn at c;split
   ·rename_i v;rw[BY v]at c;exact Oper.wpIn_mono (λN w' E=>QE f C.symm (by omega) (by omega) (by simpa using q) A E) c
   ·rename_i v;rw[An v]at c;exact⟨c.1,QE f C.symm (by omega) (by omega) (by simpa using q) A c.2⟩
end
end
section
open Go Go.RowKit
theorem EP:∀(k:Nat) (l:List Nat),l.Nodup->(∀j∈l,j<k)->l.length<=k
 | 0,l,_,h=>by
  cases l with
  | nil=>simp
  | cons x r=>have:=h x (by simp);omega
 | k+1,l,hn,h=>by
  by_cases hk:k∈l
  ·have:=EP k (l.erase k) (hn.erase k) (λj a=>by
    have h1:=(hn.mem_erase_iff).1 a;have:=h j h1.2;have:=h1.1;omega)
   grind
  ·have:=EP k l hn (λj a=>by
    have:=h j a;have:j≠k:=λe=>hk (e▸a);omega)
   omega
theorem p5:∀(k:Nat) (l:List Nat),(∀j,j<k->j∈l)->k<=l.length
 | 0,l,_=>by simp
 | k+1,l,h=>by
  have hk:=h k (by omega);have:=p5 k (l.erase k) (λj a=>(AF6 (by omega)).2 (h j (by omega)));grind
theorem Vg {c:Cx} {σ σ':St} {a:Act} {w:World} (j:∀s,lk s σ'.env=lk s σ.env) (f:∀n,lk n σ'.objs=lk n σ.objs) (h:c.sat σ a w):c.sat σ' a w:=by
 obtain⟨ρ,h⟩:=h;have d:HH σ'=HH σ:=by
  funext n;simp only[HH,f]
 have g:∀w,vw w c.O0 σ' ρ=vw w c.O0 σ ρ:=by
  intro w;have l:own c.O0 σ' ρ=own c.O0 σ ρ:=by
   funext b;simp only[own,d]
  simp only[vw,d,l]
 refine⟨ρ,h.frm,h.nt,h.defers,λp hp=>by rw[d];exact h.pin p hp,?_,?_,?_,?_⟩
 ·intro n o hn;rw[g];exact h.objs n o (by rw[<-f];exact hn)
 ·intro n b k i;exact h.free n b (by rw[<-d];exact k) i
 ·intro n m b h1 e;rw[d]at h1 e;exact h.dist n m b h1 e
 ·intro s v hs;rw[g];exact h.env s v (by rw[<-j];exact hs)
theorem fY {c:Cx} {σ:St} {a:Act} {w:World} (h:c.sat σ a w):c.sat σ a { w with drawn:=w.drawn+1 }:=by
 obtain⟨ρ,h⟩:=h;have hk:Cb (vw w c.O0 σ ρ) (vw { w with drawn:=w.drawn+1 } c.O0 σ ρ):=⟨λ_ _ h=>h,λ_ h=>h,λ_ _=>rfl,λ_ _ _=>rfl⟩;exact⟨ρ,⟨h.frm.os,h.frm.tape,h.frm.output,h.frm.size,h.frm.block⟩,h.nt,h.defers,h.pin,λn o b=>(h.objs n o b).keeps hk λ_ _=>rfl,h.free,h.dist,λs v hs=>(h.env s v hs).keeps hk⟩
theorem Uf {c:Cx} {σ σ':St} {a:Act} {w:World} (d:∀s v,lk s σ'.env=some v->lk s σ.env=some v) (e:∀n,lk n σ'.objs=lk n σ.objs) (h:c.sat σ a w):c.sat σ' a w:=by
 have b:c.sat ⟨σ.env,σ'.objs⟩ a w:=Vg (σ:=σ) (λ_=>rfl) e h;obtain⟨ρ,h⟩:=b;exact⟨ρ,h.frm,h.nt,h.defers,h.pin,h.objs,h.free,h.dist,λs v hs=>h.env s v (d s v hs)⟩
theorem MH {c:Cx} {ops:Array Oper} {σ:St} {a:Act} {w:World} (hs:c.sat σ a w) {o:Oper} {b:Bool} (h:Ko ops.toList σ b o.guard):Region.wanted o (yielded ops a.tmps)=b:=by
 cases d:o.guard with
 | none =>
  rw[d]at h;simp only[Ko]at h;simp[Region.wanted,d,h]
 | some g =>
  obtain⟨j,n⟩:=g;rw[d]at h;simp only[Ko]at h;obtain⟨s,k,h⟩:=h;rcases h with ⟨x,e,rfl⟩|⟨e,rfl⟩
  ·refine HY hs ?_;grind [E2,Ap,Ke,Rd]
  ·obtain⟨ρ,hs⟩:=hs;have i:a.tmps.getD s undef=undef:=hs.env s _ e;have l:(ops[j]?).bind (·.dst)=some s:=by simpa[Ap] using k
   have m:yielded ops a.tmps j=none:=by
    simp only[yielded,l,Option.bind_some];by_cases f:s<a.tmps.size
    ·have:a.tmps.getD s undef=a.tmps[s]:=by simp[Array.getD,f]
     rw[this]at i;rw[iN f,i];rfl
    ·grind
   simp[Region.wanted,d,m]
section
variable {c:Cx} {ops:Array Oper} {k:Nat} {q:Bool} {anc:List (List Nat)} {σ0 σ':St} {en:Nat->En} {Q:Exit->Act->World->Prop}
theorem A98 (hF:∀j o,j<k->ops[j]?=some o->Vd c.tb ops.toList q σ0 en j o) (hk:k<=ops.size):Sep σ0 en k:=by
 have one:∀j,j<k->∀n o,lk n (en j).obs=some o->lk n (Aw ops.toList en σ0 (Al j)).objs=none:=by
  intro j a n o hn;have m:ops[j]?=some (ops[j]'(by omega)):=iN (by omega);have h1:=hF j _ a m;cases g:(en j).b with
  | true =>
   obtain⟨_,_,_,hf⟩:=h1.t g;exact OW hf hn
  | false =>
   rw[(h1.f g).2]at hn;simp[lk]at hn
 have low:∀i j,i<j->j<k->∀n o d,lk n (en i).obs=some o->lk n (en j).obs=some d->False:=by
  intro i j l a n o d h1 e;have:=one j a n d e;rw[Fm,A5]at this;cases h:lk n ((Al j).flatMap λj=>(en j).obs) with
  | some x=>rw[h]at this;simp at this
  | none =>
   have:=Kq h i (BL.2 l);rw[this]at h1;cases h1
 refine⟨λj a n o hn=>?_,λi j hi a n o d h1 e=>?_⟩
 ·grind [Fm,A5,lk,Al]
 ·grind
theorem A1W (b:Yt ops k anc) {l:List Nat} (e:∀j∈l,j<k) {s j:Nat} (d:j∈l) (f:Ap ops.toList j=some s):l.find? (λj=>Ap ops.toList j==some s)=some j:=by
 have hu:∀i,i∈l->Ap ops.toList i=some s->i=j:=by
  intro i hi g;have h1:=e i hi;have a:=e j d;have m:=b.k;have get:∀x,x<k->Ap ops.toList x=(ops[x]?).bind (·.dst):=λx _=>by simp[Ap]
  rcases AES i j with h|h|h
  ·have c:ops[j]?=some (ops[j]'(by omega)):=iN (by omega);have:=(b.front j _ c a).2.2 i h;grind
  ·exact h
  ·have c:ops[i]?=some (ops[i]'(by omega)):=iN (by omega);have:=(b.front i _ c h1).2.2 j h;grind
 cases hf:l.find? (λj=>Ap ops.toList j==some s) with
 | none =>
  have:=AFi.1 hf j d;simp[f]at this
 | some i =>
  have h1:=AEG hf;have a:=AFx hf;rw[hu i h1 (by simpa using a)]
theorem Vh (a:Yt ops k anc) {l l':List Nat} (b:∀j∈l,j<k) (c:∀j∈l',j<k) {s:Nat} (h:∀j,j<k->Ap ops.toList j=some s->j∈l/\j∈l') :
  lk s (Aw ops.toList en σ0 l).env=lk s (Aw ops.toList en σ0 l').env:=by
 rw[Fq,Fq];by_cases d:∃j,j<k/\Ap ops.toList j=some s
 ·grind [A1W]
 ·grind
theorem zB (Z:c.Ok) (A:Yt ops k anc) (bj:∀o∈ops.toList,Hs c.nt o=true) (hF:∀j o,j<k->ops[j]?=some o->Vd c.tb ops.toList false σ0 en j o)
  {σ2:St} (an:∀s v,lk s σ2.env=some v->lk s (Aw ops.toList en σ0 (Al k)).env=some v) (ao:σ2.objs=(Aw ops.toList en σ0 (Al k)).objs) (hT:∀I w',c.sat σ2 I w'->wpListIn (FR c.r) 0 c.P ops Q (ops.toList.drop k) I w') :
  ∀(m:Nat) (ex:List Nat) (listed:Array Bool) (a:Act) (w:World),ex.Nodup->(∀j∈ex,j<k)->m+ex.length=ops.size->listed.size=ops.size->(∀i,i<ops.size->(listed.getD i true=true↔i∈ex)) ->
   (∀i o,ops[i]?=some o->i∈ex->∀e∈EI o,e∈ex)->c.sat (Aw ops.toList en σ0 ex) a w->wpAnyIn (FR c.r) 0 c.P .any ops Q m listed a w:=by
 have al:=A.k;have H:=A98 hF al;intro m;induction m with
 | zero =>
  intro ex listed a w N z bo Y J ap hs;have h1:=EP k ex N z;have bn:k=ops.size:=by omega
  by_cases D:∀j,j<k->j∈ex
  ·have ar:ops.toList.drop k=[]:=by simp[bn]
   have S:c.sat σ2 a w:=Uf an (λ_=>by rw[ao]) <| Vg
    (λs=>(Vh A z (λj y=>BL.1 y) λj y _=>⟨D j y,BL.2 y⟩).symm)
    (λn=>AFn λo=>by
     rw[E3 H (λj y=>BL.1 y),E3 H z];simp only[BL];constructor
     ·grind
     ·rintro (⟨j,y,h⟩|⟨h1,U⟩)
      ·grind
      ·exact .inr ⟨λj y=>h1 j (D j y),U⟩) hs
   have:=QE (Q:=Q) (F:=FR c.r) (P:=c.P) A (rest:=[]) (p:=k) (listed:=listed) (a:=a) (w:=w) ar (NO _) al Y (λi hi=>by
    rw[J i hi];exact⟨z i,D i⟩) (by rw[<-ar];exact hT a w S)
   exact this
  ·exfalso;apply D;intro j y;apply Do;intro az;have:=EP k (j :: ex) (aT.2 ⟨az,N⟩) (λi hi=>by
    rcases DO.1 hi with rfl|hi
    ·exact y
    ·exact z i hi)
   simp at this;omega
 | succ m cb =>
  intro ex listed a w N z bo Y J ap hs;have bf:∀e b,e<ops.size->listed.getD e b=listed.getD e true:=λe b C=>by grind
  by_cases D:∀j,j<k->j∈ex
  ·have ck:ex.length=k:=AE8 (EP k ex N z) (p5 k ex D);have S:c.sat σ2 a w:=Uf an (λ_=>by rw[ao]) <| Vg
    (λs=>(Vh A z (λj y=>BL.1 y) λj y _=>⟨D j y,BL.2 y⟩).symm)
    (λn=>AFn λo=>by
     rw[E3 H (λj y=>BL.1 y),E3 H z];simp only[BL];constructor
     ·grind
     ·rintro (⟨j,y,h⟩|⟨h1,U⟩)
      ·grind
      ·exact .inr ⟨λj y=>h1 j (D j y),U⟩) hs
   have:=QE (Q:=Q) (F:=FR c.r) (P:=c.P) A (rest:=ops.toList.drop k) (p:=k) (listed:=listed) (a:=a) (w:=w) rfl (NO _) al Y (λi hi=>by
    rw[J i hi];exact⟨z i,D i⟩) (hT a w S)
   grind
  ·refine⟨λbq=>?_,λi hi=>?_⟩
   ·exfalso;apply D;intro j;induction j using Nat.strongRecOn with
    | _ j cd =>
     intro y;apply Do;intro az;have R:ops[j]?=some (ops[j]'(by omega)):=iN (by omega);have:j∈Region.ready .any ops listed:=by
      rw[Dq];refine⟨?_,_,R,λe C=>?_⟩
      ·grind
      ·have ab:=A.lt j _ R e C;rw[bf e false (by omega)];exact(J e (by omega)).2 (cd e ab (by omega))
     rw[bq]at this;cases this
   ·rw[Dq]at hi;obtain⟨h1,o,B,U⟩:=hi;have bd:i<ops.size:=(UV.1 B).1;have ba:i∉ex:=λh=>by rw[(J i bd).2 h]at h1;cases h1
    have bi:∀e∈EI o,e∈ex:=λe C=>by grind
    have ae:∀j∈anc.getD i [],j∈ex:=by grind [EI,Vf]
    have M:i<k:=by
     apply Do;intro cj;exact D λj y=>ae j (A.back i o B (by omega) j (by omega))
    have ah:=A.front i o B M;obtain⟨d,ci⟩:=ah.1;have bh:Ap ops.toList i=o.dst:=by simp[Ap,B]
    have bb:∀t∈NK ops.toList o,lk t (Aw ops.toList en σ0 ex).env=lk t (Aw ops.toList en σ0 (Al i)).env:=by
     intro t bx;refine Vh A z (λj y=>by have:=BL.1 y;omega) λj y af=>?_;have ax:=ah.2.1 t bx j y af;refine⟨ae j ax,BL.2 ?_⟩;have:∀i o,ops[i]?=some o->∀j∈anc.getD i [],j<i:=by
      intro i;induction i using Nat.strongRecOn with
      | _ i cc =>
       intro o B j y;rcases A.cl i o B j y with ad|⟨e,C,bl⟩
       ·exact A.lt i o B j ad
       ·have bg:=A.lt i o B e C;have bd:i<ops.size:=(UV.1 B).1;have:=cc e bg _ (iN (by omega)) j bl;omega
     exact this i o B j ax
    have bs:Ops ⟨(Aw ops.toList en σ0 (Al i)).env,B8 false (Gx o.op) σ0.objs (ES ops.toList en (Al i))⟩ (Aw ops.toList en σ0 ex) o.op.operands.toList:=by
     intro x ca v T;cases x with
     | tmp t =>
      simp only[Ak]at T ⊢;rw[bb t (by
       simp only[NK,No,AFh];exact .inl ⟨_,ca,rfl⟩)]
      exact T
     | const cm=>exact T
     | global g=>exact T
     | func f=>exact T
    have br:eH ⟨(Aw ops.toList en σ0 (Al i)).env,B8 false (Gx o.op) σ0.objs (ES ops.toList en (Al i))⟩ (Aw ops.toList en σ0 ex):=by
     intro n G hn;refine A1U H (λj y=>by have:=BL.1 y;omega) z (λj y ak=>?_) hn;have X:=BL.1 y;have R:ops[j]?=some (ops[j]'(by omega)):=iN (by omega);obtain⟨am,af⟩:=(A.front j _ R (by omega)).1;have aq:Ap ops.toList j=some am:=by simp[Ap,R,af]
     rw[aq]at ak;simp only[AFs,AF1,Af]at ak;refine ae j (ah.2.1 am ?_ j (by omega) aq);simp only[NK,No];exact .inl ak
    have ag:=hF i o M B;have E:Ko ops.toList (Aw ops.toList en σ0 ex) (en i).b o.guard:=by
     have E:=ag.g;cases ai:o.guard with
     | none=>rw[ai]at E;exact E
     | some g =>
      obtain⟨j,co⟩:=g;rw[ai]at E;simp only[Ko]at E ⊢;obtain⟨s,av,E⟩:=E;refine⟨s,av,?_⟩;rw[bb s (by
       simp only[NK,ai,No,av];exact .inr (by simp))]
      exact E
    have aa:=MH hs E;have bp:o∈ops.toList:=by grind
    have au:=Bx (bj o bp);have bc:∀I w',c.sat ((Aw ops.toList en σ0 ex).add (en i).v (en i).obs o.dst) I w'->wpAnyIn (FR c.r) 0 c.P .any ops Q m (listed.setIfInBounds i true) I w':=by
     intro I w' S;refine cb (i :: ex) _ I w' (aT.2 ⟨ba,N⟩) (λj y=>?_) (by simp;omega) (by simpa using Y) (λj y=>?_) (λi' G L aj e C=>?_) (by simp only[Aw,bh];exact S)
     ·rcases DO.1 y with rfl|y
      ·exact M
      ·exact z j y
     ·have bm:j<listed.size:=by omega
      by_cases X:j=i
      ·subst X;simp[Array.getD,bm]
      ·have ab:(listed.setIfInBounds i true).getD j true=listed.getD j true:=getD_set_ne true (λe=>X e.symm);rw[ab,J j y];simp[X]
     ·rcases DO.1 aj with rfl|aj
      ·rw[B]at L;cases L;exact OF _ (bi e C)
      ·exact OF _ (ap i' G L aj e C)
    unfold wpOpIn;rw[B];simp only;cases V:(en i).b with
    | true =>
     rw[V]at aa;rw[BY aa];obtain⟨cn,bt,bz,bk⟩:=ag.t V;obtain⟨ρ,be⟩:=hs;have bu:=Ue br bs bt;have aw:Bi (en i).obs (Aw ops.toList en σ0 ex)=true:=by
      simp only[Bi,Is]at bk ⊢;intro p hp;have bw:∃G,lk p.1 (en i).obs=some G:=by
       have:∀(l:List (Nat×Obj)),p∈l->∃G,lk p.1 l=some G:=by
        intro l;induction l with
        | nil=>intro h;cases h
        | cons q r ce =>
         intro h;obtain⟨cg,ch⟩:=q;simp only[lk];by_cases C:p.1=cg
         ·exact⟨ch,by rw[BY C]⟩
         ·rw[An C];rcases DO.1 h with rfl|h
          ·exact absurd rfl C
          ·exact ce h
       exact this _ hp
      obtain⟨G,L⟩:=bw;have:lk p.1 (Aw ops.toList en σ0 ex).objs=none:=by
       cases ay:lk p.1 (Aw ops.toList en σ0 ex).objs with
       | none=>rfl
       | some cf =>
        rw[E3 H z]at ay;rcases ay with ⟨j,y,W⟩|⟨_,W⟩
        ·have:=H.2 i j M (z j y) p.1 G cf L W;subst this;exact absurd y ba
        ·rw[H.1 i M p.1 G L]at W;cases W
      simp[this]
     exact pQ (A5j Z be) bu bz aw λu ρ' w' bv=>bc _ _ ⟨ρ',be.add Z.K Z.O au aw bv⟩
    | false =>
     rw[V]at aa;rw[An (by simp[aa])];refine⟨λ_ _=>trivial,?_⟩;have:=ag.f V;have ad:=NC Z hs au;refine bc _ _ ?_;rw[this.1,this.2];exact ad
end
theorem zC {c:Cx} {ops:Array Oper} {k:Nat} {σ0:St} {en:Nat->En} {Q:Exit->Act->World->Prop} (h:c.Ok) (I:∀o∈ops.toList,Hs c.nt o=true) (hF:∀j o,j<k->ops[j]?=some o->Vd c.tb ops.toList true σ0 en j o) (hk:k<=ops.size)
  {σ2:St} (E:∀s v,lk s σ2.env=some v->lk s (Aw ops.toList en σ0 (Al k)).env=some v) (F:σ2.objs=(Aw ops.toList en σ0 (Al k)).objs) (hT:∀d w',c.sat σ2 d w'->wpListIn (FR c.r) 0 c.P ops Q (ops.toList.drop k) d w'):∀(m i:Nat) (a:Act) (w:World),m+i=k->c.sat (Aw ops.toList en σ0 (Al i)) a w->wpListIn (FR c.r) 0 c.P ops Q (ops.toList.drop i) a w:=by
 intro m;induction m with
 | zero =>
  intro i a w hi hs;have:i=k:=by omega
  subst this;exact hT _ _ (Uf E (λ_=>by rw[F]) hs)
 | succ m U =>
  intro i a w hi hs;have q:ops[i]?=some (ops[i]'(by omega)):=iN (by omega);generalize ops[i]'(by omega)=o at q;have H:ops.toList.drop i=o :: ops.toList.drop (i+1):=by
   have:i<ops.toList.length:=by simp;omega
   rw[TO this];grind
  rw[H];have p:=hF i o (by omega) q;have n:=MH hs p.g;have J:o∈ops.toList:=by grind
  have y:=Bx (I o J);have T:Ap ops.toList i=o.dst:=by simp[Ap,q]
  have B:∀d w',c.sat ((Aw ops.toList en σ0 (Al i)).add (en i).v (en i).obs o.dst) d w'->wpListIn (FR c.r) 0 c.P ops Q (ops.toList.drop (i+1)) d w':=by grind [Al,Aw]
  unfold wpListIn;cases e:(en i).b with
  | true =>
   rw[e]at n;rw[BY n];obtain⟨S,A,R,z⟩:=p.t e;obtain⟨ρ,C⟩:=hs;have L:∀l:List Nat,B8 true (Gx o.op) σ0.objs (ES ops.toList en l)=(Aw ops.toList en σ0 l).objs:=by
    intro l;rw[Fm];induction l with
    | nil=>rfl
    | cons x r D=>simp only[ES,UQ,B8,Bool.true_or,AD1,AEF,UN]at D ⊢;rw[D]
   have M:aq c.tb (Aw ops.toList en σ0 (Al i)) (o.dst.getD 0) o.op=some (S,(en i).v,(en i).obs):=by
    rw[L]at A;exact A
   exact pQ (A5j h C) M R z λu ρ' w' N=>B _ _ ⟨ρ',C.add h.K h.O y z N⟩
  | false =>
   rw[e]at n;rw[An (by simp[n])];refine⟨λ_ _=>trivial,?_⟩;have:=p.f e;have G:=NC h hs y;refine B _ _ ?_;rw[this.1,this.2];exact G
theorem NL {tb:Tb} {ops:List Oper} {q:Bool} {base:List (Nat×Obj)} {rest:List Oper}:∀ {fr:List Oper} {i:Nat} {E:List (Nat×List (Nat×Obj))} {G:Gs} {σ σ':St} {vc:Prop},Lo tb ops q base rest fr i E G σ=some (vc,σ')->vc ->
  ∃(e f:Prop) (j:St),Lo tb ops q base [] fr i E G σ=some (e,j)/\e/\B1 tb ops rest j=some (f,σ')/\f
 | [],i,E,G,σ,σ',vc,h,k=>by grind [Lo,B1]
 | o :: r,i,E,G,σ,σ',vc,h,k=>by
  simp only[Lo]at h;cases l:H0 ops G σ.env i o.guard with
  | none=>rw[l]at h;simp[evMG]at h
  | some p =>
   obtain⟨c,T⟩:=p;rw[l]at h;simp only[evMG]at h;cases m:opM tb ops q base c G E σ.env o (H5 o.op) with
   | none=>rw[m]at h;cases c<;>simp[evMQ]at h
   | some x =>
    obtain⟨u,v,obs⟩:=x;rw[m]at h;cases c with
    | nil =>
     cases a:o.dst with
     | none=>rw[a]at h;simp[evMQ]at h
     | some d =>
      rw[a]at h;simp only[evMQ]at h;split at h
      ·rename_i hf;cases b:Lo tb ops q base rest r (i+1) (Jw d obs E) G (σ.add v obs (some d)) with
       | none=>rw[b]at h;simp[YL]at h
       | some y =>
        obtain⟨w,σ2⟩:=y;rw[b]at h;simp only[YL]at h;cases h;obtain⟨e,f,j,h1,n,s,t⟩:=NL b k.2;exact⟨u/\e,f,j,by simp only[Lo,l,evMG,m,a,evMQ,h1,YL];rw[BY hf],⟨k.1,n⟩,s,t⟩
      ·cases h
    | cons g c =>
     cases obs with
     | cons z A=>cases a:o.dst<;>rw[a]at h<;>simp[evMQ]at h
     | nil =>
      cases a:o.dst with
      | none=>rw[a]at h;simp[evMQ]at h
      | some d =>
       rw[a]at h;simp only[evMQ]at h;split at h
       ·rename_i hf;cases b:Lo tb ops q base rest r (i+1) E ((d,g :: c,T,v) :: G) σ with
        | none=>rw[b]at h;simp[YL]at h
        | some y =>
         obtain⟨w,σ2⟩:=y;rw[b]at h;simp only[YL]at h;cases h;obtain⟨e,f,j,h1,n,s,t⟩:=NL b k.2;exact⟨(T=true->u)/\e,f,j,by simp only[Lo,l,evMG,m,a,evMQ,h1,YL];rw[BY hf],⟨k.1,n⟩,s,t⟩
       ·cases h
theorem AAu {ops:List Oper} {q:Bool} {σ0:St} {en:Nat->En}:Inv ops q σ0 en 0 [] [] σ0 :=
 { env:=λ_ _ h=>h,G:=λs c T v h=>absurd h (by simp),f:=λj a=>absurd a (by omega),objs:=rfl,E:=λ_=>rfl }
section
variable {c:Cx} {R:Exit->Act->World->Prop} {k:List DZ} {σ σ':St}
def Ih (c:Cx) (R:Exit->Act->World->Prop) (k:List DZ) (ops:Array Oper) (l:List Oper) (σ:St):Prop :=
 (∀o∈l,Hs c.nt o=true)->DC c.nt k=true->∀a w,c.sat σ a w->wpListIn (FR c.r) 0 c.P ops (VY c R k) l a w
theorem A5n {ops:Array Oper} (h:Ev c R (.out .normal) k σ):Ih c R k ops [] σ:=λ_ b a w hs=>h rfl b a w hs
theorem QF (f:c.Ok) {ops:Array Oper} {l:List Oper} (n:Nat) {vc:Prop} (h:B1 c.tb ops.toList (l.take n) σ=some (vc,σ')) (i:vc) (hk:Ih c R k ops (l.drop n) σ'):Ih c R k ops l σ:=by
 intro h1 e a w hs;have:=Rj (r:=l.drop n) f (l.take n) hs (λo b=>h1 o (f6 b)) h i (λd w' g=>hk (λo b=>h1 o (AEc b)) e d w' g)
 rwa [AEn]at this
theorem fZ (z:c.P.follows .mixedOrders=true) (u:c.Ok) {id:Nat} {l:List Oper} (n:Nat) (d:LY l (l.take n).length=true) {vc:Prop}
  (h:Lo c.tb l false σ.objs [] (l.take n) 0 [] [] σ=some (vc,σ')) (C:vc) (hk:Ih c R k l.toArray (l.drop n) σ') :
  Ev c R (.run (.region id l.toArray true)) k σ:=by
 intro h1 r a w hs;simp only[Ht,Bz,Is]at h1;have d:=AAt (ops:=l.toArray) (k:=(l.take n).length) (anc:=A1S l) (by simpa only[LY] using d);have hu:lZ l (l.take n).length:=by
  intro x y D g;have m:y<l.length:=by simp at g;omega
  have A:l.toArray[y]?=some l[y]:=by simp[m]
  have:=(d.front y _ A g).2.2 x D;simpa[Ap,m] using this
 obtain⟨en,_,hF,F,σ2,f,E,s,t⟩:=Ro (ops:=l) (q:=false) (σ0:=σ) (en:=λ_=>⟨false,.top,[]⟩) hu h C AAu (by simp) (λj b=>by
  have b:j<(l.take n).length:=b;rw[ADK,US];simp only[ON]at b;rw[BY (by omega)])
 refine wpIn_region_any z ?_;have v:l.drop (l.take n).length=l.drop n:=by simp_all
 simp only[B1]at f;cases f;have:=zB (c:=c) (ops:=l.toArray) (k:=(l.take n).length) (σ0:=σ) (en:=en) (Q:=VY c R k) u d (by simpa using h1)
  (λj o b e=>hF j o (by omega) b (by simpa using e)) (σ2:=σ') s t (λp w' B=>by
   rw[show (l.toArray.toList.drop _)=l.drop n from v];exact hk (λo e=>h1 o (by simpa using AEc e)) r p w' B)
  l.toArray.size [] (Array.replicate l.toArray.size false) a { w with drawn:=w.drawn+1 } (by simp) (by simp) (by simp) (by simp) (λi hi=>by simp at hi;simp[Array.getD,hi]) (λi o _ hi=>by simp at hi) (fY hs)
 exact this
theorem l3 (r:c.Ok) {id:Nat} {l:List Oper} (n:Nat) (f:y9 l (l.take n).length=true) {vc:Prop}
  (h:Lo c.tb l true σ.objs [] (l.take n) 0 [] [] σ=some (vc,σ')) (u:vc) (hk:Ih c R k l.toArray (l.drop n) σ') :
  Ev c R (.run (.region id l.toArray false)) k σ:=by
 intro h1 i a w hs;simp only[Ht,Bz,Is]at h1;simp only[y9,AT,Is,UM,Fe]at f;have hu:lZ l (l.take n).length:=by
  intro x y z A;grind [Ap]
 obtain⟨en,_,hF,B,σ2,e,v,m,p⟩:=Ro (ops:=l) (q:=true) (σ0:=σ) (en:=λ_=>⟨false,.top,[]⟩) hu h u AAu (by simp) (λj b=>by
  have b:j<(l.take n).length:=b;rw[ADK,US];simp only[ON]at b;rw[BY (by omega)])
 have s:l.drop (l.take n).length=l.drop n:=by simp_all
 refine AEJ ?_;simp only[B1]at e;cases e;have:=zC (c:=c) (ops:=l.toArray) (k:=(l.take n).length) (σ0:=σ) (en:=en) (Q:=VY c R k) r (by simpa using h1)
  (λj o b d=>hF j o (by omega) b (by simpa using d)) (by simpa using f.1) (σ2:=σ') m p (λg w' t=>by
   rw[show (l.toArray.toList.drop _)=l.drop n from s];exact hk (λo d=>h1 o (by simpa using AEc d)) i g w' t)
  (l.take n).length 0 a w (by simp) hs
 exact this
theorem bK (e:c.Ok) {ops:Array Oper} {l:List Oper} {vc:Prop} (h:B1 c.tb ops.toList l σ=some (vc,σ')) (g:vc) (hk:Ev c R (.out .normal) k σ'):Ih c R k ops l σ:=by
 intro h1 d a w hs;exact Py e l hs h1 h g (λb w' f=>hk rfl d b w' f)
theorem f2 (e:c.P.follows .mixedOrders=true) (a:c.Ok) {id:Nat} {l:List Oper} (n:Nat) (d:LY l (l.take n).length=true) {vc:Prop}
  (h:Lo c.tb l false σ.objs (l.drop n) (l.take n) 0 [] [] σ=some (vc,σ')) (f:vc) (hk:Ev c R (.out .normal) k σ') :
  Ev c R (.run (.region id l.toArray true)) k σ:=by
 obtain⟨j,m,o,h1,g,b,i⟩:=NL h f;exact fZ e a n d h1 g (bK a b i hk)
theorem l4 (a:c.Ok) {id:Nat} {l:List Oper} (n:Nat) (d:y9 l (l.take n).length=true) {vc:Prop}
  (h:Lo c.tb l true σ.objs (l.drop n) (l.take n) 0 [] [] σ=some (vc,σ')) (e:vc) (hk:Ev c R (.out .normal) k σ') :
  Ev c R (.run (.region id l.toArray false)) k σ:=by
 obtain⟨i,j,m,h1,f,b,g⟩:=NL h e;exact l3 a n d h1 f (bK a b g hk)
theorem A1X (d:c.P.follows .mixedOrders=true) (a:c.Ok) {id:Nat} {l:List Oper} (b:LY l l.length=true) {vc:Prop}
  (h:Lo c.tb l false σ.objs [] l 0 [] [] σ=some (vc,σ')) (e:vc) (hk:Ev c R (.out .normal) k σ') :
  Ev c R (.run (.region id l.toArray true)) k σ :=
 f2 d a l.length (by rw[UE];exact b) (by rw[UE,AF4];exact h) e hk
theorem A1Y (m:Nat) (d:c.P.follows .mixedOrders=true) (a:c.Ok) {id:Nat} {l:List Oper} (b:LY l (l.take (l.length-m)).length=true) {vc:Prop}
  (h:Lo c.tb l false σ.objs (l.drop (l.length-m)) (l.take (l.length-m)) 0 [] [] σ=some (vc,σ')) (e:vc) (hk:Ev c R (.out .normal) k σ') :
  Ev c R (.run (.region id l.toArray true)) k σ:=f2 d a _ b h e hk
theorem l7 (a:c.Ok) {id:Nat} {l:List Oper} (b:y9 l l.length=true) {vc:Prop}
  (h:Lo c.tb l true σ.objs [] l 0 [] [] σ=some (vc,σ')) (d:vc) (hk:Ev c R (.out .normal) k σ') :
  Ev c R (.run (.region id l.toArray false)) k σ :=
 l4 a l.length (by rw[UE];exact b) (by rw[UE,AF4];exact h) d hk
theorem l8 (a:c.Ok) {id:Nat} {l:List Oper} (_:(l.all λo=>o.guard.isNone)=true) {vc:Prop} (h:B1 c.tb l l σ=some (vc,σ')) (b:vc) (hk:Ev c R (.out .normal) k σ') :
  Ev c R (.run (.region id l.toArray false)) k σ:=lU a h b hk
end
end
section
open Go Go.RowKit
theorem p6 {c:Cx} {σ b σ':St} (l:List Nat) (h:Ct l σ=b) (d:Ent c b σ'):Ent c σ σ':=by
 intro a w hs;obtain⟨ρ,hs⟩:=hs;exact d a w ⟨ρ,by rw[<-h];exact Kk hs⟩
theorem Jz {α:Type} (a b:List α):(a++b).take (a.length+b.length)=a++b:=As (by simp)
theorem QG {α:Type} (a b:List α):sub (a++b) 0 (a.length+b.length)=a++b:=by rw[Hz,Jz]
theorem Hf {α:Type} (a:List α) (x:α):(a++[x]).take (a.length+1)=a++[x]:=As (by simp)
theorem MJ {α:Type} (a:List α) (x:α):sub (a++[x]) 0 (a.length+1)=a++[x]:=by rw[Hz,Hf]
theorem A99 {P:Program} {tb:Tb} {w0:World} {O0:Nat->Prop} {nt:Nat} (c:(cx P tb w0 O0 nt).Ok) {fn:Func} {a:List RV} {σ:St} {e:Exit} (b:List ResultVar) (g:fn.results.toList=b) (f:e=.ret\/e=.normal) (hp:∀r∈a,∃t d,r=.p t d) (h:Nz tb σ b a) :
  Ev (cx P tb w0 O0 nt) (VZ P fn w0 O0 a) (.out e) [] σ:=A1P c f hp (by rw[g];exact h)
theorem f3:((0:Nat):Int)=0:=rfl
theorem f4 (k:Nat):((k+1:Nat):Int)=(k:Int)+1:=by omega
theorem AE {α:Type} (l:List α) (d:α) {k:Nat} (h:k<l.length):l.getD k d∈l:=by
 rw[AS,At h];exact nO h
theorem AG {P:Program} {ty:List (Nat×TI)} {b:List Nat} {ne:List (Nat×TypeId)} {a:List Nat}:Iv P ⟨ty,[],b,ne,a⟩:=λf sp h=>by simp[lk]at h
theorem AF {P:Program} {ty:List (Nat×TI)} {c:List Nat} {ne:List (Nat×TypeId)} {b:List Nat} {f:Nat} {sp:Aa} {r:List (Nat×Aa)} (h:Ab P f sp) (d:Iv P ⟨ty,r,c,ne,b⟩):Iv P ⟨ty,(f,sp) :: r,c,ne,b⟩:=λg i a=>by
 simp only[lk]at a;split at a
 ·rename_i e;cases a;rw[e];exact h
 ·exact d g i a
theorem J0 {α:Type} (x:α):[x].take 1=[x]:=rfl
theorem Az {α:Type} (l:List α) (d:α) {k:Nat} (h:k<l.length):l.take (k+1)=l.take k++[l.getD k d]:=by
 rw[List.take_add_one,AS,At h];rfl
theorem QH {α:Type} (l:List α) (q:Nat):sub l q l.length=l.drop q:=by
 unfold sub;rw[As (by simp)]
end
end Go.Proofs.YtapkhdkbkodbjaaGreat.Fw
