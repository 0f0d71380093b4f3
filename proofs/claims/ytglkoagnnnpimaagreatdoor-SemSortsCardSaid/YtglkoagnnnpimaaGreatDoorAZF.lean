/- Regions whose order Go leaves open: the rules. -/
import Derived.Test.YtglkoagnnnpimaaGreatDoorAZE
set_option linter.unusedVariables false
set_option linter.unusedSimpArgs false
namespace Go.Proofs.YtglkoagnnnpimaaGreatDoor.Fw
variable {k:Nat} {Z:Array Oper} {Y:Type} {X b:St} {w:World} {W:List (Nat×TypeId)} {V:List (Nat×TI)} {c:Cx} {P:Program} {a:Act} {U T:List Nat} {v:AV}
section
open Go Go.RowKit
def Di (o:Oper):List Nat:=(o.after.toList.filter (Region.binds .any)).map (·.on)
def Ag (ops:List Oper) (j:Nat):Option Nat:=(ops[j]?).bind (·.dst)
def Sx:Operand->Option Nat
 | .tmp t=>some t
 | _=>none
def Lj (ops:List Oper) (o:Oper):List Nat:=(o.op.operands.toList.filterMap Sx)++(match o.guard with|some (j,_)=>(Ag ops j).toList|none=>[])
def A5U (a b:List Nat):List Nat:=a.foldl (λr x=>if AY x r then r else x :: r) b
def sU (ops:List Oper):List (List Nat):=ops.foldl (λ(a:List (List Nat)) o=>a++[(Di o).foldl (λr e=>A5U (a.getD e []) (if AY e r then r else e :: r)) []]) []
def opB (ops:List Oper) (k:Nat) (anc:List (List Nat)) (i:Nat) (o:Oper):Bool :=
  (Di o).all (λe=>decide (e<i)) &&
  (anc.getD i []).all (λj=>AY j (Di o)||(Di o).any λe=>AY j (anc.getD e [])) &&
  (if i<k then o.dst.isSome&&((Lj ops o).all λt=>(List.range k).all λj=>Ag ops j != some t||AY j (anc.getD i []))&&((List.range i).all λj=>Ag ops j != o.dst)
   else (List.range i).all λj=>AY j (anc.getD i []))
def d6 (ops:List Oper) (k:Nat) (anc:List (List Nat)):Bool :=
 decide (k<=ops.length)&&(List.range ops.length).all λi=>match ops[i]? with|some o=>opB ops k anc i o|none=>false
def Ke (ops:List Oper) (k:Nat):Bool:=d6 ops k (sU ops)
def nL (ops:List Oper) (k:Nat):Bool :=
 decide (k<=ops.length)&&(List.range k).all λi=>match ops[i]? with|some o=>o.dst.isSome&&((List.range i).all λj=>Ag ops j != o.dst)|none=>false
def B4 (q:Bool) (ts:List Nat) (base:List (Nat×Obj)):List (Nat×List (Nat×Obj))->List (Nat×Obj)
 | []=>base
 | (s,obs) :: r=>if (q||AY s ts)=true then obs++B4 q ts base r else B4 q ts base r
def Gf (o:Op):List Nat:=o.operands.toList.filterMap Sx
def MK (q:Bool) (o:Op) (base:List (Nat×Obj)):List (Nat×List (Nat×Obj))->List (Nat×Obj)
 | []=>base
 | e :: r=>B4 q (Gf o) base (e :: r)
def Jt (d:Nat) (obs:List (Nat×Obj)) (E:List (Nat×List (Nat×Obj))):List (Nat×List (Nat×Obj)) :=
 match obs with
 | []=>E
 | x :: r=>(d,x :: r) :: E
abbrev Ch:=List (Nat×Bool)
abbrev Gs:=List (Nat×(Ch×Bool×AV))
def Mp:Ch->Ch->Bool
 | [],[]=>true
 | (j,w) :: r,(a,w') :: b=>(j==a)&&(w==w')&&Mp r b
 | [],_ :: _=>false
 | _ :: _,[]=>false
theorem Nz:Mp [] []=true:=rfl
theorem Ro (x:Nat×Bool) (r:Ch):Mp [] (x :: r)=false:=rfl
theorem Rp (x:Nat×Bool) (r:Ch):Mp (x :: r) []=false:=rfl
theorem Lk (j a:Nat) (w w':Bool) (r b:Ch):Mp ((j,w) :: r) ((a,w') :: b)=(decide (j=a)&&(w==w')&&Mp r b):=by grind [Mp]
def Sy (a:Ch):Ch->Bool
 | []=>Mp a []
 | k :: r=>Mp a (k :: r)||Sy a r
def Ju (c:Ch):Gs->List (Nat×AV)->List (Nat×AV)
 | [],env=>env
 | (s,a,_,v) :: G,env=>if Sy a c=true then (s,v) :: Ju c G env else Ju c G env
def Ll (j:Nat) (a:Bool):Option (Ch×Bool×AV)->Option AV->Option (Ch×Bool)
 | some (c,T,.p .bool b),_=>some ((j,a) :: c,T&&(b==a))
 | none,some (.p .bool b)=>some ([(j,a)],b==a)
 | _,_=>none
def JK (G:Gs) (env:List (Nat×AV)) (j:Nat) (a:Bool):Option Nat->Option (Ch×Bool)
 | some s=>Ll j a (lk s G) (lk s env)
 | none=>none
def H9 (ops:List Oper) (G:Gs) (env:List (Nat×AV)) (i:Nat):Option (Nat×Bool)->Option (Ch×Bool)
 | none=>some ([],true)
 | some (j,a)=>if j<i then JK G env j a (Ag ops j) else none
def PT (ops:List Oper) (c:Ch) (s:Nat) (w:Bool):Option (Ch×Bool×AV)->Option AV->Option AV
 | some (a,_,v),_=>if Sy a c=true then some v else match a with
  | []=>none
  | (j,w') :: r=>if w'=w/\Ag ops j=some s/\Mp r c=true then some v else none
 | none,x=>x
def Kg (ops:List Oper) (c:Ch) (G:Gs) (env:List (Nat×AV)) (s:Nat) (w:Bool):Operand->Option AV
 | .tmp t=>PT ops c s w (lk t G) (lk t env)
 | .const v=>some (Hf v)
 | .func _=>none
 | .global _=>none
def PU:Option AV->Option AV->Option AV->BT
 | some (.p .bool b),some (.p .bool p),some (.p .bool q)=>some (True,.p .bool (bif b then p else q),[])
 | _,_,_=>none
def N0 (ops:List Oper) (c:Ch) (G:Gs) (env:List (Nat×AV)):Operand->Operand->Operand->BT
 | .tmp s,x,y=>PU (lk s (Ju c G env)) (Kg ops c G env s true x) (Kg ops c G env s false y)
 | .const _,_,_=>none
 | .func _,_,_=>none
 | .global _,_,_=>none
def IA:Op->Option (Operand×Operand×Operand)
 | .pick s x y=>some (s,x,y)
 | _=>none
def opM (tb:Tb) (ops:List Oper) (q:Bool) (base:List (Nat×Obj)) (c:Ch) (G:Gs) (E:List (Nat×List (Nat×Obj))) (env:List (Nat×AV)) (o:Oper):Option (Operand×Operand×Operand)->BT
 | some (s,x,y)=>N0 ops c G env s x y
 | none=>aq tb ⟨Ju c G env,MK q o.op base E⟩ (o.dst.getD 0) o.op
mutual
def Kh (tb:Tb) (ops:List Oper) (q:Bool) (base:List (Nat×Obj)) (rest:List Oper):List Oper->Nat->List (Nat×List (Nat×Obj))->Gs->St->Cp
 | [],_,_,_,σ=>Bt tb ops rest σ
 | o :: r,i,E,G,σ=>evMG tb ops q base rest o r i E G σ (H9 ops G σ.env i o.guard)
def evMG (tb:Tb) (ops:List Oper) (q:Bool) (base:List (Nat×Obj)) (rest:List Oper) (o:Oper) (r:List Oper) (i:Nat) (E:List (Nat×List (Nat×Obj))) (G:Gs) (σ:St):Option (Ch×Bool)->Cp
 | some (c,T)=>evMQ tb ops q base rest o.dst r i E G σ c T (opM tb ops q base c G E σ.env o (IA o.op))
 | none=>none
def evMQ (tb:Tb) (ops:List Oper) (q:Bool) (base:List (Nat×Obj)) (rest:List Oper) (dst:Option Nat) (r:List Oper) (i:Nat) (E:List (Nat×List (Nat×Obj))) (G:Gs) (σ:St):Ch->Bool->BT->Cp
 | [],_,some (vc,v,obs)=>match dst with
  | some d=>if Bb obs σ=true then VR vc (Kh tb ops q base rest r (i+1) (Jt d obs E) G (σ.add v obs (some d))) else none
  | none=>none
 | g :: c,T,some (vc,v,[])=>match dst with
  | some d=>if (lk d σ.env).isNone=true then VR (T=true->vc) (Kh tb ops q base rest r (i+1) E ((d,g :: c,T,v) :: G) σ) else none
  | none=>none
 | _,_,_=>none
end
structure En where
 b:Bool
 v:AV
 obs:List (Nat×Obj)
def Ao (ops:List Oper) (en:Nat->En) (σ:St):List Nat->St
 | []=>σ
 | i :: r=>(Ao ops en σ r).add (en i).v (en i).obs (Ag ops i)
def Ae:Nat->List Nat
 | 0=>[]
 | i+1=>i :: Ae i
end
section
open Go Go.RowKit
section
variable {tb:Tb} {ops:List Oper} {k:Nat} {q:Bool} {anc:List (List Nat)} {σ0:St} {en:Nat->En}
def ES (ops:List Oper) (en:Nat->En) (l:List Nat):List (Nat×List (Nat×Obj)):=l.map λj=>((Ag ops j).getD 0,(en j).obs)
def JL (ops:List Oper) (σ:St) (b:Bool):Option (Nat×Bool)->Prop
 | none=>b=true
 | some (j,a)=>∃s,Ag ops j=some s/\((∃x,lk s σ.env=some (.p .bool x)/\b=(x==a))\/(lk s σ.env=some (.raw undef)/\b=false))
structure Sz (tb:Tb) (ops:List Oper) (q:Bool) (σ0:St) (en:Nat->En) (i:Nat) (o:Oper):Prop where
 g:JL ops (Ao ops en σ0 (Ae i)) (en i).b o.guard
 t:(en i).b=true->∃vc:Prop,aq tb ⟨(Ao ops en σ0 (Ae i)).env,B4 q (Gf o.op) σ0.objs (ES ops en (Ae i))⟩ (o.dst.getD 0) o.op=some (vc,(en i).v,(en i).obs)/\vc/\Bb (en i).obs (Ao ops en σ0 (Ae i))=true
 f:(en i).b=false->(en i).v=.raw undef/\(en i).obs=[]
theorem JM {a:Nat->En}:∀ {l:List Nat},(∀j∈l,a j=en j)->Ao ops a σ0 l=Ao ops en σ0 l
 | [],_=>rfl
 | i :: r,h=>by
  simp only[Ao];rw[JM (λj b=>h j (by simp[b])),h i sc]
theorem BI {i j:Nat}:j∈Ae i↔j<i:=by
 induction i with
 | zero=>simp[Ae]
 | succ i a=>simp[Ae,a];omega
theorem Ex:∀(l:List Nat),(Ao ops en σ0 l).objs=(l.flatMap λj=>(en j).obs)++σ0.objs
 | []=>rfl
 | i :: r=>by
  simp only[Ao,ABw,AA5];rw[<-Ex r];cases Ag ops i<;>rfl
theorem Ey (s:Nat):∀(l:List Nat),lk s (Ao ops en σ0 l).env=match l.find? (λj=>Ag ops j==some s) with|some j=>some (en j).v|none=>lk s σ0.env
 | []=>rfl
 | i :: r=>by
  simp only[Ao,List.find?_cons];cases a:Ag ops i with
  | none =>
   simp only[St.add];rw[Ey s r];have:((none:Option Nat)==some s)=false:=rfl;rw[this]
  | some d =>
   simp only[St.add,lk];by_cases hs:s=d
   .subst hs;simp
   have h1:((some d:Option Nat)==some s)=false:=by
    have:d≠s:=λe=>hs e.symm;simpa using this
   rw[As hs,Ey s r,h1]
theorem jS {n:Nat} {o:Obj} {l:List Nat} (h:lk n (l.flatMap λj=>(en j).obs)=some o):∃j∈l,lk n (en j).obs=some o:=by
 induction l with
 | nil=>simp[lk]at h
 | cons i r d =>
  rw[ABw,A5]at h;cases a:lk n (en i).obs with
  | some e =>
   rw[a]at h;exact⟨i,by simp,by rw[a];simpa using h⟩
  | none =>
   rw[a]at h;obtain⟨j,b,c⟩:=d (by simpa using h);exact⟨j,by simp[b],c⟩
theorem JN {n:Nat} {l:List Nat} (h:lk n (l.flatMap λj=>(en j).obs)=none):∀j∈l,lk n (en j).obs=none:=by
 induction l with
 | nil=>simp
 | cons i r c =>
  rw[ABw,A5]at h;cases a:lk n (en i).obs with
  | some d=>rw[a]at h;simp at h
  | none =>
   rw[a]at h;intro j b;rcases BY.1 b with rfl|b
   .exact a
   grind
def Sep (σ0:St) (en:Nat->En) (k:Nat):Prop :=
 (∀j,j<k->∀n o,lk n (en j).obs=some o->lk n σ0.objs=none)/\∀i j,i<k->j<k->∀n o a,lk n (en i).obs=some o->lk n (en j).obs=some a->i=j
theorem EK (g:Sep σ0 en k) {l:List Nat} (c:∀j∈l,j<k) (n:Nat) (o:Obj):lk n (Ao ops en σ0 l).objs=some o↔(∃j∈l,lk n (en j).obs=some o)\/((∀j∈l,lk n (en j).obs=none)/\lk n σ0.objs=some o):=by
 rw[Ex,A5];cases h:lk n (l.flatMap λj=>(en j).obs) with
 | some i =>
  obtain⟨j,b,a⟩:=jS h;simp only[ACj];constructor
  .grind
  rintro (⟨d,e,f⟩|⟨h1,_⟩)
  .have:=g.2 j d (c j b) (c d e) n i o a f;grind
  rw[h1 j b]at a;cases a
 | none =>
  have hn:=JN h;simp only[Option.none_or];constructor
  .grind
  grind
theorem sV (f:Sep σ0 en k) {ts:List Nat} {l l':List Nat} (m:∀j∈l,j<k) (e:∀j∈l',j<k) (d:∀j∈l,(q||AY ((Ag ops j).getD 0) ts)=true->j∈l') {n:Nat} {o:Obj} :
  lk n (B4 q ts σ0.objs (ES ops en l))=some o->lk n (Ao ops en σ0 l').objs=some o:=by
 rw[EK f e];induction l with
 | nil =>
  simp only[ES,ABG,B4];intro h;refine .inr ⟨λj b=>?_,h⟩;cases a:lk n (en j).obs with
  | none=>rfl
  | some g=>have:=f.1 j (e j b) n g a;rw[this]at h;cases h
 | cons i r c =>
  simp only[ES,AA2,B4];have c:=c (λj b=>m j (by simp[b])) (λj b=>d j (by simp[b]));split
  .rename_i p;intro h;rw[A5]at h;cases a:lk n (en i).obs with
   | some g =>
    rw[a]at h;simp only[ACj]at h;cases h;exact .inl ⟨i,d i sc p,a⟩
   | none =>
    rw[a]at h;exact c (by simpa[ES] using h)
  exact c
theorem N1:∀ {a b:Ch},Mp a b=true↔a=b
 | [],[]=>by simp[Mp]
 | (j,w) :: r,(d,w') :: c=>by simp[Mp,N1 (a:=r) (b:=c),and_assoc]
 | [],_ :: _=>by simp[Mp]
 | _ :: _,[]=>by simp[Mp]
def bv:AV->Bool
 | .p .bool b=>b
 | _=>false
def tr (en:Nat->En):Ch->Bool
 | []=>true
 | (j,w) :: r=>tr en r&&(bv (en j).v==w)
theorem S0 {a:Nat->En}:∀ {c:Ch},(∀k∈c,a k.1=en k.1)->tr a c=tr en c
 | [],_=>rfl
 | (j,w) :: r,h=>by
  have h1:=h (j,w) sc;simp only at h1;simp only[tr];rw[S0 (λk hk=>h k (by simp[hk])),h1]
theorem d7 {b:Ch}:∀ {c:Ch},Sy b c=true->tr en c=true->tr en b=true
 | [],h,a=>by simp only[Sy,N1]at h;rw[h];exact a
 | k :: r,h,a=>by
  simp only[Sy,qY,N1]at h;rcases h with rfl|h
  .exact a
  obtain⟨j,w⟩:=k;simp only[tr,AT]at a;exact d7 h a.1
structure Inv (ops:List Oper) (q:Bool) (σ0:St) (en:Nat->En) (i:Nat) (E:List (Nat×List (Nat×Obj))) (G:Gs) (σ:St):Prop where
 env:∀s v,lk s σ.env=some v->lk s (Ao ops en σ0 (Ae i)).env=some v
 G:∀s c T v,(s,c,T,v)∈G->T=tr en c/\(T=true->lk s (Ao ops en σ0 (Ae i)).env=some v)/\(∀k∈c,k.1<i)/\∃j,j<i/\Ag ops j=some s/\(en j).b=T
 f:∀j,j<i->(en j).b=false->(en j).v=.raw undef
 objs:σ.objs=(Ao ops en σ0 (Ae i)).objs
 E:∀ts,B4 q ts σ0.objs E=B4 q ts σ0.objs (ES ops en (Ae i))
def d8 (ops:List Oper) (k:Nat):Prop:=∀a b,a<b->b<k->Ag ops a≠Ag ops b
theorem Vy (hu:d8 ops k) {i j s:Nat} (d:i<=k) (c:j<i) (b:Ag ops j=some s):lk s (Ao ops en σ0 (Ae i)).env=some (en j).v:=by
 rw[Ey];have:(Ae i).find? (λj=>Ag ops j==some s)=some j:=by
  cases hf:(Ae i).find? (λj=>Ag ops j==some s) with
  | none =>
   have:=ACf.1 hf j (BI.2 c);simp[b]at this
  | some x =>
   have h1:=BI.1 (ABz hf);have a:=ACw hf;have a:Ag ops x=some s:=by simpa using a
   rcases ABQ x j with h|h|h
   .exact absurd (a.trans b.symm) (hu x j h O1)
   .rw[h]
   exact absurd (b.trans a.symm) (hu j x h O1)
 rw[this]
theorem PW {c:Ch} {s:Nat} {v:AV} {env:List (Nat×AV)}:∀ {G:Gs},lk s (Ju c G env)=some v->(∃b T,(s,b,T,v)∈G/\Sy b c=true)\/lk s env=some v
 | [],h=>.inr h
 | (e,b,T,f) :: G,h=>by
  simp only[Ju]at h;split at h
  .rename_i hs;simp only[lk]at h;split at h
   .grind
   rcases PW h with ⟨c2,T2,d,a⟩|a
   .grind
   exact .inr a
  rcases PW h with ⟨c2,T2,d,a⟩|a
  .grind
  exact .inr a
section
variable {i:Nat} {E:List (Nat×List (Nat×Obj))} {G:Gs} {σ:St}
theorem ZY (a:Inv ops q σ0 en i E G σ) {c:Ch} (f:tr en c=true) {s:Nat} (h:lk s (Ju c G σ.env)=some v):lk s (Ao ops en σ0 (Ae i)).env=some v:=by
 rcases PW h with ⟨b,T,d,hs⟩|h
 .obtain⟨h1,e,_⟩:=a.G s b T v d;grind [d7]
 exact a.env s v h
theorem nM (m:Inv ops q σ0 en i E G σ) (hu:d8 ops k) (v:i<=k) {g:Option (Nat×Bool)} {c:Ch} {T:Bool} (h:H9 ops G σ.env i g=some (c,T)) :
  JL ops (Ao ops en σ0 (Ae i)) T g/\T=tr en c/\(∀k∈c,k.1<i):=by
 cases g with
 | none =>
  simp only[H9]at h;cases h;exact⟨rfl,rfl,by simp⟩
 | some g =>
  obtain⟨j,z⟩:=g;simp only[H9]at h;split at h
  .rename_i r;cases d:Ag ops j with
   | none=>rw[d]at h;simp[JK]at h
   | some s =>
    rw[d]at h;simp only[JK]at h;have e:=Vy (en:=en) (σ0:=σ0) hu v r d;unfold Ll at h;split at h
    .rename_i c0 o b n;cases h;obtain⟨h1,t,x,l,y,p,u⟩:=m.G s c0 o _ (Eo n);cases hT:o with
     | true =>
      have a:=t hT;rw[e]at a;injection a with a
      refine⟨⟨s,d,.inl ⟨b,by rw[e,a],by simp⟩⟩,?_,?_⟩
      .grind [tr,bv]
      grind
     | false =>
      have w:l=j:=by
       rcases ABQ l j with h|h|h
       .exact absurd (p.trans d.symm) (hu l j h O1)
       .exact h
       exact absurd (d.trans p.symm) (hu j l h O1)
      subst w;have a:=m.f l r (by rw[u,hT]);refine⟨⟨s,d,.inr ⟨by rw[e,a],by simp⟩⟩,?_,?_⟩
      .grind [tr]
      grind
    .rename_i b _ n;cases h;have a:=m.env s _ n;rw[e]at a;injection a with a
     refine⟨⟨s,d,.inl ⟨b,by rw[e,a],rfl⟩⟩,by simp[tr,a,bv],?_⟩;grind
    cases h
  cases h
theorem ZZ (d:Inv ops q σ0 en i E G σ) (hu:d8 ops k) (o:i<=k) {c:Ch} (z:tr en c=true) {s:Nat} {w:Bool} (hs:lk s (Ao ops en σ0 (Ae i)).env=some (.p .bool w)) {x:Operand} 
  (h:Kg ops c G σ.env s w x=some v) {objs:List (Nat×Obj)}:Ab ⟨(Ao ops en σ0 (Ae i)).env,objs⟩ x=some v:=by
 cases x with
 | const x=>simp only[Kg]at h;exact h
 | func f=>simp[Kg]at h
 | global g=>simp[Kg]at h
 | tmp t =>
  simp only[Kg]at h;simp only[Ab];cases a:lk t G with
  | none =>
   rw[a]at h;exact d.env t v h
  | some e =>
   obtain⟨b,T,u⟩:=e;rw[a]at h;simp only[PT]at h;obtain⟨h1,y,m,_⟩:=d.G t b T u (Eo a);split at h
   .grind [d7]
   cases b with
   | nil=>cases h
   | cons p r =>
    obtain⟨j,w'⟩:=p;simp only at h;split at h
    .rename_i hh;obtain⟨rfl,n,l⟩:=hh;rw[N1]at l;subst l;cases h;have A:=Vy (en:=en) (σ0:=σ0) hu o (m (j,w') sc) n;grind [tr,bv]
    cases h
theorem A3O (a:Inv ops q σ0 en i E G σ) (hu:d8 ops k) (l:i<=k) {c:Ch} (d:tr en c=true) {o:Oper} {vc:Prop} {obs:List (Nat×Obj)} (h:opM tb ops q σ0.objs c G E σ.env o (IA o.op)=some (vc,v,obs)) (A:vc) :
  ∃m:Prop,aq tb ⟨(Ao ops en σ0 (Ae i)).env,B4 q (Gf o.op) σ0.objs (ES ops en (Ae i))⟩ (o.dst.getD 0) o.op=some (m,v,obs)/\m:=by
 cases j:IA o.op with
 | none =>
  rw[j]at h;simp only[opM]at h;refine⟨vc,Rn (σ:=⟨Ju c G σ.env,MK q o.op σ0.objs E⟩) ?_ ?_ h,A⟩
  .intro n x hn;have:MK q o.op σ0.objs E=B4 q (Gf o.op) σ0.objs E:=by cases E<;>rfl
   simp only at hn ⊢;rw[this,a.E]at hn;exact hn
  intro x _ v e;cases x with
  | tmp t=>exact ZY a d e
  | const B=>exact e
  | global g=>exact e
  | func f=>exact e
 | some p =>
  obtain⟨s,x,y⟩:=p;rw[j]at h;have z:o.op=.pick s x y:=by
   unfold IA at j;grind
  simp only[opM]at h;rw[z];cases s with
  | const _=>simp[N0]at h
  | func _=>simp[N0]at h
  | global _=>simp[N0]at h
  | tmp s =>
   simp only[N0]at h;unfold PU at h;split at h
   .rename_i b p r h1 u w;cases h;have hs:=ZY a d h1;refine⟨True,?_,trivial⟩;have h0:Ab ⟨(Ao ops en σ0 (Ae i)).env,B4 q (Gf (Op.pick (.tmp s) x y)) σ0.objs (ES ops en (Ae i))⟩ (.tmp s)=some (.p .bool b):=hs;simp only[aq];rw[h0];cases b with
    | true =>
     simp only[KE];rw[ZZ a hu l d hs u];rfl
    | false =>
     simp only[KE];rw[ZZ a hu l d hs w];rfl
   cases h
end
theorem PX {rest:List Oper} (hu:d8 ops k):∀ {fr:List Oper} {i:Nat} {E:List (Nat×List (Nat×Obj))} {G:Gs} {σ σ':St} {en:Nat->En} {vc:Prop},Kh tb ops q σ0.objs rest fr i E G σ=some (vc,σ')->vc->Inv ops q σ0 en i E G σ->i+fr.length=k->(∀j,j<fr.length->ops[i+j]?=fr[j]?) ->
  ∃l:Nat->En,(∀j,j<i->l j=en j)/\(∀j o,i<=j->j<k->ops[j]?=some o->Sz tb ops q σ0 l j o) /\
   ∃(D:Prop) (σ2:St),Bt tb ops rest σ2=some (D,σ')/\D/\(∀s v,lk s σ2.env=some v->lk s (Ao ops l σ0 (Ae k)).env=some v)/\σ2.objs=(Ao ops l σ0 (Ae k)).objs
 | [],i,E,G,σ,σ',en,vc,h,H,n,hk,_=>by
  simp only[Kh]at h;simp at hk;subst hk;exact⟨en,λ_ _=>rfl,λj o h1 P=>by omega,vc,σ,h,H,n.env,n.objs⟩
 | o :: r,i,E,G,σ,σ',en,vc,h,H,n,hk,al=>by
  have aj:ops[i]?=some o:=by simpa using al 0 sc
  have Q:Ag ops i=o.dst:=by simp[Ag,aj]
  have U:i<k:=by simp at hk;omega
  simp only[Kh]at h;cases S:H9 ops G σ.env i o.guard with
  | none=>rw[S]at h;simp[evMG]at h
  | some ap =>
   obtain⟨c,T⟩:=ap;obtain⟨be,hT,ab⟩:=nM n hu (Nat.le_of_lt U) S;rw[S]at h;simp only[evMG]at h;cases W:opM tb ops q σ0.objs c G E σ.env o (IA o.op) with
   | none =>
    rw[W]at h;unfold evMQ at h;split at h
    .rename_i R;cases R
    .rename_i R;cases R
    cases h
   | some bl =>
    obtain⟨bm,v,obs⟩:=bl;rw[W]at h;have ao:∀(d:Nat) (e:En) (L:List (Nat×List (Nat×Obj))) (M:Gs) (K:St) (F:Prop),o.dst=some d->e.b=T->(T=true->bm/\e.v=v/\e.obs=obs/\Bb obs σ=true)->(T=false->e.v=.raw undef/\e.obs=[]) ->
      (∀s a,lk s K.env=some a->if s=d then a=e.v else lk s σ.env=some a)->K.objs=e.obs++σ.objs ->
      (∀s w B a,(s,w,B,a)∈M->(s,w,B,a)∈G\/(s=d/\w=c/\B=T/\a=v))->(∀ts,B4 q ts σ0.objs L=B4 q ts σ0.objs ((d,e.obs) :: E)) ->
      Kh tb ops q σ0.objs rest r (i+1) L M K=some (F,σ')->F ->
      ∃l:Nat->En,(∀j,j<i->l j=en j)/\(∀j o,i<=j->j<k->ops[j]?=some o->Sz tb ops q σ0 l j o) /\
       ∃(D:Prop) (σ2:St),Bt tb ops rest σ2=some (D,σ')/\D/\(∀s v,lk s σ2.env=some v->lk s (Ao ops l σ0 (Ae k)).env=some v)/\σ2.objs=(Ao ops l σ0 (Ae k)).objs:=by
     intro d e L M K F t I af ae bb bf hG au bc bk
     let u:Nat->En:=λj=>if j=i then e else en j
     have O:u i=e:=by simp[u]
     have heq:∀j,j<i->u j=en j:=λj z=>by simp[u,show j≠i by omega]
     have az:Ao ops u σ0 (Ae i)=Ao ops en σ0 (Ae i):=JM λj z=>heq j (BI.1 z);have Z:ES ops u (Ae i)=ES ops en (Ae i):=by
      apply AAb;grind [BI]
     have ba:Ao ops u σ0 (Ae (i+1))=(Ao ops en σ0 (Ae i)).add e.v e.obs (some d):=by grind [Ae,Ao]
     have ak:∀s a,s≠d->lk s (Ao ops en σ0 (Ae i)).env=some a->lk s (Ao ops u σ0 (Ae (i+1))).env=some a:=by grind [St.add,lk]
     have ag:lk d (Ao ops u σ0 (Ae (i+1))).env=some e.v:=by grind [St.add,lk]
     have aw:Inv ops q σ0 u (i+1) L M K:=by
      refine⟨λs a A=>?_,λs w B a p=>?_,λj z m=>?_,?_,λts=>?_⟩
      .have:=bb s a A;split at this
       .rename_i hs;rw[hs,this];exact ag
       rename_i hs;exact ak s a hs (n.env s a this)
      .rcases hG s w B a p with p|⟨rfl,rfl,rfl,rfl⟩
       .obtain⟨h1,P,N,j,z,ad,m⟩:=n.G s w B a p;have bg:s≠d:=by
         rintro rfl;exact hu j i z U (by rw[ad,Q,t])
        refine⟨by rw[S0 (en:=en) λk hk=>heq _ (N k hk)];exact h1,λhT=>ak s a bg (P hT),λk hk=>by have:=N k hk;omega,j,by omega,ad,by rw[heq j z];exact m⟩
       refine⟨by rw[S0 (en:=en) λk hk=>heq _ (ab k hk)];exact hT,λax=>?_,λk hk=>by have:=ab k hk;omega,i,by omega,by rw[Q,t],by rw[O];exact I⟩;rw[ag,(af ax).2.1]
      .by_cases V:j=i
       .subst V;rw[O]at m ⊢;exact(ae (by rw[<-I];exact m)).1
       rw[heq j O1]at m ⊢;exact n.f j O1 m
      .rw[ba,bf,n.objs];rfl
      rw[au];simp only[ES,Ae,AA2,O,Q,t,ABZ,B4];have:=n.E ts;rw[<-Z]at this;simp only[ES]at this;rw[this]
     obtain⟨l,h1,P,N⟩:=PX hu bc bk aw (by simp at hk ⊢;omega) (λj z=>by
      have:=al (j+1) (by simp;omega);rw[show i+(j+1)=i+1+j by omega]at this;simpa using this)
     refine⟨l,λj z=>by rw[h1 j O1,heq j z],λj bp bn bo ai=>?_,N⟩;by_cases V:j=i
     .subst V;rw[aj]at ai;cases ai;have J:l j=e:=by rw[h1 j O1,O]
      have aa:Ao ops l σ0 (Ae j)=Ao ops en σ0 (Ae j):=by
       rw[<-az];exact JM λq X=>h1 q (by have:=BI.1 X;omega)
      have av:ES ops l (Ae j)=ES ops en (Ae j):=by
       rw[<-Z];apply AAb;intro q X;rw[h1 q (by have:=BI.1 X;omega)]
      refine⟨by rw[aa,J,I];exact be,λm=>?_,λm=>?_⟩
      .rw[J,I]at m;obtain⟨bh,bi,bj,an⟩:=af m;obtain⟨D,aq,ar⟩:=A3O n hu (Nat.le_of_lt U) (by rw[<-hT];exact m) W bh;rw[J,aa,av,bi,bj];exact⟨D,aq,ar,by
        simp only[Bb]at an ⊢;rw[<-n.objs];exact an⟩
      rw[J,I]at m;rw[J];exact ae m
     grind
    cases c with
    | nil =>
     cases t:o.dst with
     | none=>rw[t]at h;simp[evMQ]at h
     | some d =>
      rw[t]at h;simp only[evMQ]at h;split at h
      .rename_i bd;cases C:Kh tb ops q σ0.objs rest r (i+1) (Jt d obs E) G (σ.add v obs (some d)) with
       | none=>rw[C]at h;simp[VR]at h
       | some Y =>
        obtain⟨F,σ2⟩:=Y;rw[C]at h;simp only[VR]at h;cases h;have ay:T=true:=by rw[hT];rfl
        refine ao d ⟨T,v,obs⟩ _ _ _ F t rfl (λ_=>⟨H.1,rfl,rfl,bd⟩) (λhf=>by rw[ay]at hf;cases hf) (λs a A=>?_) rfl (λs w B a p=>.inl p) (λts=>?_) C H.2
        .simp only[St.add,lk]at A;split at A
         .rename_i hs;cases A;simp[hs]
         rename_i hs;rw[As hs];exact A
        cases obs with
        | nil=>simp[Jt,B4]
        | cons x y=>rfl
      cases h
    | cons g w =>
     cases obs with
     | cons x y=>simp[evMQ]at h
     | nil =>
      cases t:o.dst with
      | none=>rw[t]at h;simp[evMQ]at h
      | some d =>
       rw[t]at h;simp only[evMQ]at h;split at h
       .rename_i ah;cases C:Kh tb ops q σ0.objs rest r (i+1) E ((d,g :: w,T,v) :: G) σ with
        | none=>rw[C]at h;simp[VR]at h
        | some Y =>
         obtain⟨F,σ2⟩:=Y;rw[C]at h;simp only[VR]at h;cases h;refine ao d ⟨T,bif T then v else .raw undef,[]⟩ _ _ _ F t rfl (λam=>⟨H.1 am,by simp[am],rfl,by simp[Bb]⟩) (λhf=>⟨by simp[hf],rfl⟩) (λs a A=>?_) rfl (λs c2 B a p=>?_) (λts=>?_) C H.2
         .have:s≠d:=by
           rintro rfl;rw[A]at ah;cases ah
          rw[As this];exact A
         .rcases BY.1 p with p|p
          .cases p;exact .inr ⟨rfl,rfl,rfl,rfl⟩
          exact .inl p
         simp[B4]
       cases h
end
section
variable {c:Cx} {ops:Array Oper} {k:Nat} {anc:List (List Nat)} {σ0 σ':St} {en:Nat->En} {Q:Exit->Act->World->Prop}
theorem sW {o:Oper} {e:Edge} (b:e∈o.after) (a:Region.binds .any e=true):e.on∈Di o:=by grind [Di]
theorem DL {listed:Array Bool} {i:Nat}:i∈Region.ready .any ops listed↔listed.getD i true=false/\∃o,ops[i]?=some o/\∀e∈Di o,listed.getD e false=true:=by
 rw[mem_ready];grind [Di,sW]
structure Vz (ops:Array Oper) (k:Nat) (anc:List (List Nat)):Prop where
 lt:∀i o,ops[i]?=some o->∀e∈Di o,e<i
 cl:∀i o,ops[i]?=some o->∀j∈anc.getD i [],j∈Di o\/∃e∈Di o,j∈anc.getD e []
 front:∀i o,ops[i]?=some o->i<k->(∃d,o.dst=some d)/\(∀t∈Lj ops.toList o,∀j,j<k->Ag ops.toList j=some t->j∈anc.getD i [])/\∀j,j<i->Ag ops.toList j≠o.dst
 back:∀i o,ops[i]?=some o->k<=i->∀j,j<i->j∈anc.getD i []
 k:k<=ops.size
theorem A5V (h:d6 ops.toList k anc=true):Vz ops k anc:=by
 simp only[d6,AT,No,oN,IN]at h;obtain⟨hk,h⟩:=h;have hi:∀i o,ops[i]?=some o->opB ops.toList k anc i o=true:=by grind
 refine⟨λi o a e l=>?_,λi o a j b=>?_,λi o a c=>?_,λi o a c j b=>?_,by simpa using hk⟩
 .grind [opB]
 .grind [opB,Af]
 .have:=hi i o a;simp only[opB,c,AAB,AT,No,oN,qY,Af,ABP]at this;obtain⟨_,⟨h1,f⟩,d⟩:=this;refine⟨AB1.1 h1,λt m j b g=>?_,d⟩;grind
 have:=hi i o a;simp only[opB,show ¬i<k by omega,AAR,AT,No,oN,Af]at this;exact this.2 j b
theorem S1 (a:Vz ops k anc) {listed:Array Bool} (g:∀i o,ops[i]?=some o->listed.getD i true=true->∀e∈Di o,listed.getD e false=true) :
  ∀i o,ops[i]?=some o->(∀e∈Di o,listed.getD e false=true)->∀j∈anc.getD i [],listed.getD j false=true:=by
 intro i;induction i using Nat.strongRecOn with
 | _ i m =>
  intro o b c j f;rcases a.cl i o b j f with h1|⟨e,d,h⟩
  .exact c j h1
  have l:=a.lt i o b e d;grind
theorem V0 {l:List Oper} {p:Nat} {o:Oper} {r:List Oper} (h:l.drop p=o :: r):l[p]?=some o/\r=l.drop (p+1):=by
 constructor
 .have:(l.drop p)[0]?=some o:=by rw[h];rfl
  grind
 rw[<-ABA,h];rfl
theorem N2 {F:Fence} {P:Program} (f:Vz ops k anc):∀ {rest:List Oper} {p:Nat} {listed:Array Bool} {a:Act} {w:World},ops.toList.drop p=rest->k<=p->p<=ops.size->listed.size=ops.size ->
  (∀i,i<ops.size->(listed.getD i true=true↔i<p))->wpListIn F 0 P ops Q rest a w->wpAnyIn F 0 P .any ops Q rest.length listed a w
 | [],p,listed,a,w,m,J,L,q,d,c=>by
  have S:p=ops.size:=by
   have:=ABa List.length m;simp at this;omega
  refine⟨?_,c⟩;apply ABX.2;grind [DL]
 | o :: r,p,listed,a,w,m,J,L,q,d,c=>by
  obtain⟨g,C⟩:=V0 m;have g:ops[p]?=some o:=by simpa using g
  have t:p<ops.size:=(AA6.1 g).1;have x:∀e b,e<ops.size->listed.getD e b=listed.getD e true:=λe b h=>by grind
  have G:∀i o,ops[i]?=some o->listed.getD i true=true->∀e∈Di o,listed.getD e false=true:=by
   intro i o B h1 e h;have u:i<ops.size:=(AA6.1 B).1;have y:=(d i u).1 h1;have l:=f.lt i o B e h;grind
  have M:∀i,i∈Region.ready .any ops listed->i=p:=by
   intro i hi;rw[DL]at hi;obtain⟨h1,D,s,y⟩:=hi;have u:i<ops.size:=(AA6.1 s).1;have O:¬i<p:=λK=>by rw[(d i u).2 K]at h1;cases h1
   by_cases n:i=p
   .exact n
   have l:=S1 f G i D s y p (f.back i D s O1 p O1);rw[x p false t]at l;have:=(d p t).1 l;omega
  refine⟨λR=>?_,λi hi=>?_⟩
  .exfalso;have:p∈Region.ready .any ops listed:=by
    rw[DL];refine⟨?_,o,g,λe h=>?_⟩
    .cases hh:listed.getD p true with
     | false=>rfl
     | true=>have:=(d p t).1 hh;omega
    have:=f.lt p o g e h;rw[x e false O1];exact(d e O1).2 this
   grind
  have n:=M i hi;subst n;have A:∀(j:Nat),j<ops.size->((listed.setIfInBounds i true).getD j true=true↔j<i+1):=by
   intro j H;have I:j<listed.size:=by omega
   by_cases z:j=i
   .subst z;simp[Array.getD,I]
   have h1:(listed.setIfInBounds i true).getD j true=listed.getD j true:=getD_set_ne true (λe=>z e.symm);rw[h1,d j H];omega
  unfold wpOpIn;rw[g];simp only;unfold wpListIn at c;split
  .rename_i v;rw[At v]at c;exact Oper.wpIn_mono (λN w' E=>N2 f C.symm O1 O1 (by simpa using q) A E) c
  rename_i v;rw[As v]at c;exact⟨c.1,N2 f C.symm O1 O1 (by simpa using q) A c.2⟩
end
end
section
open Go Go.RowKit
theorem DM:∀(k:Nat) (l:List Nat),l.Nodup->(∀j∈l,j<k)->l.length<=k
 | 0,l,_,h=>by
  cases l with
  | nil=>simp
  | cons x r=>have:=h x sc;omega
 | k+1,l,hn,h=>by
  by_cases hk:k∈l
  .have:=DM k (l.erase k) (hn.erase k) (λj a=>by
    have h1:=(hn.mem_erase_iff).1 a;have:=h j h1.2;have:=h1.1;omega)
   grind
  have:=DM k l hn (λj a=>by
   have:=h j a;have:j≠k:=λe=>hk (e▸a);omega)
  omega
theorem jT:∀(k:Nat) (l:List Nat),(∀j,j<k->j∈l)->k<=l.length
 | 0,l,_=>by simp
 | k+1,l,h=>by
  have hk:=h k O1;have:=jT k (l.erase k) (λj a=>(AC2 O1).2 (h j O1));grind
theorem S2 {σ σ':St} (j:∀s,lk s σ'.env=lk s σ.env) (f:∀n,lk n σ'.objs=lk n σ.objs) (h:c.sat σ a w):c.sat σ' a w:=by
 obtain⟨ρ,h⟩:=h;have d:GI σ'=GI σ:=by
  funext n;simp only[GI,f]
 have g:∀w,vw w c.O0 σ' ρ=vw w c.O0 σ ρ:=by
  intro w;have l:own c.O0 σ' ρ=own c.O0 σ ρ:=by
   funext b;simp only[own,d]
  simp only[vw,d,l]
 refine⟨ρ,h.frm,h.nt,h.defers,λp q=>by rw[d];exact h.pin p q,?_,?_,?_,?_⟩
 .intro n o hn;rw[g];exact h.objs n o (by rw[<-f];exact hn)
 .intro n b k i;exact h.free n b (by rw[<-d];exact k) i
 .intro n m b h1 e;rw[d]at h1 e;exact h.dist n m b h1 e
 intro s v hs;rw[g];exact h.env s v (by rw[<-j];exact hs)
theorem Za {σ:St} (h:c.sat σ a w):c.sat σ a { w with drawn:=w.drawn+1 }:=by
 obtain⟨ρ,h⟩:=h;have hk:CZ (vw w c.O0 σ ρ) (vw { w with drawn:=w.drawn+1 } c.O0 σ ρ):=⟨λ_ _ h=>h,λ_ h=>h,λ_ _=>rfl,λ_ _ _=>rfl⟩;exact⟨ρ,⟨h.frm.os,h.frm.tape,h.frm.output,h.frm.size,h.frm.block⟩,h.nt,h.defers,h.pin,λn o b=>(h.objs n o b).keeps hk λ_ _=>rfl,h.free,h.dist,λs v hs=>(h.env s v hs).keeps hk⟩
theorem Rq {σ σ':St} (d:∀s v,lk s σ'.env=some v->lk s σ.env=some v) (e:∀n,lk n σ'.objs=lk n σ.objs) (h:c.sat σ a w):c.sat σ' a w:=by
 have b:c.sat ⟨σ.env,σ'.objs⟩ a w:=S2 (σ:=σ) (λ_=>rfl) e h;obtain⟨ρ,h⟩:=b;exact⟨ρ,h.frm,h.nt,h.defers,h.pin,h.objs,h.free,h.dist,λs v hs=>h.env s v (d s v hs)⟩
theorem Ki {ops:Array Oper} {σ:St} (hs:c.sat σ a w) {o:Oper} {b:Bool} (h:JL ops.toList σ b o.guard):Region.wanted o (yielded ops a.tmps)=b:=by
 cases d:o.guard with
 | none =>
  rw[d]at h;simp only[JL]at h;simp[Region.wanted,d,h]
 | some g =>
  obtain⟨j,n⟩:=g;rw[d]at h;simp only[JL]at h;obtain⟨s,k,h⟩:=h;rcases h with ⟨x,e,rfl⟩|⟨e,rfl⟩
  .refine Gc hs ?_;grind [Ej,Ag,KP,PK]
  obtain⟨ρ,hs⟩:=hs;have i:a.tmps.getD s undef=undef:=hs.env s _ e;have l:(ops[j]?).bind (·.dst)=some s:=by simpa[Ag] using k
  have m:yielded ops a.tmps j=none:=by
   simp only[yielded,l,Option.bind_some];by_cases f:s<a.tmps.size
   .have:a.tmps.getD s undef=a.tmps[s]:=by simp[Array.getD,f]
    rw[this]at i;rw[AAg f,i];rfl
   grind
  simp[Region.wanted,d,m]
section
variable {c:Cx} {ops:Array Oper} {k:Nat} {q:Bool} {anc:List (List Nat)} {σ0 σ':St} {en:Nat->En} {Q:Exit->Act->World->Prop}
theorem A3P (hF:∀j o,j<k->ops[j]?=some o->Sz c.tb ops.toList q σ0 en j o) (hk:k<=ops.size):Sep σ0 en k:=by
 have one:∀j,j<k->∀n o,lk n (en j).obs=some o->lk n (Ao ops.toList en σ0 (Ae j)).objs=none:=by
  intro j a n o hn;have m:ops[j]?=some (ops[j]'(by omega)):=AAg O1;have h1:=hF j _ a m;cases g:(en j).b with
  | true =>
   obtain⟨_,_,_,hf⟩:=h1.t g;exact Mi hf hn
  | false =>
   rw[(h1.f g).2]at hn;simp[lk]at hn
 have low:∀i j,i<j->j<k->∀n o d,lk n (en i).obs=some o->lk n (en j).obs=some d->False:=by
  intro i j l a n o d h1 e;have:=one j a n d e;rw[Ex,A5]at this;cases h:lk n ((Ae j).flatMap λj=>(en j).obs) with
  | some x=>rw[h]at this;simp at this
  | none =>
   have:=JN h i (BI.2 l);rw[this]at h1;cases h1
 refine⟨λj a n o hn=>?_,λi j hi a n o d h1 e=>?_⟩
 .grind [Ex,A5,lk,Ae]
 grind
theorem sX (b:Vz ops k anc) {l:List Nat} (e:∀j∈l,j<k) {s j:Nat} (d:j∈l) (f:Ag ops.toList j=some s):l.find? (λj=>Ag ops.toList j==some s)=some j:=by
 have hu:∀i,i∈l->Ag ops.toList i=some s->i=j:=by
  intro i hi g;have h1:=e i hi;have a:=e j d;have m:=b.k;have get:∀x,x<k->Ag ops.toList x=(ops[x]?).bind (·.dst):=λx _=>by simp[Ag]
  rcases ABQ i j with h|h|h
  .have c:ops[j]?=some (ops[j]'(by omega)):=AAg O1;have:=(b.front j _ c a).2.2 i h;grind
  .exact h
  have c:ops[i]?=some (ops[i]'(by omega)):=AAg O1;have:=(b.front i _ c h1).2.2 j h;grind
 cases hf:l.find? (λj=>Ag ops.toList j==some s) with
 | none =>
  have:=ACf.1 hf j d;simp[f]at this
 | some i =>
  have h1:=ABz hf;have a:=ACw hf;rw[hu i h1 (by simpa using a)]
theorem S3 (a:Vz ops k anc) {l l':List Nat} (b:∀j∈l,j<k) (c:∀j∈l',j<k) {s:Nat} (h:∀j,j<k->Ag ops.toList j=some s->j∈l/\j∈l') :
  lk s (Ao ops.toList en σ0 l).env=lk s (Ao ops.toList en σ0 l').env:=by
 rw[Ey,Ey];by_cases d:∃j,j<k/\Ag ops.toList j=some s
 .grind [sX]
 grind
theorem nN (Z:c.Ok) (A:Vz ops k anc) (bj:∀o∈ops.toList,IU c.nt o=true) (hF:∀j o,j<k->ops[j]?=some o->Sz c.tb ops.toList false σ0 en j o)
  {σ2:St} (an:∀s v,lk s σ2.env=some v->lk s (Ao ops.toList en σ0 (Ae k)).env=some v) (ao:σ2.objs=(Ao ops.toList en σ0 (Ae k)).objs) (hT:∀I w',c.sat σ2 I w'->wpListIn (FR c.r) 0 c.P ops Q (ops.toList.drop k) I w') :
  ∀(m:Nat) (ex:List Nat) (listed:Array Bool) (a:Act) (w:World),ex.Nodup->(∀j∈ex,j<k)->m+ex.length=ops.size->listed.size=ops.size->(∀i,i<ops.size->(listed.getD i true=true↔i∈ex)) ->
   (∀i o,ops[i]?=some o->i∈ex->∀e∈Di o,e∈ex)->c.sat (Ao ops.toList en σ0 ex) a w->wpAnyIn (FR c.r) 0 c.P .any ops Q m listed a w:=by
 have al:=A.k;have H:=A3P hF al;intro m;induction m with
 | zero =>
  intro ex listed a w N z bo Y J ap hs;have h1:=DM k ex N z;have bn:k=ops.size:=by omega
  by_cases D:∀j,j<k->j∈ex
  .have ar:ops.toList.drop k=[]:=by simp[bn]
   have S:c.sat σ2 a w:=Rq an (λ_=>by rw[ao]) <| S2
    (λs=>(S3 A z (λj y=>BI.1 y) λj y _=>⟨D j y,BI.2 y⟩).symm)
    (λn=>ACm λo=>by
     rw[EK H (λj y=>BI.1 y),EK H z];simp only[BI];constructor
     .grind
     rintro (⟨j,y,h⟩|⟨h1,U⟩)
     .grind
     exact .inr ⟨λj y=>h1 j (D j y),U⟩) hs
   have:=N2 (Q:=Q) (F:=FR c.r) (P:=c.P) A (rest:=[]) (p:=k) (listed:=listed) (a:=a) (w:=w) ar (OS _) al Y (λi hi=>by
    rw[J i hi];exact⟨z i,D i⟩) (by rw[<-ar];exact hT a w S)
   exact this
  exfalso;apply D;intro j y;apply DO;intro az;have:=DM k (j :: ex) (AAi.2 ⟨az,N⟩) (λi hi=>by
   rcases BY.1 hi with rfl|hi
   .exact y
   exact z i hi)
  simp at this;omega
 | succ m cc =>
  intro ex listed a w N z bo Y J ap hs;have bf:∀e b,e<ops.size->listed.getD e b=listed.getD e true:=λe b C=>by grind
  by_cases D:∀j,j<k->j∈ex
  .have cm:ex.length=k:=ABH (DM k ex N z) (jT k ex D);have S:c.sat σ2 a w:=Rq an (λ_=>by rw[ao]) <| S2
    (λs=>(S3 A z (λj y=>BI.1 y) λj y _=>⟨D j y,BI.2 y⟩).symm)
    (λn=>ACm λo=>by
     rw[EK H (λj y=>BI.1 y),EK H z];simp only[BI];constructor
     .grind
     rintro (⟨j,y,h⟩|⟨h1,U⟩)
     .grind
     exact .inr ⟨λj y=>h1 j (D j y),U⟩) hs
   have:=N2 (Q:=Q) (F:=FR c.r) (P:=c.P) A (rest:=ops.toList.drop k) (p:=k) (listed:=listed) (a:=a) (w:=w) rfl (OS _) al Y (λi hi=>by
    rw[J i hi];exact⟨z i,D i⟩) (hT a w S)
   grind
  refine⟨λbq=>?_,λi hi=>?_⟩
  .exfalso;apply D;intro j;induction j using Nat.strongRecOn with
   | _ j ce =>
    intro y;apply DO;intro az;have R:ops[j]?=some (ops[j]'(by omega)):=AAg O1;have:j∈Region.ready .any ops listed:=by
     rw[DL];refine⟨?_,_,R,λe C=>?_⟩
     .grind
     have ab:=A.lt j _ R e C;rw[bf e false O1];exact(J e O1).2 (ce e ab O1)
    rw[bq]at this;cases this
  rw[DL]at hi;obtain⟨h1,o,B,U⟩:=hi;have bd:i<ops.size:=(AA6.1 B).1;have ba:i∉ex:=λh=>by rw[(J i bd).2 h]at h1;cases h1
  have bi:∀e∈Di o,e∈ex:=λe C=>by grind
  have ae:∀j∈anc.getD i [],j∈ex:=by grind [Di,S1]
  have M:i<k:=by
   apply DO;intro ck;exact D λj y=>ae j (A.back i o B O1 j O1)
  have ah:=A.front i o B M;obtain⟨d,cj⟩:=ah.1;have bh:Ag ops.toList i=o.dst:=by simp[Ag,B]
  have bb:∀t∈Lj ops.toList o,lk t (Ao ops.toList en σ0 ex).env=lk t (Ao ops.toList en σ0 (Ae i)).env:=by
   intro t bz;refine S3 A z (λj y=>by have:=BI.1 y;omega) λj y af=>?_;have ax:=ah.2.1 t bz j y af;refine⟨ae j ax,BI.2 ?_⟩;have:∀i o,ops[i]?=some o->∀j∈anc.getD i [],j<i:=by
    intro i;induction i using Nat.strongRecOn with
    | _ i cd =>
     intro o B j y;rcases A.cl i o B j y with ad|⟨e,C,bl⟩
     .exact A.lt i o B j ad
     have bg:=A.lt i o B e C;have bd:i<ops.size:=(AA6.1 B).1;have:=cd e bg _ (AAg O1) j bl;omega
   exact this i o B j ax
  have bs:Ops ⟨(Ao ops.toList en σ0 (Ae i)).env,B4 false (Gf o.op) σ0.objs (ES ops.toList en (Ae i))⟩ (Ao ops.toList en σ0 ex) o.op.operands.toList:=by
   intro x cb v T;cases x with
   | tmp t =>
    simp only[Ab]at T ⊢;rw[bb t (by
     simp only[Lj,IS,ACe];exact .inl ⟨_,cb,rfl⟩)]
    exact T
   | const cn=>exact T
   | global g=>exact T
   | func f=>exact T
  have br:d5 ⟨(Ao ops.toList en σ0 (Ae i)).env,B4 false (Gf o.op) σ0.objs (ES ops.toList en (Ae i))⟩ (Ao ops.toList en σ0 ex):=by
   intro n G hn;refine sV H (λj y=>by have:=BI.1 y;omega) z (λj y ak=>?_) hn;have X:=BI.1 y;have R:ops[j]?=some (ops[j]'(by omega)):=AAg O1;obtain⟨am,af⟩:=(A.front j _ R O1).1;have aq:Ag ops.toList j=some am:=by simp[Ag,R,af]
   rw[aq]at ak;simp only[Bool.false_or,ABZ,Af]at ak;refine ae j (ah.2.1 am ?_ j O1 aq);simp only[Lj,IS];exact .inl ak
  have ag:=hF i o M B;have E:JL ops.toList (Ao ops.toList en σ0 ex) (en i).b o.guard:=by
   have E:=ag.g;cases ai:o.guard with
   | none=>rw[ai]at E;exact E
   | some g =>
    obtain⟨j,cp⟩:=g;rw[ai]at E;simp only[JL]at E ⊢;obtain⟨s,av,E⟩:=E;refine⟨s,av,?_⟩;rw[bb s (by
     simp only[Lj,ai,IS,av];exact .inr sc)]
    exact E
  have aa:=Ki hs E;have bp:o∈ops.toList:=by grind
  have au:=Az (bj o bp);have bc:∀I w',c.sat ((Ao ops.toList en σ0 ex).add (en i).v (en i).obs o.dst) I w'->wpAnyIn (FR c.r) 0 c.P .any ops Q m (listed.setIfInBounds i true) I w':=by
   intro I w' S;refine cc (i :: ex) _ I w' (AAi.2 ⟨ba,N⟩) (λj y=>?_) (by simp;omega) (by simpa using Y) (λj y=>?_) (λi' G L aj e C=>?_) (by simp only[Ao,bh];exact S)
   .rcases BY.1 y with rfl|y
    .exact M
    exact z j y
   .have bm:j<listed.size:=by omega
    by_cases X:j=i
    .subst X;simp[Array.getD,bm]
    have ab:(listed.setIfInBounds i true).getD j true=listed.getD j true:=getD_set_ne true (λe=>X e.symm);rw[ab,J j y];simp[X]
   rcases BY.1 aj with rfl|aj
   .rw[B]at L;cases L;exact GO _ (bi e C)
   exact GO _ (ap i' G L aj e C)
  unfold wpOpIn;rw[B];simp only;cases V:(en i).b with
  | true =>
   rw[V]at aa;rw[At aa];obtain⟨co,bu,ca,bk⟩:=ag.t V;obtain⟨ρ,be⟩:=hs;have bv:=Rn br bs bu;have aw:Bb (en i).obs (Ao ops.toList en σ0 ex)=true:=by
    simp only[Bb,No]at bk ⊢;intro p bt;have bx:∃G,lk p.1 (en i).obs=some G:=by
     have:∀(l:List (Nat×Obj)),p∈l->∃G,lk p.1 l=some G:=by
      intro l;induction l with
      | nil=>intro h;cases h
      | cons q r cf =>
       intro h;obtain⟨ch,ci⟩:=q;simp only[lk];by_cases C:p.1=ch
       .exact⟨ci,by rw[At C]⟩
       rw[As C];rcases BY.1 h with rfl|h
       .exact absurd rfl C
       exact cf h
     exact this _ bt
    obtain⟨G,L⟩:=bx;have:lk p.1 (Ao ops.toList en σ0 ex).objs=none:=by
     cases ay:lk p.1 (Ao ops.toList en σ0 ex).objs with
     | none=>rfl
     | some cg =>
      rw[EK H z]at ay;rcases ay with ⟨j,y,W⟩|⟨_,W⟩
      .have:=H.2 i j M (z j y) p.1 G cg L W;subst this;exact absurd y ba
      rw[H.1 i M p.1 G L]at W;cases W
    simp[this]
   exact jK (nG Z be) bv ca aw λu ρ' w' bw=>bc _ _ ⟨ρ',be.add Z.K Z.O au aw bw⟩
  | false =>
   rw[V]at aa;rw[As (by simp[aa])];refine⟨λ_ _=>trivial,?_⟩;have:=ag.f V;have ad:=Lg Z hs au;refine bc _ _ ?_;rw[this.1,this.2];exact ad
end
theorem nP {ops:Array Oper} {σ0:St} {en:Nat->En} {Q:Exit->Act->World->Prop} (h:c.Ok) (I:∀o∈ops.toList,IU c.nt o=true) (hF:∀j o,j<k->ops[j]?=some o->Sz c.tb ops.toList true σ0 en j o) (hk:k<=ops.size)
  {σ2:St} (E:∀s v,lk s σ2.env=some v->lk s (Ao ops.toList en σ0 (Ae k)).env=some v) (F:σ2.objs=(Ao ops.toList en σ0 (Ae k)).objs) (hT:∀d w',c.sat σ2 d w'->wpListIn (FR c.r) 0 c.P ops Q (ops.toList.drop k) d w'):∀(m i:Nat) (a:Act) (w:World),m+i=k->c.sat (Ao ops.toList en σ0 (Ae i)) a w->wpListIn (FR c.r) 0 c.P ops Q (ops.toList.drop i) a w:=by
 intro m;induction m with
 | zero =>
  intro i a w hi hs;have:i=k:=by omega
  subst this;exact hT _ _ (Rq E (λ_=>by rw[F]) hs)
 | succ m U =>
  intro i a w hi hs;have q:ops[i]?=some (ops[i]'(by omega)):=AAg O1;generalize ops[i]'(by omega)=o at q;have H:ops.toList.drop i=o :: ops.toList.drop (i+1):=by
   have:i<ops.toList.length:=by simp;omega
   rw[OF this];grind
  rw[H];have p:=hF i o O1 q;have n:=Ki hs p.g;have J:o∈ops.toList:=by grind
  have y:=Az (I o J);have T:Ag ops.toList i=o.dst:=by simp[Ag,q]
  have B:∀d w',c.sat ((Ao ops.toList en σ0 (Ae i)).add (en i).v (en i).obs o.dst) d w'->wpListIn (FR c.r) 0 c.P ops Q (ops.toList.drop (i+1)) d w':=by grind [Ae,Ao]
  unfold wpListIn;cases e:(en i).b with
  | true =>
   rw[e]at n;rw[At n];obtain⟨S,A,R,z⟩:=p.t e;obtain⟨ρ,C⟩:=hs;have L:∀l:List Nat,B4 true (Gf o.op) σ0.objs (ES ops.toList en l)=(Ao ops.toList en σ0 l).objs:=by
    intro l;rw[Ex];induction l with
    | nil=>rfl
    | cons x r D=>simp only[ES,AA2,B4,Bool.true_or,AAB,ABw,AA5]at D ⊢;rw[D]
   have M:aq c.tb (Ao ops.toList en σ0 (Ae i)) (o.dst.getD 0) o.op=some (S,(en i).v,(en i).obs):=by
    rw[L]at A;exact A
   exact jK (nG h C) M R z λu ρ' w' N=>B _ _ ⟨ρ',C.add h.K h.O y z N⟩
  | false =>
   rw[e]at n;rw[As (by simp[n])];refine⟨λ_ _=>trivial,?_⟩;have:=p.f e;have G:=Lg h hs y;refine B _ _ ?_;rw[this.1,this.2];exact G
theorem Lm {tb:Tb} {ops:List Oper} {q:Bool} {base:List (Nat×Obj)} {rest:List Oper}:∀ {fr:List Oper} {i:Nat} {E:List (Nat×List (Nat×Obj))} {G:Gs} {σ σ':St} {vc:Prop},Kh tb ops q base rest fr i E G σ=some (vc,σ')->vc ->
  ∃(e f:Prop) (j:St),Kh tb ops q base [] fr i E G σ=some (e,j)/\e/\Bt tb ops rest j=some (f,σ')/\f
 | [],i,E,G,σ,σ',vc,h,k=>by grind [Kh,Bt]
 | o :: r,i,E,G,σ,σ',vc,h,k=>by
  simp only[Kh]at h;cases l:H9 ops G σ.env i o.guard with
  | none=>rw[l]at h;simp[evMG]at h
  | some p =>
   obtain⟨c,T⟩:=p;rw[l]at h;simp only[evMG]at h;cases m:opM tb ops q base c G E σ.env o (IA o.op) with
   | none=>rw[m]at h;cases c<;>simp[evMQ]at h
   | some x =>
    obtain⟨u,v,obs⟩:=x;rw[m]at h;cases c with
    | nil =>
     cases a:o.dst with
     | none=>rw[a]at h;simp[evMQ]at h
     | some d =>
      rw[a]at h;simp only[evMQ]at h;split at h
      .rename_i hf;cases b:Kh tb ops q base rest r (i+1) (Jt d obs E) G (σ.add v obs (some d)) with
       | none=>rw[b]at h;simp[VR]at h
       | some y =>
        obtain⟨w,σ2⟩:=y;rw[b]at h;simp only[VR]at h;cases h;obtain⟨e,f,j,h1,n,s,t⟩:=Lm b k.2;exact⟨u/\e,f,j,by simp only[Kh,l,evMG,m,a,evMQ,h1,VR];rw[At hf],⟨k.1,n⟩,s,t⟩
      cases h
    | cons g c =>
     cases obs with
     | cons z A=>cases a:o.dst<;>rw[a]at h<;>simp[evMQ]at h
     | nil =>
      cases a:o.dst with
      | none=>rw[a]at h;simp[evMQ]at h
      | some d =>
       rw[a]at h;simp only[evMQ]at h;split at h
       .rename_i hf;cases b:Kh tb ops q base rest r (i+1) E ((d,g :: c,T,v) :: G) σ with
        | none=>rw[b]at h;simp[VR]at h
        | some y =>
         obtain⟨w,σ2⟩:=y;rw[b]at h;simp only[VR]at h;cases h;obtain⟨e,f,j,h1,n,s,t⟩:=Lm b k.2;exact⟨(T=true->u)/\e,f,j,by simp only[Kh,l,evMG,m,a,evMQ,h1,VR];rw[At hf],⟨k.1,n⟩,s,t⟩
       cases h
theorem A5W {ops:List Oper} {q:Bool} {σ0:St} {en:Nat->En}:Inv ops q σ0 en 0 [] [] σ0 :=
 { env:=λ_ _ h=>h,G:=λs c T v h=>absurd h sc,f:=λj a=>absurd a O1,objs:=rfl,E:=λ_=>rfl }
section
variable {c:Cx} {R:Exit->Act->World->Prop} {k:List CU} {σ σ':St}
def Dq (c:Cx) (R:Exit->Act->World->Prop) (k:List CU) (ops:Array Oper) (l:List Oper) (σ:St):Prop :=
 (∀o∈l,IU c.nt o=true)->Co c.nt k=true->∀a w,c.sat σ a w->wpListIn (FR c.r) 0 c.P ops (Rj c R k) l a w
theorem A0H {ops:Array Oper} (h:Ev c R (.out .normal) k σ):Dq c R k ops [] σ:=λ_ b a w hs=>h rfl b a w hs
theorem N3 (f:c.Ok) {ops:Array Oper} {l:List Oper} (n:Nat) {vc:Prop} (h:Bt c.tb ops.toList (l.take n) σ=some (vc,σ')) (i:vc) (hk:Dq c R k ops (l.drop n) σ'):Dq c R k ops l σ:=by
 intro h1 e a w hs;have:=PR (r:=l.drop n) f (l.take n) hs (λo b=>h1 o (AAs b)) h i (λd w' g=>hk (λo b=>h1 o (AB4 b)) e d w' g)
 rwa [ABc]at this
theorem Zb (z:c.P.follows .mixedOrders=true) (u:c.Ok) {id:Nat} {l:List Oper} (n:Nat) (d:Ke l (l.take n).length=true) {vc:Prop}
  (h:Kh c.tb l false σ.objs [] (l.take n) 0 [] [] σ=some (vc,σ')) (C:vc) (hk:Dq c R k l.toArray (l.drop n) σ') :
  Ev c R (.run (.region id l.toArray true)) k σ:=by
 intro h1 r a w hs;simp only[G3,Bl,No]at h1;have d:=A5V (ops:=l.toArray) (k:=(l.take n).length) (anc:=sU l) (by simpa only[Ke] using d);have hu:d8 l (l.take n).length:=by
  intro x y D g;have m:y<l.length:=by simp at g;omega
  have A:l.toArray[y]?=some l[y]:=by simp[m]
  have:=(d.front y _ A g).2.2 x D;simpa[Ag,m] using this
 obtain⟨en,_,hF,F,σ2,f,E,s,t⟩:=PX (ops:=l) (q:=false) (σ0:=σ) (en:=λ_=>⟨false,.top,[]⟩) hu h C A5W sc (λj b=>by
  have b:j<(l.take n).length:=b;rw[AAG,AA7];simp only[On]at b;rw[At O1])
 refine wpIn_region_any z ?_;have v:l.drop (l.take n).length=l.drop n:=by simp_all
 simp only[Bt]at f;cases f;have:=nN (c:=c) (ops:=l.toArray) (k:=(l.take n).length) (σ0:=σ) (en:=en) (Q:=Rj c R k) u d (by simpa using h1)
  (λj o b e=>hF j o O1 b (by simpa using e)) (σ2:=σ') s t (λp w' B=>by
   rw[show (l.toArray.toList.drop _)=l.drop n from v];exact hk (λo e=>h1 o (by simpa using AB4 e)) r p w' B)
  l.toArray.size [] (Array.replicate l.toArray.size false) a { w with drawn:=w.drawn+1 } sc sc sc sc (λi hi=>by simp at hi;simp[Array.getD,hi]) (λi o _ hi=>by simp at hi) (Za hs)
 exact this
theorem d9 (r:c.Ok) {id:Nat} {l:List Oper} (n:Nat) (f:nL l (l.take n).length=true) {vc:Prop}
  (h:Kh c.tb l true σ.objs [] (l.take n) 0 [] [] σ=some (vc,σ')) (u:vc) (hk:Dq c R k l.toArray (l.drop n) σ') :
  Ev c R (.run (.region id l.toArray false)) k σ:=by
 intro h1 i a w hs;simp only[G3,Bl,No]at h1;simp only[nL,AT,No,oN,IN]at f;have hu:d8 l (l.take n).length:=by
  intro x y z A;grind [Ag]
 obtain⟨en,_,hF,B,σ2,e,v,m,p⟩:=PX (ops:=l) (q:=true) (σ0:=σ) (en:=λ_=>⟨false,.top,[]⟩) hu h u A5W sc (λj b=>by
  have b:j<(l.take n).length:=b;rw[AAG,AA7];simp only[On]at b;rw[At O1])
 have s:l.drop (l.take n).length=l.drop n:=by simp_all
 refine ABD ?_;simp only[Bt]at e;cases e;have:=nP (c:=c) (ops:=l.toArray) (k:=(l.take n).length) (σ0:=σ) (en:=en) (Q:=Rj c R k) r (by simpa using h1)
  (λj o b d=>hF j o O1 b (by simpa using d)) (by simpa using f.1) (σ2:=σ') m p (λg w' t=>by
   rw[show (l.toArray.toList.drop _)=l.drop n from s];exact hk (λo d=>h1 o (by simpa using AB4 d)) i g w' t)
  (l.take n).length 0 a w sc hs
 exact this
theorem Xp (e:c.Ok) {ops:Array Oper} {l:List Oper} {vc:Prop} (h:Bt c.tb ops.toList l σ=some (vc,σ')) (g:vc) (hk:Ev c R (.out .normal) k σ'):Dq c R k ops l σ:=by
 intro h1 d a w hs;exact Ns e l hs h1 h g (λb w' f=>hk rfl d b w' f)
theorem Zc (e:c.P.follows .mixedOrders=true) (a:c.Ok) {id:Nat} {l:List Oper} (n:Nat) (d:Ke l (l.take n).length=true) {vc:Prop}
  (h:Kh c.tb l false σ.objs (l.drop n) (l.take n) 0 [] [] σ=some (vc,σ')) (f:vc) (hk:Ev c R (.out .normal) k σ') :
  Ev c R (.run (.region id l.toArray true)) k σ:=by
 obtain⟨j,m,o,h1,g,b,i⟩:=Lm h f;exact Zb e a n d h1 g (Xp a b i hk)
theorem eA (a:c.Ok) {id:Nat} {l:List Oper} (n:Nat) (d:nL l (l.take n).length=true) {vc:Prop}
  (h:Kh c.tb l true σ.objs (l.drop n) (l.take n) 0 [] [] σ=some (vc,σ')) (e:vc) (hk:Ev c R (.out .normal) k σ') :
  Ev c R (.run (.region id l.toArray false)) k σ:=by
 obtain⟨i,j,m,h1,f,b,g⟩:=Lm h e;exact d9 a n d h1 f (Xp a b g hk)
theorem sY (d:c.P.follows .mixedOrders=true) (a:c.Ok) {id:Nat} {l:List Oper} (b:Ke l l.length=true) {vc:Prop}
  (h:Kh c.tb l false σ.objs [] l 0 [] [] σ=some (vc,σ')) (e:vc) (hk:Ev c R (.out .normal) k σ') :
  Ev c R (.run (.region id l.toArray true)) k σ :=
 Zc d a l.length (by rw[oR];exact b) (by rw[oR,ACt];exact h) e hk
theorem sZ (m:Nat) (d:c.P.follows .mixedOrders=true) (a:c.Ok) {id:Nat} {l:List Oper} (b:Ke l (l.take (l.length-m)).length=true) {vc:Prop}
  (h:Kh c.tb l false σ.objs (l.drop (l.length-m)) (l.take (l.length-m)) 0 [] [] σ=some (vc,σ')) (e:vc) (hk:Ev c R (.out .normal) k σ') :
  Ev c R (.run (.region id l.toArray true)) k σ:=Zc d a _ b h e hk
theorem eB (a:c.Ok) {id:Nat} {l:List Oper} (b:nL l l.length=true) {vc:Prop}
  (h:Kh c.tb l true σ.objs [] l 0 [] [] σ=some (vc,σ')) (d:vc) (hk:Ev c R (.out .normal) k σ') :
  Ev c R (.run (.region id l.toArray false)) k σ :=
 eA a l.length (by rw[oR];exact b) (by rw[oR,ACt];exact h) d hk
theorem eC (a:c.Ok) {id:Nat} {l:List Oper} (_:(l.all λo=>o.guard.isNone)=true) {vc:Prop} (h:Bt c.tb l l σ=some (vc,σ')) (b:vc) (hk:Ev c R (.out .normal) k σ') :
  Ev c R (.run (.region id l.toArray false)) k σ:=dW a h b hk
end
end
section
open Go Go.RowKit
theorem Xq {σ σ':St} (l:List Nat) (h:Ci l σ=b) (d:qZ c b σ'):qZ c σ σ':=by
 intro a w hs;obtain⟨ρ,hs⟩:=hs;exact d a w ⟨ρ,by rw[<-h];exact JE hs⟩
theorem Kj {α:Type} (a b:List α):(a++b).take (a.length+b.length)=a++b:=By sc
theorem Rr {α:Type} (a b:List α):sub (a++b) 0 (a.length+b.length)=a++b:=by rw[IX,Kj]
theorem IZ {α:Type} (a:List α) (x:α):(a++[x]).take (a.length+1)=a++[x]:=By sc
theorem N4 {α:Type} (a:List α) (x:α):sub (a++[x]) 0 (a.length+1)=a++[x]:=by rw[IX,IZ]
theorem A3Q {tb:Tb} {w0:World} {O0:Nat->Prop} {nt:Nat} (b:(cx P tb w0 O0 nt).Ok) {fn:Func} {outs:List RV} {σ:St} {e:Exit} (a:List ResultVar) (g:fn.results.toList=a) (c:e=.ret\/e=.normal) (f:∀r∈outs,∃t d,r=.p t d) (h:MJ tb σ a outs) :
  Ev (cx P tb w0 O0 nt) (So P fn w0 O0 outs) (.out e) [] σ:=sS b c f (by rw[g];exact h)
theorem jU:((0:Nat):Int)=0:=rfl
theorem jV (k:Nat):((k+1:Nat):Int)=(k:Int)+1:=by omega
theorem AG {α:Type} (l:List α) (d:α) (h:k<l.length):l.getD k d∈l:=by
 rw[AS,An h];exact AAo h
theorem AI {ty:List (Nat×TI)} {b:List Nat} {ne:List (Nat×TypeId)} {a:List Nat}:Hi P ⟨ty,[],b,ne,a⟩:=λf sp h=>by simp[lk]at h
theorem AF {ty:List (Nat×TI)} {c:List Nat} {ne:List (Nat×TypeId)} {b:List Nat} {f:Nat} {sp:AX} {r:List (Nat×AX)} (h:Ac P f sp) (d:Hi P ⟨ty,r,c,ne,b⟩):Hi P ⟨ty,(f,sp) :: r,c,ne,b⟩:=λg i a=>by
 simp only[lk]at a;split at a
 .rename_i e;cases a;rw[e];exact h
 exact d g i a
theorem Ln {α:Type} (x:α):[x].take 1=[x]:=rfl
theorem A8 {α:Type} (l:List α) (d:α) (h:k<l.length):l.take (k+1)=l.take k++[l.getD k d]:=by
 rw[List.take_add_one,AS,An h];rfl
theorem Rs {α:Type} (l:List α) (q:Nat):sub l q l.length=l.drop q:=by
 unfold sub;rw[By sc]
end
end Go.Proofs.YtglkoagnnnpimaaGreatDoor.Fw
