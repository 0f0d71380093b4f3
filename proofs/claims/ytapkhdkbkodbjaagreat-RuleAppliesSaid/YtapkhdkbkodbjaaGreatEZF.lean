/- Regions whose order Go leaves open: the rules. -/
import Derived.Test.YtapkhdkbkodbjaaGreatEZE
set_option linter.unusedVariables false
set_option linter.unusedSimpArgs false
namespace Go.Proofs.YtapkhdkbkodbjaaGreat.Fw
section
open Go Go.RowKit
def EU (o:Oper):List Nat:=(o.after.toList.filter (Region.binds .any)).map (·.on)
def Au (ops:List Oper) (j:Nat):Option Nat:=(ops[j]?).bind (·.dst)
def Ua:Operand->Option Nat
 | .tmp t=>some t
 | _=>none
def OB (ops:List Oper) (o:Oper):List Nat:=(o.op.operands.toList.filterMap Ua)++(match o.guard with|some (j,_)=>(Au ops j).toList|none=>[])
def AAP (a b:List Nat):List Nat:=a.foldl (λr x=>if Ad x r then r else x :: r) b
def A1P (ops:List Oper):List (List Nat):=ops.foldl (λ(a:List (List Nat)) o=>a++[(EU o).foldl (λr e=>AAP (a.getD e []) (if Ad e r then r else e :: r)) []]) []
def opB (ops:List Oper) (k:Nat) (anc:List (List Nat)) (i:Nat) (o:Oper):Bool :=
  (EU o).all (λe=>decide (e<i)) &&
  (anc.getD i []).all (λj=>Ad j (EU o)||(EU o).any λe=>Ad j (anc.getD e [])) &&
  (if i<k then o.dst.isSome&&((OB ops o).all λt=>(List.range k).all λj=>Au ops j != some t||Ad j (anc.getD i []))&&((List.range i).all λj=>Au ops j != o.dst)
   else (List.range i).all λj=>Ad j (anc.getD i []))
def pK (ops:List Oper) (k:Nat) (anc:List (List Nat)):Bool :=
 decide (k<=ops.length)&&(List.range ops.length).all λi=>match ops[i]? with|some o=>opB ops k anc i o|none=>false
def L3 (ops:List Oper) (k:Nat):Bool:=pK ops k (A1P ops)
def yS (ops:List Oper) (k:Nat):Bool :=
 decide (k<=ops.length)&&(List.range k).all λi=>match ops[i]? with|some o=>o.dst.isSome&&((List.range i).all λj=>Au ops j != o.dst)|none=>false
def CK (q:Bool) (ts:List Nat) (base:List (Nat×Obj)):List (Nat×List (Nat×Obj))->List (Nat×Obj)
 | []=>base
 | (s,obs) :: r=>if (q||Ad s ts)=true then obs++CK q ts base r else CK q ts base r
def Hr (o:Op):List Nat:=o.operands.toList.filterMap Ua
def Ox (q:Bool) (o:Op) (base:List (Nat×Obj)):List (Nat×List (Nat×Obj))->List (Nat×Obj)
 | []=>base
 | e :: r=>CK q (Hr o) base (e :: r)
def L4 (d:Nat) (obs:List (Nat×Obj)) (E:List (Nat×List (Nat×Obj))):List (Nat×List (Nat×Obj)) :=
 match obs with
 | []=>E
 | x :: r=>(d,x :: r) :: E
abbrev Ch:=List (Nat×Bool)
abbrev Gs:=List (Nat×(Ch×Bool×AV))
def Pa:Ch->Ch->Bool
 | [],[]=>true
 | (j,w) :: r,(a,w') :: b=>(j==a)&&(w==w')&&Pa r b
 | [],_ :: _=>false
 | _ :: _,[]=>false
theorem Qm:Pa [] []=true:=rfl
theorem Vl (x:Nat×Bool) (r:Ch):Pa [] (x :: r)=false:=rfl
theorem Vm (x:Nat×Bool) (r:Ch):Pa (x :: r) []=false:=rfl
theorem OC (j a:Nat) (w w':Bool) (r b:Ch):Pa ((j,w) :: r) ((a,w') :: b)=(decide (j=a)&&(w==w')&&Pa r b):=by grind [Pa]
def W9 (a:Ch):Ch->Bool
 | []=>Pa a []
 | k :: r=>Pa a (k :: r)||W9 a r
def L5 (c:Ch):Gs->List (Nat×AV)->List (Nat×AV)
 | [],env=>env
 | (s,a,_,v) :: G,env=>if W9 a c=true then (s,v) :: L5 c G env else L5 c G env
def OD (j:Nat) (a:Bool):Option (Ch×Bool×AV)->Option AV->Option (Ch×Bool)
 | some (c,T,.p .bool b),_=>some ((j,a) :: c,T&&(b==a))
 | none,some (.p .bool b)=>some ([(j,a)],b==a)
 | _,_=>none
def LO (G:Gs) (env:List (Nat×AV)) (j:Nat) (a:Bool):Option Nat->Option (Ch×Bool)
 | some s=>OD j a (lk s G) (lk s env)
 | none=>none
def Jx (ops:List Oper) (G:Gs) (env:List (Nat×AV)) (i:Nat):Option (Nat×Bool)->Option (Ch×Bool)
 | none=>some ([],true)
 | some (j,a)=>if j<i then LO G env j a (Au ops j) else none
def Sf (ops:List Oper) (c:Ch) (s:Nat) (w:Bool):Option (Ch×Bool×AV)->Option AV->Option AV
 | some (a,_,v),_=>if W9 a c=true then some v else match a with
  | []=>none
  | (j,w') :: r=>if w'=w/\Au ops j=some s/\Pa r c=true then some v else none
 | none,x=>x
def Mw (ops:List Oper) (c:Ch) (G:Gs) (env:List (Nat×AV)) (s:Nat) (w:Bool):Operand->Option AV
 | .tmp t=>Sf ops c s w (lk t G) (lk t env)
 | .const v=>some (JN v)
 | .func _=>none
 | .global _=>none
def Sg:Option AV->Option AV->Option AV->Bh
 | some (.p .bool b),some (.p .bool p),some (.p .bool q)=>some (True,.p .bool (bif b then p else q),[])
 | _,_,_=>none
def Qn (ops:List Oper) (c:Ch) (G:Gs) (env:List (Nat×AV)):Operand->Operand->Operand->Bh
 | .tmp s,x,y=>Sg (lk s (L5 c G env)) (Mw ops c G env s true x) (Mw ops c G env s false y)
 | .const _,_,_=>none
 | .func _,_,_=>none
 | .global _,_,_=>none
def Jy:Op->Option (Operand×Operand×Operand)
 | .pick s x y=>some (s,x,y)
 | _=>none
def opM (tb:Tb) (ops:List Oper) (q:Bool) (base:List (Nat×Obj)) (c:Ch) (G:Gs) (E:List (Nat×List (Nat×Obj))) (env:List (Nat×AV)) (o:Oper):Option (Operand×Operand×Operand)->Bh
 | some (s,x,y)=>Qn ops c G env s x y
 | none=>aq tb ⟨L5 c G env,Ox q o.op base E⟩ (o.dst.getD 0) o.op
mutual
def MT (tb:Tb) (ops:List Oper) (q:Bool) (base:List (Nat×Obj)) (rest:List Oper):List Oper->Nat->List (Nat×List (Nat×Obj))->Gs->St->DJ
 | [],_,_,_,σ=>CC tb ops rest σ
 | o :: r,i,E,G,σ=>evMG tb ops q base rest o r i E G σ (Jx ops G σ.env i o.guard)
def evMG (tb:Tb) (ops:List Oper) (q:Bool) (base:List (Nat×Obj)) (rest:List Oper) (o:Oper) (r:List Oper) (i:Nat) (E:List (Nat×List (Nat×Obj))) (G:Gs) (σ:St):Option (Ch×Bool)->DJ
 | some (c,T)=>evMQ tb ops q base rest o.dst r i E G σ c T (opM tb ops q base c G E σ.env o (Jy o.op))
 | none=>none
def evMQ (tb:Tb) (ops:List Oper) (q:Bool) (base:List (Nat×Obj)) (rest:List Oper) (dst:Option Nat) (r:List Oper) (i:Nat) (E:List (Nat×List (Nat×Obj))) (G:Gs) (σ:St):Ch->Bool->Bh->DJ
 | [],_,some (vc,v,obs)=>match dst with
  | some d=>if Br obs σ=true then Za vc (MT tb ops q base rest r (i+1) (L4 d obs E) G (σ.add v obs (some d))) else none
  | none=>none
 | g :: c,T,some (vc,v,[])=>match dst with
  | some d=>if (lk d σ.env).isNone=true then Za (T=true->vc) (MT tb ops q base rest r (i+1) E ((d,g :: c,T,v) :: G) σ) else none
  | none=>none
 | _,_,_=>none
end
structure En where
 b:Bool
 v:AV
 obs:List (Nat×Obj)
def Az (ops:List Oper) (en:Nat->En) (σ:St):List Nat->St
 | []=>σ
 | i :: r=>(Az ops en σ r).add (en i).v (en i).obs (Au ops i)
def Al:Nat->List Nat
 | 0=>[]
 | i+1=>i :: Al i
end
section
open Go Go.RowKit
section
variable {tb:Tb} {ops:List Oper} {k:Nat} {q:Bool} {anc:List (List Nat)} {σ0:St} {en:Nat->En}
def ES (ops:List Oper) (en:Nat->En) (l:List Nat):List (Nat×List (Nat×Obj)):=l.map λj=>((Au ops j).getD 0,(en j).obs)
def LP (ops:List Oper) (σ:St) (b:Bool):Option (Nat×Bool)->Prop
 | none=>b=true
 | some (j,a)=>∃s,Au ops j=some s/\((∃x,lk s σ.env=some (.p .bool x)/\b=(x==a))\/(lk s σ.env=some (.raw undef)/\b=false))
structure XA (tb:Tb) (ops:List Oper) (q:Bool) (σ0:St) (en:Nat->En) (i:Nat) (o:Oper):Prop where
 g:LP ops (Az ops en σ0 (Al i)) (en i).b o.guard
 t:(en i).b=true->∃vc:Prop,aq tb ⟨(Az ops en σ0 (Al i)).env,CK q (Hr o.op) σ0.objs (ES ops en (Al i))⟩ (o.dst.getD 0) o.op=some (vc,(en i).v,(en i).obs)/\vc/\Br (en i).obs (Az ops en σ0 (Al i))=true
 f:(en i).b=false->(en i).v=.raw undef/\(en i).obs=[]
theorem LQ {a:Nat->En}:∀ {l:List Nat},(∀j∈l,a j=en j)->Az ops a σ0 l=Az ops en σ0 l
 | [],_=>rfl
 | i :: r,h=>by
  simp only[Az];rw[LQ (λj b=>h j (by simp[b])),h i sc]
theorem BP {i j:Nat}:j∈Al i↔j<i:=by
 induction i with
 | zero=>simp[Al]
 | succ i a=>simp[Al,a];omega
theorem F8:∀(l:List Nat),(Az ops en σ0 l).objs=(l.flatMap λj=>(en j).obs)++σ0.objs
 | []=>rfl
 | i :: r=>by
  simp only[Az,AD7,SC];rw[<-F8 r];cases Au ops i<;>rfl
theorem F9 (s:Nat):∀(l:List Nat),lk s (Az ops en σ0 l).env=match l.find? (λj=>Au ops j==some s) with|some j=>some (en j).v|none=>lk s σ0.env
 | []=>rfl
 | i :: r=>by
  simp only[Az,List.find?_cons];cases a:Au ops i with
  | none =>
   simp only[St.add];rw[F9 s r];have:((none:Option Nat)==some s)=false:=rfl;rw[this]
  | some d =>
   simp only[St.add,lk];by_cases hs:s=d
   .subst hs;simp
   have h1:((some d:Option Nat)==some s)=false:=by
    have:d≠s:=λe=>hs e.symm;simpa using this
   rw[At hs,F9 s r,h1]
theorem uX {n:Nat} {o:Obj} {l:List Nat} (h:lk n (l.flatMap λj=>(en j).obs)=some o):∃j∈l,lk n (en j).obs=some o:=by
 induction l with
 | nil=>simp[lk]at h
 | cons i r d =>
  rw[AD7,BB]at h;cases a:lk n (en i).obs with
  | some e =>
   rw[a]at h;exact⟨i,by simp,by rw[a];simpa using h⟩
  | none =>
   rw[a]at h;obtain⟨j,b,c⟩:=d (by simpa using h);exact⟨j,by simp[b],c⟩
theorem LR {n:Nat} {l:List Nat} (h:lk n (l.flatMap λj=>(en j).obs)=none):∀j∈l,lk n (en j).obs=none:=by
 induction l with
 | nil=>simp
 | cons i r c =>
  rw[AD7,BB]at h;cases a:lk n (en i).obs with
  | some d=>rw[a]at h;simp at h
  | none =>
   rw[a]at h;intro j b;rcases Do.1 b with rfl|b
   .exact a
   grind
def Sep (σ0:St) (en:Nat->En) (k:Nat):Prop :=
 (∀j,j<k->∀n o,lk n (en j).obs=some o->lk n σ0.objs=none)/\∀i j,i<k->j<k->∀n o a,lk n (en i).obs=some o->lk n (en j).obs=some a->i=j
theorem FG (g:Sep σ0 en k) {l:List Nat} (c:∀j∈l,j<k) (n:Nat) (o:Obj):lk n (Az ops en σ0 l).objs=some o↔(∃j∈l,lk n (en j).obs=some o)\/((∀j∈l,lk n (en j).obs=none)/\lk n σ0.objs=some o):=by
 rw[F8,BB];cases h:lk n (l.flatMap λj=>(en j).obs) with
 | some i =>
  obtain⟨j,b,a⟩:=uX h;simp only[ADL];constructor
  .grind
  rintro (⟨d,e,f⟩|⟨h1,_⟩)
  .have:=g.2 j d (c j b) (c d e) n i o a f;grind
  rw[h1 j b]at a;cases a
 | none =>
  have hn:=LR h;simp only[Option.none_or];constructor
  .grind
  grind
theorem A1Q (f:Sep σ0 en k) {ts:List Nat} {l l':List Nat} (m:∀j∈l,j<k) (e:∀j∈l',j<k) (d:∀j∈l,(q||Ad ((Au ops j).getD 0) ts)=true->j∈l') {n:Nat} {o:Obj} :
  lk n (CK q ts σ0.objs (ES ops en l))=some o->lk n (Az ops en σ0 l').objs=some o:=by
 rw[FG f e];induction l with
 | nil =>
  simp only[ES,ADh,CK];intro h;refine .inr ⟨λj b=>?_,h⟩;cases a:lk n (en j).obs with
  | none=>rfl
  | some g=>have:=f.1 j (e j b) n g a;rw[this]at h;cases h
 | cons i r c =>
  simp only[ES,SK,CK];have c:=c (λj b=>m j (by simp[b])) (λj b=>d j (by simp[b]));split
  .rename_i p;intro h;rw[BB]at h;cases a:lk n (en i).obs with
   | some g =>
    rw[a]at h;simp only[ADL]at h;cases h;exact .inl ⟨i,d i sc p,a⟩
   | none =>
    rw[a]at h;exact c (by simpa[ES] using h)
  exact c
theorem Qo:∀ {a b:Ch},Pa a b=true↔a=b
 | [],[]=>by simp[Pa]
 | (j,w) :: r,(d,w') :: c=>by simp[Pa,Qo (a:=r) (b:=c),and_assoc]
 | [],_ :: _=>by simp[Pa]
 | _ :: _,[]=>by simp[Pa]
def bv:AV->Bool
 | .p .bool b=>b
 | _=>false
def tr (en:Nat->En):Ch->Bool
 | []=>true
 | (j,w) :: r=>tr en r&&(bv (en j).v==w)
theorem XB {a:Nat->En}:∀ {c:Ch},(∀k∈c,a k.1=en k.1)->tr a c=tr en c
 | [],_=>rfl
 | (j,w) :: r,h=>by
  have h1:=h (j,w) sc;simp only at h1;simp only[tr];rw[XB (λk hk=>h k (by simp[hk])),h1]
theorem pL {b:Ch}:∀ {c:Ch},W9 b c=true->tr en c=true->tr en b=true
 | [],h,a=>by simp only[W9,Qo]at h;rw[h];exact a
 | k :: r,h,a=>by
  simp only[W9,Ts,Qo]at h;rcases h with rfl|h
  .exact a
  obtain⟨j,w⟩:=k;simp only[tr,As]at a;exact pL h a.1
structure Inv (ops:List Oper) (q:Bool) (σ0:St) (en:Nat->En) (i:Nat) (E:List (Nat×List (Nat×Obj))) (G:Gs) (σ:St):Prop where
 env:∀s v,lk s σ.env=some v->lk s (Az ops en σ0 (Al i)).env=some v
 G:∀s c T v,(s,c,T,v)∈G->T=tr en c/\(T=true->lk s (Az ops en σ0 (Al i)).env=some v)/\(∀k∈c,k.1<i)/\∃j,j<i/\Au ops j=some s/\(en j).b=T
 f:∀j,j<i->(en j).b=false->(en j).v=.raw undef
 objs:σ.objs=(Az ops en σ0 (Al i)).objs
 E:∀ts,CK q ts σ0.objs E=CK q ts σ0.objs (ES ops en (Al i))
def pM (ops:List Oper) (k:Nat):Prop:=∀a b,a<b->b<k->Au ops a≠Au ops b
theorem Z1 (hu:pM ops k) {i j s:Nat} (d:i<=k) (c:j<i) (b:Au ops j=some s):lk s (Az ops en σ0 (Al i)).env=some (en j).v:=by
 rw[F9];have:(Al i).find? (λj=>Au ops j==some s)=some j:=by
  cases hf:(Al i).find? (λj=>Au ops j==some s) with
  | none =>
   have:=ADI.1 hf j (BP.2 c);simp[b]at this
  | some x =>
   have h1:=BP.1 (AD9 hf);have a:=AE2 hf;have a:Au ops x=some s:=by simpa using a
   rcases ADo x j with h|h|h
   .exact absurd (a.trans b.symm) (hu x j h O1)
   .rw[h]
   exact absurd (b.trans a.symm) (hu j x h O1)
 rw[this]
theorem Sh {c:Ch} {s:Nat} {v:AV} {env:List (Nat×AV)}:∀ {G:Gs},lk s (L5 c G env)=some v->(∃b T,(s,b,T,v)∈G/\W9 b c=true)\/lk s env=some v
 | [],h=>.inr h
 | (e,b,T,f) :: G,h=>by
  simp only[L5]at h;split at h
  .rename_i hs;simp only[lk]at h;split at h
   .grind
   rcases Sh h with ⟨c2,T2,d,a⟩|a
   .grind
   exact .inr a
  rcases Sh h with ⟨c2,T2,d,a⟩|a
  .grind
  exact .inr a
section
variable {i:Nat} {E:List (Nat×List (Nat×Obj))} {G:Gs} {σ:St}
theorem jS (a:Inv ops q σ0 en i E G σ) {c:Ch} (f:tr en c=true) {s:Nat} {v:AV} (h:lk s (L5 c G σ.env)=some v):lk s (Az ops en σ0 (Al i)).env=some v:=by
 rcases Sh h with ⟨b,T,d,hs⟩|h
 .obtain⟨h1,e,_⟩:=a.G s b T v d;grind [pL]
 exact a.env s v h
theorem yT (m:Inv ops q σ0 en i E G σ) (hu:pM ops k) (v:i<=k) {g:Option (Nat×Bool)} {c:Ch} {T:Bool} (h:Jx ops G σ.env i g=some (c,T)) :
  LP ops (Az ops en σ0 (Al i)) T g/\T=tr en c/\(∀k∈c,k.1<i):=by
 cases g with
 | none =>
  simp only[Jx]at h;cases h;exact⟨rfl,rfl,by simp⟩
 | some g =>
  obtain⟨j,z⟩:=g;simp only[Jx]at h;split at h
  .rename_i r;cases d:Au ops j with
   | none=>rw[d]at h;simp[LO]at h
   | some s =>
    rw[d]at h;simp only[LO]at h;have e:=Z1 (en:=en) (σ0:=σ0) hu v r d;unfold OD at h;split at h
    .rename_i c0 o b n;cases h;obtain⟨h1,t,x,l,y,p,u⟩:=m.G s c0 o _ (GS n);cases hT:o with
     | true =>
      have a:=t hT;rw[e]at a;injection a with a
      refine⟨⟨s,d,.inl ⟨b,by rw[e,a],by simp⟩⟩,?_,?_⟩
      .grind [tr,bv]
      grind
     | false =>
      have w:l=j:=by
       rcases ADo l j with h|h|h
       .exact absurd (p.trans d.symm) (hu l j h O1)
       .exact h
       exact absurd (d.trans p.symm) (hu j l h O1)
      subst w;have a:=m.f l r (by rw[u,hT]);refine⟨⟨s,d,.inr ⟨by rw[e,a],by simp⟩⟩,?_,?_⟩
      .grind [tr]
      grind
    .rename_i b _ n;cases h;have a:=m.env s _ n;rw[e]at a;injection a with a
     refine⟨⟨s,d,.inl ⟨b,by rw[e,a],rfl⟩⟩,by simp[tr,a,bv],?_⟩;grind
    cases h
  cases h
theorem jT (d:Inv ops q σ0 en i E G σ) (hu:pM ops k) (o:i<=k) {c:Ch} (z:tr en c=true) {s:Nat} {w:Bool} (hs:lk s (Az ops en σ0 (Al i)).env=some (.p .bool w)) {x:Operand} {v:AV}
  (h:Mw ops c G σ.env s w x=some v) {objs:List (Nat×Obj)}:Am ⟨(Az ops en σ0 (Al i)).env,objs⟩ x=some v:=by
 cases x with
 | const x=>simp only[Mw]at h;exact h
 | func f=>simp[Mw]at h
 | global g=>simp[Mw]at h
 | tmp t =>
  simp only[Mw]at h;simp only[Am];cases a:lk t G with
  | none =>
   rw[a]at h;exact d.env t v h
  | some e =>
   obtain⟨b,T,u⟩:=e;rw[a]at h;simp only[Sf]at h;obtain⟨h1,y,m,_⟩:=d.G t b T u (GS a);split at h
   .grind [pL]
   cases b with
   | nil=>cases h
   | cons p r =>
    obtain⟨j,w'⟩:=p;simp only at h;split at h
    .rename_i hh;obtain⟨rfl,n,l⟩:=hh;rw[Qo]at l;subst l;cases h;have A:=Z1 (en:=en) (σ0:=σ0) hu o (m (j,w') sc) n;grind [tr,bv]
    cases h
theorem A91 (a:Inv ops q σ0 en i E G σ) (hu:pM ops k) (l:i<=k) {c:Ch} (d:tr en c=true) {o:Oper} {vc:Prop} {v:AV} {obs:List (Nat×Obj)} (h:opM tb ops q σ0.objs c G E σ.env o (Jy o.op)=some (vc,v,obs)) (A:vc) :
  ∃m:Prop,aq tb ⟨(Az ops en σ0 (Al i)).env,CK q (Hr o.op) σ0.objs (ES ops en (Al i))⟩ (o.dst.getD 0) o.op=some (m,v,obs)/\m:=by
 cases j:Jy o.op with
 | none =>
  rw[j]at h;simp only[opM]at h;refine⟨vc,Vk (σ:=⟨L5 c G σ.env,Ox q o.op σ0.objs E⟩) ?_ ?_ h,A⟩
  .intro n x hn;have:Ox q o.op σ0.objs E=CK q (Hr o.op) σ0.objs E:=by cases E<;>rfl
   simp only at hn ⊢;rw[this,a.E]at hn;exact hn
  intro x _ v e;cases x with
  | tmp t=>exact jS a d e
  | const B=>exact e
  | global g=>exact e
  | func f=>exact e
 | some p =>
  obtain⟨s,x,y⟩:=p;rw[j]at h;have z:o.op=.pick s x y:=by
   unfold Jy at j;grind
  simp only[opM]at h;rw[z];cases s with
  | const _=>simp[Qn]at h
  | func _=>simp[Qn]at h
  | global _=>simp[Qn]at h
  | tmp s =>
   simp only[Qn]at h;unfold Sg at h;split at h
   .rename_i b p r h1 u w;cases h;have hs:=jS a d h1;refine⟨True,?_,trivial⟩;have h0:Am ⟨(Az ops en σ0 (Al i)).env,CK q (Hr (Op.pick (.tmp s) x y)) σ0.objs (ES ops en (Al i))⟩ (.tmp s)=some (.p .bool b):=hs;simp only[aq];rw[h0];cases b with
    | true =>
     simp only[MW];rw[jT a hu l d hs u];rfl
    | false =>
     simp only[MW];rw[jT a hu l d hs w];rfl
   cases h
end
theorem Si {rest:List Oper} (hu:pM ops k):∀ {fr:List Oper} {i:Nat} {E:List (Nat×List (Nat×Obj))} {G:Gs} {σ σ':St} {en:Nat->En} {vc:Prop},MT tb ops q σ0.objs rest fr i E G σ=some (vc,σ')->vc->Inv ops q σ0 en i E G σ->i+fr.length=k->(∀j,j<fr.length->ops[i+j]?=fr[j]?) ->
  ∃l:Nat->En,(∀j,j<i->l j=en j)/\(∀j o,i<=j->j<k->ops[j]?=some o->XA tb ops q σ0 l j o) /\
   ∃(D:Prop) (σ2:St),CC tb ops rest σ2=some (D,σ')/\D/\(∀s v,lk s σ2.env=some v->lk s (Az ops l σ0 (Al k)).env=some v)/\σ2.objs=(Az ops l σ0 (Al k)).objs
 | [],i,E,G,σ,σ',en,vc,h,H,n,hk,_=>by
  simp only[MT]at h;simp at hk;subst hk;exact⟨en,λ_ _=>rfl,λj o h1 P=>by omega,vc,σ,h,H,n.env,n.objs⟩
 | o :: r,i,E,G,σ,σ',en,vc,h,H,n,hk,al=>by
  have aj:ops[i]?=some o:=by simpa using al 0 sc
  have Q:Au ops i=o.dst:=by simp[Au,aj]
  have U:i<k:=by simp at hk;omega
  simp only[MT]at h;cases S:Jx ops G σ.env i o.guard with
  | none=>rw[S]at h;simp[evMG]at h
  | some ap =>
   obtain⟨c,T⟩:=ap;obtain⟨bf,hT,ab⟩:=yT n hu (ADf U) S;rw[S]at h;simp only[evMG]at h;cases W:opM tb ops q σ0.objs c G E σ.env o (Jy o.op) with
   | none =>
    rw[W]at h;unfold evMQ at h;split at h
    .rename_i R;cases R
    .rename_i R;cases R
    cases h
   | some bm =>
    obtain⟨bn,v,obs⟩:=bm;rw[W]at h;have ao:∀(d:Nat) (e:En) (L:List (Nat×List (Nat×Obj))) (M:Gs) (K:St) (F:Prop),o.dst=some d->e.b=T->(T=true->bn/\e.v=v/\e.obs=obs/\Br obs σ=true)->(T=false->e.v=.raw undef/\e.obs=[]) ->
      (∀s a,lk s K.env=some a->if s=d then a=e.v else lk s σ.env=some a)->K.objs=e.obs++σ.objs ->
      (∀s w B a,(s,w,B,a)∈M->(s,w,B,a)∈G\/(s=d/\w=c/\B=T/\a=v))->(∀ts,CK q ts σ0.objs L=CK q ts σ0.objs ((d,e.obs) :: E)) ->
      MT tb ops q σ0.objs rest r (i+1) L M K=some (F,σ')->F ->
      ∃l:Nat->En,(∀j,j<i->l j=en j)/\(∀j o,i<=j->j<k->ops[j]?=some o->XA tb ops q σ0 l j o) /\
       ∃(D:Prop) (σ2:St),CC tb ops rest σ2=some (D,σ')/\D/\(∀s v,lk s σ2.env=some v->lk s (Az ops l σ0 (Al k)).env=some v)/\σ2.objs=(Az ops l σ0 (Al k)).objs:=by
     intro d e L M K F t I af ae bc bg aw au bd bl
     let u:Nat->En:=λj=>if j=i then e else en j
     have O:u i=e:=by simp[u]
     have heq:∀j,j<i->u j=en j:=λj z=>by simp[u,show j≠i by omega]
     have ba:Az ops u σ0 (Al i)=Az ops en σ0 (Al i):=LQ λj z=>heq j (BP.1 z);have Z:ES ops u (Al i)=ES ops en (Al i):=by
      apply SB;grind [BP]
     have bb:Az ops u σ0 (Al (i+1))=(Az ops en σ0 (Al i)).add e.v e.obs (some d):=by grind [Al,Az]
     have ak:∀s a,s≠d->lk s (Az ops en σ0 (Al i)).env=some a->lk s (Az ops u σ0 (Al (i+1))).env=some a:=by grind [St.add,lk]
     have ag:lk d (Az ops u σ0 (Al (i+1))).env=some e.v:=by grind [St.add,lk]
     have ax:Inv ops q σ0 u (i+1) L M K:=by
      refine⟨λs a A=>?_,λs w B a p=>?_,λj z m=>?_,?_,λts=>?_⟩
      .have:=bc s a A;split at this
       .rename_i hs;rw[hs,this];exact ag
       rename_i hs;exact ak s a hs (n.env s a this)
      .rcases aw s w B a p with p|⟨rfl,rfl,rfl,rfl⟩
       .obtain⟨h1,P,N,j,z,ad,m⟩:=n.G s w B a p;have bh:s≠d:=by
         rintro rfl;exact hu j i z U (by rw[ad,Q,t])
        refine⟨by rw[XB (en:=en) λk hk=>heq _ (N k hk)];exact h1,λhT=>ak s a bh (P hT),λk hk=>by have:=N k hk;omega,j,by omega,ad,by rw[heq j z];exact m⟩
       refine⟨by rw[XB (en:=en) λk hk=>heq _ (ab k hk)];exact hT,λay=>?_,λk hk=>by have:=ab k hk;omega,i,by omega,by rw[Q,t],by rw[O];exact I⟩;rw[ag,(af ay).2.1]
      .by_cases V:j=i
       .subst V;rw[O]at m ⊢;exact(ae (by rw[<-I];exact m)).1
       rw[heq j O1]at m ⊢;exact n.f j O1 m
      .rw[bb,bg,n.objs];rfl
      rw[au];simp only[ES,Al,SK,O,Q,t,ACt,CK];have:=n.E ts;rw[<-Z]at this;simp only[ES]at this;rw[this]
     obtain⟨l,h1,P,N⟩:=Si hu bd bl ax (by simp at hk ⊢;omega) (λj z=>by
      have:=al (j+1) (by simp;omega);rw[show i+(j+1)=i+1+j by omega]at this;simpa using this)
     refine⟨l,λj z=>by rw[h1 j O1,heq j z],λj bq bo bp ai=>?_,N⟩;by_cases V:j=i
     .subst V;rw[aj]at ai;cases ai;have J:l j=e:=by rw[h1 j O1,O]
      have aa:Az ops l σ0 (Al j)=Az ops en σ0 (Al j):=by
       rw[<-ba];exact LQ λq X=>h1 q (by have:=BP.1 X;omega)
      have av:ES ops l (Al j)=ES ops en (Al j):=by
       rw[<-Z];apply SB;intro q X;rw[h1 q (by have:=BP.1 X;omega)]
      refine⟨by rw[aa,J,I];exact bf,λm=>?_,λm=>?_⟩
      .rw[J,I]at m;obtain⟨bi,bj,bk,an⟩:=af m;obtain⟨D,aq,ar⟩:=A91 n hu (ADf U) (by rw[<-hT];exact m) W bi;rw[J,aa,av,bj,bk];exact⟨D,aq,ar,by
        simp only[Br]at an ⊢;rw[<-n.objs];exact an⟩
      rw[J,I]at m;rw[J];exact ae m
     grind
    cases c with
    | nil =>
     cases t:o.dst with
     | none=>rw[t]at h;simp[evMQ]at h
     | some d =>
      rw[t]at h;simp only[evMQ]at h;split at h
      .rename_i be;cases C:MT tb ops q σ0.objs rest r (i+1) (L4 d obs E) G (σ.add v obs (some d)) with
       | none=>rw[C]at h;simp[Za]at h
       | some Y =>
        obtain⟨F,σ2⟩:=Y;rw[C]at h;simp only[Za]at h;cases h;have az:T=true:=by rw[hT];rfl
        refine ao d ⟨T,v,obs⟩ _ _ _ F t rfl (λ_=>⟨H.1,rfl,rfl,be⟩) (λhf=>by rw[az]at hf;cases hf) (λs a A=>?_) rfl (λs w B a p=>.inl p) (λts=>?_) C H.2
        .simp only[St.add,lk]at A;split at A
         .rename_i hs;cases A;simp[hs]
         rename_i hs;rw[At hs];exact A
        cases obs with
        | nil=>simp[L4,CK]
        | cons x y=>rfl
      cases h
    | cons g w =>
     cases obs with
     | cons x y=>simp[evMQ]at h
     | nil =>
      cases t:o.dst with
      | none=>rw[t]at h;simp[evMQ]at h
      | some d =>
       rw[t]at h;simp only[evMQ]at h;split at h
       .rename_i ah;cases C:MT tb ops q σ0.objs rest r (i+1) E ((d,g :: w,T,v) :: G) σ with
        | none=>rw[C]at h;simp[Za]at h
        | some Y =>
         obtain⟨F,σ2⟩:=Y;rw[C]at h;simp only[Za]at h;cases h;refine ao d ⟨T,bif T then v else .raw undef,[]⟩ _ _ _ F t rfl (λam=>⟨H.1 am,by simp[am],rfl,by simp[Br]⟩) (λhf=>⟨by simp[hf],rfl⟩) (λs a A=>?_) rfl (λs c2 B a p=>?_) (λts=>?_) C H.2
         .have:s≠d:=by
           rintro rfl;rw[A]at ah;cases ah
          rw[At this];exact A
         .rcases Do.1 p with p|p
          .cases p;exact .inr ⟨rfl,rfl,rfl,rfl⟩
          exact .inl p
         simp[CK]
       cases h
end
section
variable {c:Cx} {ops:Array Oper} {k:Nat} {anc:List (List Nat)} {σ0 σ':St} {en:Nat->En} {Q:Exit->Act->World->Prop}
theorem A1R {o:Oper} {e:Edge} (b:e∈o.after) (a:Region.binds .any e=true):e.on∈EU o:=by grind [EU]
theorem Dx {listed:Array Bool} {i:Nat}:i∈Region.ready .any ops listed↔listed.getD i true=false/\∃o,ops[i]?=some o/\∀e∈EU o,listed.getD e false=true:=by
 rw[mem_ready];grind [EU,A1R]
structure Z2 (ops:Array Oper) (k:Nat) (anc:List (List Nat)):Prop where
 lt:∀i o,ops[i]?=some o->∀e∈EU o,e<i
 cl:∀i o,ops[i]?=some o->∀j∈anc.getD i [],j∈EU o\/∃e∈EU o,j∈anc.getD e []
 front:∀i o,ops[i]?=some o->i<k->(∃d,o.dst=some d)/\(∀t∈OB ops.toList o,∀j,j<k->Au ops.toList j=some t->j∈anc.getD i [])/\∀j,j<i->Au ops.toList j≠o.dst
 back:∀i o,ops[i]?=some o->k<=i->∀j,j<i->j∈anc.getD i []
 k:k<=ops.size
theorem AAQ (h:pK ops.toList k anc=true):Z2 ops k anc:=by
 simp only[pK,As,No,SH,NO]at h;obtain⟨hk,h⟩:=h;have hi:∀i o,ops[i]?=some o->opB ops.toList k anc i o=true:=by grind
 refine⟨λi o a e l=>?_,λi o a j b=>?_,λi o a c=>?_,λi o a c j b=>?_,by simpa using hk⟩
 .grind [opB]
 .grind [opB,Ah]
 .have:=hi i o a;simp only[opB,c,AAt,As,No,SH,Ts,Ah,ADe]at this;obtain⟨_,⟨h1,f⟩,d⟩:=this;refine⟨ACC.1 h1,λt m j b g=>?_,d⟩;grind
 have:=hi i o a;simp only[opB,show ¬i<k by omega,ACm,As,No,SH,Ah]at this;exact this.2 j b
theorem XC (a:Z2 ops k anc) {listed:Array Bool} (g:∀i o,ops[i]?=some o->listed.getD i true=true->∀e∈EU o,listed.getD e false=true) :
  ∀i o,ops[i]?=some o->(∀e∈EU o,listed.getD e false=true)->∀j∈anc.getD i [],listed.getD j false=true:=by
 intro i;induction i using Nat.strongRecOn with
 | _ i m =>
  intro o b c j f;rcases a.cl i o b j f with h1|⟨e,d,h⟩
  .exact c j h1
  have l:=a.lt i o b e d;grind
theorem Z3 {l:List Oper} {p:Nat} {o:Oper} {r:List Oper} (h:l.drop p=o :: r):l[p]?=some o/\r=l.drop (p+1):=by
 constructor
 .have:(l.drop p)[0]?=some o:=by rw[h];rfl
  grind
 rw[<-ADa,h];rfl
theorem Qp {F:Fence} {P:Program} (f:Z2 ops k anc):∀ {rest:List Oper} {p:Nat} {listed:Array Bool} {a:Act} {w:World},ops.toList.drop p=rest->k<=p->p<=ops.size->listed.size=ops.size ->
  (∀i,i<ops.size->(listed.getD i true=true↔i<p))->wpListIn F 0 P ops Q rest a w->wpAnyIn F 0 P .any ops Q rest.length listed a w
 | [],p,listed,a,w,m,J,L,q,d,c=>by
  have S:p=ops.size:=by
   have:=ACb List.length m;simp at this;omega
  refine⟨?_,c⟩;apply ADr.2;grind [Dx]
 | o :: r,p,listed,a,w,m,J,L,q,d,c=>by
  obtain⟨g,C⟩:=Z3 m;have g:ops[p]?=some o:=by simpa using g
  have t:p<ops.size:=(Tt.1 g).1;have x:∀e b,e<ops.size->listed.getD e b=listed.getD e true:=λe b h=>by grind
  have G:∀i o,ops[i]?=some o->listed.getD i true=true->∀e∈EU o,listed.getD e false=true:=by
   intro i o B h1 e h;have u:i<ops.size:=(Tt.1 B).1;have y:=(d i u).1 h1;have l:=f.lt i o B e h;grind
  have M:∀i,i∈Region.ready .any ops listed->i=p:=by
   intro i hi;rw[Dx]at hi;obtain⟨h1,D,s,y⟩:=hi;have u:i<ops.size:=(Tt.1 s).1;have O:¬i<p:=λK=>by rw[(d i u).2 K]at h1;cases h1
   by_cases n:i=p
   .exact n
   have l:=XC f G i D s y p (f.back i D s O1 p O1);rw[x p false t]at l;have:=(d p t).1 l;omega
  refine⟨λR=>?_,λi hi=>?_⟩
  .exfalso;have:p∈Region.ready .any ops listed:=by
    rw[Dx];refine⟨?_,o,g,λe h=>?_⟩
    .cases hh:listed.getD p true with
     | false=>rfl
     | true=>have:=(d p t).1 hh;omega
    have:=f.lt p o g e h;rw[x e false O1];exact(d e O1).2 this
   grind
  have n:=M i hi;subst n;have A:∀(j:Nat),j<ops.size->((listed.setIfInBounds i true).getD j true=true↔j<i+1):=by
   intro j H;have I:j<listed.size:=by omega
   by_cases z:j=i
   .subst z;simp[Array.getD,I]
   have h1:(listed.setIfInBounds i true).getD j true=listed.getD j true:=getD_set_ne true (λe=>z e.symm);rw[h1,d j H];omega
  unfold wpOpIn;rw[g];simp only;unfold wpListIn at c;split
  .rename_i v;rw[BY v]at c;exact Oper.wpIn_mono (λN w' E=>Qp f C.symm O1 O1 (by simpa using q) A E) c
  rename_i v;rw[At v]at c;exact⟨c.1,Qp f C.symm O1 O1 (by simpa using q) A c.2⟩
end
end
section
open Go Go.RowKit
theorem Ed:∀(k:Nat) (l:List Nat),l.Nodup->(∀j∈l,j<k)->l.length<=k
 | 0,l,_,h=>by
  cases l with
  | nil=>simp
  | cons x r=>have:=h x sc;omega
 | k+1,l,hn,h=>by
  by_cases hk:k∈l
  .have:=Ed k (l.erase k) (hn.erase k) (λj a=>by
    have h1:=(hn.mem_erase_iff).1 a;have:=h j h1.2;have:=h1.1;omega)
   grind
  have:=Ed k l hn (λj a=>by
   have:=h j a;have:j≠k:=λe=>hk (e▸a);omega)
  omega
theorem uY:∀(k:Nat) (l:List Nat),(∀j,j<k->j∈l)->k<=l.length
 | 0,l,_=>by simp
 | k+1,l,h=>by
  have hk:=h k O1;have:=uY k (l.erase k) (λj a=>(ADv O1).2 (h j O1));grind
theorem XD {c:Cx} {σ σ':St} {a:Act} {w:World} (j:∀s,lk s σ'.env=lk s σ.env) (f:∀n,lk n σ'.objs=lk n σ.objs) (h:c.sat σ a w):c.sat σ' a w:=by
 obtain⟨ρ,h⟩:=h;have d:Hm σ'=Hm σ:=by
  funext n;simp only[Hm,f]
 have g:∀w,vw w c.O0 σ' ρ=vw w c.O0 σ ρ:=by
  intro w;have l:own c.O0 σ' ρ=own c.O0 σ ρ:=by
   funext b;simp only[own,d]
  simp only[vw,d,l]
 refine⟨ρ,h.frm,h.nt,h.defers,λp q=>by rw[d];exact h.pin p q,?_,?_,?_,?_⟩
 .intro n o hn;rw[g];exact h.objs n o (by rw[<-f];exact hn)
 .intro n b k i;exact h.free n b (by rw[<-d];exact k) i
 .intro n m b h1 e;rw[d]at h1 e;exact h.dist n m b h1 e
 intro s v hs;rw[g];exact h.env s v (by rw[<-j];exact hs)
theorem jU {c:Cx} {σ:St} {a:Act} {w:World} (h:c.sat σ a w):c.sat σ a { w with drawn:=w.drawn+1 }:=by
 obtain⟨ρ,h⟩:=h;have hk:Cb (vw w c.O0 σ ρ) (vw { w with drawn:=w.drawn+1 } c.O0 σ ρ):=⟨λ_ _ h=>h,λ_ h=>h,λ_ _=>rfl,λ_ _ _=>rfl⟩;exact⟨ρ,⟨h.frm.os,h.frm.tape,h.frm.output,h.frm.size,h.frm.block⟩,h.nt,h.defers,h.pin,λn o b=>(h.objs n o b).keeps hk λ_ _=>rfl,h.free,h.dist,λs v hs=>(h.env s v hs).keeps hk⟩
theorem Vn {c:Cx} {σ σ':St} {a:Act} {w:World} (d:∀s v,lk s σ'.env=some v->lk s σ.env=some v) (e:∀n,lk n σ'.objs=lk n σ.objs) (h:c.sat σ a w):c.sat σ' a w:=by
 have b:c.sat ⟨σ.env,σ'.objs⟩ a w:=XD (σ:=σ) (λ_=>rfl) e h;obtain⟨ρ,h⟩:=b;exact⟨ρ,h.frm,h.nt,h.defers,h.pin,h.objs,h.free,h.dist,λs v hs=>h.env s v (d s v hs)⟩
theorem Mx {c:Cx} {ops:Array Oper} {σ:St} {a:Act} {w:World} (hs:c.sat σ a w) {o:Oper} {b:Bool} (h:LP ops.toList σ b o.guard):Region.wanted o (yielded ops a.tmps)=b:=by
 cases d:o.guard with
 | none =>
  rw[d]at h;simp only[LP]at h;simp[Region.wanted,d,h]
 | some g =>
  obtain⟨j,n⟩:=g;rw[d]at h;simp only[LP]at h;obtain⟨s,k,h⟩:=h;rcases h with ⟨x,e,rfl⟩|⟨e,rfl⟩
  .refine IA hs ?_;grind [Fq,Au,Mi,SX]
  obtain⟨ρ,hs⟩:=hs;have i:a.tmps.getD s undef=undef:=hs.env s _ e;have l:(ops[j]?).bind (·.dst)=some s:=by simpa[Au] using k
  have m:yielded ops a.tmps j=none:=by
   simp only[yielded,l,Option.bind_some];by_cases f:s<a.tmps.size
   .have:a.tmps.getD s undef=a.tmps[s]:=by simp[Array.getD,f]
    rw[this]at i;rw[AAh f,i];rfl
   grind
  simp[Region.wanted,d,m]
section
variable {c:Cx} {ops:Array Oper} {k:Nat} {q:Bool} {anc:List (List Nat)} {σ0 σ':St} {en:Nat->En} {Q:Exit->Act->World->Prop}
theorem A92 (hF:∀j o,j<k->ops[j]?=some o->XA c.tb ops.toList q σ0 en j o) (hk:k<=ops.size):Sep σ0 en k:=by
 have one:∀j,j<k->∀n o,lk n (en j).obs=some o->lk n (Az ops.toList en σ0 (Al j)).objs=none:=by
  intro j a n o hn;have m:ops[j]?=some (ops[j]'(by omega)):=AAh O1;have h1:=hF j _ a m;cases g:(en j).b with
  | true =>
   obtain⟨_,_,_,hf⟩:=h1.t g;exact PP hf hn
  | false =>
   rw[(h1.f g).2]at hn;simp[lk]at hn
 have low:∀i j,i<j->j<k->∀n o d,lk n (en i).obs=some o->lk n (en j).obs=some d->False:=by
  intro i j l a n o d h1 e;have:=one j a n d e;rw[F8,BB]at this;cases h:lk n ((Al j).flatMap λj=>(en j).obs) with
  | some x=>rw[h]at this;simp at this
  | none =>
   have:=LR h i (BP.2 l);rw[this]at h1;cases h1
 refine⟨λj a n o hn=>?_,λi j hi a n o d h1 e=>?_⟩
 .grind [F8,BB,lk,Al]
 grind
theorem A1S (b:Z2 ops k anc) {l:List Nat} (e:∀j∈l,j<k) {s j:Nat} (d:j∈l) (f:Au ops.toList j=some s):l.find? (λj=>Au ops.toList j==some s)=some j:=by
 have hu:∀i,i∈l->Au ops.toList i=some s->i=j:=by
  intro i hi g;have h1:=e i hi;have a:=e j d;have m:=b.k;have get:∀x,x<k->Au ops.toList x=(ops[x]?).bind (·.dst):=λx _=>by simp[Au]
  rcases ADo i j with h|h|h
  .have c:ops[j]?=some (ops[j]'(by omega)):=AAh O1;have:=(b.front j _ c a).2.2 i h;grind
  .exact h
  have c:ops[i]?=some (ops[i]'(by omega)):=AAh O1;have:=(b.front i _ c h1).2.2 j h;grind
 cases hf:l.find? (λj=>Au ops.toList j==some s) with
 | none =>
  have:=ADI.1 hf j d;simp[f]at this
 | some i =>
  have h1:=AD9 hf;have a:=AE2 hf;rw[hu i h1 (by simpa using a)]
theorem XE (a:Z2 ops k anc) {l l':List Nat} (b:∀j∈l,j<k) (c:∀j∈l',j<k) {s:Nat} (h:∀j,j<k->Au ops.toList j=some s->j∈l/\j∈l') :
  lk s (Az ops.toList en σ0 l).env=lk s (Az ops.toList en σ0 l').env:=by
 rw[F9,F9];by_cases d:∃j,j<k/\Au ops.toList j=some s
 .grind [A1S]
 grind
theorem yU (Z:c.Ok) (A:Z2 ops k anc) (bj:∀o∈ops.toList,IV c.nt o=true) (hF:∀j o,j<k->ops[j]?=some o->XA c.tb ops.toList false σ0 en j o)
  {σ2:St} (an:∀s v,lk s σ2.env=some v->lk s (Az ops.toList en σ0 (Al k)).env=some v) (ao:σ2.objs=(Az ops.toList en σ0 (Al k)).objs) (hT:∀I w',c.sat σ2 I w'->wpListIn (FR c.r) 0 c.P ops Q (ops.toList.drop k) I w') :
  ∀(m:Nat) (ex:List Nat) (listed:Array Bool) (a:Act) (w:World),ex.Nodup->(∀j∈ex,j<k)->m+ex.length=ops.size->listed.size=ops.size->(∀i,i<ops.size->(listed.getD i true=true↔i∈ex)) ->
   (∀i o,ops[i]?=some o->i∈ex->∀e∈EU o,e∈ex)->c.sat (Az ops.toList en σ0 ex) a w->wpAnyIn (FR c.r) 0 c.P .any ops Q m listed a w:=by
 have al:=A.k;have H:=A92 hF al;intro m;induction m with
 | zero =>
  intro ex listed a w N z bo Y J ap hs;have h1:=Ed k ex N z;have bn:k=ops.size:=by omega
  by_cases D:∀j,j<k->j∈ex
  .have ar:ops.toList.drop k=[]:=by simp[bn]
   have S:c.sat σ2 a w:=Vn an (λ_=>by rw[ao]) <| XD
    (λs=>(XE A z (λj y=>BP.1 y) λj y _=>⟨D j y,BP.2 y⟩).symm)
    (λn=>ADO λo=>by
     rw[FG H (λj y=>BP.1 y),FG H z];simp only[BP];constructor
     .grind
     rintro (⟨j,y,h⟩|⟨h1,U⟩)
     .grind
     exact .inr ⟨λj y=>h1 j (D j y),U⟩) hs
   have:=Qp (Q:=Q) (F:=FR c.r) (P:=c.P) A (rest:=[]) (p:=k) (listed:=listed) (a:=a) (w:=w) ar (OR _) al Y (λi hi=>by
    rw[J i hi];exact⟨z i,D i⟩) (by rw[<-ar];exact hT a w S)
   exact this
  exfalso;apply D;intro j y;apply IF;intro az;have:=Ed k (j :: ex) (gO.2 ⟨az,N⟩) (λi hi=>by
   rcases Do.1 hi with rfl|hi
   .exact y
   exact z i hi)
  simp at this;omega
 | succ m cc =>
  intro ex listed a w N z bo Y J ap hs;have bf:∀e b,e<ops.size->listed.getD e b=listed.getD e true:=λe b C=>by grind
  by_cases D:∀j,j<k->j∈ex
  .have cm:ex.length=k:=ACA (Ed k ex N z) (uY k ex D);have S:c.sat σ2 a w:=Vn an (λ_=>by rw[ao]) <| XD
    (λs=>(XE A z (λj y=>BP.1 y) λj y _=>⟨D j y,BP.2 y⟩).symm)
    (λn=>ADO λo=>by
     rw[FG H (λj y=>BP.1 y),FG H z];simp only[BP];constructor
     .grind
     rintro (⟨j,y,h⟩|⟨h1,U⟩)
     .grind
     exact .inr ⟨λj y=>h1 j (D j y),U⟩) hs
   have:=Qp (Q:=Q) (F:=FR c.r) (P:=c.P) A (rest:=ops.toList.drop k) (p:=k) (listed:=listed) (a:=a) (w:=w) rfl (OR _) al Y (λi hi=>by
    rw[J i hi];exact⟨z i,D i⟩) (hT a w S)
   grind
  refine⟨λbq=>?_,λi hi=>?_⟩
  .exfalso;apply D;intro j;induction j using Nat.strongRecOn with
   | _ j ce =>
    intro y;apply IF;intro az;have R:ops[j]?=some (ops[j]'(by omega)):=AAh O1;have:j∈Region.ready .any ops listed:=by
     rw[Dx];refine⟨?_,_,R,λe C=>?_⟩
     .grind
     have ab:=A.lt j _ R e C;rw[bf e false O1];exact(J e O1).2 (ce e ab O1)
    rw[bq]at this;cases this
  rw[Dx]at hi;obtain⟨h1,o,B,U⟩:=hi;have bd:i<ops.size:=(Tt.1 B).1;have ba:i∉ex:=λh=>by rw[(J i bd).2 h]at h1;cases h1
  have bi:∀e∈EU o,e∈ex:=λe C=>by grind
  have ae:∀j∈anc.getD i [],j∈ex:=by grind [EU,XC]
  have M:i<k:=by
   apply IF;intro ck;exact D λj y=>ae j (A.back i o B O1 j O1)
  have ah:=A.front i o B M;obtain⟨d,cj⟩:=ah.1;have bh:Au ops.toList i=o.dst:=by simp[Au,B]
  have bb:∀t∈OB ops.toList o,lk t (Az ops.toList en σ0 ex).env=lk t (Az ops.toList en σ0 (Al i)).env:=by
   intro t bz;refine XE A z (λj y=>by have:=BP.1 y;omega) λj y af=>?_;have ax:=ah.2.1 t bz j y af;refine⟨ae j ax,BP.2 ?_⟩;have:∀i o,ops[i]?=some o->∀j∈anc.getD i [],j<i:=by
    intro i;induction i using Nat.strongRecOn with
    | _ i cd =>
     intro o B j y;rcases A.cl i o B j y with ad|⟨e,C,bl⟩
     .exact A.lt i o B j ad
     have bg:=A.lt i o B e C;have bd:i<ops.size:=(Tt.1 B).1;have:=cd e bg _ (AAh O1) j bl;omega
   exact this i o B j ax
  have bs:Ops ⟨(Az ops.toList en σ0 (Al i)).env,CK false (Hr o.op) σ0.objs (ES ops.toList en (Al i))⟩ (Az ops.toList en σ0 ex) o.op.operands.toList:=by
   intro x cb v T;cases x with
   | tmp t =>
    simp only[Am]at T ⊢;rw[bb t (by
     simp only[OB,ON,ACO];exact .inl ⟨_,cb,rfl⟩)]
    exact T
   | const cn=>exact T
   | global g=>exact T
   | func f=>exact T
  have br:iU ⟨(Az ops.toList en σ0 (Al i)).env,CK false (Hr o.op) σ0.objs (ES ops.toList en (Al i))⟩ (Az ops.toList en σ0 ex):=by
   intro n G hn;refine A1Q H (λj y=>by have:=BP.1 y;omega) z (λj y ak=>?_) hn;have X:=BP.1 y;have R:ops[j]?=some (ops[j]'(by omega)):=AAh O1;obtain⟨am,af⟩:=(A.front j _ R O1).1;have aq:Au ops.toList j=some am:=by simp[Au,R,af]
   rw[aq]at ak;simp only[ADV,ACt,Ah]at ak;refine ae j (ah.2.1 am ?_ j O1 aq);simp only[OB,ON];exact .inl ak
  have ag:=hF i o M B;have E:LP ops.toList (Az ops.toList en σ0 ex) (en i).b o.guard:=by
   have E:=ag.g;cases ai:o.guard with
   | none=>rw[ai]at E;exact E
   | some g =>
    obtain⟨j,cp⟩:=g;rw[ai]at E;simp only[LP]at E ⊢;obtain⟨s,av,E⟩:=E;refine⟨s,av,?_⟩;rw[bb s (by
     simp only[OB,ai,ON,av];exact .inr sc)]
    exact E
  have aa:=Mx hs E;have bp:o∈ops.toList:=by grind
  have au:=B2 (bj o bp);have bc:∀I w',c.sat ((Az ops.toList en σ0 ex).add (en i).v (en i).obs o.dst) I w'->wpAnyIn (FR c.r) 0 c.P .any ops Q m (listed.setIfInBounds i true) I w':=by
   intro I w' S;refine cc (i :: ex) _ I w' (gO.2 ⟨ba,N⟩) (λj y=>?_) (by simp;omega) (by simpa using Y) (λj y=>?_) (λi' G L aj e C=>?_) (by simp only[Az,bh];exact S)
   .rcases Do.1 y with rfl|y
    .exact M
    exact z j y
   .have bm:j<listed.size:=by omega
    by_cases X:j=i
    .subst X;simp[Array.getD,bm]
    have ab:(listed.setIfInBounds i true).getD j true=listed.getD j true:=getD_set_ne true (λe=>X e.symm);rw[ab,J j y];simp[X]
   rcases Do.1 aj with rfl|aj
   .rw[B]at L;cases L;exact IN _ (bi e C)
   exact IN _ (ap i' G L aj e C)
  unfold wpOpIn;rw[B];simp only;cases V:(en i).b with
  | true =>
   rw[V]at aa;rw[BY aa];obtain⟨co,bu,ca,bk⟩:=ag.t V;obtain⟨ρ,be⟩:=hs;have bv:=Vk br bs bu;have aw:Br (en i).obs (Az ops.toList en σ0 ex)=true:=by
    simp only[Br,No]at bk ⊢;intro p bt;have bx:∃G,lk p.1 (en i).obs=some G:=by
     have:∀(l:List (Nat×Obj)),p∈l->∃G,lk p.1 l=some G:=by
      intro l;induction l with
      | nil=>intro h;cases h
      | cons q r cf =>
       intro h;obtain⟨ch,ci⟩:=q;simp only[lk];by_cases C:p.1=ch
       .exact⟨ci,by rw[BY C]⟩
       rw[At C];rcases Do.1 h with rfl|h
       .exact absurd rfl C
       exact cf h
     exact this _ bt
    obtain⟨G,L⟩:=bx;have:lk p.1 (Az ops.toList en σ0 ex).objs=none:=by
     cases ay:lk p.1 (Az ops.toList en σ0 ex).objs with
     | none=>rfl
     | some cg =>
      rw[FG H z]at ay;rcases ay with ⟨j,y,W⟩|⟨_,W⟩
      .have:=H.2 i j M (z j y) p.1 G cg L W;subst this;exact absurd y ba
      rw[H.1 i M p.1 G L]at W;cases W
    simp[this]
   exact uN (A6l Z be) bv ca aw λu ρ' w' bw=>bc _ _ ⟨ρ',be.add Z.K Z.O au aw bw⟩
  | false =>
   rw[V]at aa;rw[At (by simp[aa])];refine⟨λ_ _=>trivial,?_⟩;have:=ag.f V;have ad:=Nz Z hs au;refine bc _ _ ?_;rw[this.1,this.2];exact ad
end
theorem yV {c:Cx} {ops:Array Oper} {k:Nat} {σ0:St} {en:Nat->En} {Q:Exit->Act->World->Prop} (h:c.Ok) (I:∀o∈ops.toList,IV c.nt o=true) (hF:∀j o,j<k->ops[j]?=some o->XA c.tb ops.toList true σ0 en j o) (hk:k<=ops.size)
  {σ2:St} (E:∀s v,lk s σ2.env=some v->lk s (Az ops.toList en σ0 (Al k)).env=some v) (F:σ2.objs=(Az ops.toList en σ0 (Al k)).objs) (hT:∀d w',c.sat σ2 d w'->wpListIn (FR c.r) 0 c.P ops Q (ops.toList.drop k) d w'):∀(m i:Nat) (a:Act) (w:World),m+i=k->c.sat (Az ops.toList en σ0 (Al i)) a w->wpListIn (FR c.r) 0 c.P ops Q (ops.toList.drop i) a w:=by
 intro m;induction m with
 | zero =>
  intro i a w hi hs;have:i=k:=by omega
  subst this;exact hT _ _ (Vn E (λ_=>by rw[F]) hs)
 | succ m U =>
  intro i a w hi hs;have q:ops[i]?=some (ops[i]'(by omega)):=AAh O1;generalize ops[i]'(by omega)=o at q;have H:ops.toList.drop i=o :: ops.toList.drop (i+1):=by
   have:i<ops.toList.length:=by simp;omega
   rw[IS this];grind
  rw[H];have p:=hF i o O1 q;have n:=Mx hs p.g;have J:o∈ops.toList:=by grind
  have y:=B2 (I o J);have T:Au ops.toList i=o.dst:=by simp[Au,q]
  have B:∀d w',c.sat ((Az ops.toList en σ0 (Al i)).add (en i).v (en i).obs o.dst) d w'->wpListIn (FR c.r) 0 c.P ops Q (ops.toList.drop (i+1)) d w':=by grind [Al,Az]
  unfold wpListIn;cases e:(en i).b with
  | true =>
   rw[e]at n;rw[BY n];obtain⟨S,A,R,z⟩:=p.t e;obtain⟨ρ,C⟩:=hs;have L:∀l:List Nat,CK true (Hr o.op) σ0.objs (ES ops.toList en l)=(Az ops.toList en σ0 l).objs:=by
    intro l;rw[F8];induction l with
    | nil=>rfl
    | cons x r D=>simp only[ES,SK,CK,Bool.true_or,AAt,AD7,SC]at D ⊢;rw[D]
   have M:aq c.tb (Az ops.toList en σ0 (Al i)) (o.dst.getD 0) o.op=some (S,(en i).v,(en i).obs):=by
    rw[L]at A;exact A
   exact uN (A6l h C) M R z λu ρ' w' N=>B _ _ ⟨ρ',C.add h.K h.O y z N⟩
  | false =>
   rw[e]at n;rw[At (by simp[n])];refine⟨λ_ _=>trivial,?_⟩;have:=p.f e;have G:=Nz h hs y;refine B _ _ ?_;rw[this.1,this.2];exact G
theorem OE {tb:Tb} {ops:List Oper} {q:Bool} {base:List (Nat×Obj)} {rest:List Oper}:∀ {fr:List Oper} {i:Nat} {E:List (Nat×List (Nat×Obj))} {G:Gs} {σ σ':St} {vc:Prop},MT tb ops q base rest fr i E G σ=some (vc,σ')->vc ->
  ∃(e f:Prop) (j:St),MT tb ops q base [] fr i E G σ=some (e,j)/\e/\CC tb ops rest j=some (f,σ')/\f
 | [],i,E,G,σ,σ',vc,h,k=>by grind [MT,CC]
 | o :: r,i,E,G,σ,σ',vc,h,k=>by
  simp only[MT]at h;cases l:Jx ops G σ.env i o.guard with
  | none=>rw[l]at h;simp[evMG]at h
  | some p =>
   obtain⟨c,T⟩:=p;rw[l]at h;simp only[evMG]at h;cases m:opM tb ops q base c G E σ.env o (Jy o.op) with
   | none=>rw[m]at h;cases c<;>simp[evMQ]at h
   | some x =>
    obtain⟨u,v,obs⟩:=x;rw[m]at h;cases c with
    | nil =>
     cases a:o.dst with
     | none=>rw[a]at h;simp[evMQ]at h
     | some d =>
      rw[a]at h;simp only[evMQ]at h;split at h
      .rename_i hf;cases b:MT tb ops q base rest r (i+1) (L4 d obs E) G (σ.add v obs (some d)) with
       | none=>rw[b]at h;simp[Za]at h
       | some y =>
        obtain⟨w,σ2⟩:=y;rw[b]at h;simp only[Za]at h;cases h;obtain⟨e,f,j,h1,n,s,t⟩:=OE b k.2;exact⟨u/\e,f,j,by simp only[MT,l,evMG,m,a,evMQ,h1,Za];rw[BY hf],⟨k.1,n⟩,s,t⟩
      cases h
    | cons g c =>
     cases obs with
     | cons z A=>cases a:o.dst<;>rw[a]at h<;>simp[evMQ]at h
     | nil =>
      cases a:o.dst with
      | none=>rw[a]at h;simp[evMQ]at h
      | some d =>
       rw[a]at h;simp only[evMQ]at h;split at h
       .rename_i hf;cases b:MT tb ops q base rest r (i+1) E ((d,g :: c,T,v) :: G) σ with
        | none=>rw[b]at h;simp[Za]at h
        | some y =>
         obtain⟨w,σ2⟩:=y;rw[b]at h;simp only[Za]at h;cases h;obtain⟨e,f,j,h1,n,s,t⟩:=OE b k.2;exact⟨(T=true->u)/\e,f,j,by simp only[MT,l,evMG,m,a,evMQ,h1,Za];rw[BY hf],⟨k.1,n⟩,s,t⟩
       cases h
theorem AAR {ops:List Oper} {q:Bool} {σ0:St} {en:Nat->En}:Inv ops q σ0 en 0 [] [] σ0 :=
 { env:=λ_ _ h=>h,G:=λs c T v h=>absurd h sc,f:=λj a=>absurd a O1,objs:=rfl,E:=λ_=>rfl }
section
variable {c:Cx} {R:Exit->Act->World->Prop} {k:List Dg} {σ σ':St}
def JK (c:Cx) (R:Exit->Act->World->Prop) (k:List Dg) (ops:Array Oper) (l:List Oper) (σ:St):Prop :=
 (∀o∈l,IV c.nt o=true)->DH c.nt k=true->∀a w,c.sat σ a w->wpListIn (FR c.r) 0 c.P ops (Ws c R k) l a w
theorem A6s {ops:Array Oper} (h:Ev c R (.out .normal) k σ):JK c R k ops [] σ:=λ_ b a w hs=>h rfl b a w hs
theorem Qq (f:c.Ok) {ops:Array Oper} {l:List Oper} (n:Nat) {vc:Prop} (h:CC c.tb ops.toList (l.take n) σ=some (vc,σ')) (i:vc) (hk:JK c R k ops (l.drop n) σ'):JK c R k ops l σ:=by
 intro h1 e a w hs;have:=Sd (r:=l.drop n) f (l.take n) hs (λo b=>h1 o (iS b)) h i (λd w' g=>hk (λo b=>h1 o (ACE b)) e d w' g)
 rwa [ACN]at this
theorem jV (z:c.P.follows .mixedOrders=true) (u:c.Ok) {id:Nat} {l:List Oper} (n:Nat) (d:L3 l (l.take n).length=true) {vc:Prop}
  (h:MT c.tb l false σ.objs [] (l.take n) 0 [] [] σ=some (vc,σ')) (C:vc) (hk:JK c R k l.toArray (l.drop n) σ') :
  Ev c R (.run (.region id l.toArray true)) k σ:=by
 intro h1 r a w hs;simp only[IW,B3,No]at h1;have d:=AAQ (ops:=l.toArray) (k:=(l.take n).length) (anc:=A1P l) (by simpa only[L3] using d);have hu:pM l (l.take n).length:=by
  intro x y D g;have m:y<l.length:=by simp at g;omega
  have A:l.toArray[y]?=some l[y]:=by simp[m]
  have:=(d.front y _ A g).2.2 x D;simpa[Au,m] using this
 obtain⟨en,_,hF,F,σ2,f,E,s,t⟩:=Si (ops:=l) (q:=false) (σ0:=σ) (en:=λ_=>⟨false,.top,[]⟩) hu h C AAR sc (λj b=>by
  have b:j<(l.take n).length:=b;rw[ABW,Tv];simp only[OF]at b;rw[BY O1])
 refine wpIn_region_any z ?_;have v:l.drop (l.take n).length=l.drop n:=by simp_all
 simp only[CC]at f;cases f;have:=yU (c:=c) (ops:=l.toArray) (k:=(l.take n).length) (σ0:=σ) (en:=en) (Q:=Ws c R k) u d (by simpa using h1)
  (λj o b e=>hF j o O1 b (by simpa using e)) (σ2:=σ') s t (λp w' B=>by
   rw[show (l.toArray.toList.drop _)=l.drop n from v];exact hk (λo e=>h1 o (by simpa using ACE e)) r p w' B)
  l.toArray.size [] (Array.replicate l.toArray.size false) a { w with drawn:=w.drawn+1 } sc sc sc sc (λi hi=>by simp at hi;simp[Array.getD,hi]) (λi o _ hi=>by simp at hi) (jU hs)
 exact this
theorem pN (r:c.Ok) {id:Nat} {l:List Oper} (n:Nat) (f:yS l (l.take n).length=true) {vc:Prop}
  (h:MT c.tb l true σ.objs [] (l.take n) 0 [] [] σ=some (vc,σ')) (u:vc) (hk:JK c R k l.toArray (l.drop n) σ') :
  Ev c R (.run (.region id l.toArray false)) k σ:=by
 intro h1 i a w hs;simp only[IW,B3,No]at h1;simp only[yS,As,No,SH,NO]at f;have hu:pM l (l.take n).length:=by
  intro x y z A;grind [Au]
 obtain⟨en,_,hF,B,σ2,e,v,m,p⟩:=Si (ops:=l) (q:=true) (σ0:=σ) (en:=λ_=>⟨false,.top,[]⟩) hu h u AAR sc (λj b=>by
  have b:j<(l.take n).length:=b;rw[ABW,Tv];simp only[OF]at b;rw[BY O1])
 have s:l.drop (l.take n).length=l.drop n:=by simp_all
 refine ADc ?_;simp only[CC]at e;cases e;have:=yV (c:=c) (ops:=l.toArray) (k:=(l.take n).length) (σ0:=σ) (en:=en) (Q:=Ws c R k) r (by simpa using h1)
  (λj o b d=>hF j o O1 b (by simpa using d)) (by simpa using f.1) (σ2:=σ') m p (λg w' t=>by
   rw[show (l.toArray.toList.drop _)=l.drop n from s];exact hk (λo d=>h1 o (by simpa using ACE d)) i g w' t)
  (l.take n).length 0 a w sc hs
 exact this
theorem eJ (e:c.Ok) {ops:Array Oper} {l:List Oper} {vc:Prop} (h:CC c.tb ops.toList l σ=some (vc,σ')) (g:vc) (hk:Ev c R (.out .normal) k σ'):JK c R k ops l σ:=by
 intro h1 d a w hs;exact Qf e l hs h1 h g (λb w' f=>hk rfl d b w' f)
theorem jW (e:c.P.follows .mixedOrders=true) (a:c.Ok) {id:Nat} {l:List Oper} (n:Nat) (d:L3 l (l.take n).length=true) {vc:Prop}
  (h:MT c.tb l false σ.objs (l.drop n) (l.take n) 0 [] [] σ=some (vc,σ')) (f:vc) (hk:Ev c R (.out .normal) k σ') :
  Ev c R (.run (.region id l.toArray true)) k σ:=by
 obtain⟨j,m,o,h1,g,b,i⟩:=OE h f;exact jV e a n d h1 g (eJ a b i hk)
theorem pO (a:c.Ok) {id:Nat} {l:List Oper} (n:Nat) (d:yS l (l.take n).length=true) {vc:Prop}
  (h:MT c.tb l true σ.objs (l.drop n) (l.take n) 0 [] [] σ=some (vc,σ')) (e:vc) (hk:Ev c R (.out .normal) k σ') :
  Ev c R (.run (.region id l.toArray false)) k σ:=by
 obtain⟨i,j,m,h1,f,b,g⟩:=OE h e;exact pN a n d h1 f (eJ a b g hk)
theorem A1T (d:c.P.follows .mixedOrders=true) (a:c.Ok) {id:Nat} {l:List Oper} (b:L3 l l.length=true) {vc:Prop}
  (h:MT c.tb l false σ.objs [] l 0 [] [] σ=some (vc,σ')) (e:vc) (hk:Ev c R (.out .normal) k σ') :
  Ev c R (.run (.region id l.toArray true)) k σ :=
 jW d a l.length (by rw[R6];exact b) (by rw[R6,AD0];exact h) e hk
theorem A1U (m:Nat) (d:c.P.follows .mixedOrders=true) (a:c.Ok) {id:Nat} {l:List Oper} (b:L3 l (l.take (l.length-m)).length=true) {vc:Prop}
  (h:MT c.tb l false σ.objs (l.drop (l.length-m)) (l.take (l.length-m)) 0 [] [] σ=some (vc,σ')) (e:vc) (hk:Ev c R (.out .normal) k σ') :
  Ev c R (.run (.region id l.toArray true)) k σ:=jW d a _ b h e hk
theorem pP (a:c.Ok) {id:Nat} {l:List Oper} (b:yS l l.length=true) {vc:Prop}
  (h:MT c.tb l true σ.objs [] l 0 [] [] σ=some (vc,σ')) (d:vc) (hk:Ev c R (.out .normal) k σ') :
  Ev c R (.run (.region id l.toArray false)) k σ :=
 pO a l.length (by rw[R6];exact b) (by rw[R6,AD0];exact h) d hk
theorem pQ (a:c.Ok) {id:Nat} {l:List Oper} (_:(l.all λo=>o.guard.isNone)=true) {vc:Prop} (h:CC c.tb l l σ=some (vc,σ')) (b:vc) (hk:Ev c R (.out .normal) k σ') :
  Ev c R (.run (.region id l.toArray false)) k σ:=pH a h b hk
end
end
section
open Go Go.RowKit
theorem uZ {c:Cx} {σ b σ':St} (l:List Nat) (h:DN l σ=b) (d:Ent c b σ'):Ent c σ σ':=by
 intro a w hs;obtain⟨ρ,hs⟩:=hs;exact d a w ⟨ρ,by rw[<-h];exact LJ hs⟩
theorem My {α:Type} (a b:List α):(a++b).take (a.length+b.length)=a++b:=An sc
theorem Vo {α:Type} (a b:List α):sub (a++b) 0 (a.length+b.length)=a++b:=by rw[KO,My]
theorem KQ {α:Type} (a:List α) (x:α):(a++[x]).take (a.length+1)=a++[x]:=An sc
theorem Qr {α:Type} (a:List α) (x:α):sub (a++[x]) 0 (a.length+1)=a++[x]:=by rw[KO,KQ]
theorem A93 {P:Program} {tb:Tb} {w0:World} {O0:Nat->Prop} {nt:Nat} (c:(cx P tb w0 O0 nt).Ok) {fn:Func} {a:List RV} {σ:St} {e:Exit} (b:List ResultVar) (i:fn.results.toList=b) (f:e=.ret\/e=.normal) (g:∀r∈a,∃t d,r=.p t d) (h:Ow tb σ b a) :
  Ev (cx P tb w0 O0 nt) (Wv P fn w0 O0 a) (.out e) [] σ:=A1N c f g (by rw[i];exact h)
theorem u3:((0:Nat):Int)=0:=rfl
theorem u4 (k:Nat):((k+1:Nat):Int)=(k:Int)+1:=by omega
theorem AD {α:Type} (l:List α) (d:α) {k:Nat} (h:k<l.length):l.getD k d∈l:=by
 rw[AS,AT h];exact nO h
theorem AH {P:Program} {ty:List (Nat×TI)} {b:List Nat} {ne:List (Nat×TypeId)} {a:List Nat}:JQ P ⟨ty,[],b,ne,a⟩:=λf sp h=>by simp[lk]at h
theorem AF {P:Program} {ty:List (Nat×TI)} {c:List Nat} {ne:List (Nat×TypeId)} {b:List Nat} {f:Nat} {sp:AZ} {r:List (Nat×AZ)} (h:Aa P f sp) (d:JQ P ⟨ty,r,c,ne,b⟩):JQ P ⟨ty,(f,sp) :: r,c,ne,b⟩:=λg i a=>by
 simp only[lk]at a;split at a
 .rename_i e;cases a;rw[e];exact h
 exact d g i a
theorem OG {α:Type} (x:α):[x].take 1=[x]:=rfl
theorem AY {α:Type} (l:List α) (d:α) {k:Nat} (h:k<l.length):l.take (k+1)=l.take k++[l.getD k d]:=by
 rw[List.take_add_one,AS,AT h];rfl
theorem Vp {α:Type} (l:List α) (q:Nat):sub l q l.length=l.drop q:=by
 unfold sub;rw[An sc]
end
end Go.Proofs.YtapkhdkbkodbjaaGreat.Fw
