/- Contracts over memory; the frame rule of a call. -/
import Derived.Test.YtaoonfcjbmcmpaaGreatDoorFZF
set_option linter.unusedVariables false
set_option linter.unusedSimpArgs false
namespace Go.Proofs.YtaoonfcjbmcmpaaGreatDoor.Fw
section
open Go Go.RowKit
structure Y4 (K O0:Nat->Prop) (objs:List (Nat×Obj)) (ρ:Nat->Value) (w:World):Prop where
 obj:∀n o,lk n objs=some o->Av (vw w O0 ⟨[],objs⟩ ρ) o (ρ n)
 free:∀n b,GL ⟨[],objs⟩ n->bk (ρ n) b->¬K b/\¬O0 b
 dist:∀n m b,GL ⟨[],objs⟩ n->GL ⟨[],objs⟩ m->bk (ρ n) b->bk (ρ m) b->n=m
def KR (V:Vw):List AV->List Value->Prop
 | [],a=>a=[]
 | x :: r,a=>∃(v:Value) (l:List Value),a=v :: l/\Bn V x v/\KR V r l
def TC (K O0:Nat->Prop) (stay:List Nat) (w:World) (ρ:Nat->Value) (post:AV->List (Nat×Obj)->Prop) (u:Value) (w':World):Prop :=
 ∃(res:AV) (a:List (Nat×Obj)) (ρ':Nat->Value),post res a/\z8 K w w'/\Y4 K O0 a ρ' w'/\Bn (vw w' O0 ⟨[],a⟩ ρ') res u/\∀n∈stay,ρ' n=ρ n
def Aj (P:Program) (f:FuncId) (args:List AV) (objs:List (Nat×Obj)) (stay:List Nat) (post:AV->List (Nat×Obj)->Prop):Prop :=
 (∃ fn : Func, P.funcs[f]? = some fn /\ (fn.name == "runtime.NumGoroutine") = false /\ fn.body.isNone = false) /\
 ∀(w:World) (K O0:Nat->Prop) (ρ:Nat->Value) (a:List Value),(∀b,K b->b<w.heap.size)->(∀b,O0 b->b<w.heap.size)->GW w K O0->Y4 K O0 objs ρ w->KR (vw w O0 ⟨[],objs⟩ ρ) args a ->
  Calls P f a.toArray w λe w'=>∃u,e=.returned u/\TC K O0 stay w ρ post u w'
def AX:Nat->List AV->List (Nat×AV)
 | _,[]=>[]
 | s,x :: r=>(s,x) :: AX (s+1) r
def A0h:AV->Prop
 | .p t d=>t.ok d
 | _=>True
def TD:List AV->Prop
 | []=>True
 | x :: r=>A0h x/\TD r
def lB:Obj->Prop
 | .arr _ e xs=>(Ty.slice e).ok xs
 | .box _ _ fs=>TD fs
 | .mapo k v l=>∀x∈l,k.ok x.1/\v.ok x.2
 | .nest _ _ k e xs none=>(Ty.slice (.agg (.prod k (.slice e)))).ok xs
 | _=>True
def Uy:List (Nat×Obj)->Prop
 | []=>True
 | x :: r=>lB x.2/\Uy r
theorem yD {V:Vw} {x:AV} {v:Value} (h:Bn V x v):A0h x:=by
 cases x<;>try trivial
 obtain⟨cs,a,_⟩:=h;exact G9 a
theorem aX {V:Vw}:∀ {l:List AV} {c:List Value},KR V l c->TD l
 | [],_,_=>trivial
 | _ :: _,_,⟨_,_,_,a,b⟩=>⟨yD a,aX b⟩
theorem aY {V:Vw}:∀ {l:List AV} {cs:List Value},AVCs V l cs->TD l
 | [],_,_=>trivial
 | x :: _,_,⟨c1,c2,_,a,b⟩=>⟨by
   cases x<;>try trivial
   exact G9 (a:Bl _ _ _ _ _),aY b⟩
theorem aZ {w:World} {O:Nat->Prop} {k v:Ty}:∀ {es:List MapEntry} {l:List (k.den×v.den)},Jy w O k v es l->∀x∈l,k.ok x.1/\v.ok x.2
 | [],[],_,x,a=>by cases a
 | [],_ :: _,h,_,_=>h.elim
 | _ :: _,[],h,_,_=>h.elim
 | e :: es,y :: l,⟨⟨_,b,_⟩,⟨_,c,_⟩,d⟩,x,a=>by
  rcases Is.1 a with rfl|a
  .exact⟨G9 b,G9 c⟩
  exact aZ d x a
theorem rU {V:Vw} {o:Obj} {loc:Value} (h:Av V o loc):lB o:=by
 cases o with
 | arr et e xs =>
  obtain⟨m,cells,_,c⟩:=h;refine⟨m,λx f=>?_⟩;obtain⟨i,hi,rfl⟩:=AAN.1 f;obtain⟨es,_,_,d⟩:=c i _ (DO hi);exact G9 d
 | box et y fs=>obtain⟨_,b,cs,_,_,a⟩:=h;exact aY a
 | mapo k v l=>obtain⟨b,es,cl,_,_,a,_⟩:=h;exact aZ a
 | nest et p k e xs j =>
  cases j with
  | some i=>trivial
  | none =>
   obtain⟨o,ins,cells,_,g⟩:=h;have c:=L6 (O':=λ_=>False) (λ_ _ h=>h) g (λ_ _ _ _ _ h=>h);refine⟨g.max,λx f=>?_⟩;obtain⟨i,hi,rfl⟩:=AAN.1 f;obtain⟨es,_,_,d⟩:=c i _ (DO hi);exact G9 d
 | frame z fs=>trivial
 | loop L=>trivial
 | itr q t r s n=>trivial
 | dfr=>trivial
 | sit u w=>trivial
 | gen G=>trivial
theorem bA:∀ {l:List (Nat×Obj)},Qc l=true->(∀n o,lk n l=some o->lB o)->Uy l
 | [],_,_=>trivial
 | (n,o) :: r,a,h=>by
  simp only[Qc,AT,IS,ABW]at a;refine⟨h n o (by simp[lk]),bA a.2 λm x b=>h m x ?_⟩;simp only[lk];rw[As (λe=>a.1 _ (FM b) e)];exact b
theorem bB:∀(l:List AV) (a:List Value) (k:Nat) (V:Vw),KR V l a->∀s v,lk s (AX k l)=some v->k<=s/\∃u,a[s-k]?=some u/\Bn V v u
 | [],a,k,V,h,s,v,hs=>by simp[AX,lk]at hs
 | x :: l,a,k,V,h,s,v,hs=>by
  obtain⟨u,r,rfl,c,b⟩:=h;simp only[AX,lk]at hs;split at hs
  .grind
  obtain⟨d,g,e,f⟩:=bB l r (k+1) V b s v hs;grind
theorem PA {V:Vw}:∀ {l:List AV} {a:List Value},KR V l a->a.length=l.length
 | [],a,h=>by have h:a=[]:=h;subst h;rfl
 | _ :: _,_,⟨_,_,rfl,_,h⟩=>by simp[PA h]
def cm (P:Program) (tb:Tb) (w0:World) (K O0:Nat->Prop) (nt:Nat) (pin:List (Nat×Value)):Cx:={ P:=P,tb:=tb,w0:=w0,K:=K,O0:=O0,nt:=nt,ds:={ pin:=pin } }
theorem Wm {P:Program} {tb:Tb} {w0:World} {K O0:Nat->Prop} {nt:Nat} {pin:List (Nat×Value)}:(cm P tb w0 K O0 nt pin).tb=tb:=rfl
def bC (objs:List (Nat×Obj)) (n:Nat):Bool :=
 match lk n objs with
 | some (.arr _ _ _)=>EV n
 | some (.nest _ _ _ _ _ _)=>EV n
 | some (.gen _)=>EV n
 | some _=>true
 | none=>false
theorem Y5 {P:Program} {tb:Tb} {w0:World} {K O0:Nat->Prop} {nt:Nat} {args:List AV} {objs:List (Nat×Obj)} {stay:List Nat} {ρ:Nat->Value} {c:List Value} (g:Y4 K O0 objs ρ w0) (t:KR (vw w0 O0 ⟨[],objs⟩ ρ) args c) (r:stay.all (bC objs)=true) (x:c.length<=nt) :
  (cm P tb w0 K O0 nt (stay.map λn=>(n,ρ n))).sat ⟨AX 0 args,objs⟩ { tmps:=c.toArray++Array.replicate (nt-c.toArray.size) undef,defers:=[] } w0:=by
 refine⟨ρ,⟨rfl,rfl,rfl,If _,λ_ _=>rfl⟩,by simp[cm];omega,rfl,λp hp=>?_,g.obj,g.free,g.dist,λs v hs=>?_⟩
 .obtain⟨n,q,rfl⟩:=To.1 hp;have:=(IS.1 r) n q;unfold bC at this;cases h:lk n objs with
  | none=>rw[h]at this;cases this
  | some o =>
   rw[h]at this;refine⟨⟨o,h⟩,rfl,?_⟩;have d:=g.obj n o h;cases o with
   | arr et e xs=>exact .inr this
   | nest et z k e xs w=>exact .inr this
   | box et H fs=>obtain⟨_,b,cs,a,_⟩:=d;rw[a];exact .inl rfl
   | mapo k v l=>obtain⟨b,es,cl,a,_⟩:=d;rw[a];exact .inl rfl
   | frame I fs=>obtain⟨a,_⟩:=d;rw[a];exact .inl rfl
   | loop L=>obtain⟨b,a,_⟩:=d;rw[a];exact .inl rfl
   | itr A D B C y=>obtain⟨b,a,_⟩:=d;rw[a];exact .inl rfl
   | dfr=>obtain⟨b,a,_⟩:=d;rw[a];exact .inl rfl
   | sit E F=>obtain⟨b,a,_⟩:=d;rw[a];exact .inl rfl
   | gen G=>exact .inr this
 obtain⟨_,u,f,j⟩:=bB args c 0 _ t s v hs;have f:c[s]?=some u:=by simpa using f
 have i:s<c.length:=(ON.1 f).1;have m:(c.toArray++Array.replicate (nt-c.toArray.size) undef).getD s undef=u:=by
  have:c[s]=u:=by rw[DO i]at f;injection f
  simp[Array.getElem?_append,i,this]
 rw[m];exact j
def rV (P:Program) (fn:Func) (w0:World) (K O0:Nat->Prop) (stay:List Nat) (ρ0:Nat->Value) (post:AV->List (Nat×Obj)->Prop):Exit->Act->World->Prop :=
 bodyPost P fn λe w'=>∃u,e=.returned u/\TC K O0 stay w0 ρ0 post u w'
theorem yE {P:Program} {tb:Tb} {f:FuncId} {fn:Func} {cd:Code} {nt:Nat} {args:List AV} {objs:List (Nat×Obj)} {stay:List Nat} {post:AV->List (Nat×Obj)->Prop}
  (c : P.funcs[f]? = some fn) (k : (fn.name == "runtime.NumGoroutine") = false) (b : fn.body = some cd) (l : fn.ntmps = nt) (q : args.length <= nt)
  (i:CN nt cd=true) (p:stay.all (bC objs)=true) (j:Qc objs=true) (hT:DG P tb) (hF:KH P tb)
  (h:∀(w0:World) (K O0:Nat->Prop) (ρ0:Nat->Value),(cm P tb w0 K O0 nt (stay.map λn=>(n,ρ0 n))).Ok->TD args->Uy objs ->
   Ev (cm P tb w0 K O0 nt (stay.map λn=>(n,ρ0 n))) (rV P fn w0 K O0 stay ρ0 post) (.run cd) [] ⟨AX 0 args,objs⟩):Aj P f args objs stay post:=by
 refine⟨⟨fn,c,k,by simp[b]⟩,λw K O0 ρ s e g hG d a=>?_⟩;refine calls_of_wp c b ((wpIn_wide (n:=0)).1 ?_);have r:=PA a;rw[l];exact h w K O0 ρ ⟨e,g,hT,hF,hG⟩ (aX a) (bA j λn o m=>rU (d.obj n o m)) i rfl _ _ (Y5 d a p oa)
def Wn (tb:Tb) (σ:St) (a:ResultVar):AV->Prop
 | .p t d=>GP σ t (IY tb σ a)=some d
 | x=>IY tb σ a=some x
def KS (tb:Tb) (σ:St):List ResultVar->List AV->Prop
 | [],[]=>True
 | a :: b,x :: l=>Wn tb σ a x/\KS tb σ b l
 | _,_=>False
def PB:AV->Bool
 | .tup _=>false
 | _=>true
def PC (tb:Tb) (σ:St):List ResultVar->AV->Prop
 | [],x=>x=.raw (.tuple #[])
 | [a],x=>Wn tb σ a x
 | b,.tup l=>l.all PB=true/\KS tb σ b l
 | _,_=>False
section
variable {P:Program} {tb:Tb} {w0:World} {K O0:Nat->Prop} {nt:Nat} {ds:Fp} {σ:St} {ρ:Nat->Value} {a:Act} {w:World}
theorem bD (hT:DG P tb) (hs:Bx w0 K O0 nt ds σ ρ a w) {c:ResultVar} {x:AV} (h:Wn tb σ c x):∃u,(Jr a.tmps c).run P w=.ok u w/\Bn (vw w O0 σ ρ) x u:=by
 by_cases hp:∃t d,x=.p t d
 .obtain⟨t,d,rfl⟩:=hp;simp only[Wn]at h;cases e:IY tb σ c with
  | none=>rw[e]at h;simp[GP]at h
  | some v =>
   rw[e]at h;simp only[GP]at h;obtain⟨u,f,g⟩:=Uw hT hs e;exact⟨u,f,Hh (V:=vw w O0 σ ρ) (O':=own O0 σ ρ) (λb i j=>i j) (λh=>by cases h) hs.objs h g⟩
 have h:IY tb σ c=some x:=by
  cases x<;>first|exact h|exact absurd ⟨_,_,rfl⟩ hp
 exact Uw hT hs h
theorem A0i {V:Vw} {x:AV} {v:Value} (a:PB x=true) (h:Bn V x v):Ot V x v:=by
 cases x<;>first|(simp[PB]at a;done)|exact h
theorem TE (hT:DG P tb) (hs:Bx w0 K O0 nt ds σ ρ a w):∀ {d:List ResultVar} {l:List AV},l.all PB=true->KS tb σ d l ->
  ∃b:List Value,(d.mapM (Jr a.tmps)).run P w=.ok b w/\b.length=l.length/\G4 (vw w O0 σ ρ) l b
 | [],[],_,_=>⟨[],by simp,rfl,rfl⟩
 | [],_ :: _,_,h=>h.elim
 | _ :: _,[],_,h=>h.elim
 | k :: d,x :: l,c,h=>by
  simp only[AAZ,AT]at c;obtain⟨u,i,e⟩:=bD hT hs h.1;obtain⟨b,j,f,g⟩:=TE hT hs c.2 h.2;refine⟨u :: b,?_,by simp[f],u,b,rfl,A0i c.1 e,g⟩
  simp_all
theorem Qn {tb:Tb} {σ:St}:∀ {a:List ResultVar} {l:List AV},KS tb σ a l->a.length=l.length
 | [],[],_=>rfl
 | [],_ :: _,h=>h.elim
 | _ :: _,[],h=>h.elim
 | _ :: _,_ :: _,h=>by simp[Qn h.2]
theorem lC (hT:DG P tb) (hs:Bx w0 K O0 nt ds σ ρ a w) {fn:Func} {x:AV} (h:PC tb σ fn.results.toList x):∃u,(results fn a.tmps).run P w=.ok u w/\Bn (vw w O0 σ ρ) x u:=by
 have key:∀b:List Value,(fn.results.toList.mapM (Jr a.tmps)).run P w=.ok b w->(results fn a.tmps).run P w=.ok (if h:b.toArray.size=1 then b.toArray[0] else .tuple b.toArray) w:=by
  intro b c;rw[Qb];have i:(fn.results.mapM (Jr a.tmps)).run P w=.ok b.toArray w:=by
   rw[ABI];simp only[Sem.run_map,c,AAh]
  simp only[AAF,i,AAh,ABm]
 generalize fn.results.toList=o at h key;unfold PC at h;split at h
 .subst h;exact⟨_,key [] sa,rfl⟩
 .rename_i n;obtain⟨u,c,d⟩:=bD hT hs h;exact⟨_,key [u] (by simp[c]),d⟩
 .rename_i l m j;obtain⟨b,c,d,f⟩:=TE hT hs h.1 h.2;have g:=Qn h.2;refine⟨_,key b c,?_⟩;have:¬b.toArray.size=1:=by
   intro e;have e:b.length=1:=by simpa using e
   rw[d,<-g]at e;obtain⟨z,k⟩:=AAR.1 e;exact j z k
  rw[dif_neg this];exact⟨b,rfl,f⟩
 exact h.elim
end
theorem rY {P:Program} {tb:Tb} {w0:World} {K O0:Nat->Prop} {nt:Nat} {stay:List Nat} {ρ0:Nat->Value} {fn:Func} {post:AV->List (Nat×Obj)->Prop} {σ:St} {e:Exit} (g:(cm P tb w0 K O0 nt (stay.map λn=>(n,ρ0 n))).Ok)
  (d:List ResultVar) (k:fn.results.toList=d) (i:e=.ret\/e=.normal) (res:AV) (h:PC tb σ d res) (hp:post res σ.objs) :
  Ev (cm P tb w0 K O0 nt (stay.map λn=>(n,ρ0 n))) (rV P fn w0 K O0 stay ρ0 post) (.out e) [] σ:=by
 intro _ _ a w hs;obtain⟨ρ,hs⟩:=hs;obtain⟨u,b,f⟩:=lC g.T hs (by rw[k];exact h);have c:TC K O0 stay w0 ρ0 post u w:=by
  refine⟨res,σ.objs,ρ,hp,hs.frm,⟨hs.objs,hs.free,hs.dist⟩,f,λn j=>?_⟩;exact(hs.pin (n,ρ0 n) (To.2 ⟨n,j,rfl⟩)).2.1
 rcases i with rfl|rfl
 .exact⟨hs.defers,u,b,u,rfl,c⟩
 exact⟨hs.defers,u,b,u,rfl,c⟩
end
section
open Go Go.RowKit
def Ca:Option AV->Option (FuncId×List Nat)
 | some (.fn f)=>some (f,[])
 | some (.clo f ns)=>if f<1000000 then some (f,ns) else none
 | _=>none
def IG (σ:St):List Operand->Option (List AV)
 | []=>some []
 | x :: r=>match Ae σ x,IG σ r with
  | some v,some a=>some (v :: a)
  | _,_=>none
def F6 (σ:St) (ren:List (Nat×CB)) (x:AV):AV->Prop
 | .p t d=>IQ false σ t x=some d
 | y=>CK ren x y
def Bb (σ:St) (ren:List (Nat×CB)):List AV->List AV->Prop
 | [],[]=>True
 | x :: l,y :: r=>F6 σ ren x y/\Bb σ ren l r
 | _,_=>False
def Az:List (Nat×CB)->List Nat
 | []=>[]
 | (_,.nm n) :: r=>n :: Az r
 | (_,.nil) :: r=>Az r
def w6 (m:Nat):Option CB->Bool
 | some (.nm a)=>a==m
 | _=>false
def w7 (n:Nat) (f:Option CB) (m:Nat):Option CB->Bool
 | some (.nm a)=>a==n&&w6 m f
 | _=>false
def KT (ren a:List (Nat×CB)) (stay hs:List Nat):Bool:=(Az ren).all λn=>Ac n hs||ren.any λp=>Ac p.1 stay&&w7 n (lk n a) p.1 (lk p.1 ren)
def GR (a:List Nat) (b objs:List (Nat×Obj)):Bool:=b.all λp=>Ac p.1 a||(lk p.1 objs).isNone
def JK (dst:Option Nat) (v:AV) (env:List (Nat×AV)):List (Nat×AV) :=
 match dst with
 | some d=>(d,v) :: env
 | none=>env
def Dv (σ:St) (a hs:List Nat) (dst:Option Nat) (res:AV) (b:List (Nat×Obj)):St:=⟨JK dst res (CT hs σ.env),b++BC a hs σ.objs⟩
theorem MC {n:Nat}:∀ {l:List (Nat×CB)},n∈Az l↔∃m,(m,CB.nm n)∈l
 | []=>by simp[Az]
 | (m,.nm k) :: r=>by
  simp only[Az,Is,MC (l:=r),ACD,CB.nm.injEq];grind
 | (m,.nil) :: r=>by
  simp only[Az,Is,MC (l:=r),ACD];grind
theorem bE {V:Vw} {σ:St} {ev:Operand->Value} (b:EI V σ ev):∀ {xs:List Operand} {a:List AV},IG σ xs=some a->KR V a (xs.map ev)
 | [],a,h=>by simp only[IG]at h;cases h;exact(rfl:_=_)
 | x :: r,a,h=>by
  simp only[IG]at h;split at h
  .rename_i v l c d;cases h;exact⟨ev x,r.map ev,rfl,b x v c,bE b d⟩
  cases h
section
variable {V V':Vw} {ren:List (Nat×CB)} {σ:St}
theorem Qo (f:Jz ren V V') (i:∀b,¬V.O b->¬V'.O b) (j:∀n o,lk n σ.objs=some o->Av V o (V.ρ n)):∀ {l r:List AV} {e:List Value},Bb σ ren l r->KR V l e->KR V' r e
 | [],[],e,_,h=>h
 | [],_ :: _,_,a,_=>a.elim
 | _ :: _,[],_,a,_=>a.elim
 | x :: l,y :: r,e,a,h=>by
  obtain⟨v,l',rfl,g,k⟩:=h;refine⟨v,l',rfl,?_,Qo f i j a.2 k⟩;have c:=a.1;by_cases hp:∃t d,y=.p t d
  .obtain⟨t,d,rfl⟩:=hp;have c:IQ false σ t x=some d:=c;have:=Hh (V:=V) (O':=V'.O) i (λh=>by cases h) j c g;show BG V'.w V'.O t v d;rw[f.w];exact this
  have c:CK ren x y:=by
   cases y<;>first|exact c|exact absurd ⟨_,_,rfl⟩ hp
  exact LC f c g
end
section
variable {c:Cx} {R:Exit->Act->World->Prop} {k:List Cl} {σ:St}
theorem rZ {c:Cx} {a:Act} {dst:Option Nat} {u:Value} {s:Nat} {y:AV} {V:Vw} {env:List (Nat×AV)} {res:AV} (f:a.tmps.size=c.nt) (b:∀d,dst=some d->d<c.nt) (g:Bn V res u) (e:∀s v,lk s env=some v->Bn V v (a.tmps.getD s undef))
  (h:lk s (JK dst res env)=some y):Bn V y ((a.put dst u).tmps.getD s undef):=by
 cases dst with
 | none=>exact e s y h
 | some d =>
  rw[Gb a d u s (by rw[f];exact b d rfl)];simp only[JK,lk]at h;split at h
  .grind
  grind
theorem fA (ag:c.Ok) {dst:Option Nat} {ρ:Nat->Value} {a:Act} {w:World} (i:Bx c.w0 c.K c.O0 c.nt c.ds σ ρ a w) {as:List AV} {bp:List Value} (bw:KR (vw w c.O0 σ ρ) as bp)
  {A:List AV} {objs:List (Nat×Obj)} (stay:List Nat) (post:AV->List (Nat×Obj)->Prop)
  (ren:List (Nat×CB)) (cw:CZ ren=true) (ay:Ct objs ren=true) (br:Bb σ ren as A) (bc:Ao σ.objs ren objs)
  (hs:List Nat) (cn:(c.ds.pin.all λp=>!Ac p.1 hs)=true) {next:Act->World->Prop} (bz:∀d,dst=some d->d<c.nt)
  (ab:∀res W,post res W->∃(D:List (Nat×CB)) (al:AV) (q:List (Nat×Obj)),CZ D=true/\Ct q D=true/\Ao W D q/\CK D res al /\
   KT ren D stay hs=true/\GR (Az ren) q σ.objs=true/\∀au w',c.sat (Dv σ (Az ren) hs dst al q) au w'->next au w') :
  ∃(N H:Nat->Prop) (B:Nat->Value),(∀b,N b->b<w.heap.size)/\(∀b,H b->b<w.heap.size)/\GW w N H/\Y4 N H objs B w/\KR (vw w H ⟨[],objs⟩ B) A bp/\(∀m n,lk m ren=some (.nm n)->B m=ρ n) /\
   ∀u w',TC N H stay w B post u w'->next (a.put dst u) w':=by
 let B:Nat->Value:=λm=>match lk m ren with|some (.nm n)=>ρ n|_=>.slice none 0 0
 have ak:∀m n,lk m ren=some (.nm n)->B m=ρ n:=λm n g=>by simp[B,g]
 have bm:∀m,lk m ren=some .nil->B m=.slice none 0 0:=λm g=>by simp[B,g]
 let H:Nat->Prop:=λb=>c.O0 b\/∃n,GL σ n/\n∉Az ren/\bk (ρ n) b
 let N:Nat->Prop:=λb=>b<w.heap.size/\¬ ∃m,GL ⟨[],objs⟩ m/\bk (B m) b
 have S:∀m b,GL ⟨[],objs⟩ m->bk (B m) b->∃n,lk m ren=some (.nm n)/\GL σ n/\bk (ρ n) b:=by
  rintro m b ⟨ar,g⟩ f;have P:=C1 bc g;cases o:lk m ren with
  | none=>rw[o]at P;exact P.elim
  | some r =>
   cases r with
   | nil=>rw[bm m o]at f;simp[bk,blk]at f
   | nm n =>
    rw[o]at P;rw[ak m n o]at f;refine⟨n,rfl,?_,f⟩;cases e:lk n σ.objs with
    | none=>simp only[Fg,e,HA]at P
    | some x=>exact⟨x,e⟩
 have cf:∀m r,lk m ren=some r->GL ⟨[],objs⟩ m:=λm r g=>by
  simp only[Ct,IS]at ay;exact ABa.1 (ay _ (FM g))
 have cy:∀m n,lk m ren=some (.nm n)->n∈Az ren:=λm n g=>MC.2 ⟨m,FM g⟩;have bf:∀b,¬own c.O0 σ ρ b->¬own H ⟨[],objs⟩ B b:=by
  intro b f E;rcases E with (C|⟨n,e,_,j⟩)|⟨m,g,l⟩
  .exact f (.inl C)
  .exact f (.inr ⟨n,e,j⟩)
  obtain⟨n,_,e,j⟩:=S m b g l;exact f (.inr ⟨n,e,j⟩)
 have bd:Jz ren (vw w c.O0 σ ρ) (vw w H ⟨[],objs⟩ B):=⟨rfl,bf,ak,bm,cf⟩;have ci:Y4 N H objs B w:=by
  refine⟨λm ar g=>N1 bd i.objs (C1 bc g),λm b g f=>⟨λbt=>bt.2 ⟨m,g,f⟩,λC=>?_⟩,λm aa b g ap f E=>?_⟩
  .obtain⟨n,o,e,j⟩:=S m b g f;rcases C with C|⟨t,I,F,ae⟩
   .exact(i.free n b e j).2 C
   have:=i.dist n t b e I j ae;grind
  obtain⟨n,o,e,j⟩:=S m b g f;obtain⟨t,bj,I,ae⟩:=S aa b ap E;have:=i.dist n t b e I j ae;grind [Pt]
 have bv:∀b,H b->b<w.heap.size:=by
  rintro b (C|⟨n,⟨ar,e⟩,_,j⟩)
  .exact AAf (ag.O b C) i.frm.size
  exact(i.objs n ar e).block_lt j
 have cc:GW w N H:=ag.G.mono (λb ab cl=>⟨⟨AAf (ag.K b ab) i.frm.size,λ⟨m,g,l⟩=>by
  obtain⟨n,_,e,j⟩:=S m b g l;exact(i.free n b e j).1 ab⟩,λC=>by
  rcases C with C|⟨n,e,_,j⟩
  .exact cl C
  exact(i.free n b e j).1 ab⟩) i.frm.block
 refine⟨N,H,B,λb f=>f.1,bv,cc,ci,Qo bd bf i.objs br bw,ak,?_⟩;rintro u w' ⟨res,W,ρ',co,T,Z,bx,cp⟩;obtain⟨D,al,q,g1,av,am,bq,aw,ax,cj⟩:=ab res W co;refine cj _ _ ?_
 let M:Nat->Value:=λn=>match lk n D with|some (.nm m)=>ρ' m|some .nil=>.slice none 0 0|none=>ρ n
 have an:∀n m,lk n D=some (.nm m)->M n=ρ' m:=λn m e=>by simp[M,e]
 have az:∀n,lk n D=some .nil->M n=.slice none 0 0:=λn e=>by simp[M,e]
 have cx:∀n,lk n D=none->M n=ρ n:=λn e=>by simp[M,e]
 let σ2:=Dv σ (Az ren) hs dst al q
 have cm:σ2.objs=q++BC (Az ren) hs σ.objs:=rfl;have ao:∀n,lk n σ2.objs=(lk n q).or (lk n (BC (Az ren) hs σ.objs)):=λn=>by rw[cm,BI]
 have bg:∀n r,lk n D=some r->∃x,lk n q=some x:=λn r e=>by
  simp only[Ct,IS]at av;exact ABa.1 (av _ (FM e))
 have ca:∀n x,lk n q=some x->∃r,lk n D=some r:=λn x e=>by
  have P:=C1 am e;cases o:lk n D with
  | none=>rw[o]at P;exact P.elim
  | some r=>exact⟨r,rfl⟩
 have cb:∀n x,lk n q=some x->n∈Az ren\/lk n σ.objs=none:=λn x e=>by
  simp only[GR,IS,bY]at ax;rcases ax _ (FM e) with h|h
  .exact .inl ((Ah _ _).1 h)
  exact .inr (by simpa using h)
 have Q:∀n x,lk n (BC (Az ren) hs σ.objs)=some x->n∉Az ren/\lk n q=none/\∃y,lk n σ.objs=some y/\x=y.fgt hs:=by
  intro n x e;rw[CM]at e;split at e
  .cases e
  rename_i F;simp only[GO]at e;obtain⟨y,k,rfl⟩:=e;have F:n∉Az ren:=λh=>F ((Ah _ _).2 h);refine⟨F,?_,y,k,rfl⟩;cases ad:lk n q with
  | none=>rfl
  | some z =>
   rcases cb n z ad with h|h
   .exact absurd h F
   rw[h]at k;cases k
 have X:∀n x,lk n σ2.objs=some x->lk n q=some x\/(lk n q=none/\lk n (BC (Az ren) hs σ.objs)=some x):=by simp_all
 have V:∀n x b,lk n q=some x->bk (M n) b->∃m,lk n D=some (.nm m)/\GL ⟨[],W⟩ m/\bk (ρ' m) b:=by
  intro n x b e f;have P:=C1 am e;obtain⟨r,o⟩:=ca n x e;cases r with
  | nil=>rw[az n o]at f;simp[bk,blk]at f
  | nm m =>
   rw[o]at P;rw[an n m o]at f;refine⟨m,o,?_,f⟩;cases e:lk m W with
   | none=>simp only[Fg,e,HA]at P
   | some z=>exact⟨z,e⟩
 have R:∀n,lk n q=none->M n=ρ n:=λn e=>by grind
 have be:Jz D (vw w' H ⟨[],W⟩ ρ') (vw w' c.O0 σ2 M):=by
  refine⟨rfl,λb f E=>?_,an,az,λn r e=>?_⟩
  .rcases E with C|⟨n,⟨x,e⟩,j⟩
   .exact f (.inl (.inl C))
   rcases X n x e with e|⟨J,e⟩
   .obtain⟨m,_,g,l⟩:=V n x b e j;exact f (.inr ⟨m,g,l⟩)
   obtain⟨F,_,y,k,_⟩:=Q n x e;rw[R n J]at j;exact f (.inl (.inr ⟨n,⟨y,k⟩,F,j⟩))
  obtain⟨x,aj⟩:=bg n r e;exact⟨x,by rw[ao,aj];rfl⟩
 have bs:∀b,(∃m,GL ⟨[],objs⟩ m/\bk (B m) b)->own c.O0 σ ρ b:=by
  rintro b ⟨m,g,f⟩;obtain⟨n,_,e,j⟩:=S m b g f;exact .inr ⟨n,e,j⟩
 have ba:∀b,b<w.heap.size->¬own c.O0 σ ρ b->N b:=λb U f=>⟨U,λh=>f (bs b h)⟩;have ai:CG ((vw w c.O0 σ ρ).buts hs) (vw w' c.O0 σ2 M):=by
  have bb:∀n,GL σ n->Ac n hs=false->GL σ2 n/\M n=ρ n:=by
   intro n e ck;by_cases cd:n∈Az ren
   .simp only[KT,IS,bY]at aw;rcases aw n cd with h|h
    .rw[ck]at h;cases h
    simp only[aS,AT]at h;obtain⟨⟨m,r⟩,hp,bl,Y⟩:=h;simp only at bl Y;unfold w7 at Y;split at Y
    .rename_i t cg;simp only[AT,AA9]at Y;obtain⟨rfl,ah⟩:=Y;unfold w6 at ah;split at ah
     .rename_i aa bh;have:aa=m:=by simpa using ah
      subst this;obtain⟨x,aj⟩:=bg _ _ bh;refine⟨⟨x,by rw[ao,aj];rfl⟩,?_⟩;rw[an _ _ bh,cp aa ((Ah _ _).1 bl)];exact ak _ _ cg
     cases ah
    cases Y
   obtain⟨x,aj⟩:=e;have o:lk n (BC (Az ren) hs σ.objs)=some (x.fgt hs):=by grind [CM,Ah]
   obtain⟨_,J,_⟩:=Q n _ o;exact⟨⟨_,by rw[ao,J,o];rfl⟩,R n J⟩
  refine⟨λb U f E=>?_,λn e=>(bb n e.1 e.2).1,λn e=>(bb n e.1 e.2).2,λb U f=>T.block b (ba b U f)⟩;have U:b<w.heap.size:=U;have f:¬own c.O0 σ ρ b:=f;rcases E with C|⟨n,⟨x,e⟩,j⟩
  .exact f (.inl C)
  rcases X n x e with e|⟨J,e⟩
  .obtain⟨m,_,g,l⟩:=V n x b e j;exact(Z.free m b g l).1 (ba b U f)
  obtain⟨F,_,y,k,_⟩:=Q n x e;rw[R n J]at j;exact f (.inr ⟨n,⟨y,k⟩,j⟩)
 have bu:∀b,c.K b->N b:=λb f=>⟨AAf (ag.K b f) i.frm.size,λ⟨m,g,l⟩=>by
  obtain⟨n,_,e,j⟩:=S m b g l;exact(i.free n b e j).1 f⟩
 refine⟨M,⟨T.os.trans i.frm.os,T.tape.trans i.frm.tape,T.output.trans i.frm.output,f3 i.frm.size T.size,λb f=>(T.block b (bu b f)).trans (i.frm.block b f)⟩,by rw[KE];exact i.nt,by rw[G5];exact i.defers,λp hp=>?_,λn x e=>?_,λn b ad f=>?_,λn t b ad ce f E=>?_,λs v cq=>?_⟩
 .obtain⟨bn,cs,ct⟩:=i.pin p hp;have bo:Ac p.1 hs=false:=by simpa using (IS.1 cn) p hp
  have cu:=ai.ρ p.1 ⟨bn,bo⟩;exact⟨ai.L p.1 ⟨bn,bo⟩,cu.trans cs,ct⟩
 .rcases X n x e with e|⟨J,e⟩
  .exact N1 be Z.obj (C1 am e)
  obtain⟨F,_,y,k,rfl⟩:=Q n x e;rw[R n J];refine Us ai (λb f=>?_) (i.objs n y k);refine T.block b ⟨(i.objs n y k).block_lt f,λ⟨m,g,l⟩=>?_⟩;obtain⟨t,bj,I,ae⟩:=S m b g l;have:=i.dist n t b ⟨y,k⟩ I f ae;grind
 .obtain⟨x,e⟩:=ad;rcases X n x e with e|⟨J,e⟩
  .obtain⟨m,_,g,l⟩:=V n x b e f;have:=Z.free m b g l;grind
  obtain⟨F,_,y,k,rfl⟩:=Q n x e;rw[R n J]at f;exact i.free n b ⟨y,k⟩ f
 .obtain⟨x,e⟩:=ad;obtain⟨af,I⟩:=ce;rcases X n x e with e|⟨J,e⟩<;>rcases X t af I with I|⟨bi,I⟩
  .obtain⟨m,o,g,l⟩:=V n x b e f;obtain⟨aa,bj,ap,ch⟩:=V t af b I E;have:=Z.dist m aa b g ap l ch;grind [Pt]
  .exfalso;obtain⟨m,o,g,l⟩:=V n x b e f;obtain⟨F,_,y,k,rfl⟩:=Q t af I;rw[R t bi]at E;exact(Z.free m b g l).2 (.inr ⟨t,⟨y,k⟩,F,E⟩)
  .exfalso;obtain⟨m,o,g,l⟩:=V t af b I E;obtain⟨F,_,y,k,rfl⟩:=Q n x e;rw[R n J]at f;exact(Z.free m b g l).2 (.inr ⟨n,⟨y,k⟩,F,f⟩)
  obtain⟨_,_,y,k,rfl⟩:=Q n x e;obtain⟨_,_,cv,cr,rfl⟩:=Q t af I;rw[R n J]at f;rw[R t bi]at E;exact i.dist n t b ⟨y,k⟩ ⟨cv,cr⟩ f E
 refine rZ (c:=c) i.nt bz (LC be bq bx) (λs v aq=>?_) cq;rw[EJ]at aq;simp only[GO]at aq;obtain⟨y,k,rfl⟩:=aq;exact(Pr (i.env s y k)).keeps ai
theorem Uz (ah:c.Ok) {o:Oper} {dst:Option Nat} {g:Operand} {xs:List Operand} {ts:Array TypeId} (L:o.op=.call { callee:=.value g,args:=xs.toArray,argTypes:=ts }) (al:o.dst=dst)
  {f:FuncId} {k:List Nat} (j:Ca (Ae σ g)=some (f,k)) {as:List AV} (has:IG σ xs=some as)
  {A:List AV} {objs:List (Nat×Obj)} {stay:List Nat} {post:AV->List (Nat×Obj)->Prop} (B:Aj c.P f A objs stay post)
  (ren:List (Nat×CB)) (U:CZ ren=true) (V:Ct objs ren=true) (W:Bb σ ren (as++k.map λn=>AV.bp n [] 0) A) (Z:Ao σ.objs ren objs)
  (hs:List Nat) (au:(c.ds.pin.all λp=>!Ac p.1 hs)=true) {next:Act->World->Prop} {Q:Exit->Act->World->Prop} {a:Act} {w:World} (ax:c.sat σ a w) (ak:∀d,dst=some d->d<c.nt)
  (ao:∀res N,post res N->∃(s:List (Nat×CB)) (O:AV) (z:List (Nat×Obj)),CZ s=true/\Ct z s=true/\Ao N s z/\CK s res O /\
   KT ren s stay hs=true/\GR (Az ren) z σ.objs=true/\∀H w',c.sat (Dv σ (Az ren) hs dst O z) H w'->next H w'):o.wpIn (FR c.r) 0 c.P a w next Q:=by
 obtain⟨ρ,M⟩:=ax;have J:EI (vw w c.O0 σ ρ) σ a.eval:=Ck M.env;obtain⟨⟨fn,am,ar,ag⟩,B⟩:=B;obtain⟨m,an,aj⟩:∃m:List Value,a.eval g=.func (.func f) #[] m.toArray/\KR (vw w c.O0 σ ρ) (k.map λn=>AV.bp n [] 0) m:=by
  cases D:Ae σ g with
  | none=>rw[D]at j;simp[Ca]at j
  | some I =>
   rw[D]at j;have C:=J g I D;cases I<;>simp only[Ca]at j<;>try(cases j;done)
   .cases j;exact⟨[],C,rfl⟩
   rename_i bb ns;split at j<;>cases j;rename_i ap;refine⟨k.map ρ,C.1.trans (At ap),?_⟩;have T:∀l:List Nat,(∀n∈l,n∈k)->KR (vw w c.O0 σ ρ) (l.map λn=>AV.bp n [] 0) (l.map ρ):=by
    intro l;induction l with
    | nil=>intro _;exact rfl
    | cons n r G =>
     intro K;obtain⟨g1,b,i⟩:=C.2 n (K n sa);have i:ρ n=_:=i;exact⟨ρ n,r.map ρ,rfl,⟨g1,b,i,i⟩,G λx ay=>K x (by simp[ay])⟩
   exact T k λ_ h=>h
 have ae:=bE J has;have ad:∀ {l r:List AV} {t y:List Value},KR (vw w c.O0 σ ρ) l t->KR (vw w c.O0 σ ρ) r y->KR (vw w c.O0 σ ρ) (l++r) (t++y):=by
  intro l;induction l with
  | nil=>intro r t y q F;have q:t=[]:=q;subst q;exact F
  | cons x l G =>
   intro r t y q F;obtain⟨v,az,rfl,g1,i⟩:=q;exact⟨v,az++y,rfl,g1,G i F⟩
 have ab:=ad ae aj;have aw:(execOp a.eval o).run c.P w=.ok (.enter f (xs.map a.eval++m).toArray) w:=by
  have g1 : ¬ fn.name = "runtime.NumGoroutine" := by simpa using ar
  have i:¬fn.body=none:=by intro e;simp[e]at ag
  simp[execOp,L,resolve,Deferred.ofValue,an,invoke,callFunc,am,g1,i]
 obtain⟨R,S,ba,Y,aa,X,aq,af,_,av⟩:=fA ah M ab stay post ren U V W Z hs au ak ao;have ai:=B w R S ba (xs.map a.eval++m) Y aa X aq af;refine⟨λ_ _=>trivial,?_⟩;rw[Hl _ _ _ (λcl e=>by rw[L]at e;cases e),aw,Oper.uponIn_enter];refine⟨λh=>(by simp[FR]at h),QU (ai.mono λe w' E=>?_)⟩;obtain⟨u,rfl,E⟩:=E;rw[al];exact av u w' E
theorem lD (C:c.Ok) {ops:Array Oper} {rest:List Oper} {dst:Option Nat} {g:Operand} {xs:List Operand} {ts:Array TypeId} {ty:TypeId} {pos:String} {after:Array Edge}
  {f:FuncId} {i:List Nat} (D:Ca (Ae σ g)=some (f,i)) {as:List AV} (has:IG σ xs=some as)
  {A:List AV} {objs:List (Nat×Obj)} {stay:List Nat} {post:AV->List (Nat×Obj)->Prop} (z:Aj c.P f A objs stay post)
  (ren:List (Nat×CB)) (hs:List Nat) (u:CZ ren=true) (v:Ct objs ren=true) (H:(c.ds.pin.all λp=>!Ac p.1 hs)=true) (x:Bb σ ren (as++i.map λn=>AV.bp n [] 0) A) (B:Ao σ.objs ren objs)
  (E:∀res e,post res e->∃(b:List (Nat×CB)) (h:AV) (d:List (Nat×Obj)),CZ b=true/\Ct d b=true/\Ao e b d/\CK b res h /\
   KT ren b stay hs=true/\GR (Az ren) d σ.objs=true/\Cu c R k ops rest (Dv σ (Az ren) hs dst h d)) :
  Cu c R k ops (⟨dst,.call ⟨.value g,xs.toArray,ts⟩,ty,pos,after,none⟩ :: rest) σ:=by
 intro j F a w J;unfold wpListIn;rw[At (by simp[Region.wanted])];refine Uz C (xs:=xs) (ts:=ts) rfl rfl D has z ren u v x B hs H J (BB (j _ sa)) λres e hp=>?_;obtain⟨b,h,d,g1,m,q,r,s,t,y⟩:=E res e hp;exact⟨b,h,d,g1,m,q,r,s,t,λl w' I=>y (λo G=>j o (by simp[G])) F l w' I⟩
end
end
section
open Go Go.RowKit
def U0 (s:Nat):List Nat->List Nat
 | []=>[]
 | k :: r=>if s=k then r else k :: U0 s r
def HE:List Nat->List (Nat×AV)->List (Nat×AV)
 | _,[]=>[]
 | [],_ :: _=>[]
 | k :: a,(s,v) :: r=>if Ac s (k :: a)=true then (s,v) :: HE (U0 s (k :: a)) r else HE (k :: a) r
def De (a:List Nat):Cr->Cr
 | some (vc,σ)=>some (vc,⟨HE a σ.env,σ.objs⟩)
 | none=>none
theorem TF {s t:Nat}:∀ {a:List Nat},Ac s a=false->Ac s (U0 t a)=false
 | [],h=>h
 | k :: r,h=>by
  simp only[Ac]at h;split at h
  .cases h
  rename_i b;simp only[U0];split
  .exact h
  simp only[Ac,As b];exact TF h
theorem II {s:Nat}:∀ {env:List (Nat×AV)} {a:List Nat},Ac s a=false->lk s (HE a env)=none
 | [],a,_=>by cases a<;>rfl
 | (j,v) :: r,[],_=>rfl
 | (j,v) :: r,k :: a,h=>by
  simp only[HE];split
  .rename_i b;simp only[lk];rw[As (λe=>by subst e;rw[h]at b;cases b)];exact II (TF h)
  exact II h
theorem Qp {s:Nat} {x:AV}:∀ {env:List (Nat×AV)} {a:List Nat},lk s (HE a env)=some x->lk s env=some x
 | [],a,h=>by cases a<;>simp[HE,lk]at h
 | (j,v) :: r,[],h=>by simp[HE,lk]at h
 | (j,v) :: r,k :: a,h=>by
  simp only[HE]at h;split at h
  .simp only[lk]at h ⊢;split at h
   .grind
   rename_i e;rw[As e];exact Qp h
  rename_i b;by_cases e:s=j
  .grind [II]
  simp only[lk,As e];exact Qp h
theorem HF {b:List Nat} {r:Cr} {vc:Prop} {σ':St} (h:De b r=some (vc,σ')):∃σ1,r=some (vc,σ1)/\∀c:Cx,qC c σ1 σ':=by
 cases r with
 | none=>cases h
 | some p =>
  obtain⟨e,σ1⟩:=p;simp only[De]at h;cases h;exact⟨σ1,rfl,λc a w hs=>Pv (σ':=⟨HE b σ1.env,σ1.objs⟩) (λs v d=>Qp d) (λ_=>rfl) hs⟩
section
variable {c:Cx} {R:Exit->Act->World->Prop} {k:List Cl} {σ σ':St}
theorem fB (j:List Nat) (g:c.P.follows .mixedOrders=true) (d:c.Ok) {id:Nat} {l:List Oper} (e:KM l l.length=true) {vc:Prop}
  (h:De j (J3 c.tb l false σ.objs [] l 0 [] [] σ)=some (vc,σ')) (i:vc) (f:Ev c R (.out .normal) k σ'):Ev c R (.run (.region id l.toArray true)) k σ:=by
 obtain⟨σ1,a,b⟩:=HF h;exact k9 g d e a i (f.ent (b c))
theorem fC (j:List Nat) (m:Nat) (g:c.P.follows .mixedOrders=true) (d:c.Ok) {id:Nat} {l:List Oper} (e:KM l (l.take (l.length-m)).length=true) {vc:Prop}
  (h:De j (J3 c.tb l false σ.objs (l.drop (l.length-m)) (l.take (l.length-m)) 0 [] [] σ)=some (vc,σ')) (i:vc) (f:Ev c R (.out .normal) k σ'):Ev c R (.run (.region id l.toArray true)) k σ:=by
 obtain⟨σ1,a,b⟩:=HF h;exact lA m g d e a i (f.ent (b c))
theorem Wo (i:List Nat) (d:c.Ok) {id:Nat} {l:List Oper} (e:eY l l.length=true) {vc:Prop}
  (h:De i (J3 c.tb l true σ.objs [] l 0 [] [] σ)=some (vc,σ')) (g:vc) (f:Ev c R (.out .normal) k σ'):Ev c R (.run (.region id l.toArray false)) k σ:=by
 obtain⟨σ1,a,b⟩:=HF h;exact Y2 d e a g (f.ent (b c))
theorem F7 (i:List Nat) (e:c.Ok) {id:Nat} {l:List Oper} (a:(l.all λo=>o.guard.isNone)=true) {vc:Prop} (h:De i (Bu c.tb l l σ)=some (vc,σ')) (g:vc) (f:Ev c R (.out .normal) k σ') :
  Ev c R (.run (.region id l.toArray false)) k σ:=by
 obtain⟨σ1,b,d⟩:=HF h;exact Y3 e a b g (f.ent (d c))
theorem Wp (g:List Nat) (d:c.Ok) {ops:List Oper} {l:List Oper} {vc:Prop} (h:De g (Bu c.tb ops l σ)=some (vc,σ')) (f:vc) (e:Ev c R (.out .normal) k σ'):Cu c R k ops.toArray l σ:=by
 obtain⟨σ1,a,b⟩:=HF h;exact Ux d (by simpa using a) f (e.ent (b c))
theorem lE (e:c.Ok) {id:Nat} {l:List Oper} (n:Nat) (j:(l.all λo=>o.guard.isNone)=true) {vc:Prop} (h:Bu c.tb l (l.take n) σ=some (vc,σ')) (i:vc) (f:Cu c R k l.toArray (l.drop n) σ') :
  Ev c R (.run (.region id l.toArray false)) k σ:=by
 intro b d a w hs;simp only[Jq,CN,IS]at b;exact ACd (Pw e n (by simpa using h) i f (λo g=>b o g) d a w hs)
theorem lF (e:c.P.follows .mixedOrders=true) (a:c.Ok) {id:Nat} {l:List Oper} (n:Nat) (b:KM l (l.take n).length=true) {vc:Prop}
  (h:J3 c.tb l false σ.objs [] (l.take n) 0 [] [] σ=some (vc,σ')) (f:vc) (d:Cu c R k l.toArray (l.drop n) σ') :
  Ev c R (.run (.region id l.toArray true)) k σ:=Wi e a n b h f d
theorem Bq {ops:Array Oper} (h:Ev c R (.out .normal) k σ):Cu c R k ops [] σ:=rS h
end
end
end Go.Proofs.YtaoonfcjbmcmpaaGreatDoor.Fw
