/- Contracts over memory; the frame rule of a call. -/
import Derived.Test.YtapkhdkbkodbjaaGreatDZF
set_option linter.unusedVariables false
set_option linter.unusedSimpArgs false
namespace Go.Proofs.YtapkhdkbkodbjaaGreat.Fw
section
open Go Go.RowKit
structure A01 (K O0:Nat->Prop) (objs:List (Nat×Obj)) (ρ:Nat->Value) (w:World):Prop where
 obj:∀n o,lk n objs=some o->A3 (vw w O0 ⟨[],objs⟩ ρ) o (ρ n)
 free:∀n b,HG ⟨[],objs⟩ n->bk (ρ n) b->¬K b/\¬O0 b
 dist:∀n m b,HG ⟨[],objs⟩ n->HG ⟨[],objs⟩ m->bk (ρ n) b->bk (ρ m) b->n=m
def Il (V:Vw):List AV->List Value->Prop
 | [],a=>a=[]
 | x :: r,a=>∃(v:Value) (l:List Value),a=v :: l/\B3 V x v/\Il V r l
def L7 (K O0:Nat->Prop) (stay:List Nat) (w:World) (ρ:Nat->Value) (post:AV->List (Nat×Obj)->Prop) (u:Value) (w':World):Prop :=
 ∃(res:AV) (a:List (Nat×Obj)) (ρ':Nat->Value),post res a/\Frm K w w'/\A01 K O0 a ρ' w'/\B3 (vw w' O0 ⟨[],a⟩ ρ') res u/\∀n∈stay,ρ' n=ρ n
def A9 (P:Program) (f:FuncId) (args:List AV) (objs:List (Nat×Obj)) (stay:List Nat) (post:AV->List (Nat×Obj)->Prop):Prop :=
 (∃ fn : Func, P.funcs[f]? = some fn /\ (fn.name == "runtime.NumGoroutine") = false /\ fn.body.isNone = false) /\
 ∀(w:World) (K O0:Nat->Prop) (ρ:Nat->Value) (a:List Value),(∀b,K b->b<w.heap.size)->(∀b,O0 b->b<w.heap.size)->A01 K O0 objs ρ w->Il (vw w O0 ⟨[],objs⟩ ρ) args a ->
  Calls P f a.toArray w λe w'=>∃u,e=.returned u/\L7 K O0 stay w ρ post u w'
def Ak:Nat->List AV->List (Nat×AV)
 | _,[]=>[]
 | s,x :: r=>(s,x) :: Ak (s+1) r
def AAB:AV->Prop
 | .p t d=>t.ok d
 | _=>True
def QP:List AV->Prop
 | []=>True
 | x :: r=>AAB x/\QP r
def A2r:Obj->Prop
 | .arr _ e xs=>(Ty.slice e).ok xs
 | .box _ _ fs=>QP fs
 | .mapo k v l=>∀x∈l,k.ok x.1/\v.ok x.2
 | .nest _ _ k e xs none=>(Ty.slice (.agg (.prod k (.slice e)))).ok xs
 | _=>True
def Od:List (Nat×Obj)->Prop
 | []=>True
 | x :: r=>A2r x.2/\Od r
theorem A9u {V:Vw} {x:AV} {v:Value} (h:B3 V x v):AAB x:=by
 cases x<;>try trivial
 obtain⟨cs,a,_⟩:=h;exact H6 a
theorem Ug {V:Vw}:∀ {l:List AV} {b:List Value},Il V l b->QP l
 | [],_,_=>trivial
 | _ :: _,_,⟨_,_,_,h1,a⟩=>⟨A9u h1,Ug a⟩
theorem qO {V:Vw}:∀ {l:List AV} {cs:List Value},Dc V l cs->QP l
 | [],_,_=>trivial
 | x :: _,_,⟨c1,c2,_,h1,a⟩=>⟨by
   cases x<;>try trivial
   exact H6 (h1:B0 _ _ _ _ _),qO a⟩
theorem qP {w:World} {O:Nat->Prop} {k v:Ty}:∀ {a:List MapEntry} {l:List (k.den×v.den)},OP w O k v a l->∀x∈l,k.ok x.1/\v.ok x.2
 | [],[],_,x,hx=>by cases hx
 | [],_ :: _,h,_,_=>h.elim
 | _ :: _,[],h,_,_=>h.elim
 | e :: a,y :: l,⟨⟨_,h1,_⟩,⟨_,b,_⟩,c⟩,x,hx=>by
  rcases DO.1 hx with rfl|hx
  .exact⟨H6 h1,H6 b⟩
  exact qP c x hx
theorem aU {V:Vw} {o:Obj} {loc:Value} (h:A3 V o loc):A2r o:=by
 cases o with
 | arr et e xs =>
  obtain⟨j,cells,_,c⟩:=h;refine⟨j,λx hx=>?_⟩;obtain⟨i,hi,rfl⟩:=ADu.1 hx;obtain⟨f,_,_,d⟩:=c i _ (AT hi);exact H6 d
 | box et st fs=>obtain⟨_,b,cs,_,_,a⟩:=h;exact qO a
 | mapo k v l=>obtain⟨b,f,cl,_,_,a,_⟩:=h;exact qP a
 | nest et n k e xs hl =>
  cases hl with
  | some i=>trivial
  | none =>
   obtain⟨o,ins,cells,_,g⟩:=h;have c:=OU (O':=λ_=>False) (λ_ _ h=>h) g (λ_ _ _ _ _ h=>h);refine⟨g.max,λx hx=>?_⟩;obtain⟨i,hi,rfl⟩:=ADu.1 hx;obtain⟨f,_,_,d⟩:=c i _ (AT hi);exact H6 d
 | frame t fs=>trivial
 | loop L=>trivial
 | itr p s q r m=>trivial
 | dfr=>trivial
theorem Uh:∀ {l:List (Nat×Obj)},Ly l=true->(∀n o,lk n l=some o->A2r o)->Od l
 | [],_,_=>trivial
 | (n,o) :: r,hk,h=>by
  simp only[Ly,An,ON,AEY]at hk;refine⟨h n o (by simp[lk]),Uh hk.2 λm x a=>h m x ?_⟩;simp only[lk];rw[As (λe=>hk.1 _ (Fu a) e)];exact a
theorem qQ:∀(l:List AV) (a:List Value) (k:Nat) (V:Vw),Il V l a->∀s v,lk s (Ak k l)=some v->k<=s/\∃u,a[s-k]?=some u/\B3 V v u
 | [],a,k,V,h,s,v,hs=>by simp[Ak,lk]at hs
 | x :: l,a,k,V,h,s,v,hs=>by
  obtain⟨u,r,rfl,h1,b⟩:=h;simp only[Ak,lk]at hs;split at hs
  .grind
  obtain⟨c,f,d,e⟩:=qQ l r (k+1) V b s v hs;grind
theorem JC {V:Vw}:∀ {l:List AV} {a:List Value},Il V l a->a.length=l.length
 | [],a,h=>by have h:a=[]:=h;subst h;rfl
 | _ :: _,_,⟨_,_,rfl,_,h⟩=>by simp[JC h]
def cm (P:Program) (tb:Tb) (w0:World) (K O0:Nat->Prop) (nt:Nat) (pin:List (Nat×Value)):Cx:={ P:=P,tb:=tb,w0:=w0,K:=K,O0:=O0,nt:=nt,ds:={ pin:=pin } }
theorem fH {P:Program} {tb:Tb} {w0:World} {K O0:Nat->Prop} {nt:Nat} {pin:List (Nat×Value)}:(cm P tb w0 K O0 nt pin).tb=tb:=rfl
def TT (objs:List (Nat×Obj)) (n:Nat):Bool :=
 match lk n objs with
 | some (.arr _ _ _)=>Gr n
 | some (.nest _ _ _ _ _ _)=>Gr n
 | some _=>true
 | none=>false
theorem Vj {P:Program} {tb:Tb} {w0:World} {K O0:Nat->Prop} {nt:Nat} {args:List AV} {objs:List (Nat×Obj)} {stay:List Nat} {ρ:Nat->Value} {c:List Value} (f:A01 K O0 objs ρ w0) (q:Il (vw w0 O0 ⟨[],objs⟩ ρ) args c) (m:stay.all (TT objs)=true) (t:c.length<=nt) :
  (cm P tb w0 K O0 nt (stay.map λn=>(n,ρ n))).sat ⟨Ak 0 args,objs⟩ { tmps:=c.toArray++Array.replicate (nt-c.toArray.size) undef,defers:=[] } w0:=by
 refine⟨ρ,⟨rfl,rfl,rfl,If _,λ_ _=>rfl⟩,by simp[cm];omega,rfl,λp hp=>?_,f.obj,f.free,f.dist,λs v hs=>?_⟩
 .obtain⟨n,hn,rfl⟩:=GO.1 hp;have:=(ON.1 m) n hn;unfold TT at this;cases g:lk n objs with
  | none=>rw[g]at this;cases this
  | some o =>
   rw[g]at this;refine⟨⟨o,g⟩,rfl,?_⟩;have d:=f.obj n o g;cases o with
   | arr et e xs=>exact .inr this
   | nest et x k e xs hl=>exact .inr this
   | box et st fs=>obtain⟨_,b,cs,a,_⟩:=d;rw[a];exact .inl rfl
   | mapo k v l=>obtain⟨b,r,cl,a,_⟩:=d;rw[a];exact .inl rfl
   | frame C fs=>obtain⟨a,_⟩:=d;rw[a];exact .inl rfl
   | loop L=>obtain⟨b,a,_⟩:=d;rw[a];exact .inl rfl
   | itr y B z A w=>obtain⟨b,a,_⟩:=d;rw[a];exact .inl rfl
   | dfr=>obtain⟨b,a,_⟩:=d;rw[a];exact .inl rfl
 obtain⟨_,u,h1,i⟩:=qQ args c 0 _ q s v hs;have h1:c[s]?=some u:=by simpa using h1
 have h:s<c.length:=(RF.1 h1).1;have j:(c.toArray++Array.replicate (nt-c.toArray.size) undef).getD s undef=u:=by
  have:c[s]=u:=by rw[AT h]at h1;injection h1
  simp[Array.getElem?_append,h,this]
 rw[j];exact i
def A5U (P:Program) (fn:Func) (w0:World) (K O0:Nat->Prop) (stay:List Nat) (ρ0:Nat->Value) (post:AV->List (Nat×Obj)->Prop):Exit->Act->World->Prop :=
 bodyPost P fn λe w'=>∃u,e=.returned u/\L7 K O0 stay w0 ρ0 post u w'
theorem A9v {P:Program} {tb:Tb} {f:FuncId} {fn:Func} {cd:Code} {nt:Nat} {args:List AV} {objs:List (Nat×Obj)} {stay:List Nat} {post:AV->List (Nat×Obj)->Prop}
  (c : P.funcs[f]? = some fn) (k : (fn.name == "runtime.NumGoroutine") = false) (b : fn.body = some cd) (l : fn.ntmps = nt) (q : args.length <= nt)
  (i:Bl nt cd=true) (p:stay.all (TT objs)=true) (j:Ly objs=true) (hT:DH P tb) (hF:Iz P tb)
  (h:∀(w0:World) (K O0:Nat->Prop) (ρ0:Nat->Value),(cm P tb w0 K O0 nt (stay.map λn=>(n,ρ0 n))).Ok->QP args->Od objs ->
   Ev (cm P tb w0 K O0 nt (stay.map λn=>(n,ρ0 n))) (A5U P fn w0 K O0 stay ρ0 post) (.run cd) [] ⟨Ak 0 args,objs⟩):A9 P f args objs stay post:=by
 refine⟨⟨fn,c,k,by simp[b]⟩,λw K O0 ρ s e g d a=>?_⟩;refine calls_of_wp c b ((wpIn_wide (n:=0)).1 ?_);have r:=JC a;rw[l];exact h w K O0 ρ ⟨e,g,hT,hF⟩ (Ug a) (Uh j λn o m=>aU (d.obj n o m)) i rfl _ _ (Vj d a p (by omega))
def A02 (tb:Tb) (σ:St) (rv:ResultVar):AV->Prop
 | .p t d=>Ja σ t (Kv tb σ rv)=some d
 | x=>Kv tb σ rv=some x
def Rz (tb:Tb) (σ:St):List ResultVar->List AV->Prop
 | [],[]=>True
 | rv :: a,x :: l=>A02 tb σ rv x/\Rz tb σ a l
 | _,_=>False
def Ym:AV->Bool
 | .tup _=>false
 | _=>true
def TV (tb:Tb) (σ:St):List ResultVar->AV->Prop
 | [],x=>x=.raw (.tuple #[])
 | [rv],x=>A02 tb σ rv x
 | a,.tup l=>l.all Ym=true/\Rz tb σ a l
 | _,_=>False
section
variable {P:Program} {tb:Tb} {w0:World} {K O0:Nat->Prop} {nt:Nat} {ds:Fp} {σ:St} {ρ:Nat->Value} {a:Act} {w:World}
theorem qR (hT:DH P tb) (hs:B9 w0 K O0 nt ds σ ρ a w) {rv:ResultVar} {x:AV} (h:A02 tb σ rv x):∃u,(Jw a.tmps rv).run P w=.ok u w/\B3 (vw w O0 σ ρ) x u:=by
 by_cases hp:∃t d,x=.p t d
 .obtain⟨t,d,rfl⟩:=hp;simp only[A02]at h;cases c:Kv tb σ rv with
  | none=>rw[c]at h;simp[Ja]at h
  | some v =>
   rw[c]at h;simp only[Ja]at h;obtain⟨u,h1,e⟩:=Uc hT hs c;exact⟨u,h1,LU (V:=vw w O0 σ ρ) (O':=own O0 σ ρ) (λb f g=>f g) (λh=>by cases h) hs.objs h e⟩
 have h:Kv tb σ rv=some x:=by
  cases x<;>first|exact h|exact absurd ⟨_,_,rfl⟩ hp
 exact Uc hT hs h
theorem AAC {V:Vw} {x:AV} {v:Value} (hn:Ym x=true) (h:B3 V x v):TC V x v:=by
 cases x<;>first|(simp[Ym]at hn;done)|exact h
theorem Yn (hT:DH P tb) (hs:B9 w0 K O0 nt ds σ ρ a w):∀ {c:List ResultVar} {l:List AV},l.all Ym=true->Rz tb σ c l ->
  ∃b:List Value,(c.mapM (Jw a.tmps)).run P w=.ok b w/\b.length=l.length/\Hx (vw w O0 σ ρ) l b
 | [],[],_,_=>⟨[],by simp,rfl,rfl⟩
 | [],_ :: _,_,h=>h.elim
 | _ :: _,[],_,h=>h.elim
 | rv :: c,x :: l,hn,h=>by
  simp only[ADS,An]at hn;obtain⟨u,h1,d⟩:=qR hT hs h.1;obtain⟨b,g,e,f⟩:=Yn hT hs hn.2 h.2;refine⟨u :: b,?_,by simp[e],u,b,rfl,AAC hn.1 d,f⟩
  simp_all
theorem Vk {tb:Tb} {σ:St}:∀ {a:List ResultVar} {l:List AV},Rz tb σ a l->a.length=l.length
 | [],[],_=>rfl
 | [],_ :: _,h=>h.elim
 | _ :: _,[],h=>h.elim
 | _ :: _,_ :: _,h=>by simp[Vk h.2]
theorem Vl (hT:DH P tb) (hs:B9 w0 K O0 nt ds σ ρ a w) {fn:Func} {x:AV} (h:TV tb σ fn.results.toList x):∃u,(results fn a.tmps).run P w=.ok u w/\B3 (vw w O0 σ ρ) x u:=by
 have key:∀b:List Value,(fn.results.toList.mapM (Jw a.tmps)).run P w=.ok b w->(results fn a.tmps).run P w=.ok (if h:b.toArray.size=1 then b.toArray[0] else .tuple b.toArray) w:=by
  intro b h1;rw[OY];have g:(fn.results.mapM (Jw a.tmps)).run P w=.ok b.toArray w:=by
   rw[AEw];simp only[Sem.run_map,h1,iF]
  simp only[ADx,g,iF,AED]
 generalize fn.results.toList=m at h key;unfold TV at h;split at h
 .subst h;exact⟨_,key [] (by simp),rfl⟩
 .rename_i rv;obtain⟨u,h1,c⟩:=qR hT hs h;exact⟨_,key [u] (by simp[h1]),c⟩
 .rename_i l k i;obtain⟨b,h1,c,d⟩:=Yn hT hs h.1 h.2;have f:=Vk h.2;refine⟨_,key b h1,?_⟩;have:¬b.toArray.size=1:=by
   intro e;have e:b.length=1:=by simpa using e
   rw[c,<-f]at e;obtain⟨z,j⟩:=AEo.1 e;exact i z j
  rw[dif_neg this];exact⟨b,rfl,d⟩
 exact h.elim
end
theorem A5V {P:Program} {tb:Tb} {w0:World} {K O0:Nat->Prop} {nt:Nat} {stay:List Nat} {ρ0:Nat->Value} {fn:Func} {post:AV->List (Nat×Obj)->Prop} {σ:St} {e:Exit} (f:(cm P tb w0 K O0 nt (stay.map λn=>(n,ρ0 n))).Ok)
  (c:List ResultVar) (i:fn.results.toList=c) (g:e=.ret\/e=.normal) (res:AV) (h:TV tb σ c res) (hp:post res σ.objs) :
  Ev (cm P tb w0 K O0 nt (stay.map λn=>(n,ρ0 n))) (A5U P fn w0 K O0 stay ρ0 post) (.out e) [] σ:=by
 intro _ _ a w hs;obtain⟨ρ,hs⟩:=hs;obtain⟨u,h1,d⟩:=Vl f.T hs (by rw[i];exact h);have b:L7 K O0 stay w0 ρ0 post u w:=by
  refine⟨res,σ.objs,ρ,hp,hs.frm,⟨hs.objs,hs.free,hs.dist⟩,d,λn hn=>?_⟩;exact(hs.pin (n,ρ0 n) (GO.2 ⟨n,hn,rfl⟩)).2.1
 rcases g with rfl|rfl
 .exact⟨hs.defers,u,h1,u,rfl,b⟩
 exact⟨hs.defers,u,h1,u,rfl,b⟩
end
section
open Go Go.RowKit
def DL:Option AV->Option (FuncId×List Nat)
 | some (.fn f)=>some (f,[])
 | some (.clo f ns)=>some (f,ns)
 | _=>none
def Im (σ:St):List Operand->Option (List AV)
 | []=>some []
 | x :: r=>match Ap σ x,Im σ r with
  | some v,some a=>some (v :: a)
  | _,_=>none
def Gy (σ:St) (ren:List (Nat×B1)) (x:AV):AV->Prop
 | .p t d=>Mx false σ t x=some d
 | y=>Bi ren x y
def BJ (σ:St) (ren:List (Nat×B1)):List AV->List AV->Prop
 | [],[]=>True
 | x :: l,y :: r=>Gy σ ren x y/\BJ σ ren l r
 | _,_=>False
def Aj:List (Nat×B1)->List Nat
 | []=>[]
 | (_,.nm n) :: r=>n :: Aj r
 | (_,.nil) :: r=>Aj r
def A8K (m:Nat):Option B1->Bool
 | some (.nm a)=>a==m
 | _=>false
def A8L (n:Nat) (f:Option B1) (m:Nat):Option B1->Bool
 | some (.nm a)=>a==n&&A8K m f
 | _=>false
def JD (ren a:List (Nat×B1)) (stay hs:List Nat):Bool:=(Aj ren).all λn=>Aa n hs||ren.any λp=>Aa p.1 stay&&A8L n (lk n a) p.1 (lk p.1 ren)
def FK (a:List Nat) (b objs:List (Nat×Obj)):Bool:=b.all λp=>Aa p.1 a||(lk p.1 objs).isNone
def K5 (dst:Option Nat) (v:AV) (env:List (Nat×AV)):List (Nat×AV) :=
 match dst with
 | some d=>(d,v) :: env
 | none=>env
def CP (σ:St) (a hs:List Nat) (dst:Option Nat) (res:AV) (b:List (Nat×Obj)):St:=⟨K5 dst res (CN hs σ.env),b++Ar a hs σ.objs⟩
theorem Oe {n:Nat}:∀ {l:List (Nat×B1)},n∈Aj l↔∃m,(m,B1.nm n)∈l
 | []=>by simp[Aj]
 | (m,.nm k) :: r=>by
  simp only[Aj,DO,Oe (l:=r),AFu,B1.nm.injEq];grind
 | (m,.nil) :: r=>by
  simp only[Aj,DO,Oe (l:=r),AFu];grind
theorem aV {V:Vw} {σ:St} {ev:Operand->Value} (b:Ha V σ ev):∀ {xs:List Operand} {a:List AV},Im σ xs=some a->Il V a (xs.map ev)
 | [],a,h=>by simp only[Im]at h;cases h;exact(rfl:_=_)
 | x :: r,a,h=>by
  simp only[Im]at h;split at h
  .rename_i v l h1 c;cases h;exact⟨ev x,r.map ev,rfl,b x v h1,aV b c⟩
  cases h
section
variable {V V':Vw} {ren:List (Nat×B1)} {σ:St}
theorem Vm (f:Lz ren V V') (g:∀b,¬V.O b->¬V'.O b) (i:∀n o,lk n σ.objs=some o->A3 V o (V.ρ n)):∀ {l r:List AV} {e:List Value},BJ σ ren l r->Il V l e->Il V' r e
 | [],[],e,_,h=>h
 | [],_ :: _,_,a,_=>a.elim
 | _ :: _,[],_,a,_=>a.elim
 | x :: l,y :: r,e,a,h=>by
  obtain⟨v,l',rfl,h1,j⟩:=h;refine⟨v,l',rfl,?_,Vm f g i a.2 j⟩;have c:=a.1;by_cases hp:∃t d,y=.p t d
  .obtain⟨t,d,rfl⟩:=hp;have c:Mx false σ t x=some d:=c;have:=LU (V:=V) (O':=V'.O) g (λh=>by cases h) i c h1;show BR V'.w V'.O t v d;rw[f.w];exact this
  have c:Bi ren x y:=by
   cases y<;>first|exact c|exact absurd ⟨_,_,rfl⟩ hp
  exact M8 f c h1
end
section
variable {c:Cx} {R:Exit->Act->World->Prop} {k:List DU} {σ:St}
theorem A5W {c:Cx} {a:Act} {dst:Option Nat} {u:Value} {s:Nat} {y:AV} {V:Vw} {env:List (Nat×AV)} {res:AV} (f:a.tmps.size=c.nt) (b:∀d,dst=some d->d<c.nt) (g:B3 V res u) (e:∀s v,lk s env=some v->B3 V v (a.tmps.getD s undef))
  (h:lk s (K5 dst res env)=some y):B3 V y ((a.put dst u).tmps.getD s undef):=by
 cases dst with
 | none=>exact e s y h
 | some d =>
  rw[M0 a d u s (by rw[f];exact b d rfl)];simp only[K5,lk]at h;split at h
  .grind
  grind
theorem R0 (ax:c.Ok) {dst:Option Nat} {ρ:Nat->Value} {a:Act} {w:World} (g:B9 c.w0 c.K c.O0 c.nt c.ds σ ρ a w) {as:List AV} {bg:List Value} (bo:Il (vw w c.O0 σ ρ) as bg)
  {A:List AV} {objs:List (Nat×Obj)} (stay:List Nat) (post:AV->List (Nat×Obj)->Prop)
  (ren:List (Nat×B1)) (h1:B8 ren=true) (an:CO objs ren=true) (bi:BJ σ ren as A) (ar:Ad σ.objs ren objs)
  (hs:List Nat) (cc:(c.ds.pin.all λp=>!Aa p.1 hs)=true) {next:Act->World->Prop} (bq:∀d,dst=some d->d<c.nt)
  (hk:∀res Q,post res Q->∃(t:List (Nat×B1)) (ab:AV) (o:List (Nat×Obj)),B8 t=true/\CO o t=true/\Ad Q t o/\Bi t res ab /\
   JD ren t stay hs=true/\FK (Aj ren) o σ.objs=true/\∀aj w',c.sat (CP σ (Aj ren) hs dst ab o) aj w'->next aj w') :
  ∃(J G:Nat->Prop) (r:Nat->Value),(∀b,J b->b<w.heap.size)/\(∀b,G b->b<w.heap.size)/\A01 J G objs r w/\Il (vw w G ⟨[],objs⟩ r) A bg/\(∀m n,lk m ren=some (.nm n)->r m=ρ n) /\
   ∀u w',L7 J G stay w r post u w'->next (a.put dst u) w':=by
 let r:Nat->Value:=λm=>match lk m ren with|some (.nm n)=>ρ n|_=>.slice none 0 0
 have aa:∀m n,lk m ren=some (.nm n)->r m=ρ n:=λm n f=>by simp[r,f]
 have bd:∀m,lk m ren=some .nil->r m=.slice none 0 0:=λm f=>by simp[r,f]
 let G:Nat->Prop:=λb=>c.O0 b\/∃n,HG σ n/\n∉Aj ren/\bk (ρ n) b
 let J:Nat->Prop:=λb=>b<w.heap.size/\¬ ∃m,HG ⟨[],objs⟩ m/\bk (r m) b
 have R:∀m b,HG ⟨[],objs⟩ m->bk (r m) b->∃n,lk m ren=some (.nm n)/\HG σ n/\bk (ρ n) b:=by
  rintro m b ⟨ai,f⟩ e;have hf:=DK ar f;cases k:lk m ren with
  | none=>rw[k]at hf;exact hf.elim
  | some fr =>
   cases fr with
   | nil=>rw[bd m k]at e;simp[bk,blk]at e
   | nm n =>
    rw[k]at hf;rw[aa m n k]at e;refine⟨n,rfl,?_,e⟩;cases hn:lk n σ.objs with
    | none=>simp only[GY,hn,H8]at hf
    | some x=>exact⟨x,hn⟩
 have bu:∀m fr,lk m ren=some fr->HG ⟨[],objs⟩ m:=λm fr f=>by
  simp only[CO,ON]at an;exact AEg.1 (an _ (Fu f))
 have cn:∀m n,lk m ren=some (.nm n)->n∈Aj ren:=λm n f=>Oe.2 ⟨m,Fu f⟩;have aw:∀b,¬own c.O0 σ ρ b->¬own G ⟨[],objs⟩ r b:=by
  intro b e B;rcases B with (h0|⟨n,hn,_,i⟩)|⟨m,f,l⟩
  .exact e (.inl h0)
  .exact e (.inr ⟨n,hn,i⟩)
  obtain⟨n,_,hn,i⟩:=R m b f l;exact e (.inr ⟨n,hn,i⟩)
 have au:Lz ren (vw w c.O0 σ ρ) (vw w G ⟨[],objs⟩ r):=⟨rfl,aw,aa,bd,bu⟩;have bx:A01 J G objs r w:=by
  refine⟨λm ai f=>Ru au g.objs (DK ar f),λm b f e=>⟨λbl=>bl.2 ⟨m,f,e⟩,λh0=>?_⟩,λm V b f ag e B=>?_⟩
  .obtain⟨n,k,hn,i⟩:=R m b f e;rcases h0 with h0|⟨q,D,C,W⟩
   .exact(g.free n b hn i).2 h0
   have:=g.dist n q b hn D i W;grind
  obtain⟨n,k,hn,i⟩:=R m b f e;obtain⟨q,bb,D,W⟩:=R V b ag B;have:=g.dist n q b hn D i W;grind [Ud]
 have bn:∀b,G b->b<w.heap.size:=by
  rintro b (h0|⟨n,⟨ai,hn⟩,_,i⟩)
  .exact bY (ax.O b h0) g.frm.size
  exact(g.objs n ai hn).block_lt i
 refine⟨J,G,r,λb e=>e.1,bn,bx,Vm au aw g.objs bi bo,aa,?_⟩;rintro u w' ⟨res,Q,ρ',cd,M,U,bp,ce⟩;obtain⟨t,ab,o,cl,ak,ad,bh,al,am,bz⟩:=hk res Q cd;refine bz _ _ ?_
 let F:Nat->Value:=λn=>match lk n t with|some (.nm m)=>ρ' m|some .nil=>.slice none 0 0|none=>ρ n
 have ae:∀n m,lk n t=some (.nm m)->F n=ρ' m:=λn m hn=>by simp[F,hn]
 have ao:∀n,lk n t=some .nil->F n=.slice none 0 0:=λn hn=>by simp[F,hn]
 have cm:∀n,lk n t=none->F n=ρ n:=λn hn=>by simp[F,hn]
 let σ2:=CP σ (Aj ren) hs dst ab o
 have cb:σ2.objs=o++Ar (Aj ren) hs σ.objs:=rfl;have af:∀n,lk n σ2.objs=(lk n o).or (lk n (Ar (Aj ren) hs σ.objs)):=λn=>by rw[cb,A5]
 have ay:∀n fr,lk n t=some fr->∃x,lk n o=some x:=λn fr hn=>by
  simp only[CO,ON]at ak;exact AEg.1 (ak _ (Fu hn))
 have br:∀n x,lk n o=some x->∃fr,lk n t=some fr:=λn x hn=>by
  have hf:=DK ad hn;cases k:lk n t with
  | none=>rw[k]at hf;exact hf.elim
  | some fr=>exact⟨fr,rfl⟩
 have bs:∀n x,lk n o=some x->n∈Aj ren\/lk n σ.objs=none:=λn x hn=>by
  simp only[FK,ON,Sx]at am;rcases am _ (Fu hn) with h|h
  .exact .inl ((Am _ _).1 h)
  exact .inr (by simpa using h)
 have H:∀n x,lk n (Ar (Aj ren) hs σ.objs)=some x->n∉Aj ren/\lk n o=none/\∃y,lk n σ.objs=some y/\x=y.fgt hs:=by
  intro n x hn;rw[B7]at hn;split at hn
  .cases hn
  rename_i C;simp only[OF]at hn;obtain⟨y,j,rfl⟩:=hn;have C:n∉Aj ren:=λh=>C ((Am _ _).2 h);refine⟨C,?_,y,j,rfl⟩;cases hl:lk n o with
  | none=>rfl
  | some z =>
   rcases bs n z hl with h|h
   .exact absurd h C
   rw[h]at j;cases j
 have S:∀n x,lk n σ2.objs=some x->lk n o=some x\/(lk n o=none/\lk n (Ar (Aj ren) hs σ.objs)=some x):=by simp_all
 have P:∀n x b,lk n o=some x->bk (F n) b->∃m,lk n t=some (.nm m)/\HG ⟨[],Q⟩ m/\bk (ρ' m) b:=by
  intro n x b hn e;have hf:=DK ad hn;obtain⟨fr,k⟩:=br n x hn;cases fr with
  | nil=>rw[ao n k]at e;simp[bk,blk]at e
  | nm m =>
   rw[k]at hf;rw[ae n m k]at e;refine⟨m,k,?_,e⟩;cases hn:lk m Q with
   | none=>simp only[GY,hn,H8]at hf
   | some z=>exact⟨z,hn⟩
 have I:∀n,lk n o=none->F n=ρ n:=λn hn=>by grind
 have av:Lz t (vw w' G ⟨[],Q⟩ ρ') (vw w' c.O0 σ2 F):=by
  refine⟨rfl,λb e B=>?_,ae,ao,λn fr hn=>?_⟩
  .rcases B with h0|⟨n,⟨x,hn⟩,i⟩
   .exact e (.inl (.inl h0))
   rcases S n x hn with hn|⟨E,hn⟩
   .obtain⟨m,_,f,l⟩:=P n x b hn i;exact e (.inr ⟨m,f,l⟩)
   obtain⟨C,_,y,j,_⟩:=H n x hn;rw[I n E]at i;exact e (.inl (.inr ⟨n,⟨y,j⟩,C,i⟩))
  obtain⟨x,hx⟩:=ay n fr hn;exact⟨x,by rw[af,hx];rfl⟩
 have bj:∀b,(∃m,HG ⟨[],objs⟩ m/\bk (r m) b)->own c.O0 σ ρ b:=by
  rintro b ⟨m,f,e⟩;obtain⟨n,_,hn,i⟩:=R m b f e;exact .inr ⟨n,hn,i⟩
 have ap:∀b,b<w.heap.size->¬own c.O0 σ ρ b->J b:=λb N e=>⟨N,λh=>e (bj b h)⟩;have Z:Cq ((vw w c.O0 σ ρ).buts hs) (vw w' c.O0 σ2 F):=by
  have aq:∀n,HG σ n->Aa n hs=false->HG σ2 n/\F n=ρ n:=by
   intro n hn ca;by_cases hh:n∈Aj ren
   .simp only[JD,ON,Sx]at al;rcases al n hh with h|h
    .rw[ca]at h;cases h
    simp only[RT,An]at h;obtain⟨⟨m,fr⟩,hp,bc,T⟩:=h;simp only at bc T;unfold A8L at T;split at T
    .rename_i q bv;simp only[An,S1]at T;obtain⟨rfl,Y⟩:=T;unfold A8K at Y;split at Y
     .rename_i V az;have:V=m:=by simpa using Y
      subst this;obtain⟨x,hx⟩:=ay _ _ az;refine⟨⟨x,by rw[af,hx];rfl⟩,?_⟩;rw[ae _ _ az,ce V ((Am _ _).1 bc)];exact aa _ _ bv
     cases Y
    cases T
   obtain⟨x,hx⟩:=hn;have k:lk n (Ar (Aj ren) hs σ.objs)=some (x.fgt hs):=by grind [B7,Am]
   obtain⟨_,E,_⟩:=H n _ k;exact⟨⟨_,by rw[af,E,k];rfl⟩,I n E⟩
  refine⟨λb N e B=>?_,λn hn=>(aq n hn.1 hn.2).1,λn hn=>(aq n hn.1 hn.2).2,λb N e=>M.block b (ap b N e)⟩;have N:b<w.heap.size:=N;have e:¬own c.O0 σ ρ b:=e;rcases B with h0|⟨n,⟨x,hn⟩,i⟩
  .exact e (.inl h0)
  rcases S n x hn with hn|⟨E,hn⟩
  .obtain⟨m,_,f,l⟩:=P n x b hn i;exact(U.free m b f l).1 (ap b N e)
  obtain⟨C,_,y,j,_⟩:=H n x hn;rw[I n E]at i;exact e (.inr ⟨n,⟨y,j⟩,i⟩)
 have bm:∀b,c.K b->J b:=λb e=>⟨bY (ax.K b e) g.frm.size,λ⟨m,f,l⟩=>by
  obtain⟨n,_,hn,i⟩:=R m b f l;exact(g.free n b hn i).1 e⟩
 refine⟨F,⟨M.os.trans g.frm.os,M.tape.trans g.frm.tape,M.output.trans g.frm.output,RG g.frm.size M.size,λb e=>(M.block b (bm b e)).trans (g.frm.block b e)⟩,by rw[Po];exact g.nt,by rw[Kp];exact g.defers,λp hp=>?_,λn x hn=>?_,λn b hl e=>?_,λn q b hl bt e B=>?_,λs v cf=>?_⟩
 .obtain⟨be,ch,ci⟩:=g.pin p hp;have bf:Aa p.1 hs=false:=by simpa using (ON.1 cc) p hp
  have cj:=Z.ρ p.1 ⟨be,bf⟩;exact⟨Z.L p.1 ⟨be,bf⟩,cj.trans ch,ci⟩
 .rcases S n x hn with hn|⟨E,hn⟩
  .exact Ru av U.obj (DK ad hn)
  obtain⟨C,_,y,j,rfl⟩:=H n x hn;rw[I n E];refine aM Z (λb e=>?_) (g.objs n y j);refine M.block b ⟨(g.objs n y j).block_lt e,λ⟨m,f,l⟩=>?_⟩;obtain⟨q,bb,D,W⟩:=R m b f l;have:=g.dist n q b ⟨y,j⟩ D e W;grind
 .obtain⟨x,hn⟩:=hl;rcases S n x hn with hn|⟨E,hn⟩
  .obtain⟨m,_,f,l⟩:=P n x b hn e;have:=U.free m b f l;grind
  obtain⟨C,_,y,j,rfl⟩:=H n x hn;rw[I n E]at e;exact g.free n b ⟨y,j⟩ e
 .obtain⟨x,hn⟩:=hl;obtain⟨X,D⟩:=bt;rcases S n x hn with hn|⟨E,hn⟩<;>rcases S q X D with D|⟨ba,D⟩
  .obtain⟨m,k,f,l⟩:=P n x b hn e;obtain⟨V,bb,ag,bw⟩:=P q X b D B;have:=U.dist m V b f ag l bw;grind [Ud]
  .exfalso;obtain⟨m,k,f,l⟩:=P n x b hn e;obtain⟨C,_,y,j,rfl⟩:=H q X D;rw[I q ba]at B;exact(U.free m b f l).2 (.inr ⟨q,⟨y,j⟩,C,B⟩)
  .exfalso;obtain⟨m,k,f,l⟩:=P q X b D B;obtain⟨C,_,y,j,rfl⟩:=H n x hn;rw[I n E]at e;exact(U.free m b f l).2 (.inr ⟨n,⟨y,j⟩,C,e⟩)
  obtain⟨_,_,y,j,rfl⟩:=H n x hn;obtain⟨_,_,ck,cg,rfl⟩:=H q X D;rw[I n E]at e;rw[I q ba]at B;exact g.dist n q b ⟨y,j⟩ ⟨ck,cg⟩ e B
 refine A5W (c:=c) g.nt bq (M8 av bh bp) (λs v ah=>?_) cf;rw[Es]at ah;simp only[OF]at ah;obtain⟨y,j,rfl⟩:=ah;exact(Ua (g.env s y j)).keeps Z
theorem aW (ad:c.Ok) {o:Oper} {dst:Option Nat} {g:Operand} {xs:List Operand} {ts:Array TypeId} (J:o.op=.call { callee:=.value g,args:=xs.toArray,argTypes:=ts }) (ah:o.dst=dst)
  {f:FuncId} {k:List Nat} (j:DL (Ap σ g)=some (f,k)) {as:List AV} (Z:Im σ xs=some as)
  {A:List AV} {objs:List (Nat×Obj)} {stay:List Nat} {post:AV->List (Nat×Obj)->Prop} (B:A9 c.P f A objs stay post)
  (ren:List (Nat×B1)) (h1:B8 ren=true) (R:CO objs ren=true) (S:BJ σ ren (as++k.map λn=>AV.bp n [] 0) A) (U:Ad σ.objs ren objs)
  (hs:List Nat) (am:(c.ds.pin.all λp=>!Aa p.1 hs)=true) {next:Act->World->Prop} {Q:Exit->Act->World->Prop} {a:Act} {w:World} (ap:c.sat σ a w) (ag:∀d,dst=some d->d<c.nt)
  (hk:∀res L,post res L->∃(s:List (Nat×B1)) (M:AV) (z:List (Nat×Obj)),B8 s=true/\CO z s=true/\Ad L s z/\Bi s res M /\
   JD ren s stay hs=true/\FK (Aj ren) z σ.objs=true/\∀G w',c.sat (CP σ (Aj ren) hs dst M z) G w'->next G w'):o.wpIn (FR c.r) 0 c.P a w next Q:=by
 obtain⟨ρ,K⟩:=ap;have I:Ha (vw w c.O0 σ ρ) σ a.eval:=Fv K.env;obtain⟨⟨fn,ai,al,ab⟩,B⟩:=B;obtain⟨m,aj,af⟩:∃m:List Value,a.eval g=.func (.func f) #[] m.toArray/\Il (vw w c.O0 σ ρ) (k.map λn=>AV.bp n [] 0) m:=by
  cases D:Ap σ g with
  | none=>rw[D]at j;simp[DL]at j
  | some H =>
   rw[D]at j;have C:=I g H D;cases H<;>simp only[DL]at j<;>try(cases j;done)
   .cases j;exact⟨[],C,rfl⟩
   rename_i au ns;cases j;refine⟨k.map ρ,C.1,?_⟩;have h0:∀l:List Nat,(∀n∈l,n∈k)->Il (vw w c.O0 σ ρ) (l.map λn=>AV.bp n [] 0) (l.map ρ):=by
    intro l;induction l with
    | nil=>intro _;exact rfl
    | cons n r F =>
     intro hl;obtain⟨q,b,i⟩:=C.2 n (hl n (by simp));have i:ρ n=_:=i;exact⟨ρ n,r.map ρ,rfl,⟨q,b,i,i⟩,F λx hx=>hl x (by simp[hx])⟩
   exact h0 k λ_ h=>h
 have Y:=aV I Z;have X:∀ {l r:List AV} {t y:List Value},Il (vw w c.O0 σ ρ) l t->Il (vw w c.O0 σ ρ) r y->Il (vw w c.O0 σ ρ) (l++r) (t++y):=by
  intro l;induction l with
  | nil=>intro r t y hu E;have hu:t=[]:=hu;subst hu;exact E
  | cons x l F =>
   intro r t y hu E;obtain⟨v,aq,rfl,q,i⟩:=hu;exact⟨v,aq++y,rfl,q,F i E⟩
 have W:=X Y af;have ao:(execOp a.eval o).run c.P w=.ok (.enter f (xs.map a.eval++m).toArray) w:=by
  have q : ¬ fn.name = "runtime.NumGoroutine" := by simpa using al
  have i:¬fn.body=none:=by intro e;simp[e]at ab
  simp[execOp,J,resolve,Deferred.ofValue,aj,invoke,callFunc,ai,q,i]
 obtain⟨N,O,ar,T,V,ak,aa,_,an⟩:=R0 ad K W stay post ren h1 R S U hs am ag hk;have ae:=B w N O ar (xs.map a.eval++m) T V ak aa;refine⟨λ_ _=>trivial,?_⟩;rw[Gw _ _ _ (λcl e=>by rw[J]at e;cases e),ao,Oper.uponIn_enter];refine⟨λh=>(by simp[FR]at h),OX (ae.mono λe w' hh=>?_)⟩;obtain⟨u,rfl,hh⟩:=hh;rw[ah];exact an u w' hh
theorem A2s (D:c.Ok) {ops:Array Oper} {rest:List Oper} {dst:Option Nat} {g:Operand} {xs:List Operand} {ts:Array TypeId} {ty:TypeId} {pos:String} {after:Array Edge}
  {f:FuncId} {i:List Nat} (E:DL (Ap σ g)=some (f,i)) {as:List AV} (C:Im σ xs=some as)
  {A:List AV} {objs:List (Nat×Obj)} {stay:List Nat} {post:AV->List (Nat×Obj)->Prop} (z:A9 c.P f A objs stay post)
  (ren:List (Nat×B1)) (hs:List Nat) (h1:B8 ren=true) (v:CO objs ren=true) (H:(c.ds.pin.all λp=>!Aa p.1 hs)=true) (x:BJ σ ren (as++i.map λn=>AV.bp n [] 0) A) (B:Ad σ.objs ren objs)
  (hk:∀res e,post res e->∃(b:List (Nat×B1)) (h:AV) (d:List (Nat×Obj)),B8 b=true/\CO d b=true/\Ad e b d/\Bi b res h /\
   JD ren b stay hs=true/\FK (Aj ren) d σ.objs=true/\Nh c R k ops rest (CP σ (Aj ren) hs dst h d)) :
  Nh c R k ops (⟨dst,.call ⟨.value g,xs.toArray,ts⟩,ty,pos,after,none⟩ :: rest) σ:=by
 intro j F a w J;unfold wpListIn;rw[BY (by simp[Region.wanted])];refine aW D (xs:=xs) (ts:=ts) rfl rfl E C z ren h1 v x B hs H J (Cr (j _ (by simp))) λres e hp=>?_;obtain⟨b,h,d,m,q,r,s,t,u,y⟩:=hk res e hp;exact⟨b,h,d,m,q,r,s,t,u,λl w' I=>y (λo G=>j o (by simp[G])) F l w' I⟩
end
end
section
open Go Go.RowKit
def aX (s:Nat):List Nat->List Nat
 | []=>[]
 | k :: r=>if s=k then r else k :: aX s r
def IC:List Nat->List (Nat×AV)->List (Nat×AV)
 | _,[]=>[]
 | [],_ :: _=>[]
 | k :: a,(s,v) :: r=>if Aa s (k :: a)=true then (s,v) :: IC (aX s (k :: a)) r else IC (k :: a) r
def Df (a:List Nat):DD->DD
 | some (vc,σ)=>some (vc,⟨IC a σ.env,σ.objs⟩)
 | none=>none
theorem Yo {s t:Nat}:∀ {a:List Nat},Aa s a=false->Aa s (aX t a)=false
 | [],h=>h
 | k :: r,h=>by
  simp only[Aa]at h;split at h
  .cases h
  rename_i b;simp only[aX];split
  .exact h
  simp only[Aa,As b];exact Yo h
theorem Jb {s:Nat}:∀ {env:List (Nat×AV)} {a:List Nat},Aa s a=false->lk s (IC a env)=none
 | [],a,_=>by cases a<;>rfl
 | (j,v) :: r,[],_=>rfl
 | (j,v) :: r,k :: a,h=>by
  simp only[IC];split
  .rename_i b;simp only[lk];rw[As (λe=>by subst e;rw[h]at b;cases b)];exact Jb (Yo h)
  exact Jb h
theorem Vn {s:Nat} {x:AV}:∀ {env:List (Nat×AV)} {a:List Nat},lk s (IC a env)=some x->lk s env=some x
 | [],a,h=>by cases a<;>simp[IC,lk]at h
 | (j,v) :: r,[],h=>by simp[IC,lk]at h
 | (j,v) :: r,k :: a,h=>by
  simp only[IC]at h;split at h
  .simp only[lk]at h ⊢;split at h
   .grind
   rename_i e;rw[As e];exact Vn h
  rename_i b;by_cases e:s=j
  .grind [Jb]
  simp only[lk,As e];exact Vn h
theorem ID {d:List Nat} {r:DD} {vc:Prop} {σ':St} (h:Df d r=some (vc,σ')):∃b,r=some (vc,b)/\∀c:Cx,Ent c b σ':=by
 cases r with
 | none=>cases h
 | some p =>
  obtain⟨f,b⟩:=p;simp only[Df]at h;cases h;exact⟨b,rfl,λc a w hs=>Uf (σ':=⟨IC d b.env,b.objs⟩) (λs v e=>Vn e) (λ_=>rfl) hs⟩
section
variable {c:Cx} {R:Exit->Act->World->Prop} {k:List DU} {σ σ':St}
theorem A03 (g:List Nat) (e:c.P.follows .mixedOrders=true) (b:c.Ok) {id:Nat} {l:List Oper} (d:QH l l.length=true) {vc:Prop}
  (h:Df g (L4 c.tb l false σ.objs [] l 0 [] [] σ)=some (vc,σ')) (f:vc) (hk:Ev c R (.out .normal) k σ'):Ev c R (.run (.region id l.toArray true)) k σ:=by
 obtain⟨i,h1,a⟩:=ID h;exact A2p e b d h1 f (hk.ent (a c))
theorem A04 (g:List Nat) (m:Nat) (e:c.P.follows .mixedOrders=true) (b:c.Ok) {id:Nat} {l:List Oper} (d:QH l (l.take (l.length-m)).length=true) {vc:Prop}
  (h:Df g (L4 c.tb l false σ.objs (l.drop (l.length-m)) (l.take (l.length-m)) 0 [] [] σ)=some (vc,σ')) (f:vc) (hk:Ev c R (.out .normal) k σ'):Ev c R (.run (.region id l.toArray true)) k σ:=by
 obtain⟨i,h1,a⟩:=ID h;exact A2q m e b d h1 f (hk.ent (a c))
theorem TW (f:List Nat) (b:c.Ok) {id:Nat} {l:List Oper} (d:mF l l.length=true) {vc:Prop}
  (h:Df f (L4 c.tb l true σ.objs [] l 0 [] [] σ)=some (vc,σ')) (e:vc) (hk:Ev c R (.out .normal) k σ'):Ev c R (.run (.region id l.toArray false)) k σ:=by
 obtain⟨g,h1,a⟩:=ID h;exact mK b d h1 e (hk.ent (a c))
theorem L8 (e:List Nat) (b:c.Ok) {id:Nat} {l:List Oper} (h0:(l.all λo=>o.guard.isNone)=true) {vc:Prop} (h:Df e (Bn c.tb l l σ)=some (vc,σ')) (d:vc) (hk:Ev c R (.out .normal) k σ') :
  Ev c R (.run (.region id l.toArray false)) k σ:=by
 obtain⟨f,h1,a⟩:=ID h;exact mL b h0 h1 d (hk.ent (a c))
theorem IE (e:List Nat) (b:c.Ok) {ops:List Oper} {l:List Oper} {vc:Prop} (h:Df e (Bn c.tb ops l σ)=some (vc,σ')) (d:vc) (hk:Ev c R (.out .normal) k σ'):Nh c R k ops.toArray l σ:=by
 obtain⟨f,h1,a⟩:=ID h;exact aR b (by simpa using h1) d (hk.ent (a c))
theorem A2t (d:c.Ok) {id:Nat} {l:List Oper} (n:Nat) (h0:(l.all λo=>o.guard.isNone)=true) {vc:Prop} (h:Bn c.tb l (l.take n) σ=some (vc,σ')) (f:vc) (hk:Nh c R k l.toArray (l.drop n) σ') :
  Ev c R (.run (.region id l.toArray false)) k σ:=by
 intro h1 b a w hs;simp only[H0,Bl,ON]at h1;exact AET (QM d n (by simpa using h) f hk (λo e=>h1 o e) b a w hs)
theorem BV {ops:Array Oper} (h:Ev c R (.out .normal) k σ):Nh c R k ops [] σ:=A5T h
end
end
end Go.Proofs.YtapkhdkbkodbjaaGreat.Fw
