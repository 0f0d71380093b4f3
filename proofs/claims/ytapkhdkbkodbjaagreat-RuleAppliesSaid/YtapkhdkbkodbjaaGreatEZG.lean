/- Contracts over memory; the frame rule of a call. -/
import Derived.Test.YtapkhdkbkodbjaaGreatEZF
set_option linter.unusedVariables false
set_option linter.unusedSimpArgs false
namespace Go.Proofs.YtapkhdkbkodbjaaGreat.Fw
section
open Go Go.RowKit
structure yW (K O0:Nat->Prop) (objs:List (Nat×Obj)) (ρ:Nat->Value) (w:World):Prop where
 obj:∀n o,lk n objs=some o->BD (vw w O0 ⟨[],objs⟩ ρ) o (ρ n)
 free:∀n b,Hm ⟨[],objs⟩ n->bk (ρ n) b->¬K b/\¬O0 b
 dist:∀n m b,Hm ⟨[],objs⟩ n->Hm ⟨[],objs⟩ m->bk (ρ n) b->bk (ρ m) b->n=m
def Jz (V:Vw):List AV->List Value->Prop
 | [],a=>a=[]
 | x :: r,a=>∃(v:Value) (l:List Value),a=v :: l/\CE V x v/\Jz V r l
def Mz (K O0:Nat->Prop) (stay:List Nat) (w:World) (ρ:Nat->Value) (post:AV->List (Nat×Obj)->Prop) (u:Value) (w':World):Prop :=
 ∃(res:AV) (a:List (Nat×Obj)) (ρ':Nat->Value),post res a/\Frm K w w'/\yW K O0 a ρ' w'/\CE (vw w' O0 ⟨[],a⟩ ρ') res u/\∀n∈stay,ρ' n=ρ n
def Bb (P:Program) (f:FuncId) (args:List AV) (objs:List (Nat×Obj)) (stay:List Nat) (post:AV->List (Nat×Obj)->Prop):Prop :=
 (∃ fn : Func, P.funcs[f]? = some fn /\ (fn.name == "runtime.NumGoroutine") = false /\ fn.body.isNone = false) /\
 ∀(w:World) (K O0:Nat->Prop) (ρ:Nat->Value) (a:List Value),(∀b,K b->b<w.heap.size)->(∀b,O0 b->b<w.heap.size)->yW K O0 objs ρ w->Jz (vw w O0 ⟨[],objs⟩ ρ) args a ->
  Calls P f a.toArray w λe w'=>∃u,e=.returned u/\Mz K O0 stay w ρ post u w'
def A6:Nat->List AV->List (Nat×AV)
 | _,[]=>[]
 | s,x :: r=>(s,x) :: A6 (s+1) r
def AAS:AV->Prop
 | .p t d=>t.ok d
 | _=>True
def Qs:List AV->Prop
 | []=>True
 | x :: r=>AAS x/\Qs r
def A1V:Obj->Prop
 | .arr _ e xs=>(Ty.slice e).ok xs
 | .box _ _ fs=>Qs fs
 | .mapo k v l=>∀x∈l,k.ok x.1/\v.ok x.2
 | .nest _ _ k e xs none=>(Ty.slice (.agg (.prod k (.slice e)))).ok xs
 | _=>True
def Pb:List (Nat×Obj)->Prop
 | []=>True
 | x :: r=>A1V x.2/\Pb r
theorem A94 {V:Vw} {x:AV} {v:Value} (h:CE V x v):AAS x:=by
 cases x<;>try trivial
 obtain⟨cs,a,_⟩:=h;exact IX a
theorem Vq {V:Vw}:∀ {l:List AV} {b:List Value},Jz V l b->Qs l
 | [],_,_=>trivial
 | _ :: _,_,⟨_,_,_,h1,a⟩=>⟨A94 h1,Vq a⟩
theorem u5 {V:Vw}:∀ {l:List AV} {cs:List Value},Dw V l cs->Qs l
 | [],_,_=>trivial
 | x :: _,_,⟨c1,c2,_,h1,a⟩=>⟨by
   cases x<;>try trivial
   exact IX (h1:B5 _ _ _ _ _),u5 a⟩
theorem u6 {w:World} {O:Nat->Prop} {k v:Ty}:∀ {b:List MapEntry} {l:List (k.den×v.den)},PN w O k v b l->∀x∈l,k.ok x.1/\v.ok x.2
 | [],[],_,x,a=>by cases a
 | [],_ :: _,h,_,_=>h.elim
 | _ :: _,[],h,_,_=>h.elim
 | e :: b,y :: l,⟨⟨_,h1,_⟩,⟨_,c,_⟩,d⟩,x,a=>by
  rcases Do.1 a with rfl|a
  .exact⟨IX h1,IX c⟩
  exact u6 d x a
theorem eK {V:Vw} {o:Obj} {loc:Value} (h:BD V o loc):A1V o:=by
 cases o with
 | arr et e xs =>
  obtain⟨n,cells,_,c⟩:=h;refine⟨n,λx f=>?_⟩;obtain⟨i,hi,rfl⟩:=aT.1 f;obtain⟨g,_,_,d⟩:=c i _ (AT hi);exact IX d
 | box et st fs=>obtain⟨_,b,cs,_,_,a⟩:=h;exact u5 a
 | mapo k v l=>obtain⟨b,g,cl,_,_,a,_⟩:=h;exact u6 a
 | nest et q k e xs m =>
  cases m with
  | some i=>trivial
  | none =>
   obtain⟨o,ins,cells,_,j⟩:=h;have c:=PR (O':=λ_=>False) (λ_ _ h=>h) j (λ_ _ _ _ _ h=>h);refine⟨j.max,λx f=>?_⟩;obtain⟨i,hi,rfl⟩:=aT.1 f;obtain⟨g,_,_,d⟩:=c i _ (AT hi);exact IX d
 | frame w fs=>trivial
 | loop L=>trivial
 | itr r u s t p=>trivial
 | dfr=>trivial
theorem Vr:∀ {l:List (Nat×Obj)},Ms l=true->(∀n o,lk n l=some o->A1V o)->Pb l
 | [],_,_=>trivial
 | (n,o) :: r,hk,h=>by
  simp only[Ms,As,No,ADe]at hk;refine⟨h n o (by simp[lk]),Vr hk.2 λm x a=>h m x ?_⟩;simp only[lk];rw[At (λe=>hk.1 _ (GS a) e)];exact a
theorem u7:∀(l:List AV) (a:List Value) (k:Nat) (V:Vw),Jz V l a->∀s v,lk s (A6 k l)=some v->k<=s/\∃u,a[s-k]?=some u/\CE V v u
 | [],a,k,V,h,s,v,hs=>by simp[A6,lk]at hs
 | x :: l,a,k,V,h,s,v,hs=>by
  obtain⟨u,r,rfl,h1,b⟩:=h;simp only[A6,lk]at hs;split at hs
  .grind
  obtain⟨c,f,d,e⟩:=u7 l r (k+1) V b s v hs;grind
theorem JU {V:Vw}:∀ {l:List AV} {a:List Value},Jz V l a->a.length=l.length
 | [],a,h=>by have h:a=[]:=h;subst h;rfl
 | _ :: _,_,⟨_,_,rfl,_,h⟩=>by simp[JU h]
def cm (P:Program) (tb:Tb) (w0:World) (K O0:Nat->Prop) (nt:Nat) (pin:List (Nat×Value)):Cx:={ P:=P,tb:=tb,w0:=w0,K:=K,O0:=O0,nt:=nt,ds:={ pin:=pin } }
theorem u9 {P:Program} {tb:Tb} {w0:World} {K O0:Nat->Prop} {nt:Nat} {pin:List (Nat×Value)}:(cm P tb w0 K O0 nt pin).tb=tb:=rfl
def Ub (objs:List (Nat×Obj)) (n:Nat):Bool :=
 match lk n objs with
 | some (.arr _ _ _)=>Ho n
 | some (.nest _ _ _ _ _ _)=>Ho n
 | some _=>true
 | none=>false
theorem XF {P:Program} {tb:Tb} {w0:World} {K O0:Nat->Prop} {nt:Nat} {args:List AV} {objs:List (Nat×Obj)} {stay:List Nat} {ρ:Nat->Value} {c:List Value} (f:yW K O0 objs ρ w0) (r:Jz (vw w0 O0 ⟨[],objs⟩ ρ) args c) (q:stay.all (Ub objs)=true) (x:c.length<=nt) :
  (cm P tb w0 K O0 nt (stay.map λn=>(n,ρ n))).sat ⟨A6 0 args,objs⟩ { tmps:=c.toArray++Array.replicate (nt-c.toArray.size) undef,defers:=[] } w0:=by
 refine⟨ρ,⟨rfl,rfl,rfl,OR _,λ_ _=>rfl⟩,by simp[cm];omega,rfl,λp m=>?_,f.obj,f.free,f.dist,λs v hs=>?_⟩
 .obtain⟨n,hn,rfl⟩:=DO.1 m;have:=(No.1 q) n hn;unfold Ub at this;cases g:lk n objs with
  | none=>rw[g]at this;cases this
  | some o =>
   rw[g]at this;refine⟨⟨o,g⟩,rfl,?_⟩;have d:=f.obj n o g;cases o with
   | arr et e xs=>exact .inr this
   | nest et z k e xs w=>exact .inr this
   | box et st fs=>obtain⟨_,b,cs,a,_⟩:=d;rw[a];exact .inl rfl
   | mapo k v l=>obtain⟨b,t,cl,a,_⟩:=d;rw[a];exact .inl rfl
   | frame E fs=>obtain⟨a,_⟩:=d;rw[a];exact .inl rfl
   | loop L=>obtain⟨b,a,_⟩:=d;rw[a];exact .inl rfl
   | itr A D B C y=>obtain⟨b,a,_⟩:=d;rw[a];exact .inl rfl
   | dfr=>obtain⟨b,a,_⟩:=d;rw[a];exact .inl rfl
 obtain⟨_,u,h1,i⟩:=u7 args c 0 _ r s v hs;have h1:c[s]?=some u:=by simpa using h1
 have h:s<c.length:=(R8.1 h1).1;have j:(c.toArray++Array.replicate (nt-c.toArray.size) undef).getD s undef=u:=by
  have:c[s]=u:=by rw[AT h]at h1;injection h1
  simp[Array.getElem?_append,h,this]
 rw[j];exact i
def A6t (P:Program) (fn:Func) (w0:World) (K O0:Nat->Prop) (stay:List Nat) (ρ0:Nat->Value) (post:AV->List (Nat×Obj)->Prop):Exit->Act->World->Prop :=
 bodyPost P fn λe w'=>∃u,e=.returned u/\Mz K O0 stay w0 ρ0 post u w'
theorem A95 {P:Program} {tb:Tb} {f:FuncId} {fn:Func} {cd:Code} {nt:Nat} {args:List AV} {objs:List (Nat×Obj)} {stay:List Nat} {post:AV->List (Nat×Obj)->Prop}
  (c : P.funcs[f]? = some fn) (k : (fn.name == "runtime.NumGoroutine") = false) (b : fn.body = some cd) (l : fn.ntmps = nt) (q : args.length <= nt)
  (i:B3 nt cd=true) (p:stay.all (Ub objs)=true) (j:Ms objs=true) (hT:DQ P tb) (hF:JQ P tb)
  (h:∀(w0:World) (K O0:Nat->Prop) (ρ0:Nat->Value),(cm P tb w0 K O0 nt (stay.map λn=>(n,ρ0 n))).Ok->Qs args->Pb objs ->
   Ev (cm P tb w0 K O0 nt (stay.map λn=>(n,ρ0 n))) (A6t P fn w0 K O0 stay ρ0 post) (.run cd) [] ⟨A6 0 args,objs⟩):Bb P f args objs stay post:=by
 refine⟨⟨fn,c,k,by simp[b]⟩,λw K O0 ρ s e g d a=>?_⟩;refine calls_of_wp c b ((wpIn_wide (n:=0)).1 ?_);have r:=JU a;rw[l];exact h w K O0 ρ ⟨e,g,hT,hF⟩ (Vq a) (Vr j λn o m=>eK (d.obj n o m)) i rfl _ _ (XF d a p O1)
def yX (tb:Tb) (σ:St) (rv:ResultVar):AV->Prop
 | .p t d=>Ju σ t (JJ tb σ rv)=some d
 | x=>JJ tb σ rv=some x
def Sj (tb:Tb) (σ:St):List ResultVar->List AV->Prop
 | [],[]=>True
 | rv :: a,x :: l=>yX tb σ rv x/\Sj tb σ a l
 | _,_=>False
def Z4:AV->Bool
 | .tup _=>false
 | _=>true
def Uc (tb:Tb) (σ:St):List ResultVar->AV->Prop
 | [],x=>x=.raw (.tuple #[])
 | [rv],x=>yX tb σ rv x
 | a,.tup l=>l.all Z4=true/\Sj tb σ a l
 | _,_=>False
section
variable {P:Program} {tb:Tb} {w0:World} {K O0:Nat->Prop} {nt:Nat} {ds:Fp} {σ:St} {ρ:Nat->Value} {a:Act} {w:World}
theorem vA (hT:DQ P tb) (hs:B0 w0 K O0 nt ds σ ρ a w) {rv:ResultVar} {x:AV} (h:yX tb σ rv x):∃u,(KN a.tmps rv).run P w=.ok u w/\CE (vw w O0 σ ρ) x u:=by
 by_cases e:∃t d,x=.p t d
 .obtain⟨t,d,rfl⟩:=e;simp only[yX]at h;cases c:JJ tb σ rv with
  | none=>rw[c]at h;simp[Ju]at h
  | some v =>
   rw[c]at h;simp only[Ju]at h;obtain⟨u,h1,f⟩:=Vh hT hs c;exact⟨u,h1,JP (V:=vw w O0 σ ρ) (O':=own O0 σ ρ) (λb g i=>g i) (λh=>by cases h) hs.objs h f⟩
 have h:JJ tb σ rv=some x:=by
  cases x<;>first|exact h|exact absurd ⟨_,_,rfl⟩ e
 exact Vh hT hs h
theorem AAT {V:Vw} {x:AV} {v:Value} (hn:Z4 x=true) (h:CE V x v):UK V x v:=by
 cases x<;>first|(simp[Z4]at hn;done)|exact h
theorem Z5 (hT:DQ P tb) (hs:B0 w0 K O0 nt ds σ ρ a w):∀ {c:List ResultVar} {l:List AV},l.all Z4=true->Sj tb σ c l ->
  ∃b:List Value,(c.mapM (KN a.tmps)).run P w=.ok b w/\b.length=l.length/\KK (vw w O0 σ ρ) l b
 | [],[],_,_=>⟨[],by simp,rfl,rfl⟩
 | [],_ :: _,_,h=>h.elim
 | _ :: _,[],_,h=>h.elim
 | rv :: c,x :: l,hn,h=>by
  simp only[ACy,As]at hn;obtain⟨u,h1,d⟩:=vA hT hs h.1;obtain⟨b,g,e,f⟩:=Z5 hT hs hn.2 h.2;refine⟨u :: b,?_,by simp[e],u,b,rfl,AAT hn.1 d,f⟩
  simp_all
theorem XG {tb:Tb} {σ:St}:∀ {a:List ResultVar} {l:List AV},Sj tb σ a l->a.length=l.length
 | [],[],_=>rfl
 | [],_ :: _,h=>h.elim
 | _ :: _,[],h=>h.elim
 | _ :: _,_ :: _,h=>by simp[XG h.2]
theorem XH (hT:DQ P tb) (hs:B0 w0 K O0 nt ds σ ρ a w) {fn:Func} {x:AV} (h:Uc tb σ fn.results.toList x):∃u,(results fn a.tmps).run P w=.ok u w/\CE (vw w O0 σ ρ) x u:=by
 have key:∀b:List Value,(fn.results.toList.mapM (KN a.tmps)).run P w=.ok b w->(results fn a.tmps).run P w=.ok (if h:b.toArray.size=1 then b.toArray[0] else .tuple b.toArray) w:=by
  intro b h1;rw[PY];have g:(fn.results.mapM (KN a.tmps)).run P w=.ok b.toArray w:=by
   rw[ACU];simp only[Sem.run_map,h1,iN]
  simp only[AC9,g,iN,ACQ]
 generalize fn.results.toList=m at h key;unfold Uc at h;split at h
 .subst h;exact⟨_,key [] sc,rfl⟩
 .rename_i rv;obtain⟨u,h1,c⟩:=vA hT hs h;exact⟨_,key [u] (by simp[h1]),c⟩
 .rename_i l k i;obtain⟨b,h1,c,d⟩:=Z5 hT hs h.1 h.2;have f:=XG h.2;refine⟨_,key b h1,?_⟩;have:¬b.toArray.size=1:=by
   intro e;have e:b.length=1:=by simpa using e
   rw[c,<-f]at e;obtain⟨z,j⟩:=ACi.1 e;exact i z j
  rw[dif_neg this];exact⟨b,rfl,d⟩
 exact h.elim
end
theorem A6u {P:Program} {tb:Tb} {w0:World} {K O0:Nat->Prop} {nt:Nat} {stay:List Nat} {ρ0:Nat->Value} {fn:Func} {post:AV->List (Nat×Obj)->Prop} {σ:St} {e:Exit} (f:(cm P tb w0 K O0 nt (stay.map λn=>(n,ρ0 n))).Ok)
  (c:List ResultVar) (j:fn.results.toList=c) (g:e=.ret\/e=.normal) (res:AV) (h:Uc tb σ c res) (i:post res σ.objs) :
  Ev (cm P tb w0 K O0 nt (stay.map λn=>(n,ρ0 n))) (A6t P fn w0 K O0 stay ρ0 post) (.out e) [] σ:=by
 intro _ _ a w hs;obtain⟨ρ,hs⟩:=hs;obtain⟨u,h1,d⟩:=XH f.T hs (by rw[j];exact h);have b:Mz K O0 stay w0 ρ0 post u w:=by
  refine⟨res,σ.objs,ρ,i,hs.frm,⟨hs.objs,hs.free,hs.dist⟩,d,λn hn=>?_⟩;exact(hs.pin (n,ρ0 n) (DO.2 ⟨n,hn,rfl⟩)).2.1
 rcases g with rfl|rfl
 .exact⟨hs.defers,u,h1,u,rfl,b⟩
 exact⟨hs.defers,u,h1,u,rfl,b⟩
end
section
open Go Go.RowKit
def Dy:Option AV->Option (FuncId×List Nat)
 | some (.fn f)=>some (f,[])
 | some (.clo f ns)=>some (f,ns)
 | _=>none
def J0 (σ:St):List Operand->Option (List AV)
 | []=>some []
 | x :: r=>match Am σ x,J0 σ r with
  | some v,some a=>some (v :: a)
  | _,_=>none
def IY (σ:St) (ren:List (Nat×CB)) (x:AV):AV->Prop
 | .p t d=>MQ false σ t x=some d
 | y=>B9 ren x y
def Bc (σ:St) (ren:List (Nat×CB)):List AV->List AV->Prop
 | [],[]=>True
 | x :: l,y :: r=>IY σ ren x y/\Bc σ ren l r
 | _,_=>False
def Ao:List (Nat×CB)->List Nat
 | []=>[]
 | (_,.nm n) :: r=>n :: Ao r
 | (_,.nil) :: r=>Ao r
def A8k (m:Nat):Option CB->Bool
 | some (.nm a)=>a==m
 | _=>false
def A8l (n:Nat) (f:Option CB) (m:Nat):Option CB->Bool
 | some (.nm a)=>a==n&&A8k m f
 | _=>false
def JV (ren a:List (Nat×CB)) (stay hs:List Nat):Bool:=(Ao ren).all λn=>Ad n hs||ren.any λp=>Ad p.1 stay&&A8l n (lk n a) p.1 (lk p.1 ren)
def Fu (a:List Nat) (b objs:List (Nat×Obj)):Bool:=b.all λp=>Ad p.1 a||(lk p.1 objs).isNone
def M0 (dst:Option Nat) (v:AV) (env:List (Nat×AV)):List (Nat×AV) :=
 match dst with
 | some d=>(d,v) :: env
 | none=>env
def Cg (σ:St) (a hs:List Nat) (dst:Option Nat) (res:AV) (b:List (Nat×Obj)):St:=⟨M0 dst res (CA hs σ.env),b++Ar a hs σ.objs⟩
theorem Pc {n:Nat}:∀ {l:List (Nat×CB)},n∈Ao l↔∃m,(m,CB.nm n)∈l
 | []=>by simp[Ao]
 | (m,.nm k) :: r=>by
  simp only[Ao,Do,Pc (l:=r),ADx,CB.nm.injEq];grind
 | (m,.nil) :: r=>by
  simp only[Ao,Do,Pc (l:=r),ADx];grind
theorem eL {V:Vw} {σ:St} {ev:Operand->Value} (b:G9 V σ ev):∀ {xs:List Operand} {a:List AV},J0 σ xs=some a->Jz V a (xs.map ev)
 | [],a,h=>by simp only[J0]at h;cases h;exact(rfl:_=_)
 | x :: r,a,h=>by
  simp only[J0]at h;split at h
  .rename_i v l h1 c;cases h;exact⟨ev x,r.map ev,rfl,b x v h1,eL b c⟩
  cases h
section
variable {V V':Vw} {ren:List (Nat×CB)} {σ:St}
theorem XI (f:Mt ren V V') (g:∀b,¬V.O b->¬V'.O b) (i:∀n o,lk n σ.objs=some o->BD V o (V.ρ n)):∀ {l r:List AV} {e:List Value},Bc σ ren l r->Jz V l e->Jz V' r e
 | [],[],e,_,h=>h
 | [],_ :: _,_,a,_=>a.elim
 | _ :: _,[],_,a,_=>a.elim
 | x :: l,y :: r,e,a,h=>by
  obtain⟨v,l',rfl,h1,k⟩:=h;refine⟨v,l',rfl,?_,XI f g i a.2 k⟩;have c:=a.1;by_cases j:∃t d,y=.p t d
  .obtain⟨t,d,rfl⟩:=j;have c:MQ false σ t x=some d:=c;have:=JP (V:=V) (O':=V'.O) g (λh=>by cases h) i c h1;show Bp V'.w V'.O t v d;rw[f.w];exact this
  have c:B9 ren x y:=by
   cases y<;>first|exact c|exact absurd ⟨_,_,rfl⟩ j
  exact OA f c h1
end
section
variable {c:Cx} {R:Exit->Act->World->Prop} {k:List Dg} {σ:St}
theorem A6v {c:Cx} {a:Act} {dst:Option Nat} {u:Value} {s:Nat} {y:AV} {V:Vw} {env:List (Nat×AV)} {res:AV} (f:a.tmps.size=c.nt) (b:∀d,dst=some d->d<c.nt) (g:CE V res u) (e:∀s v,lk s env=some v->CE V v (a.tmps.getD s undef))
  (h:lk s (M0 dst res env)=some y):CE V y ((a.put dst u).tmps.getD s undef):=by
 cases dst with
 | none=>exact e s y h
 | some d =>
  rw[LE a d u s (by rw[f];exact b d rfl)];simp only[M0,lk]at h;split at h
  .grind
  grind
theorem Sk (ba:c.Ok) {dst:Option Nat} {ρ:Nat->Value} {a:Act} {w:World} (g:B0 c.w0 c.K c.O0 c.nt c.ds σ ρ a w) {as:List AV} {bj:List Value} (br:Jz (vw w c.O0 σ ρ) as bj)
  {A:List AV} {objs:List (Nat×Obj)} (stay:List Nat) (post:AV->List (Nat×Obj)->Prop)
  (ren:List (Nat×CB)) (h1:CM ren=true) (aq:Cc objs ren=true) (bm:Bc σ ren as A) (aw:Ai σ.objs ren objs)
  (hs:List Nat) (cf:(c.ds.pin.all λp=>!Ad p.1 hs)=true) {next:Act->World->Prop} (bt:∀d,dst=some d->d<c.nt)
  (hk:∀res Q,post res Q->∃(t:List (Nat×CB)) (ae:AV) (o:List (Nat×Obj)),CM t=true/\Cc o t=true/\Ai Q t o/\B9 t res ae /\
   JV ren t stay hs=true/\Fu (Ao ren) o σ.objs=true/\∀am w',c.sat (Cg σ (Ao ren) hs dst ae o) am w'->next am w') :
  ∃(J G:Nat->Prop) (r:Nat->Value),(∀b,J b->b<w.heap.size)/\(∀b,G b->b<w.heap.size)/\yW J G objs r w/\Jz (vw w G ⟨[],objs⟩ r) A bj/\(∀m n,lk m ren=some (.nm n)->r m=ρ n) /\
   ∀u w',Mz J G stay w r post u w'->next (a.put dst u) w':=by
 let r:Nat->Value:=λm=>match lk m ren with|some (.nm n)=>ρ n|_=>.slice none 0 0
 have ad:∀m n,lk m ren=some (.nm n)->r m=ρ n:=λm n f=>by simp[r,f]
 have bg:∀m,lk m ren=some .nil->r m=.slice none 0 0:=λm f=>by simp[r,f]
 let G:Nat->Prop:=λb=>c.O0 b\/∃n,Hm σ n/\n∉Ao ren/\bk (ρ n) b
 let J:Nat->Prop:=λb=>b<w.heap.size/\¬ ∃m,Hm ⟨[],objs⟩ m/\bk (r m) b
 have R:∀m b,Hm ⟨[],objs⟩ m->bk (r m) b->∃n,lk m ren=some (.nm n)/\Hm σ n/\bk (ρ n) b:=by
  rintro m b ⟨al,f⟩ e;have hf:=DX aw f;cases k:lk m ren with
  | none=>rw[k]at hf;exact hf.elim
  | some fr =>
   cases fr with
   | nil=>rw[bg m k]at e;simp[bk,blk]at e
   | nm n =>
    rw[k]at hf;rw[ad m n k]at e;refine⟨n,rfl,?_,e⟩;cases hn:lk n σ.objs with
    | none=>simp only[Hq,hn,Jw]at hf
    | some x=>exact⟨x,hn⟩
 have bx:∀m fr,lk m ren=some fr->Hm ⟨[],objs⟩ m:=λm fr f=>by
  simp only[Cc,No]at aq;exact ACC.1 (aq _ (GS f))
 have cq:∀m n,lk m ren=some (.nm n)->n∈Ao ren:=λm n f=>Pc.2 ⟨m,GS f⟩;have az:∀b,¬own c.O0 σ ρ b->¬own G ⟨[],objs⟩ r b:=by
  intro b e B;rcases B with (h0|⟨n,hn,_,i⟩)|⟨m,f,l⟩
  .exact e (.inl h0)
  .exact e (.inr ⟨n,hn,i⟩)
  obtain⟨n,_,hn,i⟩:=R m b f l;exact e (.inr ⟨n,hn,i⟩)
 have ax:Mt ren (vw w c.O0 σ ρ) (vw w G ⟨[],objs⟩ r):=⟨rfl,az,ad,bg,bx⟩;have cb:yW J G objs r w:=by
  refine⟨λm al f=>Se ax g.objs (DX aw f),λm b f e=>⟨λbo=>bo.2 ⟨m,f,e⟩,λh0=>?_⟩,λm V b f ai e B=>?_⟩
  .obtain⟨n,k,hn,i⟩:=R m b f e;rcases h0 with h0|⟨q,D,C,X⟩
   .exact(g.free n b hn i).2 h0
   have:=g.dist n q b hn D i X;grind
  obtain⟨n,k,hn,i⟩:=R m b f e;obtain⟨q,be,D,X⟩:=R V b ai B;have:=g.dist n q b hn D i X;grind [Vi]
 have bq:∀b,G b->b<w.heap.size:=by
  rintro b (h0|⟨n,⟨al,hn⟩,_,i⟩)
  .exact AAv (ba.O b h0) g.frm.size
  exact(g.objs n al hn).block_lt i
 refine⟨J,G,r,λb e=>e.1,bq,cb,XI ax az g.objs bm br,ad,?_⟩;rintro u w' ⟨res,Q,ρ',cg,M,U,bs,ch⟩;obtain⟨t,ae,o,co,an,af,bl,ao,ap,cc⟩:=hk res Q cg;refine cc _ _ ?_
 let F:Nat->Value:=λn=>match lk n t with|some (.nm m)=>ρ' m|some .nil=>.slice none 0 0|none=>ρ n
 have ag:∀n m,lk n t=some (.nm m)->F n=ρ' m:=λn m hn=>by simp[F,hn]
 have ar:∀n,lk n t=some .nil->F n=.slice none 0 0:=λn hn=>by simp[F,hn]
 have cp:∀n,lk n t=none->F n=ρ n:=λn hn=>by simp[F,hn]
 let σ2:=Cg σ (Ao ren) hs dst ae o
 have ce:σ2.objs=o++Ar (Ao ren) hs σ.objs:=rfl;have ah:∀n,lk n σ2.objs=(lk n o).or (lk n (Ar (Ao ren) hs σ.objs)):=λn=>by rw[ce,BB]
 have bb:∀n fr,lk n t=some fr->∃x,lk n o=some x:=λn fr hn=>by
  simp only[Cc,No]at an;exact ACC.1 (an _ (GS hn))
 have bu:∀n x,lk n o=some x->∃fr,lk n t=some fr:=λn x hn=>by
  have hf:=DX af hn;cases k:lk n t with
  | none=>rw[k]at hf;exact hf.elim
  | some fr=>exact⟨fr,rfl⟩
 have bv:∀n x,lk n o=some x->n∈Ao ren\/lk n σ.objs=none:=λn x hn=>by
  simp only[Fu,No,Ts]at ap;rcases ap _ (GS hn) with h|h
  .exact .inl ((Ah _ _).1 h)
  exact .inr (by simpa using h)
 have H:∀n x,lk n (Ar (Ao ren) hs σ.objs)=some x->n∉Ao ren/\lk n o=none/\∃y,lk n σ.objs=some y/\x=y.fgt hs:=by
  intro n x hn;rw[Bm]at hn;split at hn
  .cases hn
  rename_i C;simp only[OS]at hn;obtain⟨y,j,rfl⟩:=hn;have C:n∉Ao ren:=λh=>C ((Ah _ _).2 h);refine⟨C,?_,y,j,rfl⟩;cases W:lk n o with
  | none=>rfl
  | some z =>
   rcases bv n z W with h|h
   .exact absurd h C
   rw[h]at j;cases j
 have S:∀n x,lk n σ2.objs=some x->lk n o=some x\/(lk n o=none/\lk n (Ar (Ao ren) hs σ.objs)=some x):=by simp_all
 have P:∀n x b,lk n o=some x->bk (F n) b->∃m,lk n t=some (.nm m)/\Hm ⟨[],Q⟩ m/\bk (ρ' m) b:=by
  intro n x b hn e;have hf:=DX af hn;obtain⟨fr,k⟩:=bu n x hn;cases fr with
  | nil=>rw[ar n k]at e;simp[bk,blk]at e
  | nm m =>
   rw[k]at hf;rw[ag n m k]at e;refine⟨m,k,?_,e⟩;cases hn:lk m Q with
   | none=>simp only[Hq,hn,Jw]at hf
   | some z=>exact⟨z,hn⟩
 have I:∀n,lk n o=none->F n=ρ n:=λn hn=>by grind
 have ay:Mt t (vw w' G ⟨[],Q⟩ ρ') (vw w' c.O0 σ2 F):=by
  refine⟨rfl,λb e B=>?_,ag,ar,λn fr hn=>?_⟩
  .rcases B with h0|⟨n,⟨x,hn⟩,i⟩
   .exact e (.inl (.inl h0))
   rcases S n x hn with hn|⟨E,hn⟩
   .obtain⟨m,_,f,l⟩:=P n x b hn i;exact e (.inr ⟨m,f,l⟩)
   obtain⟨C,_,y,j,_⟩:=H n x hn;rw[I n E]at i;exact e (.inl (.inr ⟨n,⟨y,j⟩,C,i⟩))
  obtain⟨x,ab⟩:=bb n fr hn;exact⟨x,by rw[ah,ab];rfl⟩
 have bn:∀b,(∃m,Hm ⟨[],objs⟩ m/\bk (r m) b)->own c.O0 σ ρ b:=by
  rintro b ⟨m,f,e⟩;obtain⟨n,_,hn,i⟩:=R m b f e;exact .inr ⟨n,hn,i⟩
 have au:∀b,b<w.heap.size->¬own c.O0 σ ρ b->J b:=λb N e=>⟨N,λh=>e (bn b h)⟩;have aa:Cb ((vw w c.O0 σ ρ).buts hs) (vw w' c.O0 σ2 F):=by
  have av:∀n,Hm σ n->Ad n hs=false->Hm σ2 n/\F n=ρ n:=by
   intro n hn cd;by_cases hh:n∈Ao ren
   .simp only[JV,No,Ts]at ao;rcases ao n hh with h|h
    .rw[cd]at h;cases h
    simp only[R9,As]at h;obtain⟨⟨m,fr⟩,aj,bf,T⟩:=h;simp only at bf T;unfold A8l at T;split at T
    .rename_i q bz;simp only[As,Tx]at T;obtain⟨rfl,Z⟩:=T;unfold A8k at Z;split at Z
     .rename_i V bc;have:V=m:=by simpa using Z
      subst this;obtain⟨x,ab⟩:=bb _ _ bc;refine⟨⟨x,by rw[ah,ab];rfl⟩,?_⟩;rw[ag _ _ bc,ch V ((Ah _ _).1 bf)];exact ad _ _ bz
     cases Z
    cases T
   obtain⟨x,ab⟩:=hn;have k:lk n (Ar (Ao ren) hs σ.objs)=some (x.fgt hs):=by grind [Bm,Ah]
   obtain⟨_,E,_⟩:=H n _ k;exact⟨⟨_,by rw[ah,E,k];rfl⟩,I n E⟩
  refine⟨λb N e B=>?_,λn hn=>(av n hn.1 hn.2).1,λn hn=>(av n hn.1 hn.2).2,λb N e=>M.block b (au b N e)⟩;have N:b<w.heap.size:=N;have e:¬own c.O0 σ ρ b:=e;rcases B with h0|⟨n,⟨x,hn⟩,i⟩
  .exact e (.inl h0)
  rcases S n x hn with hn|⟨E,hn⟩
  .obtain⟨m,_,f,l⟩:=P n x b hn i;exact(U.free m b f l).1 (au b N e)
  obtain⟨C,_,y,j,_⟩:=H n x hn;rw[I n E]at i;exact e (.inr ⟨n,⟨y,j⟩,i⟩)
 have bp:∀b,c.K b->J b:=λb e=>⟨AAv (ba.K b e) g.frm.size,λ⟨m,f,l⟩=>by
  obtain⟨n,_,hn,i⟩:=R m b f l;exact(g.free n b hn i).1 e⟩
 refine⟨F,⟨M.os.trans g.frm.os,M.tape.trans g.frm.tape,M.output.trans g.frm.output,R5 g.frm.size M.size,λb e=>(M.block b (bp b e)).trans (g.frm.block b e)⟩,by rw[Ml];exact g.nt,by rw[IT];exact g.defers,λp aj=>?_,λn x hn=>?_,λn b W e=>?_,λn q b W bw e B=>?_,λs v ci=>?_⟩
 .obtain⟨bh,ck,cl⟩:=g.pin p aj;have bi:Ad p.1 hs=false:=by simpa using (No.1 cf) p aj
  have cm:=aa.ρ p.1 ⟨bh,bi⟩;exact⟨aa.L p.1 ⟨bh,bi⟩,cm.trans ck,cl⟩
 .rcases S n x hn with hn|⟨E,hn⟩
  .exact Se ay U.obj (DX af hn)
  obtain⟨C,_,y,j,rfl⟩:=H n x hn;rw[I n E];refine Vf aa (λb e=>?_) (g.objs n y j);refine M.block b ⟨(g.objs n y j).block_lt e,λ⟨m,f,l⟩=>?_⟩;obtain⟨q,be,D,X⟩:=R m b f l;have:=g.dist n q b ⟨y,j⟩ D e X;grind
 .obtain⟨x,hn⟩:=W;rcases S n x hn with hn|⟨E,hn⟩
  .obtain⟨m,_,f,l⟩:=P n x b hn e;have:=U.free m b f l;grind
  obtain⟨C,_,y,j,rfl⟩:=H n x hn;rw[I n E]at e;exact g.free n b ⟨y,j⟩ e
 .obtain⟨x,hn⟩:=W;obtain⟨Y,D⟩:=bw;rcases S n x hn with hn|⟨E,hn⟩<;>rcases S q Y D with D|⟨bd,D⟩
  .obtain⟨m,k,f,l⟩:=P n x b hn e;obtain⟨V,be,ai,ca⟩:=P q Y b D B;have:=U.dist m V b f ai l ca;grind [Vi]
  .exfalso;obtain⟨m,k,f,l⟩:=P n x b hn e;obtain⟨C,_,y,j,rfl⟩:=H q Y D;rw[I q bd]at B;exact(U.free m b f l).2 (.inr ⟨q,⟨y,j⟩,C,B⟩)
  .exfalso;obtain⟨m,k,f,l⟩:=P q Y b D B;obtain⟨C,_,y,j,rfl⟩:=H n x hn;rw[I n E]at e;exact(U.free m b f l).2 (.inr ⟨n,⟨y,j⟩,C,e⟩)
  obtain⟨_,_,y,j,rfl⟩:=H n x hn;obtain⟨_,_,cn,cj,rfl⟩:=H q Y D;rw[I n E]at e;rw[I q bd]at B;exact g.dist n q b ⟨y,j⟩ ⟨cn,cj⟩ e B
 refine A6v (c:=c) g.nt bt (OA ay bl bs) (λs v ak=>?_) ci;rw[Ec]at ak;simp only[OS]at ak;obtain⟨y,j,rfl⟩:=ak;exact(QY (g.env s y j)).keeps aa
theorem eO (ae:c.Ok) {o:Oper} {dst:Option Nat} {g:Operand} {xs:List Operand} {ts:Array TypeId} (K:o.op=.call { callee:=.value g,args:=xs.toArray,argTypes:=ts }) (ai:o.dst=dst)
  {f:FuncId} {k:List Nat} (j:Dy (Am σ g)=some (f,k)) {as:List AV} (aa:J0 σ xs=some as)
  {A:List AV} {objs:List (Nat×Obj)} {stay:List Nat} {post:AV->List (Nat×Obj)->Prop} (B:Bb c.P f A objs stay post)
  (ren:List (Nat×CB)) (h1:CM ren=true) (S:Cc objs ren=true) (T:Bc σ ren (as++k.map λn=>AV.bp n [] 0) A) (V:Ai σ.objs ren objs)
  (hs:List Nat) (an:(c.ds.pin.all λp=>!Ad p.1 hs)=true) {next:Act->World->Prop} {Q:Exit->Act->World->Prop} {a:Act} {w:World} (aq:c.sat σ a w) (ah:∀d,dst=some d->d<c.nt)
  (hk:∀res M,post res M->∃(s:List (Nat×CB)) (N:AV) (z:List (Nat×Obj)),CM s=true/\Cc z s=true/\Ai M s z/\B9 s res N /\
   JV ren s stay hs=true/\Fu (Ao ren) z σ.objs=true/\∀G w',c.sat (Cg σ (Ao ren) hs dst N z) G w'->next G w'):o.wpIn (FR c.r) 0 c.P a w next Q:=by
 obtain⟨ρ,L⟩:=aq;have I:G9 (vw w c.O0 σ ρ) σ a.eval:=E0 L.env;obtain⟨⟨fn,aj,am,ad⟩,B⟩:=B;obtain⟨m,ak,ag⟩:∃m:List Value,a.eval g=.func (.func f) #[] m.toArray/\Jz (vw w c.O0 σ ρ) (k.map λn=>AV.bp n [] 0) m:=by
  cases D:Am σ g with
  | none=>rw[D]at j;simp[Dy]at j
  | some H =>
   rw[D]at j;have C:=I g H D;cases H<;>simp only[Dy]at j<;>try(cases j;done)
   .cases j;exact⟨[],C,rfl⟩
   rename_i aw ns;cases j;refine⟨k.map ρ,C.1,?_⟩;have h0:∀l:List Nat,(∀n∈l,n∈k)->Jz (vw w c.O0 σ ρ) (l.map λn=>AV.bp n [] 0) (l.map ρ):=by
    intro l;induction l with
    | nil=>intro _;exact rfl
    | cons n r F =>
     intro J;obtain⟨q,b,i⟩:=C.2 n (J n sc);have i:ρ n=_:=i;exact⟨ρ n,r.map ρ,rfl,⟨q,b,i,i⟩,F λx ar=>J x (by simp[ar])⟩
   exact h0 k λ_ h=>h
 have Z:=eL I aa;have Y:∀ {l r:List AV} {t y:List Value},Jz (vw w c.O0 σ ρ) l t->Jz (vw w c.O0 σ ρ) r y->Jz (vw w c.O0 σ ρ) (l++r) (t++y):=by
  intro l;induction l with
  | nil=>intro r t y hu E;have hu:t=[]:=hu;subst hu;exact E
  | cons x l F =>
   intro r t y hu E;obtain⟨v,au,rfl,q,i⟩:=hu;exact⟨v,au++y,rfl,q,F i E⟩
 have X:=Y Z ag;have ap:(execOp a.eval o).run c.P w=.ok (.enter f (xs.map a.eval++m).toArray) w:=by
  have q : ¬ fn.name = "runtime.NumGoroutine" := by simpa using am
  have i:¬fn.body=none:=by intro e;simp[e]at ad
  simp[execOp,K,resolve,Deferred.ofValue,ak,invoke,callFunc,aj,q,i]
 obtain⟨O,R,av,U,W,al,ab,_,ao⟩:=Sk ae L X stay post ren h1 S T V hs an ah hk;have af:=B w O R av (xs.map a.eval++m) U W al ab;refine⟨λ_ _=>trivial,?_⟩;rw[HZ _ _ _ (λcl e=>by rw[K]at e;cases e),ap,Oper.uponIn_enter];refine⟨λh=>(by simp[FR]at h),PW (af.mono λe w' hh=>?_)⟩;obtain⟨u,rfl,hh⟩:=hh;rw[ai];exact ao u w' hh
theorem A1W (D:c.Ok) {ops:Array Oper} {rest:List Oper} {dst:Option Nat} {g:Operand} {xs:List Operand} {ts:Array TypeId} {ty:TypeId} {pos:String} {after:Array Edge}
  {f:FuncId} {i:List Nat} (E:Dy (Am σ g)=some (f,i)) {as:List AV} (C:J0 σ xs=some as)
  {A:List AV} {objs:List (Nat×Obj)} {stay:List Nat} {post:AV->List (Nat×Obj)->Prop} (z:Bb c.P f A objs stay post)
  (ren:List (Nat×CB)) (hs:List Nat) (h1:CM ren=true) (v:Cc objs ren=true) (I:(c.ds.pin.all λp=>!Ad p.1 hs)=true) (x:Bc σ ren (as++i.map λn=>AV.bp n [] 0) A) (B:Ai σ.objs ren objs)
  (hk:∀res e,post res e->∃(b:List (Nat×CB)) (h:AV) (d:List (Nat×Obj)),CM b=true/\Cc d b=true/\Ai e b d/\B9 b res h /\
   JV ren b stay hs=true/\Fu (Ao ren) d σ.objs=true/\JK c R k ops rest (Cg σ (Ao ren) hs dst h d)) :
  JK c R k ops (⟨dst,.call ⟨.value g,xs.toArray,ts⟩,ty,pos,after,none⟩ :: rest) σ:=by
 intro j F a w K;unfold wpListIn;rw[BY (by simp[Region.wanted])];refine eO D (xs:=xs) (ts:=ts) rfl rfl E C z ren h1 v x B hs I K (B2 (j _ sc)) λres e H=>?_;obtain⟨b,h,d,m,q,r,s,t,u,y⟩:=hk res e H;exact⟨b,h,d,m,q,r,s,t,u,λl w' J=>y (λo G=>j o (by simp[G])) F l w' J⟩
end
end
section
open Go Go.RowKit
def jX (s:Nat):List Nat->List Nat
 | []=>[]
 | k :: r=>if s=k then r else k :: jX s r
def JW:List Nat->List (Nat×AV)->List (Nat×AV)
 | _,[]=>[]
 | [],_ :: _=>[]
 | k :: a,(s,v) :: r=>if Ad s (k :: a)=true then (s,v) :: JW (jX s (k :: a)) r else JW (k :: a) r
def EE (a:List Nat):DJ->DJ
 | some (vc,σ)=>some (vc,⟨JW a σ.env,σ.objs⟩)
 | none=>none
theorem Z6 {s t:Nat}:∀ {a:List Nat},Ad s a=false->Ad s (jX t a)=false
 | [],h=>h
 | k :: r,h=>by
  simp only[Ad]at h;split at h
  .cases h
  rename_i b;simp only[jX];split
  .exact h
  simp only[Ad,At b];exact Z6 h
theorem J4 {s:Nat}:∀ {env:List (Nat×AV)} {a:List Nat},Ad s a=false->lk s (JW a env)=none
 | [],a,_=>by cases a<;>rfl
 | (j,v) :: r,[],_=>rfl
 | (j,v) :: r,k :: a,h=>by
  simp only[JW];split
  .rename_i b;simp only[lk];rw[At (λe=>by subst e;rw[h]at b;cases b)];exact J4 (Z6 h)
  exact J4 h
theorem XJ {s:Nat} {x:AV}:∀ {env:List (Nat×AV)} {a:List Nat},lk s (JW a env)=some x->lk s env=some x
 | [],a,h=>by cases a<;>simp[JW,lk]at h
 | (j,v) :: r,[],h=>by simp[JW,lk]at h
 | (j,v) :: r,k :: a,h=>by
  simp only[JW]at h;split at h
  .simp only[lk]at h ⊢;split at h
   .grind
   rename_i e;rw[At e];exact XJ h
  rename_i b;by_cases e:s=j
  .grind [J4]
  simp only[lk,At e];exact XJ h
theorem IZ {d:List Nat} {r:DJ} {vc:Prop} {σ':St} (h:EE d r=some (vc,σ')):∃b,r=some (vc,b)/\∀c:Cx,Ent c b σ':=by
 cases r with
 | none=>cases h
 | some p =>
  obtain⟨f,b⟩:=p;simp only[EE]at h;cases h;exact⟨b,rfl,λc a w hs=>Vn (σ':=⟨JW d b.env,b.objs⟩) (λs v e=>XJ e) (λ_=>rfl) hs⟩
section
variable {c:Cx} {R:Exit->Act->World->Prop} {k:List Dg} {σ σ':St}
theorem yY (g:List Nat) (e:c.P.follows .mixedOrders=true) (b:c.Ok) {id:Nat} {l:List Oper} (d:L3 l l.length=true) {vc:Prop}
  (h:EE g (MT c.tb l false σ.objs [] l 0 [] [] σ)=some (vc,σ')) (f:vc) (hk:Ev c R (.out .normal) k σ'):Ev c R (.run (.region id l.toArray true)) k σ:=by
 obtain⟨i,h1,a⟩:=IZ h;exact A1T e b d h1 f (hk.ent (a c))
theorem Z7 (g:List Nat) (m:Nat) (e:c.P.follows .mixedOrders=true) (b:c.Ok) {id:Nat} {l:List Oper} (d:L3 l (l.take (l.length-m)).length=true) {vc:Prop}
  (h:EE g (MT c.tb l false σ.objs (l.drop (l.length-m)) (l.take (l.length-m)) 0 [] [] σ)=some (vc,σ')) (f:vc) (hk:Ev c R (.out .normal) k σ'):Ev c R (.run (.region id l.toArray true)) k σ:=by
 obtain⟨i,h1,a⟩:=IZ h;exact A1U m e b d h1 f (hk.ent (a c))
theorem jY (f:List Nat) (b:c.Ok) {id:Nat} {l:List Oper} (d:yS l l.length=true) {vc:Prop}
  (h:EE f (MT c.tb l true σ.objs [] l 0 [] [] σ)=some (vc,σ')) (e:vc) (hk:Ev c R (.out .normal) k σ'):Ev c R (.run (.region id l.toArray false)) k σ:=by
 obtain⟨g,h1,a⟩:=IZ h;exact pP b d h1 e (hk.ent (a c))
theorem M2 (e:List Nat) (b:c.Ok) {id:Nat} {l:List Oper} (h0:(l.all λo=>o.guard.isNone)=true) {vc:Prop} (h:EE e (CC c.tb l l σ)=some (vc,σ')) (d:vc) (hk:Ev c R (.out .normal) k σ') :
  Ev c R (.run (.region id l.toArray false)) k σ:=by
 obtain⟨f,h1,a⟩:=IZ h;exact pQ b h0 h1 d (hk.ent (a c))
theorem Ha (e:List Nat) (b:c.Ok) {ops:List Oper} {l:List Oper} {vc:Prop} (h:EE e (CC c.tb ops l σ)=some (vc,σ')) (d:vc) (hk:Ev c R (.out .normal) k σ'):JK c R k ops.toArray l σ:=by
 obtain⟨f,h1,a⟩:=IZ h;exact eJ b (by simpa using h1) d (hk.ent (a c))
theorem A1X (d:c.Ok) {id:Nat} {l:List Oper} (n:Nat) (h0:(l.all λo=>o.guard.isNone)=true) {vc:Prop} (h:CC c.tb l (l.take n) σ=some (vc,σ')) (f:vc) (hk:JK c R k l.toArray (l.drop n) σ') :
  Ev c R (.run (.region id l.toArray false)) k σ:=by
 intro h1 b a w hs;simp only[IW,B3,No]at h1;exact ADc (Qq d n (by simpa using h) f hk (λo e=>h1 o e) b a w hs)
theorem A1Y (d:c.P.follows .mixedOrders=true) (a:c.Ok) {id:Nat} {l:List Oper} (n:Nat) (b:L3 l (l.take n).length=true) {vc:Prop}
  (h:MT c.tb l false σ.objs [] (l.take n) 0 [] [] σ=some (vc,σ')) (e:vc) (hk:JK c R k l.toArray (l.drop n) σ') :
  Ev c R (.run (.region id l.toArray true)) k σ:=jV d a n b h e hk
theorem Eq {ops:Array Oper} (h:Ev c R (.out .normal) k σ):JK c R k ops [] σ:=A6s h
end
end
end Go.Proofs.YtapkhdkbkodbjaaGreat.Fw
