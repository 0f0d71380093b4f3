/- Contracts over memory; the frame rule of a call. -/
import Derived.Test.YtddbnflakbngaaaGreatDoorFZF
set_option linter.unusedVariables false
set_option linter.unusedSimpArgs false
namespace Go.Proofs.YtddbnflakbngaaaGreatDoor.Fw
variable {s:Nat} {Z:AV->List (Nat×Obj)->Prop} {Y:Option Nat} {d:List Nat} {X:Array Oper} {P:Program} {W:List (Nat×Obj)} {V:Nat->Value} {K U:Nat->Prop} {T:Array TypeId} {x:AV} {S:World} {f:FuncId} {v:Value} {R:Tb} {Q:List AV} {O:Func} {N:Vw} {g:Operand}
section
open Go Go.RowKit
structure xF (K O0:Nat->Prop) (objs:List (Nat×Obj)) (ρ:Nat->Value) (w:World):Prop where
 obj:∀n o,lk n objs=some o->BI (vw w O0 ⟨[],objs⟩ ρ) o (ρ n)
 free:∀n b,HV ⟨[],objs⟩ n->bk (ρ n) b->¬K b/\¬O0 b
 dist:∀n m b,HV ⟨[],objs⟩ n->HV ⟨[],objs⟩ m->bk (ρ n) b->bk (ρ m) b->n=m
def IU (V:Vw):List AV->List Value->Prop
 | [],a=>a=[]
 | x :: r,a=>∃(v:Value) (l:List Value),a=v :: l/\CD V x v/\IU V r l
def Ml (K O0:Nat->Prop) (stay:List Nat) (w:World) (ρ:Nat->Value) (post:AV->List (Nat×Obj)->Prop) (u:Value) (w':World):Prop :=
 ∃(res:AV) (a:List (Nat×Obj)) (ρ':Nat->Value),post res a/\Frm K w w'/\xF K O0 a ρ' w'/\CD (vw w' O0 ⟨[],a⟩ ρ') res u/\∀n∈stay,ρ' n=ρ n
def BB (P:Program) (f:FuncId) (args:List AV) (objs:List (Nat×Obj)) (stay:List Nat) (post:AV->List (Nat×Obj)->Prop):Prop :=
 (∃ fn : Func, P.funcs[f]? = some fn /\ (fn.name == "runtime.NumGoroutine") = false /\ fn.body.isNone = false) /\
 ∀(w:World) (K O0:Nat->Prop) (ρ:Nat->Value) (a:List Value),(∀b,K b->b<w.heap.size)->(∀b,O0 b->b<w.heap.size)->GW w K O0->xF K O0 objs ρ w->IU (vw w O0 ⟨[],objs⟩ ρ) args a ->
  Calls P f a.toArray w λe w'=>∃u,e=.returned u/\Ml K O0 stay w ρ post u w'
def Aq:Nat->List AV->List (Nat×AV)
 | _,[]=>[]
 | s,x :: r=>(s,x) :: Aq (s+1) r
def AAR:AV->Prop
 | .p t d=>t.ok d
 | _=>True
def QV:List AV->Prop
 | []=>True
 | x :: r=>AAR x/\QV r
def A16:Obj->Prop
 | .arr _ e xs=>(Ty.slice e).ok xs
 | .box _ _ fs=>QV fs
 | .mapo k v l=>∀x∈l,k.ok x.1/\v.ok x.2
 | .nest _ _ k e xs none=>(Ty.slice (.agg (.prod k (.slice e)))).ok xs
 | _=>True
def O8:List (Nat×Obj)->Prop
 | []=>True
 | x :: r=>A16 x.2/\O8 r
theorem A8W {V:Vw} (h:CD V x v):AAR x:=by
 cases x<;>try trivial
 obtain⟨cs,a,_⟩:=h;exact X1 a
theorem Ue {V:Vw}:∀ {l:List AV} {b:List Value},IU V l b->QV l
 | [],_,_=>trivial
 | _ :: _,_,⟨_,_,_,h1,a⟩=>⟨A8W h1,Ue a⟩
theorem rG {V:Vw}:∀ {l:List AV} {cs:List Value},AVCs V l cs->QV l
 | [],_,_=>trivial
 | x :: _,_,⟨c1,c2,_,h1,a⟩=>⟨by
   cases x<;>try trivial
   exact X1 (h1:B6 _ _ _ _ _),rG a⟩
theorem rH {w:World} {O:Nat->Prop} {k v:Ty}:∀ {es:List MapEntry} {l:List (k.den×v.den)},Ou w O k v es l->∀x∈l,k.ok x.1/\v.ok x.2
 | [],[],_,x,a=>by cases a
 | [],_ :: _,h,_,_=>h.elim
 | _ :: _,[],h,_,_=>h.elim
 | e :: es,y :: l,⟨⟨_,h1,_⟩,⟨_,b,_⟩,c⟩,x,a=>by
  rcases By.1 a with rfl|a
  .exact⟨X1 h1,X1 b⟩
  exact rH c x a
theorem aQ {V:Vw} {o:Obj} {loc:Value} (h:BI V o loc):A16 o:=by
 cases o with
 | arr et e xs =>
  obtain⟨m,cells,_,c⟩:=h;refine⟨m,λx f=>?_⟩;obtain⟨i,hi,rfl⟩:=AAq.1 f;obtain⟨es,_,_,d⟩:=c i _ (AT hi);exact X1 d
 | box et st fs=>obtain⟨_,b,cs,_,_,a⟩:=h;exact rG a
 | mapo k v l=>obtain⟨b,es,cl,_,_,a,_⟩:=h;exact rH a
 | nest et p k e xs j =>
  cases j with
  | some i=>trivial
  | none =>
   obtain⟨o,ins,cells,_,g⟩:=h;have c:=Ox (O':=λ_=>False) (λ_ _ h=>h) g (λ_ _ _ _ _ h=>h);refine⟨g.max,λx f=>?_⟩;obtain⟨i,hi,rfl⟩:=AAq.1 f;obtain⟨es,_,_,d⟩:=c i _ (AT hi);exact X1 d
 | frame u fs=>trivial
 | loop L=>trivial
 | itr q t r s n=>trivial
 | dfr=>trivial
 | sit sb sp=>trivial
theorem Uf:∀ {l:List (Nat×Obj)},Md l=true->(∀n o,lk n l=some o->A16 o)->O8 l
 | [],_,_=>trivial
 | (n,o) :: r,hk,h=>by
  simp only[Md,An,OF,AE4]at hk;refine⟨h n o (by simp[lk]),Uf hk.2 λm x a=>h m x ?_⟩;simp only[lk];rw[As (λe=>hk.1 _ (Ff a) e)];exact a
theorem rI:∀(l:List AV) (a:List Value) (k:Nat) (V:Vw),IU V l a->∀s v,lk s (Aq k l)=some v->k<=s/\∃u,a[s-k]?=some u/\CD V v u
 | [],a,k,V,h,s,v,hs=>by simp[Aq,lk]at hs
 | x :: l,a,k,V,h,s,v,hs=>by
  obtain⟨u,r,rfl,h1,b⟩:=h;simp only[Aq,lk]at hs;split at hs
  .grind
  obtain⟨c,f,d,e⟩:=rI l r (k+1) V b s v hs;grind
theorem JR {V:Vw}:∀ {l:List AV} {a:List Value},IU V l a->a.length=l.length
 | [],a,h=>by have h:a=[]:=h;subst h;rfl
 | _ :: _,_,⟨_,_,rfl,_,h⟩=>by simp[JR h]
def cm (P:Program) (tb:Tb) (w0:World) (K O0:Nat->Prop) (nt:Nat) (pin:List (Nat×Value)):Cx:={ P:=P,tb:=tb,w0:=w0,K:=K,O0:=O0,nt:=nt,ds:={ pin:=pin } }
theorem f4 {tb:Tb} {w0:World} {O0:Nat->Prop} {nt:Nat} {pin:List (Nat×Value)}:(cm P tb w0 K O0 nt pin).tb=tb:=rfl
def TW (objs:List (Nat×Obj)) (n:Nat):Bool :=
 match lk n objs with
 | some (.arr _ _ _)=>G9 n
 | some (.nest _ _ _ _ _ _)=>G9 n
 | some _=>true
 | none=>false
theorem Vh {tb:Tb} {w0:World} {O0:Nat->Prop} {nt:Nat} {args:List AV} {objs:List (Nat×Obj)} {ρ:Nat->Value} {c:List Value} (f:xF K O0 objs ρ w0) (r:IU (vw w0 O0 ⟨[],objs⟩ ρ) args c) (q:d.all (TW objs)=true) (w:c.length<=nt) :
  (cm P tb w0 K O0 nt (d.map λn=>(n,ρ n))).sat ⟨Aq 0 args,objs⟩ { tmps:=c.toArray++Array.replicate (nt-c.toArray.size) undef,defers:=[] } w0:=by
 refine⟨ρ,⟨rfl,rfl,rfl,Of _,λ_ _=>rfl⟩,by simp[cm];omega,rfl,λp m=>?_,f.obj,f.free,f.dist,λs v hs=>?_⟩
 .obtain⟨n,hn,rfl⟩:=IN.1 m;have:=(OF.1 q) n hn;unfold TW at this;cases g:lk n objs with
  | none=>rw[g]at this;cases this
  | some o =>
   rw[g]at this;refine⟨⟨o,g⟩,rfl,?_⟩;have stay:=f.obj n o g;cases o with
   | arr et e xs=>exact .inr this
   | nest et y k e xs t=>exact .inr this
   | box et st fs=>obtain⟨_,b,cs,a,_⟩:=stay;rw[a];exact .inl rfl
   | mapo k v l=>obtain⟨b,es,cl,a,_⟩:=stay;rw[a];exact .inl rfl
   | frame D fs=>obtain⟨a,_⟩:=stay;rw[a];exact .inl rfl
   | loop L=>obtain⟨b,a,_⟩:=stay;rw[a];exact .inl rfl
   | itr z C A B x=>obtain⟨b,a,_⟩:=stay;rw[a];exact .inl rfl
   | dfr=>obtain⟨b,a,_⟩:=stay;rw[a];exact .inl rfl
   | sit sb sp=>obtain⟨b,a,_⟩:=stay;rw[a];exact .inl rfl
 obtain⟨_,u,h1,i⟩:=rI args c 0 _ r s v hs;have h1:c[s]?=some u:=by simpa using h1
 have h:s<c.length:=(aT.1 h1).1;have j:(c.toArray++Array.replicate (nt-c.toArray.size) undef).getD s undef=u:=by
  have:c[s]=u:=by rw[AT h]at h1;injection h1
  simp[Array.getElem?_append,h,this]
 rw[j];exact i
def A5e (P:Program) (fn:Func) (w0:World) (K O0:Nat->Prop) (stay:List Nat) (ρ0:Nat->Value) (post:AV->List (Nat×Obj)->Prop):Exit->Act->World->Prop :=
 bodyPost P fn λe w'=>∃u,e=.returned u/\Ml K O0 stay w0 ρ0 post u w'
theorem A8X {tb:Tb} {fn:Func} {cd:Code} {nt:Nat} {args:List AV} {objs:List (Nat×Obj)} {post:AV->List (Nat×Obj)->Prop}
  (c : P.funcs[f]? = some fn) (k : (fn.name == "runtime.NumGoroutine") = false) (b : fn.body = some cd) (l : fn.ntmps = nt) (q : args.length <= nt)
  (i:B4 nt cd=true) (p:d.all (TW objs)=true) (j:Md objs=true) (hT:DI P tb) (hF:JM P tb)
  (h:∀(w0:World) (K O0:Nat->Prop) (ρ0:Nat->Value),(cm P tb w0 K O0 nt (d.map λn=>(n,ρ0 n))).Ok->QV args->O8 objs ->
   Ev (cm P tb w0 K O0 nt (d.map λn=>(n,ρ0 n))) (A5e P fn w0 K O0 d ρ0 post) (.run cd) [] ⟨Aq 0 args,objs⟩):BB P f args objs d post:=by
 refine⟨⟨fn,c,k,by simp[b]⟩,λw K O0 ρ s e g hG stay a=>?_⟩;refine calls_of_wp c b ((wpIn_wide (n:=0)).1 ?_);have r:=JR a;rw[l];exact h w K O0 ρ ⟨e,g,hT,hF,hG⟩ (Ue a) (Uf j λn o m=>aQ (stay.obj n o m)) i rfl _ _ (Vh stay a p O1)
def xG (tb:Tb) (σ:St) (rv:ResultVar):AV->Prop
 | .p t d=>Jx σ t (Jw tb σ rv)=some d
 | x=>Jw tb σ rv=some x
def R8 (tb:Tb) (σ:St):List ResultVar->List AV->Prop
 | [],[]=>True
 | rv :: a,x :: l=>xG tb σ rv x/\R8 tb σ a l
 | _,_=>False
def YT:AV->Bool
 | .tup _=>false
 | _=>true
def TX (tb:Tb) (σ:St):List ResultVar->AV->Prop
 | [],x=>x=.raw (.tuple #[])
 | [rv],x=>xG tb σ rv x
 | a,.tup l=>l.all YT=true/\R8 tb σ a l
 | _,_=>False
section
variable {P:Program} {tb:Tb} {w0:World} {K O0:Nat->Prop} {nt:Nat} {ds:Fp} {σ:St} {ρ:Nat->Value} {a:Act} {w:World}
theorem rJ (hT:DI P tb) (hs:CG w0 K O0 nt ds σ ρ a w) {rv:ResultVar} (h:xG tb σ rv x):∃u,(KI a.tmps rv).run P w=.ok u w/\CD (vw w O0 σ ρ) x u:=by
 by_cases e:∃t d,x=.p t d
 .obtain⟨t,d,rfl⟩:=e;simp only[xG]at h;cases c:Jw tb σ rv with
  | none=>rw[c]at h;simp[Jx]at h
  | some v =>
   rw[c]at h;simp only[Jx]at h;obtain⟨u,h1,f⟩:=Ua hT hs c;exact⟨u,h1,Ft (V:=vw w O0 σ ρ) (O':=own O0 σ ρ) (λb g i=>g i) (λh=>by cases h) hs.objs h f⟩
 have h:Jw tb σ rv=some x:=by
  cases x<;>first|exact h|exact absurd ⟨_,_,rfl⟩ e
 exact Ua hT hs h
theorem AAS {V:Vw} {v:Value} (hn:YT x=true) (h:CD V x v):TD V x v:=by
 cases x<;>first|(simp[YT]at hn;done)|exact h
theorem YU (hT:DI P tb) (hs:CG w0 K O0 nt ds σ ρ a w):∀ {c:List ResultVar} {l:List AV},l.all YT=true->R8 tb σ c l ->
  ∃b:List Value,(c.mapM (KI a.tmps)).run P w=.ok b w/\b.length=l.length/\II (vw w O0 σ ρ) l b
 | [],[],_,_=>⟨[],sc,rfl,rfl⟩
 | [],_ :: _,_,h=>h.elim
 | _ :: _,[],_,h=>h.elim
 | rv :: c,x :: l,hn,h=>by
  simp only[ADh,An]at hn;obtain⟨u,h1,d⟩:=rJ hT hs h.1;obtain⟨b,g,e,f⟩:=YU hT hs hn.2 h.2;refine⟨u :: b,?_,by simp[e],u,b,rfl,AAS hn.1 d,f⟩
  simp_all
theorem Vi {tb:Tb} {σ:St}:∀ {a:List ResultVar} {l:List AV},R8 tb σ a l->a.length=l.length
 | [],[],_=>rfl
 | [],_ :: _,h=>h.elim
 | _ :: _,[],h=>h.elim
 | _ :: _,_ :: _,h=>by simp[Vi h.2]
theorem Vj (hT:DI P tb) (hs:CG w0 K O0 nt ds σ ρ a w) {fn:Func} (h:TX tb σ fn.results.toList x):∃u,(results fn a.tmps).run P w=.ok u w/\CD (vw w O0 σ ρ) x u:=by
 have key:∀b:List Value,(fn.results.toList.mapM (KI a.tmps)).run P w=.ok b w->(results fn a.tmps).run P w=.ok (if h:b.toArray.size=1 then b.toArray[0] else .tuple b.toArray) w:=by
  intro b h1;rw[O3];have g:(fn.results.mapM (KI a.tmps)).run P w=.ok b.toArray w:=by
   rw[ADu];simp only[Sem.run_map,h1,AAM]
  simp only[ACc,g,AAM,AD6]
 generalize fn.results.toList=k at h key;unfold TX at h;split at h
 .subst h;exact⟨_,key [] sc,rfl⟩
 .rename_i rv;obtain⟨u,h1,c⟩:=rJ hT hs h;exact⟨_,key [u] (by simp[h1]),c⟩
 .rename_i l j i;obtain⟨b,h1,c,d⟩:=YU hT hs h.1 h.2;have f:=Vi h.2;refine⟨_,key b h1,?_⟩;have:¬b.toArray.size=1:=by
   intro e;have e:b.length=1:=by simpa using e
   rw[c,<-f]at e;obtain⟨z,hz⟩:=ACz.1 e;exact i z hz
  rw[dif_neg this];exact⟨b,rfl,d⟩
 exact h.elim
end
theorem A5f {tb:Tb} {w0:World} {O0:Nat->Prop} {nt:Nat} {fn:Func} {post:AV->List (Nat×Obj)->Prop} {σ:St} {e:Exit} (f:(cm P tb w0 K O0 nt (d.map λn=>(n,V n))).Ok)
  (c:List ResultVar) (j:fn.results.toList=c) (g:e=.ret\/e=.normal) (res:AV) (h:TX tb σ c res) (i:post res σ.objs) :
  Ev (cm P tb w0 K O0 nt (d.map λn=>(n,V n))) (A5e P fn w0 K O0 d V post) (.out e) [] σ:=by
 intro _ _ a w hs;obtain⟨ρ,hs⟩:=hs;obtain⟨u,h1,ρ0⟩:=Vj f.T hs (by rw[j];exact h);have b:Ml K O0 d w0 V post u w:=by
  refine⟨res,σ.objs,ρ,i,hs.frm,⟨hs.objs,hs.free,hs.dist⟩,ρ0,λn hn=>?_⟩;exact(hs.pin (n,V n) (IN.2 ⟨n,hn,rfl⟩)).2.1
 rcases g with rfl|rfl
 .exact⟨hs.defers,u,h1,u,rfl,b⟩
 exact⟨hs.defers,u,h1,u,rfl,b⟩
end
section
open Go Go.RowKit
def DY:Option AV->Option (FuncId×List Nat)
 | some (.fn f)=>some (f,[])
 | some (.clo f ns)=>if f<1000000 then some (f,ns) else none
 | _=>none
def KP (σ:St):List Operand->Option (List AV)
 | []=>some []
 | x :: r=>match Al σ x,KP σ r with
  | some v,some a=>some (v :: a)
  | _,_=>none
def KQ (σ:St) (ren:List (Nat×CE)) (x:AV):AV->Prop
 | .p t d=>JC false σ t x=some d
 | y=>Bv ren x y
def Bi (σ:St) (ren:List (Nat×CE)):List AV->List AV->Prop
 | [],[]=>True
 | x :: l,y :: r=>KQ σ ren x y/\Bi σ ren l r
 | _,_=>False
def A1:List (Nat×CE)->List Nat
 | []=>[]
 | (_,.nm n) :: r=>n :: A1 r
 | (_,.nil) :: r=>A1 r
def A88 (m:Nat):Option CE->Bool
 | some (.nm a)=>a==m
 | _=>false
def A89 (n:Nat) (f:Option CE) (m:Nat):Option CE->Bool
 | some (.nm a)=>a==n&&A88 m f
 | _=>false
def IV (ren a:List (Nat×CE)) (stay hs:List Nat):Bool:=(A1 ren).all λn=>Ai n hs||ren.any λp=>Ai p.1 stay&&A89 n (lk n a) p.1 (lk p.1 ren)
def Fg (a:List Nat) (b objs:List (Nat×Obj)):Bool:=b.all λp=>Ai p.1 a||(lk p.1 objs).isNone
def Mm (dst:Option Nat) (v:AV) (env:List (Nat×AV)):List (Nat×AV) :=
 match dst with
 | some d=>(d,v) :: env
 | none=>env
def Cr (σ:St) (a hs:List Nat) (dst:Option Nat) (res:AV) (b:List (Nat×Obj)):St:=⟨Mm dst res (Cv hs σ.env),b++A6 a hs σ.objs⟩
theorem O9 {n:Nat}:∀ {l:List (Nat×CE)},n∈A1 l↔∃m,(m,CE.nm n)∈l
 | []=>by simp[A1]
 | (m,.nm k) :: r=>by
  simp only[A1,By,O9 (l:=r),AEi,CE.nm.injEq];grind
 | (m,.nil) :: r=>by
  simp only[A1,By,O9 (l:=r),AEi];grind
theorem Ug {V:Vw} {σ:St} {ev:Operand->Value} (b:Es V σ ev):∀ {xs:List Operand} {a:List AV},KP σ xs=some a->IU V a (xs.map ev)
 | [],a,h=>by simp only[KP]at h;cases h;exact(rfl:_=_)
 | x :: r,a,h=>by
  simp only[KP]at h;split at h
  .rename_i v l h1 c;cases h;exact⟨ev x,r.map ev,rfl,b x v h1,Ug b c⟩
  cases h
section
variable {V V':Vw} {ren:List (Nat×CE)} {σ:St}
theorem Vk (f:MB ren V V') (g:∀b,¬V.O b->¬V'.O b) (i:∀n o,lk n σ.objs=some o->BI V o (V.ρ n)):∀ {l r:List AV} {e:List Value},Bi σ ren l r->IU V l e->IU V' r e
 | [],[],e,_,h=>h
 | [],_ :: _,_,a,_=>a.elim
 | _ :: _,[],_,a,_=>a.elim
 | x :: l,y :: r,e,a,h=>by
  obtain⟨v,l',rfl,h1,k⟩:=h;refine⟨v,l',rfl,?_,Vk f g i a.2 k⟩;have c:=a.1;by_cases j:∃t d,y=.p t d
  .obtain⟨t,d,rfl⟩:=j;have c:JC false σ t x=some d:=c;have:=Ft (V:=V) (O':=V'.O) g (λh=>by cases h) i c h1;show Bg V'.w V'.O t v d;rw[f.w];exact this
  have c:Bv ren x y:=by
   cases y<;>first|exact c|exact absurd ⟨_,_,rfl⟩ j
  exact Nk f c h1
end
section
variable {c:Cx} {R:Exit->Act->World->Prop} {k:List Cq} {σ:St}
theorem A5g {c:Cx} {a:Act} {dst:Option Nat} {u:Value} {y:AV} {V:Vw} {env:List (Nat×AV)} {res:AV} (f:a.tmps.size=c.nt) (b:∀d,dst=some d->d<c.nt) (g:CD V res u) (e:∀s v,lk s env=some v->CD V v (a.tmps.getD s undef))
  (h:lk s (Mm dst res env)=some y):CD V y ((a.put dst u).tmps.getD s undef):=by
 cases dst with
 | none=>exact e s y h
 | some d =>
  rw[Nb a d u s (by rw[f];exact b d rfl)];simp only[Mm,lk]at h;split at h
  .grind
  grind
theorem Nt (aa:c.Ok) {dst:Option Nat} {ρ:Nat->Value} {a:Act} {w:World} (g:CG c.w0 c.K c.O0 c.nt c.ds σ ρ a w) {as:List AV} {bl:List Value} (bs:IU (vw w c.O0 σ ρ) as bl)
  {A:List AV} {objs:List (Nat×Obj)} (stay:List Nat) (post:AV->List (Nat×Obj)->Prop)
  (ren:List (Nat×CE)) (h1:CB ren=true) (au:CQ objs ren=true) (bn:Bi σ ren as A) (ay:Ak σ.objs ren objs)
  (hs:List Nat) (ci:(c.ds.pin.all λp=>!Ai p.1 hs)=true) {next:Act->World->Prop} (bu:∀d,dst=some d->d<c.nt)
  (hk:∀res S,post res S->∃(t:List (Nat×CE)) (ag:AV) (o:List (Nat×Obj)),CB t=true/\CQ o t=true/\Ak S t o/\Bv t res ag /\
   IV ren t stay hs=true/\Fg (A1 ren) o σ.objs=true/\∀ao w',c.sat (Cr σ (A1 ren) hs dst ag o) ao w'->next ao w') :
  ∃(I D:Nat->Prop) (r:Nat->Value),(∀b,I b->b<w.heap.size)/\(∀b,D b->b<w.heap.size)/\GW w I D/\xF I D objs r w/\IU (vw w D ⟨[],objs⟩ r) A bl/\(∀m n,lk m ren=some (.nm n)->r m=ρ n) /\
   ∀u w',Ml I D stay w r post u w'->next (a.put dst u) w':=by
 let r:Nat->Value:=λm=>match lk m ren with|some (.nm n)=>ρ n|_=>.slice none 0 0
 have af:∀m n,lk m ren=some (.nm n)->r m=ρ n:=λm n f=>by simp[r,f]
 have bh:∀m,lk m ren=some .nil->r m=.slice none 0 0:=λm f=>by simp[r,f]
 let D:Nat->Prop:=λb=>c.O0 b\/∃n,HV σ n/\n∉A1 ren/\bk (ρ n) b
 let I:Nat->Prop:=λb=>b<w.heap.size/\¬ ∃m,HV ⟨[],objs⟩ m/\bk (r m) b
 have N:∀m b,HV ⟨[],objs⟩ m->bk (r m) b->∃n,lk m ren=some (.nm n)/\HV σ n/\bk (ρ n) b:=by
  rintro m b ⟨an,f⟩ e;have hf:=DX ay f;cases l:lk m ren with
  | none=>rw[l]at hf;exact hf.elim
  | some fr =>
   cases fr with
   | nil=>rw[bh m l]at e;simp[bk,blk]at e
   | nm n =>
    rw[l]at hf;rw[af m n l]at e;refine⟨n,rfl,?_,e⟩;cases hn:lk n σ.objs with
    | none=>simp only[HZ,hn,Jy]at hf
    | some x=>exact⟨x,hn⟩
 have ca:∀m fr,lk m ren=some fr->HV ⟨[],objs⟩ m:=λm fr f=>by
  simp only[CQ,OF]at au;exact ADd.1 (au _ (Ff f))
 have ct:∀m n,lk m ren=some (.nm n)->n∈A1 ren:=λm n f=>O9.2 ⟨m,Ff f⟩;have bb:∀b,¬own c.O0 σ ρ b->¬own D ⟨[],objs⟩ r b:=by
  intro b e B;rcases B with (h0|⟨n,hn,_,i⟩)|⟨m,f,k⟩
  .exact e (.inl h0)
  .exact e (.inr ⟨n,hn,i⟩)
  obtain⟨n,_,hn,i⟩:=N m b f k;exact e (.inr ⟨n,hn,i⟩)
 have az:MB ren (vw w c.O0 σ ρ) (vw w D ⟨[],objs⟩ r):=⟨rfl,bb,af,bh,ca⟩;have cd:xF I D objs r w:=by
  refine⟨λm an f=>R3 az g.objs (DX ay f),λm b f e=>⟨λbp=>bp.2 ⟨m,f,e⟩,λh0=>?_⟩,λm W b f ak e B=>?_⟩
  .obtain⟨n,l,hn,i⟩:=N m b f e;rcases h0 with h0|⟨q,E,C,Y⟩
   .exact(g.free n b hn i).2 h0
   have:=g.dist n q b hn E i Y;grind
  obtain⟨n,l,hn,i⟩:=N m b f e;obtain⟨q,bf,E,Y⟩:=N W b ak B;have:=g.dist n q b hn E i Y;grind [Ub]
 have br:∀b,D b->b<w.heap.size:=by
  rintro b (h0|⟨n,⟨an,hn⟩,_,i⟩)
  .exact ACb (aa.O b h0) g.frm.size
  exact(g.objs n an hn).block_lt i
 have bx:GW w I D:=aa.G.mono (λb hk cg=>⟨⟨ACb (aa.K b hk) g.frm.size,λ⟨m,f,k⟩=>by
  obtain⟨n,_,hn,i⟩:=N m b f k;exact(g.free n b hn i).1 hk⟩,λh0=>by
  rcases h0 with h0|⟨n,hn,_,i⟩
  .exact cg h0
  exact(g.free n b hn i).1 hk⟩) g.frm.block
 refine⟨I,D,r,λb e=>e.1,br,bx,cd,Vk az bb g.objs bn bs,af,?_⟩;rintro u w' ⟨res,S,ρ',cj,P,V,bt,ck⟩;obtain⟨t,ag,o,cr,ap,ah,bm,aq,ar,ce⟩:=hk res S cj;refine ce _ _ ?_
 let H:Nat->Value:=λn=>match lk n t with|some (.nm m)=>ρ' m|some .nil=>.slice none 0 0|none=>ρ n
 have ai:∀n m,lk n t=some (.nm m)->H n=ρ' m:=λn m hn=>by simp[H,hn]
 have av:∀n,lk n t=some .nil->H n=.slice none 0 0:=λn hn=>by simp[H,hn]
 have cs:∀n,lk n t=none->H n=ρ n:=λn hn=>by simp[H,hn]
 let σ2:=Cr σ (A1 ren) hs dst ag o
 have ch:σ2.objs=o++A6 (A1 ren) hs σ.objs:=rfl;have aj:∀n,lk n σ2.objs=(lk n o).or (lk n (A6 (A1 ren) hs σ.objs)):=λn=>by rw[ch,BJ]
 have bc:∀n fr,lk n t=some fr->∃x,lk n o=some x:=λn fr hn=>by
  simp only[CQ,OF]at ap;exact ADd.1 (ap _ (Ff hn))
 have bv:∀n x,lk n o=some x->∃fr,lk n t=some fr:=λn x hn=>by
  have hf:=DX ah hn;cases l:lk n t with
  | none=>rw[l]at hf;exact hf.elim
  | some fr=>exact⟨fr,rfl⟩
 have bw:∀n x,lk n o=some x->n∈A1 ren\/lk n σ.objs=none:=λn x hn=>by
  simp only[Fg,OF,AAo]at ar;rcases ar _ (Ff hn) with h|h
  .exact .inl ((A0 _ _).1 h)
  exact .inr (by simpa using h)
 have J:∀n x,lk n (A6 (A1 ren) hs σ.objs)=some x->n∉A1 ren/\lk n o=none/\∃y,lk n σ.objs=some y/\x=y.fgt hs:=by
  intro n x hn;rw[Ci]at hn;split at hn
  .cases hn
  rename_i C;simp only[No]at hn;obtain⟨y,j,rfl⟩:=hn;have C:n∉A1 ren:=λh=>C ((A0 _ _).2 h);refine⟨C,?_,y,j,rfl⟩;cases X:lk n o with
  | none=>rfl
  | some z =>
   rcases bw n z X with h|h
   .exact absurd h C
   rw[h]at j;cases j
 have T:∀n x,lk n σ2.objs=some x->lk n o=some x\/(lk n o=none/\lk n (A6 (A1 ren) hs σ.objs)=some x):=by simp_all
 have R:∀n x b,lk n o=some x->bk (H n) b->∃m,lk n t=some (.nm m)/\HV ⟨[],S⟩ m/\bk (ρ' m) b:=by
  intro n x b hn e;have hf:=DX ah hn;obtain⟨fr,l⟩:=bv n x hn;cases fr with
  | nil=>rw[av n l]at e;simp[bk,blk]at e
  | nm m =>
   rw[l]at hf;rw[ai n m l]at e;refine⟨m,l,?_,e⟩;cases hn:lk m S with
   | none=>simp only[HZ,hn,Jy]at hf
   | some z=>exact⟨z,hn⟩
 have M:∀n,lk n o=none->H n=ρ n:=λn hn=>by grind
 have ba:MB t (vw w' D ⟨[],S⟩ ρ') (vw w' c.O0 σ2 H):=by
  refine⟨rfl,λb e B=>?_,ai,av,λn fr hn=>?_⟩
  .rcases B with h0|⟨n,⟨x,hn⟩,i⟩
   .exact e (.inl (.inl h0))
   rcases T n x hn with hn|⟨F,hn⟩
   .obtain⟨m,_,f,k⟩:=R n x b hn i;exact e (.inr ⟨m,f,k⟩)
   obtain⟨C,_,y,j,_⟩:=J n x hn;rw[M n F]at i;exact e (.inl (.inr ⟨n,⟨y,j⟩,C,i⟩))
  obtain⟨x,ae⟩:=bc n fr hn;exact⟨x,by rw[aj,ae];rfl⟩
 have bo:∀b,(∃m,HV ⟨[],objs⟩ m/\bk (r m) b)->own c.O0 σ ρ b:=by
  rintro b ⟨m,f,e⟩;obtain⟨n,_,hn,i⟩:=N m b f e;exact .inr ⟨n,hn,i⟩
 have aw:∀b,b<w.heap.size->¬own c.O0 σ ρ b->I b:=λb Q e=>⟨Q,λh=>e (bo b h)⟩;have ad:C3 ((vw w c.O0 σ ρ).buts hs) (vw w' c.O0 σ2 H):=by
  have ax:∀n,HV σ n->Ai n hs=false->HV σ2 n/\H n=ρ n:=by
   intro n hn cf;by_cases hh:n∈A1 ren
   .simp only[IV,OF,AAo]at aq;rcases aq n hh with h|h
    .rw[cf]at h;cases h
    simp only[aS,An]at h;obtain⟨⟨m,fr⟩,al,bg,U⟩:=h;simp only at bg U;unfold A89 at U;split at U
    .rename_i q cb;simp only[An,AAv]at U;obtain⟨rfl,ab⟩:=U;unfold A88 at ab;split at ab
     .rename_i W bd;have:W=m:=by simpa using ab
      subst this;obtain⟨x,ae⟩:=bc _ _ bd;refine⟨⟨x,by rw[aj,ae];rfl⟩,?_⟩;rw[ai _ _ bd,ck W ((A0 _ _).1 bg)];exact af _ _ cb
     cases ab
    cases U
   obtain⟨x,ae⟩:=hn;have l:lk n (A6 (A1 ren) hs σ.objs)=some (x.fgt hs):=by grind [Ci,A0]
   obtain⟨_,F,_⟩:=J n _ l;exact⟨⟨_,by rw[aj,F,l];rfl⟩,M n F⟩
  refine⟨λb Q e B=>?_,λn hn=>(ax n hn.1 hn.2).1,λn hn=>(ax n hn.1 hn.2).2,λb Q e=>P.block b (aw b Q e)⟩;have Q:b<w.heap.size:=Q;have e:¬own c.O0 σ ρ b:=e;rcases B with h0|⟨n,⟨x,hn⟩,i⟩
  .exact e (.inl h0)
  rcases T n x hn with hn|⟨F,hn⟩
  .obtain⟨m,_,f,k⟩:=R n x b hn i;exact(V.free m b f k).1 (aw b Q e)
  obtain⟨C,_,y,j,_⟩:=J n x hn;rw[M n F]at i;exact e (.inr ⟨n,⟨y,j⟩,i⟩)
 have bq:∀b,c.K b->I b:=λb e=>⟨ACb (aa.K b e) g.frm.size,λ⟨m,f,k⟩=>by
  obtain⟨n,_,hn,i⟩:=N m b f k;exact(g.free n b hn i).1 e⟩
 refine⟨H,⟨P.os.trans g.frm.os,P.tape.trans g.frm.tape,P.output.trans g.frm.output,iN g.frm.size P.size,λb e=>(P.block b (bq b e)).trans (g.frm.block b e)⟩,by rw[P9];exact g.nt,by rw[K4];exact g.defers,λp al=>?_,λn x hn=>?_,λn b X e=>?_,λn q b X bz e B=>?_,λs v cl=>?_⟩
 .obtain⟨bi,cn,co⟩:=g.pin p al;have bj:Ai p.1 hs=false:=by simpa using (OF.1 ci) p al
  have cp:=ad.ρ p.1 ⟨bi,bj⟩;exact⟨ad.L p.1 ⟨bi,bj⟩,cp.trans cn,co⟩
 .rcases T n x hn with hn|⟨F,hn⟩
  .exact R3 ba V.obj (DX ah hn)
  obtain⟨C,_,y,j,rfl⟩:=J n x hn;rw[M n F];refine aJ ad (λb e=>?_) (g.objs n y j);refine P.block b ⟨(g.objs n y j).block_lt e,λ⟨m,f,k⟩=>?_⟩;obtain⟨q,bf,E,Y⟩:=N m b f k;have:=g.dist n q b ⟨y,j⟩ E e Y;grind
 .obtain⟨x,hn⟩:=X;rcases T n x hn with hn|⟨F,hn⟩
  .obtain⟨m,_,f,k⟩:=R n x b hn e;have:=V.free m b f k;grind
  obtain⟨C,_,y,j,rfl⟩:=J n x hn;rw[M n F]at e;exact g.free n b ⟨y,j⟩ e
 .obtain⟨x,hn⟩:=X;obtain⟨Z,E⟩:=bz;rcases T n x hn with hn|⟨F,hn⟩<;>rcases T q Z E with E|⟨be,E⟩
  .obtain⟨m,l,f,k⟩:=R n x b hn e;obtain⟨W,bf,ak,cc⟩:=R q Z b E B;have:=V.dist m W b f ak k cc;grind [Ub]
  .exfalso;obtain⟨m,l,f,k⟩:=R n x b hn e;obtain⟨C,_,y,j,rfl⟩:=J q Z E;rw[M q be]at B;exact(V.free m b f k).2 (.inr ⟨q,⟨y,j⟩,C,B⟩)
  .exfalso;obtain⟨m,l,f,k⟩:=R q Z b E B;obtain⟨C,_,y,j,rfl⟩:=J n x hn;rw[M n F]at e;exact(V.free m b f k).2 (.inr ⟨n,⟨y,j⟩,C,e⟩)
  obtain⟨_,_,y,j,rfl⟩:=J n x hn;obtain⟨_,_,cq,cm,rfl⟩:=J q Z E;rw[M n F]at e;rw[M q be]at B;exact g.dist n q b ⟨y,j⟩ ⟨cq,cm⟩ e B
 refine A5g (c:=c) g.nt bu (Nk ba bm bt) (λs v am=>?_) cl;rw[Gk]at am;simp only[No]at am;obtain⟨y,j,rfl⟩:=am;exact(UX (g.env s y j)).keeps ad
theorem rK (af:c.Ok) {o:Oper} {dst:Option Nat} {xs:List Operand} {ts:Array TypeId} (K:o.op=.call { callee:=.value g,args:=xs.toArray,argTypes:=ts }) (aj:o.dst=dst)
  {k:List Nat} (j:DY (Al σ g)=some (f,k)) {as:List AV} (ab:KP σ xs=some as)
  {A:List AV} {objs:List (Nat×Obj)} {stay:List Nat} {post:AV->List (Nat×Obj)->Prop} (B:BB c.P f A objs stay post)
  (ren:List (Nat×CE)) (h1:CB ren=true) (S:CQ objs ren=true) (T:Bi σ ren (as++k.map λn=>AV.bp n [] 0) A) (W:Ak σ.objs ren objs)
  (hs:List Nat) (ap:(c.ds.pin.all λp=>!Ai p.1 hs)=true) {next:Act->World->Prop} {Q:Exit->Act->World->Prop} {a:Act} {w:World} (au:c.sat σ a w) (ai:∀d,dst=some d->d<c.nt)
  (hk:∀res M,post res M->∃(s:List (Nat×CE)) (N:AV) (z:List (Nat×Obj)),CB s=true/\CQ z s=true/\Ak M s z/\Bv s res N /\
   IV ren s stay hs=true/\Fg (A1 ren) z σ.objs=true/\∀G w',c.sat (Cr σ (A1 ren) hs dst N z) G w'->next G w'):o.wpIn (FR c.r) 0 c.P a w next Q:=by
 obtain⟨ρ,L⟩:=au;have I:Es (vw w c.O0 σ ρ) σ a.eval:=Cp L.env;obtain⟨⟨fn,ak,ao,ae⟩,B⟩:=B;obtain⟨m,al,ah⟩:∃m:List Value,a.eval g=.func (.func f) #[] m.toArray/\IU (vw w c.O0 σ ρ) (k.map λn=>AV.bp n [] 0) m:=by
  cases D:Al σ g with
  | none=>rw[D]at j;simp[DY]at j
  | some H =>
   rw[D]at j;have C:=I g H D;cases H<;>simp only[DY]at j<;>try(cases j;done)
   .cases j;exact⟨[],C,rfl⟩
   rename_i ay ns;split at j<;>cases j;rename_i am;refine⟨k.map ρ,C.1.trans (At am),?_⟩;have h0:∀l:List Nat,(∀n∈l,n∈k)->IU (vw w c.O0 σ ρ) (l.map λn=>AV.bp n [] 0) (l.map ρ):=by
    intro l;induction l with
    | nil=>intro _;exact rfl
    | cons n r F =>
     intro J;obtain⟨q,b,i⟩:=C.2 n (J n sc);have i:ρ n=_:=i;exact⟨ρ n,r.map ρ,rfl,⟨q,b,i,i⟩,F λx av=>J x (by simp[av])⟩
   exact h0 k λ_ h=>h
 have aa:=Ug I ab;have Z:∀ {l r:List AV} {t y:List Value},IU (vw w c.O0 σ ρ) l t->IU (vw w c.O0 σ ρ) r y->IU (vw w c.O0 σ ρ) (l++r) (t++y):=by
  intro l;induction l with
  | nil=>intro r t y hu E;have hu:t=[]:=hu;subst hu;exact E
  | cons x l F =>
   intro r t y hu E;obtain⟨v,aw,rfl,q,i⟩:=hu;exact⟨v,aw++y,rfl,q,F i E⟩
 have Y:=Z aa ah;have ar:(execOp a.eval o).run c.P w=.ok (.enter f (xs.map a.eval++m).toArray) w:=by
  have q : ¬ fn.name = "runtime.NumGoroutine" := by simpa using ao
  have i:¬fn.body=none:=by intro e;simp[e]at ae
  simp[execOp,K,resolve,Deferred.ofValue,al,invoke,callFunc,ak,q,i]
 obtain⟨O,R,ax,V,X,U,an,ad,_,aq⟩:=Nt af L Y stay post ren h1 S T W hs ap ai hk;have ag:=B w O R ax (xs.map a.eval++m) V X U an ad;refine⟨λ_ _=>trivial,?_⟩;rw[Et _ _ _ (λcl e=>by rw[K]at e;cases e),ar,AEa];refine⟨λh=>(by simp[FR]at h),IL (ag.mono λe w' hh=>?_)⟩;obtain⟨u,rfl,hh⟩:=hh;rw[aj];exact aq u w' hh
theorem A17 (D:c.Ok) {ops:Array Oper} {rest:List Oper} {dst:Option Nat} {xs:List Operand} {ts:Array TypeId} {ty:TypeId} {pos:String} {after:Array Edge}
  {i:List Nat} (E:DY (Al σ g)=some (f,i)) {as:List AV} (C:KP σ xs=some as)
  {A:List AV} {objs:List (Nat×Obj)} {stay:List Nat} {post:AV->List (Nat×Obj)->Prop} (z:BB c.P f A objs stay post)
  (ren:List (Nat×CE)) (hs:List Nat) (h1:CB ren=true) (v:CQ objs ren=true) (I:(c.ds.pin.all λp=>!Ai p.1 hs)=true) (x:Bi σ ren (as++i.map λn=>AV.bp n [] 0) A) (B:Ak σ.objs ren objs)
  (hk:∀res e,post res e->∃(b:List (Nat×CE)) (h:AV) (d:List (Nat×Obj)),CB b=true/\CQ d b=true/\Ak e b d/\Bv b res h /\
   IV ren b stay hs=true/\Fg (A1 ren) d σ.objs=true/\D7 c R k ops rest (Cr σ (A1 ren) hs dst h d)) :
  D7 c R k ops (⟨dst,.call ⟨.value g,xs.toArray,ts⟩,ty,pos,after,none⟩ :: rest) σ:=by
 intro j F a w K;unfold wpListIn;rw[At (by simp[Region.wanted])];refine rK D (xs:=xs) (ts:=ts) rfl rfl E C z ren h1 v x B hs I K (BA (j _ sc)) λres e H=>?_;obtain⟨b,h,d,m,q,r,s,t,u,y⟩:=hk res e H;exact⟨b,h,d,m,q,r,s,t,u,λl w' J=>y (λo G=>j o (by simp[G])) F l w' J⟩
end
end
section
open Go Go.RowKit
def aR (s:Nat):List Nat->List Nat
 | []=>[]
 | k :: r=>if s=k then r else k :: aR s r
def IW:List Nat->List (Nat×AV)->List (Nat×AV)
 | _,[]=>[]
 | [],_ :: _=>[]
 | k :: a,(s,v) :: r=>if Ai s (k :: a)=true then (s,v) :: IW (aR s (k :: a)) r else IW (k :: a) r
def D8 (a:List Nat):DF->DF
 | some (vc,σ)=>some (vc,⟨IW a σ.env,σ.objs⟩)
 | none=>none
theorem YV {s t:Nat}:∀ {a:List Nat},Ai s a=false->Ai s (aR t a)=false
 | [],h=>h
 | k :: r,h=>by
  simp only[Ai]at h;split at h
  .cases h
  rename_i b;simp only[aR];split
  .exact h
  simp only[Ai,As b];exact YV h
theorem Jz {s:Nat}:∀ {env:List (Nat×AV)} {a:List Nat},Ai s a=false->lk s (IW a env)=none
 | [],a,_=>by cases a<;>rfl
 | (j,v) :: r,[],_=>rfl
 | (j,v) :: r,k :: a,h=>by
  simp only[IW];split
  .rename_i b;simp only[lk];rw[As (λe=>by subst e;rw[h]at b;cases b)];exact Jz (YV h)
  exact Jz h
theorem Vl {s:Nat} {x:AV}:∀ {env:List (Nat×AV)} {a:List Nat},lk s (IW a env)=some x->lk s env=some x
 | [],a,h=>by cases a<;>simp[IW,lk]at h
 | (j,v) :: r,[],h=>by simp[IW,lk]at h
 | (j,v) :: r,k :: a,h=>by
  simp only[IW]at h;split at h
  .simp only[lk]at h ⊢;split at h
   .grind
   rename_i e;rw[As e];exact Vl h
  rename_i b;by_cases e:s=j
  .grind [Jz]
  simp only[lk,As e];exact Vl h
theorem IX {r:DF} {vc:Prop} {σ':St} (h:D8 d r=some (vc,σ')):∃b,r=some (vc,b)/\∀c:Cx,Ent c b σ':=by
 cases r with
 | none=>cases h
 | some p =>
  obtain⟨f,b⟩:=p;simp only[D8]at h;cases h;exact⟨b,rfl,λc a w hs=>Ud (σ':=⟨IW d b.env,b.objs⟩) (λs v e=>Vl e) (λ_=>rfl) hs⟩
section
variable {c:Cx} {R:Exit->Act->World->Prop} {k:List Cq} {σ σ':St}
theorem xH (g:List Nat) (e:c.P.follows .mixedOrders=true) (b:c.Ok) {l:List Oper} (d:Mg l l.length=true) {vc:Prop}
  (h:D8 g (MH c.tb l false σ.objs [] l 0 [] [] σ)=some (vc,σ')) (f:vc) (hk:Ev c R (.out .normal) k σ'):Ev c R (.run (.region s l.toArray true)) k σ:=by
 obtain⟨i,h1,a⟩:=IX h;exact A14 e b d h1 f (hk.ent (a c))
theorem xI (g:List Nat) (m:Nat) (e:c.P.follows .mixedOrders=true) (b:c.Ok) {l:List Oper} (d:Mg l (l.take (l.length-m)).length=true) {vc:Prop}
  (h:D8 g (MH c.tb l false σ.objs (l.drop (l.length-m)) (l.take (l.length-m)) 0 [] [] σ)=some (vc,σ')) (f:vc) (hk:Ev c R (.out .normal) k σ'):Ev c R (.run (.region s l.toArray true)) k σ:=by
 obtain⟨i,h1,a⟩:=IX h;exact A15 m e b d h1 f (hk.ent (a c))
theorem f5 (f:List Nat) (b:c.Ok) {l:List Oper} (d:xB l l.length=true) {vc:Prop}
  (h:D8 f (MH c.tb l true σ.objs [] l 0 [] [] σ)=some (vc,σ')) (e:vc) (hk:Ev c R (.out .normal) k σ'):Ev c R (.run (.region s l.toArray false)) k σ:=by
 obtain⟨g,h1,a⟩:=IX h;exact mW b d h1 e (hk.ent (a c))
theorem Mn (e:List Nat) (b:c.Ok) {l:List Oper} (h0:(l.all λo=>o.guard.isNone)=true) {vc:Prop} (h:D8 e (B7 c.tb l l σ)=some (vc,σ')) (d:vc) (hk:Ev c R (.out .normal) k σ') :
  Ev c R (.run (.region s l.toArray false)) k σ:=by
 obtain⟨f,h1,a⟩:=IX h;exact mX b h0 h1 d (hk.ent (a c))
theorem HE (e:List Nat) (b:c.Ok) {ops:List Oper} {l:List Oper} {vc:Prop} (h:D8 e (B7 c.tb ops l σ)=some (vc,σ')) (d:vc) (hk:Ev c R (.out .normal) k σ'):D7 c R k ops.toArray l σ:=by
 obtain⟨f,h1,a⟩:=IX h;exact aO b (by simpa using h1) d (hk.ent (a c))
theorem A18 (d:c.Ok) {l:List Oper} (n:Nat) (h0:(l.all λo=>o.guard.isNone)=true) {vc:Prop} (h:B7 c.tb l (l.take n) σ=some (vc,σ')) (f:vc) (hk:D7 c R k l.toArray (l.drop n) σ') :
  Ev c R (.run (.region s l.toArray false)) k σ:=by
 intro h1 b a w hs;simp only[IM,B4,OF]at h1;exact ADS (QR d n (by simpa using h) f hk (λo e=>h1 o e) b a w hs)
theorem A19 (d:c.P.follows .mixedOrders=true) (a:c.Ok) {l:List Oper} (n:Nat) (b:Mg l (l.take n).length=true) {vc:Prop}
  (h:MH c.tb l false σ.objs [] (l.take n) 0 [] [] σ=some (vc,σ')) (e:vc) (hk:D7 c R k l.toArray (l.drop n) σ') :
  Ev c R (.run (.region s l.toArray true)) k σ:=fW d a n b h e hk
theorem E7 {ops:Array Oper} (h:Ev c R (.out .normal) k σ):D7 c R k ops [] σ:=A5d h
theorem A5h {ops:Array Oper} {l:List Oper} (h:D7 c R k ops l σ') (d:Ent c σ σ'):D7 c R k ops l σ:=λh1 b a w hs=>h h1 b a w (d a w hs)
end
end
end Go.Proofs.YtddbnflakbngaaaGreatDoor.Fw
