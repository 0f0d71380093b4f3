/- Contracts over memory; the frame rule of a call. -/
import Derived.Test.YtapkhdkbkodbjaaGreatFZF
set_option linter.unusedVariables false
set_option linter.unusedSimpArgs false
namespace Go.Proofs.YtapkhdkbkodbjaaGreat.Fw
section
open Go Go.RowKit
structure wD (K O0:Nat->Prop) (objs:List (Nat×Obj)) (ρ:Nat->Value) (w:World):Prop where
 obj:∀n o,lk n objs=some o->A5 (vw w O0 ⟨[],objs⟩ ρ) o (ρ n)
 free:∀n b,Gz ⟨[],objs⟩ n->bk (ρ n) b->¬K b/\¬O0 b
 dist:∀n m b,Gz ⟨[],objs⟩ n->Gz ⟨[],objs⟩ m->bk (ρ n) b->bk (ρ m) b->n=m
def Ij (V:Vw):List AV->List Value->Prop
 | [],a=>a=[]
 | x :: r,a=>∃(v:Value) (l:List Value),a=v :: l/\B2 V x v/\Ij V r l
def Lw (K O0:Nat->Prop) (stay:List Nat) (w:World) (ρ:Nat->Value) (post:AV->List (Nat×Obj)->Prop) (u:Value) (w':World):Prop :=
 ∃(res:AV) (a:List (Nat×Obj)) (ρ':Nat->Value),post res a/\Frm K w w'/\wD K O0 a ρ' w'/\B2 (vw w' O0 ⟨[],a⟩ ρ') res u/\∀n∈stay,ρ' n=ρ n
def BT (P:Program) (f:FuncId) (args:List AV) (objs:List (Nat×Obj)) (stay:List Nat) (post:AV->List (Nat×Obj)->Prop):Prop :=
 (∃ fn : Func, P.funcs[f]? = some fn /\ (fn.name == "runtime.NumGoroutine") = false /\ fn.body.isNone = false) /\
 ∀(w:World) (K O0:Nat->Prop) (ρ:Nat->Value) (a:List Value),(∀b,K b->b<w.heap.size)->(∀b,O0 b->b<w.heap.size)->wD K O0 objs ρ w->Ij (vw w O0 ⟨[],objs⟩ ρ) args a ->
  Calls P f a.toArray w λe w'=>∃u,e=.returned u/\Lw K O0 stay w ρ post u w'
def A1:Nat->List AV->List (Nat×AV)
 | _,[]=>[]
 | s,x :: r=>(s,x) :: A1 (s+1) r
def A8w:AV->Prop
 | .p t d=>t.ok d
 | _=>True
def Pz:List AV->Prop
 | []=>True
 | x :: r=>A8w x/\Pz r
def A0n:Obj->Prop
 | .arr _ e xs=>(Ty.slice e).ok xs
 | .box _ _ fs=>Pz fs
 | .mapo k v l=>∀x∈l,k.ok x.1/\v.ok x.2
 | .nest _ _ k e xs none=>(Ty.slice (.agg (.prod k (.slice e)))).ok xs
 | _=>True
def OV:List (Nat×Obj)->Prop
 | []=>True
 | x :: r=>A0n x.2/\OV r
theorem A72 {V:Vw} {x:AV} {v:Value} (h:B2 V x v):A8w x:=by
 cases x<;>try trivial
 obtain⟨cs,a,_⟩:=h;exact H9 a
theorem Uh {V:Vw}:∀ {l:List AV} {b:List Value},Ij V l b->Pz l
 | [],_,_=>trivial
 | _ :: _,_,⟨_,_,_,h1,a⟩=>⟨A72 h1,Uh a⟩
theorem rQ {V:Vw}:∀ {l:List AV} {cs:List Value},DX V l cs->Pz l
 | [],_,_=>trivial
 | x :: _,_,⟨c1,c2,_,h1,a⟩=>⟨by
   cases x<;>try trivial
   exact H9 (h1:Bx _ _ _ _ _),rQ a⟩
theorem rR {w:World} {O:Nat->Prop} {k v:Ty}:∀ {a:List MapEntry} {l:List (k.den×v.den)},OH w O k v a l->∀x∈l,k.ok x.1/\v.ok x.2
 | [],[],_,x,hx=>by cases hx
 | [],_ :: _,h,_,_=>h.elim
 | _ :: _,[],h,_,_=>h.elim
 | e :: a,y :: l,⟨⟨_,h1,_⟩,⟨_,b,_⟩,c⟩,x,hx=>by
  rcases At.1 hx with rfl|hx
  .exact⟨H9 h1,H9 b⟩
  exact rR c x hx
theorem bD {V:Vw} {o:Obj} {loc:Value} (h:A5 V o loc):A0n o:=by
 cases o with
 | arr et e xs =>
  obtain⟨j,cells,_,c⟩:=h;refine⟨j,λx hx=>?_⟩;obtain⟨i,hi,rfl⟩:=AAi.1 hx;obtain⟨f,_,_,d⟩:=c i _ (AT hi);exact H9 d
 | box et st fs=>obtain⟨_,b,cs,_,_,a⟩:=h;exact rQ a
 | mapo k v l=>obtain⟨b,f,cl,_,_,a,_⟩:=h;exact rR a
 | nest et n k e xs hl =>
  cases hl with
  | some i=>trivial
  | none =>
   obtain⟨o,ins,cells,_,g⟩:=h;have c:=OK (O':=λ_=>False) (λ_ _ h=>h) g (λ_ _ _ _ _ h=>h);refine⟨g.max,λx hx=>?_⟩;obtain⟨i,hi,rfl⟩:=AAi.1 hx;obtain⟨f,_,_,d⟩:=c i _ (AT hi);exact H9 d
 | frame t fs=>trivial
 | loop L=>trivial
 | itr p s q r m=>trivial
 | dfr=>trivial
theorem Ui:∀ {l:List (Nat×Obj)},Lp l=true->(∀n o,lk n l=some o->A0n o)->OV l
 | [],_,_=>trivial
 | (n,o) :: r,hk,h=>by
  simp only[Lp,An,NO,ABw]at hk;refine⟨h n o (by simp[lk]),Ui hk.2 λm x a=>h m x ?_⟩;simp only[lk];rw[BY (λe=>hk.1 _ (FK a) e)];exact a
theorem rS:∀(l:List AV) (a:List Value) (k:Nat) (V:Vw),Ij V l a->∀s v,lk s (A1 k l)=some v->k<=s/\∃u,a[s-k]?=some u/\B2 V v u
 | [],a,k,V,h,s,v,hs=>by simp[A1,lk]at hs
 | x :: l,a,k,V,h,s,v,hs=>by
  obtain⟨u,r,rfl,h1,b⟩:=h;simp only[A1,lk]at hs;split at hs
  .grind
  obtain⟨c,f,d,e⟩:=rS l r (k+1) V b s v hs;grind
theorem Iu {V:Vw}:∀ {l:List AV} {a:List Value},Ij V l a->a.length=l.length
 | [],a,h=>by have h:a=[]:=h;subst h;rfl
 | _ :: _,_,⟨_,_,rfl,_,h⟩=>by simp[Iu h]
def cm (P:Program) (tb:Tb) (w0:World) (K O0:Nat->Prop) (nt:Nat) (pin:List (Nat×Value)):Cx:={ P:=P,tb:=tb,w0:=w0,K:=K,O0:=O0,nt:=nt,ds:={ pin:=pin } }
theorem rT {P:Program} {tb:Tb} {w0:World} {K O0:Nat->Prop} {nt:Nat} {pin:List (Nat×Value)}:(cm P tb w0 K O0 nt pin).tb=tb:=rfl
def TD (objs:List (Nat×Obj)) (n:Nat):Bool :=
 match lk n objs with
 | some (.arr _ _ _)=>G8 n
 | some (.nest _ _ _ _ _ _)=>G8 n
 | some _=>true
 | none=>false
theorem Vs {P:Program} {tb:Tb} {w0:World} {K O0:Nat->Prop} {nt:Nat} {args:List AV} {objs:List (Nat×Obj)} {stay:List Nat} {ρ:Nat->Value} {c:List Value} (f:wD K O0 objs ρ w0) (r:Ij (vw w0 O0 ⟨[],objs⟩ ρ) args c) (q:stay.all (TD objs)=true) (w:c.length<=nt) :
  (cm P tb w0 K O0 nt (stay.map λn=>(n,ρ n))).sat ⟨A1 0 args,objs⟩ { tmps:=c.toArray++Array.replicate (nt-c.toArray.size) undef,defers:=[] } w0:=by
 refine⟨ρ,⟨rfl,rfl,rfl,No _,λ_ _=>rfl⟩,by simp[cm];omega,rfl,λp m=>?_,f.obj,f.free,f.dist,λs v hs=>?_⟩
 .obtain⟨n,hn,rfl⟩:=Y1.1 m;have:=(NO.1 q) n hn;unfold TD at this;cases g:lk n objs with
  | none=>rw[g]at this;cases this
  | some o =>
   rw[g]at this;refine⟨⟨o,g⟩,rfl,?_⟩;have d:=f.obj n o g;cases o with
   | arr et e xs=>exact .inr this
   | nest et y k e xs hl=>exact .inr this
   | box et st fs=>obtain⟨_,b,cs,a,_⟩:=d;rw[a];exact .inl rfl
   | mapo k v l=>obtain⟨b,t,cl,a,_⟩:=d;rw[a];exact .inl rfl
   | frame D fs=>obtain⟨a,_⟩:=d;rw[a];exact .inl rfl
   | loop L=>obtain⟨b,a,_⟩:=d;rw[a];exact .inl rfl
   | itr z C A B x=>obtain⟨b,a,_⟩:=d;rw[a];exact .inl rfl
   | dfr=>obtain⟨b,a,_⟩:=d;rw[a];exact .inl rfl
 obtain⟨_,u,h1,i⟩:=rS args c 0 _ r s v hs;have h1:c[s]?=some u:=by simpa using h1
 have h:s<c.length:=(On.1 h1).1;have j:(c.toArray++Array.replicate (nt-c.toArray.size) undef).getD s undef=u:=by
  have:c[s]=u:=by rw[AT h]at h1;injection h1
  simp[Array.getElem?_append,h,this]
 rw[j];exact i
def A4w (P:Program) (fn:Func) (w0:World) (K O0:Nat->Prop) (stay:List Nat) (ρ0:Nat->Value) (post:AV->List (Nat×Obj)->Prop):Exit->Act->World->Prop :=
 bodyPost P fn λe w'=>∃u,e=.returned u/\Lw K O0 stay w0 ρ0 post u w'
theorem A73 {P:Program} {tb:Tb} {f:FuncId} {fn:Func} {cd:Code} {nt:Nat} {args:List AV} {objs:List (Nat×Obj)} {stay:List Nat} {post:AV->List (Nat×Obj)->Prop}
  (c : P.funcs[f]? = some fn) (k : (fn.name == "runtime.NumGoroutine") = false) (b : fn.body = some cd) (l : fn.ntmps = nt) (q : args.length <= nt)
  (i:Bh nt cd=true) (p:stay.all (TD objs)=true) (j:Lp objs=true) (hT:DC P tb) (hF:Iq P tb)
  (h:∀(w0:World) (K O0:Nat->Prop) (ρ0:Nat->Value),(cm P tb w0 K O0 nt (stay.map λn=>(n,ρ0 n))).Ok->Pz args->OV objs ->
   Ev (cm P tb w0 K O0 nt (stay.map λn=>(n,ρ0 n))) (A4w P fn w0 K O0 stay ρ0 post) (.run cd) [] ⟨A1 0 args,objs⟩):BT P f args objs stay post:=by
 refine⟨⟨fn,c,k,by simp[b]⟩,λw K O0 ρ s e g d a=>?_⟩;refine calls_of_wp c b ((wpIn_wide (n:=0)).1 ?_);have r:=Iu a;rw[l];exact h w K O0 ρ ⟨e,g,hT,hF⟩ (Uh a) (Ui j λn o m=>bD (d.obj n o m)) i rfl _ _ (Vs d a p oa)
def wF (tb:Tb) (σ:St) (rv:ResultVar):AV->Prop
 | .p t d=>JJ σ t (KZ tb σ rv)=some d
 | x=>KZ tb σ rv=some x
def RN (tb:Tb) (σ:St):List ResultVar->List AV->Prop
 | [],[]=>True
 | rv :: a,x :: l=>wF tb σ rv x/\RN tb σ a l
 | _,_=>False
def Yu:AV->Bool
 | .tup _=>false
 | _=>true
def TE (tb:Tb) (σ:St):List ResultVar->AV->Prop
 | [],x=>x=.raw (.tuple #[])
 | [rv],x=>wF tb σ rv x
 | a,.tup l=>l.all Yu=true/\RN tb σ a l
 | _,_=>False
section
variable {P:Program} {tb:Tb} {w0:World} {K O0:Nat->Prop} {nt:Nat} {ds:Fp} {σ:St} {ρ:Nat->Value} {a:Act} {w:World}
theorem rU (hT:DC P tb) (hs:CA w0 K O0 nt ds σ ρ a w) {rv:ResultVar} {x:AV} (h:wF tb σ rv x):∃u,(Jl a.tmps rv).run P w=.ok u w/\B2 (vw w O0 σ ρ) x u:=by
 by_cases e:∃t d,x=.p t d
 .obtain⟨t,d,rfl⟩:=e;simp only[wF]at h;cases c:KZ tb σ rv with
  | none=>rw[c]at h;simp[JJ]at h
  | some v =>
   rw[c]at h;simp only[JJ]at h;obtain⟨u,h1,f⟩:=UY hT hs c;exact⟨u,h1,LB (V:=vw w O0 σ ρ) (O':=own O0 σ ρ) (λb hb g=>hb g) (λh=>by cases h) hs.objs h f⟩
 have h:KZ tb σ rv=some x:=by
  cases x<;>first|exact h|exact absurd ⟨_,_,rfl⟩ e
 exact UY hT hs h
theorem A8x {V:Vw} {x:AV} {v:Value} (hn:Yu x=true) (h:B2 V x v):Sx V x v:=by
 cases x<;>first|(simp[Yu]at hn;done)|exact h
theorem Yv (hT:DC P tb) (hs:CA w0 K O0 nt ds σ ρ a w):∀ {c:List ResultVar} {l:List AV},l.all Yu=true->RN tb σ c l ->
  ∃b:List Value,(c.mapM (Jl a.tmps)).run P w=.ok b w/\b.length=l.length/\H5 (vw w O0 σ ρ) l b
 | [],[],_,_=>⟨[],by simp,rfl,rfl⟩
 | [],_ :: _,_,h=>h.elim
 | _ :: _,[],_,h=>h.elim
 | rv :: c,x :: l,hn,h=>by
  simp only[AAz,An]at hn;obtain⟨u,h1,d⟩:=rU hT hs h.1;obtain⟨b,g,e,f⟩:=Yv hT hs hn.2 h.2;refine⟨u :: b,?_,by simp[e],u,b,rfl,A8x hn.1 d,f⟩
  simp_all
theorem Vt {tb:Tb} {σ:St}:∀ {a:List ResultVar} {l:List AV},RN tb σ a l->a.length=l.length
 | [],[],_=>rfl
 | [],_ :: _,h=>h.elim
 | _ :: _,[],h=>h.elim
 | _ :: _,_ :: _,h=>by simp[Vt h.2]
theorem Vu (hT:DC P tb) (hs:CA w0 K O0 nt ds σ ρ a w) {fn:Func} {x:AV} (h:TE tb σ fn.results.toList x):∃u,(results fn a.tmps).run P w=.ok u w/\B2 (vw w O0 σ ρ) x u:=by
 have key:∀b:List Value,(fn.results.toList.mapM (Jl a.tmps)).run P w=.ok b w->(results fn a.tmps).run P w=.ok (if h:b.toArray.size=1 then b.toArray[0] else .tuple b.toArray) w:=by
  intro b h1;rw[OP];have g:(fn.results.mapM (Jl a.tmps)).run P w=.ok b.toArray w:=by
   rw[AB2];simp only[Sem.run_map,h1,tO]
  simp only[AAm,g,tO,ABa]
 generalize fn.results.toList=m at h key;unfold TE at h;split at h
 .subst h;exact⟨_,key [] sc,rfl⟩
 .rename_i rv;obtain⟨u,h1,c⟩:=rU hT hs h;exact⟨_,key [u] (by simp[h1]),c⟩
 .rename_i l k i;obtain⟨b,h1,c,d⟩:=Yv hT hs h.1 h.2;have f:=Vt h.2;refine⟨_,key b h1,?_⟩;have:¬b.toArray.size=1:=by
   intro e;have e:b.length=1:=by simpa using e
   rw[c,<-f]at e;obtain⟨z,j⟩:=AAS.1 e;exact i z j
  rw[dif_neg this];exact⟨b,rfl,d⟩
 exact h.elim
end
theorem A4x {P:Program} {tb:Tb} {w0:World} {K O0:Nat->Prop} {nt:Nat} {stay:List Nat} {ρ0:Nat->Value} {fn:Func} {post:AV->List (Nat×Obj)->Prop} {σ:St} {e:Exit} (f:(cm P tb w0 K O0 nt (stay.map λn=>(n,ρ0 n))).Ok)
  (c:List ResultVar) (j:fn.results.toList=c) (g:e=.ret\/e=.normal) (res:AV) (h:TE tb σ c res) (i:post res σ.objs) :
  Ev (cm P tb w0 K O0 nt (stay.map λn=>(n,ρ0 n))) (A4w P fn w0 K O0 stay ρ0 post) (.out e) [] σ:=by
 intro _ _ a w hs;obtain⟨ρ,hs⟩:=hs;obtain⟨u,h1,d⟩:=Vu f.T hs (by rw[j];exact h);have b:Lw K O0 stay w0 ρ0 post u w:=by
  refine⟨res,σ.objs,ρ,i,hs.frm,⟨hs.objs,hs.free,hs.dist⟩,d,λn hn=>?_⟩;exact(hs.pin (n,ρ0 n) (Y1.2 ⟨n,hn,rfl⟩)).2.1
 rcases g with rfl|rfl
 .exact⟨hs.defers,u,h1,u,rfl,b⟩
 exact⟨hs.defers,u,h1,u,rfl,b⟩
end
section
open Go Go.RowKit
def DZ:Option AV->Option (FuncId×List Nat)
 | some (.fn f)=>some (f,[])
 | some (.clo f ns)=>some (f,ns)
 | _=>none
def JO (σ:St):List Operand->Option (List AV)
 | []=>some []
 | x :: r=>match Aq σ x,JO σ r with
  | some v,some a=>some (v :: a)
  | _,_=>none
def IB (σ:St) (ren:List (Nat×B0)) (x:AV):AV->Prop
 | .p t d=>NR false σ t x=some d
 | y=>Bz ren x y
def BU (σ:St) (ren:List (Nat×B0)):List AV->List AV->Prop
 | [],[]=>True
 | x :: l,y :: r=>IB σ ren x y/\BU σ ren l r
 | _,_=>False
def Aj:List (Nat×B0)->List Nat
 | []=>[]
 | (_,.nm n) :: r=>n :: Aj r
 | (_,.nil) :: r=>Aj r
def A6c (m:Nat):Option B0->Bool
 | some (.nm a)=>a==m
 | _=>false
def A6d (n:Nat) (f:Option B0) (m:Nat):Option B0->Bool
 | some (.nm a)=>a==n&&A6c m f
 | _=>false
def Iv (ren a:List (Nat×B0)) (stay hs:List Nat):Bool:=(Aj ren).all λn=>AU n hs||ren.any λp=>AU p.1 stay&&A6d n (lk n a) p.1 (lk p.1 ren)
def FL (hd:List Nat) (a objs:List (Nat×Obj)):Bool:=a.all λp=>AU p.1 hd||(lk p.1 objs).isNone
def Lx (dst:Option Nat) (v:AV) (env:List (Nat×AV)):List (Nat×AV) :=
 match dst with
 | some d=>(d,v) :: env
 | none=>env
def CY (σ:St) (hd hs:List Nat) (dst:Option Nat) (res:AV) (a:List (Nat×Obj)):St:=⟨Lx dst res (CU hs σ.env),a++Ay hd hs σ.objs⟩
theorem OW {n:Nat}:∀ {l:List (Nat×B0)},n∈Aj l↔∃m,(m,B0.nm n)∈l
 | []=>by simp[Aj]
 | (m,.nm k) :: r=>by
  simp only[Aj,At,OW (l:=r),AC2,B0.nm.injEq];grind
 | (m,.nil) :: r=>by
  simp only[Aj,At,OW (l:=r),AC2];grind
theorem bE {V:Vw} {σ:St} {ev:Operand->Value} (b:HX V σ ev):∀ {xs:List Operand} {a:List AV},JO σ xs=some a->Ij V a (xs.map ev)
 | [],a,h=>by simp only[JO]at h;cases h;exact(rfl:_=_)
 | x :: r,a,h=>by
  simp only[JO]at h;split at h
  .rename_i v l h1 c;cases h;exact⟨ev x,r.map ev,rfl,b x v h1,bE b c⟩
  cases h
section
variable {V V':Vw} {ren:List (Nat×B0)} {σ:St}
theorem Vv (f:Lq ren V V') (g:∀b,¬V.O b->¬V'.O b) (i:∀n o,lk n σ.objs=some o->A5 V o (V.ρ n)):∀ {l r:List AV} {e:List Value},BU σ ren l r->Ij V l e->Ij V' r e
 | [],[],e,_,h=>h
 | [],_ :: _,_,a,_=>a.elim
 | _ :: _,[],_,a,_=>a.elim
 | x :: l,y :: r,e,a,h=>by
  obtain⟨v,l',rfl,h1,k⟩:=h;refine⟨v,l',rfl,?_,Vv f g i a.2 k⟩;have c:=a.1;by_cases j:∃t d,y=.p t d
  .obtain⟨t,d,rfl⟩:=j;have c:NR false σ t x=some d:=c;have:=LB (V:=V) (O':=V'.O) g (λh=>by cases h) i c h1;show BV V'.w V'.O t v d;rw[f.w];exact this
  have c:Bz ren x y:=by
   cases y<;>first|exact c|exact absurd ⟨_,_,rfl⟩ j
  exact Mv f c h1
end
section
variable {c:Cx} {R:Exit->Act->World->Prop} {k:List DD} {σ:St}
theorem A4y {c:Cx} {a:Act} {dst:Option Nat} {u:Value} {s:Nat} {y:AV} {V:Vw} {env:List (Nat×AV)} {res:AV} (e:a.tmps.size=c.nt) (hd:∀d,dst=some d->d<c.nt) (f:B2 V res u) (b:∀s v,lk s env=some v->B2 V v (a.tmps.getD s undef))
  (h:lk s (Lx dst res env)=some y):B2 V y ((a.put dst u).tmps.getD s undef):=by
 cases dst with
 | none=>exact b s y h
 | some d =>
  rw[Mo a d u s (by rw[e];exact hd d rfl)];simp only[Lx,lk]at h;split at h
  .grind
  grind
theorem RP (aw:c.Ok) {dst:Option Nat} {ρ:Nat->Value} {a:Act} {w:World} (f:CA c.w0 c.K c.O0 c.nt c.ds σ ρ a w) {as:List AV} {bf:List Value} (bn:Ij (vw w c.O0 σ ρ) as bf)
  {A:List AV} {objs:List (Nat×Obj)} (stay:List Nat) (post:AV->List (Nat×Obj)->Prop)
  (ren:List (Nat×B0)) (h1:CC ren=true) (am:CR objs ren=true) (bh:BU σ ren as A) (aq:Ad σ.objs ren objs)
  (hs:List Nat) (ca:(c.ds.pin.all λp=>!AU p.1 hs)=true) {next:Act->World->Prop} (hd:∀d,dst=some d->d<c.nt)
  (hk:∀res N,post res N->∃(q:List (Nat×B0)) (Z:AV) (k:List (Nat×Obj)),CC q=true/\CR k q=true/\Ad N q k/\Bz q res Z /\
   Iv ren q stay hs=true/\FL (Aj ren) k σ.objs=true/\∀ai w',c.sat (CY σ (Aj ren) hs dst Z k) ai w'->next ai w') :
  ∃(H E:Nat->Prop) (o:Nat->Value),(∀b,H b->b<w.heap.size)/\(∀b,E b->b<w.heap.size)/\wD H E objs o w/\Ij (vw w E ⟨[],objs⟩ o) A bf/\(∀m n,lk m ren=some (.nm n)->o m=ρ n) /\
   ∀u w',Lw H E stay w o post u w'->next (a.put dst u) w':=by
 let o:Nat->Value:=λm=>match lk m ren with|some (.nm n)=>ρ n|_=>.slice none 0 0
 have Y:∀m n,lk m ren=some (.nm n)->o m=ρ n:=λm n e=>by simp[o,e]
 have bc:∀m,lk m ren=some .nil->o m=.slice none 0 0:=λm e=>by simp[o,e]
 let E:Nat->Prop:=λb=>c.O0 b\/∃n,Gz σ n/\n∉Aj ren/\bk (ρ n) b
 let H:Nat->Prop:=λb=>b<w.heap.size/\¬ ∃m,Gz ⟨[],objs⟩ m/\bk (o m) b
 have P:∀m b,Gz ⟨[],objs⟩ m->bk (o m) b->∃n,lk m ren=some (.nm n)/\Gz σ n/\bk (ρ n) b:=by
  rintro m b ⟨ah,e⟩ hb;have hf:=DE aq e;cases i:lk m ren with
  | none=>rw[i]at hf;exact hf.elim
  | some fr =>
   cases fr with
   | nil=>rw[bc m i]at hb;simp[bk,blk]at hb
   | nm n =>
    rw[i]at hf;rw[Y m n i]at hb;refine⟨n,rfl,?_,hb⟩;cases hn:lk n σ.objs with
    | none=>simp only[HA,hn,JL]at hf
    | some x=>exact⟨x,hn⟩
 have bs:∀m fr,lk m ren=some fr->Gz ⟨[],objs⟩ m:=λm fr e=>by
  simp only[CR,NO]at am;exact AAM.1 (am _ (FK e))
 have cl:∀m n,lk m ren=some (.nm n)->n∈Aj ren:=λm n e=>OW.2 ⟨m,FK e⟩;have av:∀b,¬own c.O0 σ ρ b->¬own E ⟨[],objs⟩ o b:=by
  intro b hb r;rcases r with (h0|⟨n,hn,_,g⟩)|⟨m,e,j⟩
  .exact hb (.inl h0)
  .exact hb (.inr ⟨n,hn,g⟩)
  obtain⟨n,_,hn,g⟩:=P m b e j;exact hb (.inr ⟨n,hn,g⟩)
 have ar:Lq ren (vw w c.O0 σ ρ) (vw w E ⟨[],objs⟩ o):=⟨rfl,av,Y,bc,bs⟩;have bv:wD H E objs o w:=by
  refine⟨λm ah e=>RI ar f.objs (DE aq e),λm b e hb=>⟨λbj=>bj.2 ⟨m,e,hb⟩,λh0=>?_⟩,λm T b e ae hb r=>?_⟩
  .obtain⟨n,i,hn,g⟩:=P m b e hb;rcases h0 with h0|⟨l,B,t,U⟩
   .exact(f.free n b hn g).2 h0
   have:=f.dist n l b hn B g U;grind
  obtain⟨n,i,hn,g⟩:=P m b e hb;obtain⟨l,ba,B,U⟩:=P T b ae r;have:=f.dist n l b hn B g U;grind [UZ]
 have bm:∀b,E b->b<w.heap.size:=by
  rintro b (h0|⟨n,⟨ah,hn⟩,_,g⟩)
  .exact AAj (aw.O b h0) f.frm.size
  exact(f.objs n ah hn).block_lt g
 refine⟨H,E,o,λb hb=>hb.1,bm,bv,Vv ar av f.objs bh bn,Y,?_⟩;rintro u w' ⟨res,N,ρ',cb,I,S,bo,cc⟩;obtain⟨q,Z,k,cj,aj,aa,bg,ak,al,bw⟩:=hk res N cb;refine bw _ _ ?_
 let D:Nat->Value:=λn=>match lk n q with|some (.nm m)=>ρ' m|some .nil=>.slice none 0 0|none=>ρ n
 have ab:∀n m,lk n q=some (.nm m)->D n=ρ' m:=λn m hn=>by simp[D,hn]
 have an:∀n,lk n q=some .nil->D n=.slice none 0 0:=λn hn=>by simp[D,hn]
 have ck:∀n,lk n q=none->D n=ρ n:=λn hn=>by simp[D,hn]
 let σ2:=CY σ (Aj ren) hs dst Z k
 have bz:σ2.objs=k++Ay (Aj ren) hs σ.objs:=rfl;have ad:∀n,lk n σ2.objs=(lk n k).or (lk n (Ay (Aj ren) hs σ.objs)):=λn=>by rw[bz,A7]
 have ax:∀n fr,lk n q=some fr->∃x,lk n k=some x:=λn fr hn=>by
  simp only[CR,NO]at aj;exact AAM.1 (aj _ (FK hn))
 have bp:∀n x,lk n k=some x->∃fr,lk n q=some fr:=λn x hn=>by
  have hf:=DE aa hn;cases i:lk n q with
  | none=>rw[i]at hf;exact hf.elim
  | some fr=>exact⟨fr,rfl⟩
 have bq:∀n x,lk n k=some x->n∈Aj ren\/lk n σ.objs=none:=λn x hn=>by
  simp only[FL,NO,UO]at al;rcases al _ (FK hn) with h|h
  .exact .inl ((Aa _ _).1 h)
  exact .inr (by simpa using h)
 have F:∀n x,lk n (Ay (Aj ren) hs σ.objs)=some x->n∉Aj ren/\lk n k=none/\∃y,lk n σ.objs=some y/\x=y.fgt hs:=by
  intro n x hn;rw[B7]at hn;split at hn
  .cases hn
  rename_i t;simp only[OR]at hn;obtain⟨y,hy,rfl⟩:=hn;have t:n∉Aj ren:=λh=>t ((Aa _ _).2 h);refine⟨t,?_,y,hy,rfl⟩;cases hl:lk n k with
  | none=>rfl
  | some z =>
   rcases bq n z hl with h|h
   .exact absurd h t
   rw[h]at hy;cases hy
 have Q:∀n x,lk n σ2.objs=some x->lk n k=some x\/(lk n k=none/\lk n (Ay (Aj ren) hs σ.objs)=some x):=by simp_all
 have M:∀n x b,lk n k=some x->bk (D n) b->∃m,lk n q=some (.nm m)/\Gz ⟨[],N⟩ m/\bk (ρ' m) b:=by
  intro n x b hn hb;have hf:=DE aa hn;obtain⟨fr,i⟩:=bp n x hn;cases fr with
  | nil=>rw[an n i]at hb;simp[bk,blk]at hb
  | nm m =>
   rw[i]at hf;rw[ab n m i]at hb;refine⟨m,i,?_,hb⟩;cases hn:lk m N with
   | none=>simp only[HA,hn,JL]at hf
   | some z=>exact⟨z,hn⟩
 have G:∀n,lk n k=none->D n=ρ n:=λn hn=>by grind
 have au:Lq q (vw w' E ⟨[],N⟩ ρ') (vw w' c.O0 σ2 D):=by
  refine⟨rfl,λb hb r=>?_,ab,an,λn fr hn=>?_⟩
  .rcases r with h0|⟨n,⟨x,hn⟩,g⟩
   .exact hb (.inl (.inl h0))
   rcases Q n x hn with hn|⟨C,hn⟩
   .obtain⟨m,_,e,j⟩:=M n x b hn g;exact hb (.inr ⟨m,e,j⟩)
   obtain⟨t,_,y,hy,_⟩:=F n x hn;rw[G n C]at g;exact hb (.inl (.inr ⟨n,⟨y,hy⟩,t,g⟩))
  obtain⟨x,hx⟩:=ax n fr hn;exact⟨x,by rw[ad,hx];rfl⟩
 have bi:∀b,(∃m,Gz ⟨[],objs⟩ m/\bk (o m) b)->own c.O0 σ ρ b:=by
  rintro b ⟨m,e,hb⟩;obtain⟨n,_,hn,g⟩:=P m b e hb;exact .inr ⟨n,hn,g⟩
 have ao:∀b,b<w.heap.size->¬own c.O0 σ ρ b->H b:=λb J hb=>⟨J,λh=>hb (bi b h)⟩;have X:Cl ((vw w c.O0 σ ρ).buts hs) (vw w' c.O0 σ2 D):=by
  have ap:∀n,Gz σ n->AU n hs=false->Gz σ2 n/\D n=ρ n:=by
   intro n hn bx;by_cases hh:n∈Aj ren
   .simp only[Iv,NO,UO]at ak;rcases ak n hh with h|h
    .rw[bx]at h;cases h
    simp only[To,An]at h;obtain⟨⟨m,fr⟩,af,bb,R⟩:=h;simp only at bb R;unfold A6d at R;split at R
    .rename_i l bt;simp only[An,UQ]at R;obtain⟨rfl,W⟩:=R;unfold A6c at W;split at W
     .rename_i T ay;have:T=m:=by simpa using W
      subst this;obtain⟨x,hx⟩:=ax _ _ ay;refine⟨⟨x,by rw[ad,hx];rfl⟩,?_⟩;rw[ab _ _ ay,cc T ((Aa _ _).1 bb)];exact Y _ _ bt
     cases W
    cases R
   obtain⟨x,hx⟩:=hn;have i:lk n (Ay (Aj ren) hs σ.objs)=some (x.fgt hs):=by grind [B7,Aa]
   obtain⟨_,C,_⟩:=F n _ i;exact⟨⟨_,by rw[ad,C,i];rfl⟩,G n C⟩
  refine⟨λb J hb r=>?_,λn hn=>(ap n hn.1 hn.2).1,λn hn=>(ap n hn.1 hn.2).2,λb J hb=>I.block b (ao b J hb)⟩;have J:b<w.heap.size:=J;have hb:¬own c.O0 σ ρ b:=hb;rcases r with h0|⟨n,⟨x,hn⟩,g⟩
  .exact hb (.inl h0)
  rcases Q n x hn with hn|⟨C,hn⟩
  .obtain⟨m,_,e,j⟩:=M n x b hn g;exact(S.free m b e j).1 (ao b J hb)
  obtain⟨t,_,y,hy,_⟩:=F n x hn;rw[G n C]at g;exact hb (.inr ⟨n,⟨y,hy⟩,g⟩)
 have bl:∀b,c.K b->H b:=λb hb=>⟨AAj (aw.K b hb) f.frm.size,λ⟨m,e,j⟩=>by
  obtain⟨n,_,hn,g⟩:=P m b e j;exact(f.free n b hn g).1 hb⟩
 refine⟨D,⟨I.os.trans f.frm.os,I.tape.trans f.frm.tape,I.output.trans f.frm.output,SX f.frm.size I.size,λb hb=>(I.block b (bl b hb)).trans (f.frm.block b hb)⟩,by rw[PT];exact f.nt,by rw[KT];exact f.defers,λp af=>?_,λn x hn=>?_,λn b hl hb=>?_,λn l b hl br hb r=>?_,λs v cd=>?_⟩
 .obtain⟨bd,cf,cg⟩:=f.pin p af;have be:AU p.1 hs=false:=by simpa using (NO.1 ca) p af
  have ch:=X.ρ p.1 ⟨bd,be⟩;exact⟨X.L p.1 ⟨bd,be⟩,ch.trans cf,cg⟩
 .rcases Q n x hn with hn|⟨C,hn⟩
  .exact RI au S.obj (DE aa hn)
  obtain⟨t,_,y,hy,rfl⟩:=F n x hn;rw[G n C];refine aX X (λb hb=>?_) (f.objs n y hy);refine I.block b ⟨(f.objs n y hy).block_lt hb,λ⟨m,e,j⟩=>?_⟩;obtain⟨l,ba,B,U⟩:=P m b e j;have:=f.dist n l b ⟨y,hy⟩ B hb U;grind
 .obtain⟨x,hn⟩:=hl;rcases Q n x hn with hn|⟨C,hn⟩
  .obtain⟨m,_,e,j⟩:=M n x b hn hb;have:=S.free m b e j;grind
  obtain⟨t,_,y,hy,rfl⟩:=F n x hn;rw[G n C]at hb;exact f.free n b ⟨y,hy⟩ hb
 .obtain⟨x,hn⟩:=hl;obtain⟨V,B⟩:=br;rcases Q n x hn with hn|⟨C,hn⟩<;>rcases Q l V B with B|⟨az,B⟩
  .obtain⟨m,i,e,j⟩:=M n x b hn hb;obtain⟨T,ba,ae,bu⟩:=M l V b B r;have:=S.dist m T b e ae j bu;grind [UZ]
  .exfalso;obtain⟨m,i,e,j⟩:=M n x b hn hb;obtain⟨t,_,y,hy,rfl⟩:=F l V B;rw[G l az]at r;exact(S.free m b e j).2 (.inr ⟨l,⟨y,hy⟩,t,r⟩)
  .exfalso;obtain⟨m,i,e,j⟩:=M l V b B r;obtain⟨t,_,y,hy,rfl⟩:=F n x hn;rw[G n C]at hb;exact(S.free m b e j).2 (.inr ⟨n,⟨y,hy⟩,t,hb⟩)
  obtain⟨_,_,y,hy,rfl⟩:=F n x hn;obtain⟨_,_,ci,ce,rfl⟩:=F l V B;rw[G n C]at hb;rw[G l az]at r;exact f.dist n l b ⟨y,hy⟩ ⟨ci,ce⟩ hb r
 refine A4y (c:=c) f.nt hd (Mv au bg bo) (λs v ag=>?_) cd;rw[El]at ag;simp only[OR]at ag;obtain⟨y,hy,rfl⟩:=ag;exact(UV (f.env s y hy)).keeps X
theorem bF (ad:c.Ok) {o:Oper} {dst:Option Nat} {g:Operand} {xs:List Operand} {ts:Array TypeId} (J:o.op=.call { callee:=.value g,args:=xs.toArray,argTypes:=ts }) (ag:o.dst=dst)
  {f:FuncId} {k:List Nat} (j:DZ (Aq σ g)=some (f,k)) {as:List AV} (Z:JO σ xs=some as)
  {A:List AV} {objs:List (Nat×Obj)} {stay:List Nat} {post:AV->List (Nat×Obj)->Prop} (B:BT c.P f A objs stay post)
  (ren:List (Nat×B0)) (h1:CC ren=true) (R:CR objs ren=true) (S:BU σ ren (as++k.map λn=>AV.bp n [] 0) A) (U:Ad σ.objs ren objs)
  (hs:List Nat) (al:(c.ds.pin.all λp=>!AU p.1 hs)=true) {next:Act->World->Prop} {Q:Exit->Act->World->Prop} {a:Act} {w:World} (ao:c.sat σ a w) (hd:∀d,dst=some d->d<c.nt)
  (hk:∀res L,post res L->∃(s:List (Nat×B0)) (M:AV) (z:List (Nat×Obj)),CC s=true/\CR z s=true/\Ad L s z/\Bz s res M /\
   Iv ren s stay hs=true/\FL (Aj ren) z σ.objs=true/\∀G w',c.sat (CY σ (Aj ren) hs dst M z) G w'->next G w'):o.wpIn (FR c.r) 0 c.P a w next Q:=by
 obtain⟨ρ,K⟩:=ao;have I:HX (vw w c.O0 σ ρ) σ a.eval:=Fs K.env;obtain⟨⟨fn,ah,ak,ab⟩,B⟩:=B;obtain⟨m,ai,af⟩:∃m:List Value,a.eval g=.func (.func f) #[] m.toArray/\Ij (vw w c.O0 σ ρ) (k.map λn=>AV.bp n [] 0) m:=by
  cases D:Aq σ g with
  | none=>rw[D]at j;simp[DZ]at j
  | some H =>
   rw[D]at j;have C:=I g H D;cases H<;>simp only[DZ]at j<;>try(cases j;done)
   .cases j;exact⟨[],C,rfl⟩
   rename_i ar ns;cases j;refine⟨k.map ρ,C.1,?_⟩;have h0:∀l:List Nat,(∀n∈l,n∈k)->Ij (vw w c.O0 σ ρ) (l.map λn=>AV.bp n [] 0) (l.map ρ):=by
    intro l;induction l with
    | nil=>intro _;exact rfl
    | cons n r F =>
     intro hl;obtain⟨q,b,i⟩:=C.2 n (hl n sc);have i:ρ n=_:=i;exact⟨ρ n,r.map ρ,rfl,⟨q,b,i,i⟩,F λx hx=>hl x (by simp[hx])⟩
   exact h0 k λ_ h=>h
 have Y:=bE I Z;have X:∀ {l r:List AV} {t y:List Value},Ij (vw w c.O0 σ ρ) l t->Ij (vw w c.O0 σ ρ) r y->Ij (vw w c.O0 σ ρ) (l++r) (t++y):=by
  intro l;induction l with
  | nil=>intro r t y hu E;have hu:t=[]:=hu;subst hu;exact E
  | cons x l F =>
   intro r t y hu E;obtain⟨v,ap,rfl,q,i⟩:=hu;exact⟨v,ap++y,rfl,q,F i E⟩
 have W:=X Y af;have an:(execOp a.eval o).run c.P w=.ok (.enter f (xs.map a.eval++m).toArray) w:=by
  have q : ¬ fn.name = "runtime.NumGoroutine" := by simpa using ak
  have i:¬fn.body=none:=by intro e;simp[e]at ab
  simp[execOp,J,resolve,Deferred.ofValue,ai,invoke,callFunc,ah,q,i]
 obtain⟨N,O,aq,T,V,aj,aa,_,am⟩:=RP ad K W stay post ren h1 R S U hs al hd hk;have ae:=B w N O aq (xs.map a.eval++m) T V aj aa;refine⟨λ_ _=>trivial,?_⟩;rw[Gk _ _ _ (λcl e=>by rw[J]at e;cases e),an,Oper.uponIn_enter];refine⟨λh=>(by simp[FR]at h),OO (ae.mono λe w' hh=>?_)⟩;obtain⟨u,rfl,hh⟩:=hh;rw[ag];exact am u w' hh
theorem A0o (C:c.Ok) {ops:Array Oper} {rest:List Oper} {dst:Option Nat} {g:Operand} {xs:List Operand} {ts:Array TypeId} {ty:TypeId} {pos:String} {after:Array Edge}
  {f:FuncId} {i:List Nat} (D:DZ (Aq σ g)=some (f,i)) {as:List AV} (B:JO σ xs=some as)
  {A:List AV} {objs:List (Nat×Obj)} {stay:List Nat} {post:AV->List (Nat×Obj)->Prop} (y:BT c.P f A objs stay post)
  (ren:List (Nat×B0)) (hs:List Nat) (h1:CC ren=true) (u:CR objs ren=true) (H:(c.ds.pin.all λp=>!AU p.1 hs)=true) (v:BU σ ren (as++i.map λn=>AV.bp n [] 0) A) (z:Ad σ.objs ren objs)
  (hk:∀res e,post res e->∃(b:List (Nat×B0)) (h:AV) (d:List (Nat×Obj)),CC b=true/\CR d b=true/\Ad e b d/\Bz b res h /\
   Iv ren b stay hs=true/\FL (Aj ren) d σ.objs=true/\Lu c R k ops rest (CY σ (Aj ren) hs dst h d)) :
  Lu c R k ops (⟨dst,.call ⟨.value g,xs.toArray,ts⟩,ty,pos,after,none⟩ :: rest) σ:=by
 intro hd E a w J;unfold wpListIn;rw[DO (by simp[Region.wanted])];refine bF C (xs:=xs) (ts:=ts) rfl rfl D B y ren h1 u v z hs H J (CX (hd _ sc)) λres e G=>?_;obtain⟨b,h,d,l,m,q,r,s,t,x⟩:=hk res e G;exact⟨b,h,d,l,m,q,r,s,t,λj w' I=>x (λo F=>hd o (by simp[F])) E j w' I⟩
end
end
section
open Go Go.RowKit
def fR (s:Nat):List Nat->List Nat
 | []=>[]
 | k :: r=>if s=k then r else k :: fR s r
def Iw:List Nat->List (Nat×AV)->List (Nat×AV)
 | _,[]=>[]
 | [],_ :: _=>[]
 | k :: a,(s,v) :: r=>if AU s (k :: a)=true then (s,v) :: Iw (fR s (k :: a)) r else Iw (k :: a) r
def Dl (a:List Nat):Cz->Cz
 | some (vc,σ)=>some (vc,⟨Iw a σ.env,σ.objs⟩)
 | none=>none
theorem Yw {s t:Nat}:∀ {a:List Nat},AU s a=false->AU s (fR t a)=false
 | [],h=>h
 | k :: r,h=>by
  simp only[AU]at h;split at h
  .cases h
  rename_i b;simp only[fR];split
  .exact h
  simp only[AU,BY b];exact Yw h
theorem JP {s:Nat}:∀ {env:List (Nat×AV)} {a:List Nat},AU s a=false->lk s (Iw a env)=none
 | [],a,_=>by cases a<;>rfl
 | (j,v) :: r,[],_=>rfl
 | (j,v) :: r,k :: a,h=>by
  simp only[Iw];split
  .rename_i b;simp only[lk];rw[BY (λe=>by subst e;rw[h]at b;cases b)];exact JP (Yw h)
  exact JP h
theorem Vx {s:Nat} {x:AV}:∀ {env:List (Nat×AV)} {a:List Nat},lk s (Iw a env)=some x->lk s env=some x
 | [],a,h=>by cases a<;>simp[Iw,lk]at h
 | (j,v) :: r,[],h=>by simp[Iw,lk]at h
 | (j,v) :: r,k :: a,h=>by
  simp only[Iw]at h;split at h
  .simp only[lk]at h ⊢;split at h
   .grind
   rename_i e;rw[BY e];exact Vx h
  rename_i b;by_cases e:s=j
  .grind [JP]
  simp only[lk,BY e];exact Vx h
theorem IC {d:List Nat} {r:Cz} {vc:Prop} {σ':St} (h:Dl d r=some (vc,σ')):∃b,r=some (vc,b)/\∀c:Cx,Ent c b σ':=by
 cases r with
 | none=>cases h
 | some p =>
  obtain⟨f,b⟩:=p;simp only[Dl]at h;cases h;exact⟨b,rfl,λc a w hs=>Ue (σ':=⟨Iw d b.env,b.objs⟩) (λs v e=>Vx e) (λ_=>rfl) hs⟩
section
variable {c:Cx} {R:Exit->Act->World->Prop} {k:List DD} {σ σ':St}
theorem wG (g:List Nat) (e:c.P.follows .mixedOrders=true) (b:c.Ok) {id:Nat} {l:List Oper} (d:Ps l l.length=true) {vc:Prop}
  (h:Dl g (Mz c.tb l false σ.objs [] l 0 [] [] σ)=some (vc,σ')) (f:vc) (hk:Ev c R (.out .normal) k σ'):Ev c R (.run (.region id l.toArray true)) k σ:=by
 obtain⟨i,h1,a⟩:=IC h;exact A0l e b d h1 f (hk.ent (a c))
theorem wH (g:List Nat) (m:Nat) (e:c.P.follows .mixedOrders=true) (b:c.Ok) {id:Nat} {l:List Oper} (d:Ps l (l.take (l.length-m)).length=true) {vc:Prop}
  (h:Dl g (Mz c.tb l false σ.objs (l.drop (l.length-m)) (l.take (l.length-m)) 0 [] [] σ)=some (vc,σ')) (f:vc) (hk:Ev c R (.out .normal) k σ'):Ev c R (.run (.region id l.toArray true)) k σ:=by
 obtain⟨i,h1,a⟩:=IC h;exact A0m m e b d h1 f (hk.ent (a c))
theorem TF (f:List Nat) (b:c.Ok) {id:Nat} {l:List Oper} (d:mI l l.length=true) {vc:Prop}
  (h:Dl f (Mz c.tb l true σ.objs [] l 0 [] [] σ)=some (vc,σ')) (e:vc) (hk:Ev c R (.out .normal) k σ'):Ev c R (.run (.region id l.toArray false)) k σ:=by
 obtain⟨g,h1,a⟩:=IC h;exact mN b d h1 e (hk.ent (a c))
theorem Ly (e:List Nat) (b:c.Ok) {id:Nat} {l:List Oper} (h0:(l.all λo=>o.guard.isNone)=true) {vc:Prop} (h:Dl e (B1 c.tb l l σ)=some (vc,σ')) (d:vc) (hk:Ev c R (.out .normal) k σ') :
  Ev c R (.run (.region id l.toArray false)) k σ:=by
 obtain⟨f,h1,a⟩:=IC h;exact mO b h0 h1 d (hk.ent (a c))
theorem Gl (e:List Nat) (b:c.Ok) {ops:List Oper} {l:List Oper} {vc:Prop} (h:Dl e (B1 c.tb ops l σ)=some (vc,σ')) (d:vc) (hk:Ev c R (.out .normal) k σ'):Lu c R k ops.toArray l σ:=by
 obtain⟨f,h1,a⟩:=IC h;exact bC b (by simpa using h1) d (hk.ent (a c))
theorem A0p (d:c.Ok) {id:Nat} {l:List Oper} (n:Nat) (h0:(l.all λo=>o.guard.isNone)=true) {vc:Prop} (h:B1 c.tb l (l.take n) σ=some (vc,σ')) (f:vc) (hk:Lu c R k l.toArray (l.drop n) σ') :
  Ev c R (.run (.region id l.toArray false)) k σ:=by
 intro h1 b a w hs;simp only[HO,Bh,NO]at h1;exact ABr (Px d n (by simpa using h) f hk (λo e=>h1 o e) b a w hs)
theorem Cu {ops:Array Oper} (h:Ev c R (.out .normal) k σ):Lu c R k ops [] σ:=A4v h
end
end
end Go.Proofs.YtapkhdkbkodbjaaGreat.Fw
