/- Contracts over memory; the frame rule of a call. -/
import Derived.Test.YtapkhdkbkodbjaaGreatJZF
set_option linter.unusedVariables false
set_option linter.unusedSimpArgs false
namespace Go.Proofs.YtapkhdkbkodbjaaGreat.Fw
section
open Go Go.RowKit
structure zD (K O0:Nat->Prop) (objs:List (Nat×Obj)) (ρ:Nat->Value) (w:World):Prop where
 obj:∀n o,lk n objs=some o->A8 (vw w O0 ⟨[],objs⟩ ρ) o (ρ n)
 free:∀n b,HH ⟨[],objs⟩ n->bk (ρ n) b->¬K b/\¬O0 b
 dist:∀n m b,HH ⟨[],objs⟩ n->HH ⟨[],objs⟩ m->bk (ρ n) b->bk (ρ m) b->n=m
def Jd (V:Vw):List AV->List Value->Prop
 | [],a=>a=[]
 | x :: r,a=>∃(v:Value) (l:List Value),a=v :: l/\B7 V x v/\Jd V r l
def MK (K O0:Nat->Prop) (stay:List Nat) (w:World) (ρ:Nat->Value) (post:AV->List (Nat×Obj)->Prop) (u:Value) (w':World):Prop :=
 ∃(res:AV) (a:List (Nat×Obj)) (ρ':Nat->Value),post res a/\Frm K w w'/\zD K O0 a ρ' w'/\B7 (vw w' O0 ⟨[],a⟩ ρ') res u/\∀n∈stay,ρ' n=ρ n
def BJ (P:Program) (f:FuncId) (args:List AV) (objs:List (Nat×Obj)) (stay:List Nat) (post:AV->List (Nat×Obj)->Prop):Prop :=
 (∃ fn : Func, P.funcs[f]? = some fn /\ (fn.name == "runtime.NumGoroutine") = false /\ fn.body.isNone = false) /\
 ∀(w:World) (K O0:Nat->Prop) (ρ:Nat->Value) (a:List Value),(∀b,K b->b<w.heap.size)->(∀b,O0 b->b<w.heap.size)->zD K O0 objs ρ w->Jd (vw w O0 ⟨[],objs⟩ ρ) args a ->
  Calls P f a.toArray w λe w'=>∃u,e=.returned u/\MK K O0 stay w ρ post u w'
def Ar:Nat->List AV->List (Nat×AV)
 | _,[]=>[]
 | s,x :: r=>(s,x) :: Ar (s+1) r
def AAv:AV->Prop
 | .p t d=>t.ok d
 | _=>True
def QI:List AV->Prop
 | []=>True
 | x :: r=>AAv x/\QI r
def A1Z:Obj->Prop
 | .arr _ e xs=>(Ty.slice e).ok xs
 | .box _ _ fs=>QI fs
 | .mapo k v l=>∀x∈l,k.ok x.1/\v.ok x.2
 | .nest _ _ k e xs none=>(Ty.slice (.agg (.prod k (.slice e)))).ok xs
 | _=>True
def Oj:List (Nat×Obj)->Prop
 | []=>True
 | x :: r=>A1Z x.2/\Oj r
theorem A9a {V:Vw} {x:AV} {v:Value} (h:B7 V x v):AAv x:=by
 cases x<;>try trivial
 obtain⟨cs,a,_⟩:=h;exact Hw a
theorem Ug {V:Vw}:∀ {l:List AV} {b:List Value},Jd V l b->QI l
 | [],_,_=>trivial
 | _ :: _,_,⟨_,_,_,h1,a⟩=>⟨A9a h1,Ug a⟩
theorem p7 {V:Vw}:∀ {l:List AV} {cs:List Value},Dn V l cs->QI l
 | [],_,_=>trivial
 | x :: _,_,⟨c1,c2,_,h1,a⟩=>⟨by
   cases x<;>try trivial
   exact Hw (h1:B0 _ _ _ _ _),p7 a⟩
theorem p8 {w:World} {O:Nat->Prop} {k v:Ty}:∀ {b:List MapEntry} {l:List (k.den×v.den)},OU w O k v b l->∀x∈l,k.ok x.1/\v.ok x.2
 | [],[],_,x,a=>by cases a
 | [],_ :: _,h,_,_=>h.elim
 | _ :: _,[],h,_,_=>h.elim
 | e :: b,y :: l,⟨⟨_,h1,_⟩,⟨_,c,_⟩,d⟩,x,a=>by
  rcases DO.1 a with rfl|a
  ·exact⟨Hw h1,Hw c⟩
  ·exact p8 d x a
theorem bL {V:Vw} {o:Obj} {loc:Value} (h:A8 V o loc):A1Z o:=by
 cases o with
 | arr et e xs =>
  obtain⟨n,cells,_,c⟩:=h;refine⟨n,λx f=>?_⟩;obtain⟨i,hi,rfl⟩:=AAd.1 f;obtain⟨g,_,_,d⟩:=c i _ (At hi);exact Hw d
 | box et st fs=>obtain⟨_,b,cs,_,_,a⟩:=h;exact p7 a
 | mapo k v l=>obtain⟨b,g,cl,_,_,a,_⟩:=h;exact p8 a
 | nest et q k e xs m =>
  cases m with
  | some i=>trivial
  | none =>
   obtain⟨o,ins,cells,_,j⟩:=h;have c:=OY (O':=λ_=>False) (λ_ _ h=>h) j (λ_ _ _ _ _ h=>h);refine⟨j.max,λx f=>?_⟩;obtain⟨i,hi,rfl⟩:=AAd.1 f;obtain⟨g,_,_,d⟩:=c i _ (At hi);exact Hw d
 | frame w fs=>trivial
 | loop L=>trivial
 | itr r u s t p=>trivial
 | dfr=>trivial
theorem Uh:∀ {l:List (Nat×Obj)},MB l=true->(∀n o,lk n l=some o->A1Z o)->Oj l
 | [],_,_=>trivial
 | (n,o) :: r,hk,h=>by
  simp only[MB,AT,Is,AEM]at hk;refine⟨h n o (by simp[lk]),Uh hk.2 λm x a=>h m x ?_⟩;simp only[lk];rw[An (λe=>hk.1 _ (F8 a) e)];exact a
theorem p9:∀(l:List AV) (a:List Value) (k:Nat) (V:Vw),Jd V l a->∀s v,lk s (Ar k l)=some v->k<=s/\∃u,a[s-k]?=some u/\B7 V v u
 | [],a,k,V,h,s,v,hs=>by simp[Ar,lk]at hs
 | x :: l,a,k,V,h,s,v,hs=>by
  obtain⟨u,r,rfl,h1,b⟩:=h;simp only[Ar,lk]at hs;split at hs
  ·grind
  ·obtain⟨c,f,d,e⟩:=p9 l r (k+1) V b s v hs;grind
theorem I8 {V:Vw}:∀ {l:List AV} {a:List Value},Jd V l a->a.length=l.length
 | [],a,h=>by have h:a=[]:=h;subst h;rfl
 | _ :: _,_,⟨_,_,rfl,_,h⟩=>by simp[I8 h]
def cm (P:Program) (tb:Tb) (w0:World) (K O0:Nat->Prop) (nt:Nat) (pin:List (Nat×Value)):Cx:={ P:=P,tb:=tb,w0:=w0,K:=K,O0:=O0,nt:=nt,ds:={ pin:=pin } }
theorem f5 {P:Program} {tb:Tb} {w0:World} {K O0:Nat->Prop} {nt:Nat} {pin:List (Nat×Value)}:(cm P tb w0 K O0 nt pin).tb=tb:=rfl
def S4 (objs:List (Nat×Obj)) (n:Nat):Bool :=
 match lk n objs with
 | some (.arr _ _ _)=>Gq n
 | some (.nest _ _ _ _ _ _)=>Gq n
 | some _=>true
 | none=>false
theorem Vi {P:Program} {tb:Tb} {w0:World} {K O0:Nat->Prop} {nt:Nat} {args:List AV} {objs:List (Nat×Obj)} {stay:List Nat} {ρ:Nat->Value} {c:List Value} (f:zD K O0 objs ρ w0) (q:Jd (vw w0 O0 ⟨[],objs⟩ ρ) args c) (m:stay.all (S4 objs)=true) (w:c.length<=nt) :
  (cm P tb w0 K O0 nt (stay.map λn=>(n,ρ n))).sat ⟨Ar 0 args,objs⟩ { tmps:=c.toArray++Array.replicate (nt-c.toArray.size) undef,defers:=[] } w0:=by
 refine⟨ρ,⟨rfl,rfl,rfl,NO _,λ_ _=>rfl⟩,by simp[cm];omega,rfl,λp hp=>?_,f.obj,f.free,f.dist,λs v hs=>?_⟩
 ·obtain⟨n,hn,rfl⟩:=IF.1 hp;have:=(Is.1 m) n hn;unfold S4 at this;cases g:lk n objs with
  | none=>rw[g]at this;cases this
  | some o =>
   rw[g]at this;refine⟨⟨o,g⟩,rfl,?_⟩;have d:=f.obj n o g;cases o with
   | arr et e xs=>exact .inr this
   | nest et y k e xs t=>exact .inr this
   | box et st fs=>obtain⟨_,b,cs,a,_⟩:=d;rw[a];exact .inl rfl
   | mapo k v l=>obtain⟨b,r,cl,a,_⟩:=d;rw[a];exact .inl rfl
   | frame D fs=>obtain⟨a,_⟩:=d;rw[a];exact .inl rfl
   | loop L=>obtain⟨b,a,_⟩:=d;rw[a];exact .inl rfl
   | itr z C A B x=>obtain⟨b,a,_⟩:=d;rw[a];exact .inl rfl
   | dfr=>obtain⟨b,a,_⟩:=d;rw[a];exact .inl rfl
 ·obtain⟨_,u,h1,i⟩:=p9 args c 0 _ q s v hs;have h1:c[s]?=some u:=by simpa using h1
  have h:s<c.length:=(UC.1 h1).1;have j:(c.toArray++Array.replicate (nt-c.toArray.size) undef).getD s undef=u:=by
   have:c[s]=u:=by rw[At h]at h1;injection h1
   simp[Array.getElem?_append,h,this]
  rw[j];exact i
def A5o (P:Program) (fn:Func) (w0:World) (K O0:Nat->Prop) (stay:List Nat) (ρ0:Nat->Value) (post:AV->List (Nat×Obj)->Prop):Exit->Act->World->Prop :=
 bodyPost P fn λe w'=>∃u,e=.returned u/\MK K O0 stay w0 ρ0 post u w'
theorem A9b {P:Program} {tb:Tb} {f:FuncId} {fn:Func} {cd:Code} {nt:Nat} {args:List AV} {objs:List (Nat×Obj)} {stay:List Nat} {post:AV->List (Nat×Obj)->Prop}
  (c : P.funcs[f]? = some fn) (k : (fn.name == "runtime.NumGoroutine") = false) (b : fn.body = some cd) (l : fn.ntmps = nt) (q : args.length <= nt)
  (i:Bz nt cd=true) (p:stay.all (S4 objs)=true) (j:MB objs=true) (hT:DH P tb) (hF:Iv P tb)
  (h:∀(w0:World) (K O0:Nat->Prop) (ρ0:Nat->Value),(cm P tb w0 K O0 nt (stay.map λn=>(n,ρ0 n))).Ok->QI args->Oj objs ->
   Ev (cm P tb w0 K O0 nt (stay.map λn=>(n,ρ0 n))) (A5o P fn w0 K O0 stay ρ0 post) (.run cd) [] ⟨Ar 0 args,objs⟩):BJ P f args objs stay post:=by
 refine⟨⟨fn,c,k,by simp[b]⟩,λw K O0 ρ s e g d a=>?_⟩;refine calls_of_wp c b ((wpIn_wide (n:=0)).1 ?_);have r:=I8 a;rw[l];exact h w K O0 ρ ⟨e,g,hT,hF⟩ (Ug a) (Uh j λn o m=>bL (d.obj n o m)) i rfl _ _ (Vi d a p (by omega))
def zE (tb:Tb) (σ:St) (rv:ResultVar):AV->Prop
 | .p t d=>Jc σ t (Jb tb σ rv)=some d
 | x=>Jb tb σ rv=some x
def Rp (tb:Tb) (σ:St):List ResultVar->List AV->Prop
 | [],[]=>True
 | rv :: a,x :: l=>zE tb σ rv x/\Rp tb σ a l
 | _,_=>False
def Yv:AV->Bool
 | .tup _=>false
 | _=>true
def S5 (tb:Tb) (σ:St):List ResultVar->AV->Prop
 | [],x=>x=.raw (.tuple #[])
 | [rv],x=>zE tb σ rv x
 | a,.tup l=>l.all Yv=true/\Rp tb σ a l
 | _,_=>False
section
variable {P:Program} {tb:Tb} {w0:World} {K O0:Nat->Prop} {nt:Nat} {ds:Fp} {σ:St} {ρ:Nat->Value} {a:Act} {w:World}
theorem qA (hT:DH P tb) (hs:Bv w0 K O0 nt ds σ ρ a w) {rv:ResultVar} {x:AV} (h:zE tb σ rv x):∃u,(Ju a.tmps rv).run P w=.ok u w/\B7 (vw w O0 σ ρ) x u:=by
 by_cases hp:∃t d,x=.p t d
 ·obtain⟨t,d,rfl⟩:=hp;simp only[zE]at h;cases c:Jb tb σ rv with
  | none=>rw[c]at h;simp[Jc]at h
  | some v =>
   rw[c]at h;simp only[Jc]at h;obtain⟨u,h1,e⟩:=Uc hT hs c;exact⟨u,h1,Iu (V:=vw w O0 σ ρ) (O':=own O0 σ ρ) (λb f g=>f g) (λh=>by cases h) hs.objs h e⟩
 ·have h:Jb tb σ rv=some x:=by
   cases x<;>first|exact h|exact absurd ⟨_,_,rfl⟩ hp
  exact Uc hT hs h
theorem AAw {V:Vw} {x:AV} {v:Value} (hn:Yv x=true) (h:B7 V x v):Sn V x v:=by
 cases x<;>first|(simp[Yv]at hn;done)|exact h
theorem Yw (hT:DH P tb) (hs:Bv w0 K O0 nt ds σ ρ a w):∀ {c:List ResultVar} {l:List AV},l.all Yv=true->Rp tb σ c l ->
  ∃b:List Value,(c.mapM (Ju a.tmps)).run P w=.ok b w/\b.length=l.length/\Js (vw w O0 σ ρ) l b
 | [],[],_,_=>⟨[],by simp,rfl,rfl⟩
 | [],_ :: _,_,h=>h.elim
 | _ :: _,[],_,h=>h.elim
 | rv :: c,x :: l,hn,h=>by
  simp only[AE7,AT]at hn;obtain⟨u,h1,d⟩:=qA hT hs h.1;obtain⟨b,g,e,f⟩:=Yw hT hs hn.2 h.2;refine⟨u :: b,?_,by simp[e],u,b,rfl,AAw hn.1 d,f⟩
  simp_all
theorem Vj {tb:Tb} {σ:St}:∀ {a:List ResultVar} {l:List AV},Rp tb σ a l->a.length=l.length
 | [],[],_=>rfl
 | [],_ :: _,h=>h.elim
 | _ :: _,[],h=>h.elim
 | _ :: _,_ :: _,h=>by simp[Vj h.2]
theorem Vk (hT:DH P tb) (hs:Bv w0 K O0 nt ds σ ρ a w) {fn:Func} {x:AV} (h:S5 tb σ fn.results.toList x):∃u,(results fn a.tmps).run P w=.ok u w/\B7 (vw w O0 σ ρ) x u:=by
 have key:∀b:List Value,(fn.results.toList.mapM (Ju a.tmps)).run P w=.ok b w->(results fn a.tmps).run P w=.ok (if h:b.toArray.size=1 then b.toArray[0] else .tuple b.toArray) w:=by
  intro b h1;rw[Oc];have g:(fn.results.mapM (Ju a.tmps)).run P w=.ok b.toArray w:=by
   rw[AEv];simp only[Sem.run_map,h1,aS]
  simp only[ADA,g,aS,AEr]
 generalize fn.results.toList=m at h key;unfold S5 at h;split at h
 ·subst h;exact⟨_,key [] (by simp),rfl⟩
 ·rename_i rv;obtain⟨u,h1,c⟩:=qA hT hs h;exact⟨_,key [u] (by simp[h1]),c⟩
 ·rename_i l k i;obtain⟨b,h1,c,d⟩:=Yw hT hs h.1 h.2;have f:=Vj h.2;refine⟨_,key b h1,?_⟩;have:¬b.toArray.size=1:=by
   intro e;have e:b.length=1:=by simpa using e
   rw[c,<-f]at e;obtain⟨z,j⟩:=ADS.1 e;exact i z j
  rw[dif_neg this];exact⟨b,rfl,d⟩
 ·exact h.elim
end
theorem A5p {P:Program} {tb:Tb} {w0:World} {K O0:Nat->Prop} {nt:Nat} {stay:List Nat} {ρ0:Nat->Value} {fn:Func} {post:AV->List (Nat×Obj)->Prop} {σ:St} {e:Exit} (f:(cm P tb w0 K O0 nt (stay.map λn=>(n,ρ0 n))).Ok)
  (c:List ResultVar) (i:fn.results.toList=c) (g:e=.ret\/e=.normal) (res:AV) (h:S5 tb σ c res) (hp:post res σ.objs) :
  Ev (cm P tb w0 K O0 nt (stay.map λn=>(n,ρ0 n))) (A5o P fn w0 K O0 stay ρ0 post) (.out e) [] σ:=by
 intro _ _ a w hs;obtain⟨ρ,hs⟩:=hs;obtain⟨u,h1,d⟩:=Vk f.T hs (by rw[i];exact h);have b:MK K O0 stay w0 ρ0 post u w:=by
  refine⟨res,σ.objs,ρ,hp,hs.frm,⟨hs.objs,hs.free,hs.dist⟩,d,λn hn=>?_⟩;exact(hs.pin (n,ρ0 n) (IF.2 ⟨n,hn,rfl⟩)).2.1
 rcases g with rfl|rfl
 ·exact⟨hs.defers,u,h1,u,rfl,b⟩
 ·exact⟨hs.defers,u,h1,u,rfl,b⟩
end
section
open Go Go.RowKit
def DR:Option AV->Option (FuncId×List Nat)
 | some (.fn f)=>some (f,[])
 | some (.clo f ns)=>some (f,ns)
 | _=>none
def Ii (σ:St):List Operand->Option (List AV)
 | []=>some []
 | x :: r=>match Ak σ x,Ii σ r with
  | some v,some a=>some (v :: a)
  | _,_=>none
def Gy (σ:St) (ren:List (Nat×B5)) (x:AV):AV->Prop
 | .p t d=>LQ false σ t x=some d
 | y=>Br ren x y
def BS (σ:St) (ren:List (Nat×B5)):List AV->List AV->Prop
 | [],[]=>True
 | x :: l,y :: r=>Gy σ ren x y/\BS σ ren l r
 | _,_=>False
def Am:List (Nat×B5)->List Nat
 | []=>[]
 | (_,.nm n) :: r=>n :: Am r
 | (_,.nil) :: r=>Am r
def A8q (m:Nat):Option B5->Bool
 | some (.nm a)=>a==m
 | _=>false
def A8r (n:Nat) (f:Option B5) (m:Nat):Option B5->Bool
 | some (.nm a)=>a==n&&A8q m f
 | _=>false
def I9 (ren a:List (Nat×B5)) (stay hs:List Nat):Bool:=(Am ren).all λn=>Ac n hs||ren.any λp=>Ac p.1 stay&&A8r n (lk n a) p.1 (lk p.1 ren)
def FY (a:List Nat) (b objs:List (Nat×Obj)):Bool:=b.all λp=>Ac p.1 a||(lk p.1 objs).isNone
def Kr (dst:Option Nat) (v:AV) (env:List (Nat×AV)):List (Nat×AV) :=
 match dst with
 | some d=>(d,v) :: env
 | none=>env
def CU (σ:St) (a hs:List Nat) (dst:Option Nat) (res:AV) (b:List (Nat×Obj)):St:=⟨Kr dst res (Bu hs σ.env),b++Ao a hs σ.objs⟩
theorem Ol {n:Nat}:∀ {l:List (Nat×B5)},n∈Am l↔∃m,(m,B5.nm n)∈l
 | []=>by simp[Am]
 | (m,.nm k) :: r=>by
  simp only[Am,DO,Ol (l:=r),AF8,B5.nm.injEq];grind
 | (m,.nil) :: r=>by
  simp only[Am,DO,Ol (l:=r),AF8];grind
theorem bM {V:Vw} {σ:St} {ev:Operand->Value} (b:GZ V σ ev):∀ {xs:List Operand} {a:List AV},Ii σ xs=some a->Jd V a (xs.map ev)
 | [],a,h=>by simp only[Ii]at h;cases h;exact(rfl:_=_)
 | x :: r,a,h=>by
  simp only[Ii]at h;split at h
  ·rename_i v l h1 c;cases h;exact⟨ev x,r.map ev,rfl,b x v h1,bM b c⟩
  ·cases h
section
variable {V V':Vw} {ren:List (Nat×B5)} {σ:St}
theorem Vl (f:MC ren V V') (g:∀b,¬V.O b->¬V'.O b) (i:∀n o,lk n σ.objs=some o->A8 V o (V.ρ n)):∀ {l r:List AV} {e:List Value},BS σ ren l r->Jd V l e->Jd V' r e
 | [],[],e,_,h=>h
 | [],_ :: _,_,a,_=>a.elim
 | _ :: _,[],_,a,_=>a.elim
 | x :: l,y :: r,e,a,h=>by
  obtain⟨v,l',rfl,h1,j⟩:=h;refine⟨v,l',rfl,?_,Vl f g i a.2 j⟩;have c:=a.1;by_cases hp:∃t d,y=.p t d
  ·obtain⟨t,d,rfl⟩:=hp;have c:LQ false σ t x=some d:=c;have:=Iu (V:=V) (O':=V'.O) g (λh=>by cases h) i c h1;show Bl V'.w V'.O t v d;rw[f.w];exact this
  ·have c:Br ren x y:=by
    cases y<;>first|exact c|exact absurd ⟨_,_,rfl⟩ hp
   exact NE f c h1
end
section
variable {c:Cx} {R:Exit->Act->World->Prop} {k:List DZ} {σ:St}
theorem A5q {c:Cx} {a:Act} {dst:Option Nat} {u:Value} {s:Nat} {y:AV} {V:Vw} {env:List (Nat×AV)} {res:AV} (f:a.tmps.size=c.nt) (b:∀d,dst=some d->d<c.nt) (g:B7 V res u) (e:∀s v,lk s env=some v->B7 V v (a.tmps.getD s undef))
  (h:lk s (Kr dst res env)=some y):B7 V y ((a.put dst u).tmps.getD s undef):=by
 cases dst with
 | none=>exact e s y h
 | some d =>
  rw[Kg a d u s (by rw[f];exact b d rfl)];simp only[Kr,lk]at h;split at h
  ·grind
  ·grind
theorem Rq (az:c.Ok) {dst:Option Nat} {ρ:Nat->Value} {a:Act} {w:World} (g:Bv c.w0 c.K c.O0 c.nt c.ds σ ρ a w) {as:List AV} {bi:List Value} (bq:Jd (vw w c.O0 σ ρ) as bi)
  {A:List AV} {objs:List (Nat×Obj)} (stay:List Nat) (post:AV->List (Nat×Obj)->Prop)
  (ren:List (Nat×B5)) (h1:CD ren=true) (ap:CT objs ren=true) (bl:BS σ ren as A) (av:Ag σ.objs ren objs)
  (hs:List Nat) (ce:(c.ds.pin.all λp=>!Ac p.1 hs)=true) {next:Act->World->Prop} (bs:∀d,dst=some d->d<c.nt)
  (hk:∀res Q,post res Q->∃(t:List (Nat×B5)) (ae:AV) (o:List (Nat×Obj)),CD t=true/\CT o t=true/\Ag Q t o/\Br t res ae /\
   I9 ren t stay hs=true/\FY (Am ren) o σ.objs=true/\∀al w',c.sat (CU σ (Am ren) hs dst ae o) al w'->next al w') :
  ∃(J G:Nat->Prop) (r:Nat->Value),(∀b,J b->b<w.heap.size)/\(∀b,G b->b<w.heap.size)/\zD J G objs r w/\Jd (vw w G ⟨[],objs⟩ r) A bi/\(∀m n,lk m ren=some (.nm n)->r m=ρ n) /\
   ∀u w',MK J G stay w r post u w'->next (a.put dst u) w':=by
 let r:Nat->Value:=λm=>match lk m ren with|some (.nm n)=>ρ n|_=>.slice none 0 0
 have ad:∀m n,lk m ren=some (.nm n)->r m=ρ n:=λm n f=>by simp[r,f]
 have bf:∀m,lk m ren=some .nil->r m=.slice none 0 0:=λm f=>by simp[r,f]
 let G:Nat->Prop:=λb=>c.O0 b\/∃n,HH σ n/\n∉Am ren/\bk (ρ n) b
 let J:Nat->Prop:=λb=>b<w.heap.size/\¬ ∃m,HH ⟨[],objs⟩ m/\bk (r m) b
 have R:∀m b,HH ⟨[],objs⟩ m->bk (r m) b->∃n,lk m ren=some (.nm n)/\HH σ n/\bk (ρ n) b:=by
  rintro m b ⟨ak,f⟩ e;have hf:=DQ av f;cases k:lk m ren with
  | none=>rw[k]at hf;exact hf.elim
  | some fr =>
   cases fr with
   | nil=>rw[bf m k]at e;simp[bk,blk]at e
   | nm n =>
    rw[k]at hf;rw[ad m n k]at e;refine⟨n,rfl,?_,e⟩;cases hn:lk n σ.objs with
    | none=>simp only[Gb,hn,Hy]at hf
    | some x=>exact⟨x,hn⟩
 have bw:∀m fr,lk m ren=some fr->HH ⟨[],objs⟩ m:=λm fr f=>by
  simp only[CT,Is]at ap;exact AEb.1 (ap _ (F8 f))
 have cp:∀m n,lk m ren=some (.nm n)->n∈Am ren:=λm n f=>Ol.2 ⟨m,F8 f⟩;have ay:∀b,¬own c.O0 σ ρ b->¬own G ⟨[],objs⟩ r b:=by
  intro b e B;rcases B with (h0|⟨n,hn,_,i⟩)|⟨m,f,l⟩
  ·exact e (.inl h0)
  ·exact e (.inr ⟨n,hn,i⟩)
  ·obtain⟨n,_,hn,i⟩:=R m b f l;exact e (.inr ⟨n,hn,i⟩)
 have aw:MC ren (vw w c.O0 σ ρ) (vw w G ⟨[],objs⟩ r):=⟨rfl,ay,ad,bf,bw⟩;have ca:zD J G objs r w:=by
  refine⟨λm ak f=>Rk aw g.objs (DQ av f),λm b f e=>⟨λbn=>bn.2 ⟨m,f,e⟩,λh0=>?_⟩,λm V b f ai e B=>?_⟩
  ·obtain⟨n,k,hn,i⟩:=R m b f e;rcases h0 with h0|⟨q,D,C,X⟩
   ·exact(g.free n b hn i).2 h0
   ·have:=g.dist n q b hn D i X;grind
  ·obtain⟨n,k,hn,i⟩:=R m b f e;obtain⟨q,bd,D,X⟩:=R V b ai B;have:=g.dist n q b hn D i X;grind [Ud]
 have bp:∀b,G b->b<w.heap.size:=by
  rintro b (h0|⟨n,⟨ak,hn⟩,_,i⟩)
  ·exact AA8 (az.O b h0) g.frm.size
  ·exact(g.objs n ak hn).block_lt i
 refine⟨J,G,r,λb e=>e.1,bp,ca,Vl aw ay g.objs bl bq,ad,?_⟩;rintro u w' ⟨res,Q,ρ',cf,M,U,br,cg⟩;obtain⟨t,ae,o,cn,am,af,bj,an,ao,cb⟩:=hk res Q cf;refine cb _ _ ?_
 let F:Nat->Value:=λn=>match lk n t with|some (.nm m)=>ρ' m|some .nil=>.slice none 0 0|none=>ρ n
 have ag:∀n m,lk n t=some (.nm m)->F n=ρ' m:=λn m hn=>by simp[F,hn]
 have aq:∀n,lk n t=some .nil->F n=.slice none 0 0:=λn hn=>by simp[F,hn]
 have co:∀n,lk n t=none->F n=ρ n:=λn hn=>by simp[F,hn]
 let σ2:=CU σ (Am ren) hs dst ae o
 have cd:σ2.objs=o++Ao (Am ren) hs σ.objs:=rfl;have ah:∀n,lk n σ2.objs=(lk n o).or (lk n (Ao (Am ren) hs σ.objs)):=λn=>by rw[cd,A5]
 have ba:∀n fr,lk n t=some fr->∃x,lk n o=some x:=λn fr hn=>by
  simp only[CT,Is]at am;exact AEb.1 (am _ (F8 hn))
 have bt:∀n x,lk n o=some x->∃fr,lk n t=some fr:=λn x hn=>by
  have hf:=DQ af hn;cases k:lk n t with
  | none=>rw[k]at hf;exact hf.elim
  | some fr=>exact⟨fr,rfl⟩
 have bu:∀n x,lk n o=some x->n∈Am ren\/lk n σ.objs=none:=λn x hn=>by
  simp only[FY,Is,UU]at ao;rcases ao _ (F8 hn) with h|h
  ·exact .inl ((Af _ _).1 h)
  ·exact .inr (by simpa using h)
 have H:∀n x,lk n (Ao (Am ren) hs σ.objs)=some x->n∉Am ren/\lk n o=none/\∃y,lk n σ.objs=some y/\x=y.fgt hs:=by
  intro n x hn;rw[Bj]at hn;split at hn
  ·cases hn
  ·rename_i C;simp only[If]at hn;obtain⟨y,j,rfl⟩:=hn;have C:n∉Am ren:=λh=>C ((Af _ _).2 h);refine⟨C,?_,y,j,rfl⟩;cases W:lk n o with
   | none=>rfl
   | some z =>
    rcases bu n z W with h|h
    ·exact absurd h C
    ·rw[h]at j;cases j
 have S:∀n x,lk n σ2.objs=some x->lk n o=some x\/(lk n o=none/\lk n (Ao (Am ren) hs σ.objs)=some x):=by simp_all
 have P:∀n x b,lk n o=some x->bk (F n) b->∃m,lk n t=some (.nm m)/\HH ⟨[],Q⟩ m/\bk (ρ' m) b:=by
  intro n x b hn e;have hf:=DQ af hn;obtain⟨fr,k⟩:=bt n x hn;cases fr with
  | nil=>rw[aq n k]at e;simp[bk,blk]at e
  | nm m =>
   rw[k]at hf;rw[ag n m k]at e;refine⟨m,k,?_,e⟩;cases hn:lk m Q with
   | none=>simp only[Gb,hn,Hy]at hf
   | some z=>exact⟨z,hn⟩
 have I:∀n,lk n o=none->F n=ρ n:=λn hn=>by grind
 have ax:MC t (vw w' G ⟨[],Q⟩ ρ') (vw w' c.O0 σ2 F):=by
  refine⟨rfl,λb e B=>?_,ag,aq,λn fr hn=>?_⟩
  ·rcases B with h0|⟨n,⟨x,hn⟩,i⟩
   ·exact e (.inl (.inl h0))
   ·rcases S n x hn with hn|⟨E,hn⟩
    ·obtain⟨m,_,f,l⟩:=P n x b hn i;exact e (.inr ⟨m,f,l⟩)
    ·obtain⟨C,_,y,j,_⟩:=H n x hn;rw[I n E]at i;exact e (.inl (.inr ⟨n,⟨y,j⟩,C,i⟩))
  ·obtain⟨x,ab⟩:=ba n fr hn;exact⟨x,by rw[ah,ab];rfl⟩
 have bm:∀b,(∃m,HH ⟨[],objs⟩ m/\bk (r m) b)->own c.O0 σ ρ b:=by
  rintro b ⟨m,f,e⟩;obtain⟨n,_,hn,i⟩:=R m b f e;exact .inr ⟨n,hn,i⟩
 have ar:∀b,b<w.heap.size->¬own c.O0 σ ρ b->J b:=λb N e=>⟨N,λh=>e (bm b h)⟩;have aa:Cb ((vw w c.O0 σ ρ).buts hs) (vw w' c.O0 σ2 F):=by
  have au:∀n,HH σ n->Ac n hs=false->HH σ2 n/\F n=ρ n:=by
   intro n hn cc;by_cases hh:n∈Am ren
   ·simp only[I9,Is,UU]at an;rcases an n hh with h|h
    ·rw[cc]at h;cases h
    ·simp only[UF,AT]at h;obtain⟨⟨m,fr⟩,hp,be,T⟩:=h;simp only at be T;unfold A8r at T;split at T
     ·rename_i q bx;simp only[AT,YD]at T;obtain⟨rfl,Z⟩:=T;unfold A8q at Z;split at Z
      ·rename_i V bb;have:V=m:=by simpa using Z
       subst this;obtain⟨x,ab⟩:=ba _ _ bb;refine⟨⟨x,by rw[ah,ab];rfl⟩,?_⟩;rw[ag _ _ bb,cg V ((Af _ _).1 be)];exact ad _ _ bx
      ·cases Z
     ·cases T
   ·obtain⟨x,ab⟩:=hn;have k:lk n (Ao (Am ren) hs σ.objs)=some (x.fgt hs):=by grind [Bj,Af]
    obtain⟨_,E,_⟩:=H n _ k;exact⟨⟨_,by rw[ah,E,k];rfl⟩,I n E⟩
  refine⟨λb N e B=>?_,λn hn=>(au n hn.1 hn.2).1,λn hn=>(au n hn.1 hn.2).2,λb N e=>M.block b (ar b N e)⟩;have N:b<w.heap.size:=N;have e:¬own c.O0 σ ρ b:=e;rcases B with h0|⟨n,⟨x,hn⟩,i⟩
  ·exact e (.inl h0)
  ·rcases S n x hn with hn|⟨E,hn⟩
   ·obtain⟨m,_,f,l⟩:=P n x b hn i;exact(U.free m b f l).1 (ar b N e)
   ·obtain⟨C,_,y,j,_⟩:=H n x hn;rw[I n E]at i;exact e (.inr ⟨n,⟨y,j⟩,i⟩)
 have bo:∀b,c.K b->J b:=λb e=>⟨AA8 (az.K b e) g.frm.size,λ⟨m,f,l⟩=>by
  obtain⟨n,_,hn,i⟩:=R m b f l;exact(g.free n b hn i).1 e⟩
 refine⟨F,⟨M.os.trans g.frm.os,M.tape.trans g.frm.tape,M.output.trans g.frm.output,UD g.frm.size M.size,λb e=>(M.block b (bo b e)).trans (g.frm.block b e)⟩,by rw[L5];exact g.nt,by rw[Hq];exact g.defers,λp hp=>?_,λn x hn=>?_,λn b W e=>?_,λn q b W bv e B=>?_,λs v ch=>?_⟩
 ·obtain⟨bg,cj,ck⟩:=g.pin p hp;have bh:Ac p.1 hs=false:=by simpa using (Is.1 ce) p hp
  have cl:=aa.ρ p.1 ⟨bg,bh⟩;exact⟨aa.L p.1 ⟨bg,bh⟩,cl.trans cj,ck⟩
 ·rcases S n x hn with hn|⟨E,hn⟩
  ·exact Rk ax U.obj (DQ af hn)
  ·obtain⟨C,_,y,j,rfl⟩:=H n x hn;rw[I n E];refine Ua aa (λb e=>?_) (g.objs n y j);refine M.block b ⟨(g.objs n y j).block_lt e,λ⟨m,f,l⟩=>?_⟩;obtain⟨q,bd,D,X⟩:=R m b f l;have:=g.dist n q b ⟨y,j⟩ D e X;grind
 ·obtain⟨x,hn⟩:=W;rcases S n x hn with hn|⟨E,hn⟩
  ·obtain⟨m,_,f,l⟩:=P n x b hn e;have:=U.free m b f l;grind
  ·obtain⟨C,_,y,j,rfl⟩:=H n x hn;rw[I n E]at e;exact g.free n b ⟨y,j⟩ e
 ·obtain⟨x,hn⟩:=W;obtain⟨Y,D⟩:=bv;rcases S n x hn with hn|⟨E,hn⟩<;>rcases S q Y D with D|⟨bc,D⟩
  ·obtain⟨m,k,f,l⟩:=P n x b hn e;obtain⟨V,bd,ai,bz⟩:=P q Y b D B;have:=U.dist m V b f ai l bz;grind [Ud]
  ·exfalso;obtain⟨m,k,f,l⟩:=P n x b hn e;obtain⟨C,_,y,j,rfl⟩:=H q Y D;rw[I q bc]at B;exact(U.free m b f l).2 (.inr ⟨q,⟨y,j⟩,C,B⟩)
  ·exfalso;obtain⟨m,k,f,l⟩:=P q Y b D B;obtain⟨C,_,y,j,rfl⟩:=H n x hn;rw[I n E]at e;exact(U.free m b f l).2 (.inr ⟨n,⟨y,j⟩,C,e⟩)
  ·obtain⟨_,_,y,j,rfl⟩:=H n x hn;obtain⟨_,_,cm,ci,rfl⟩:=H q Y D;rw[I n E]at e;rw[I q bc]at B;exact g.dist n q b ⟨y,j⟩ ⟨cm,ci⟩ e B
 ·refine A5q (c:=c) g.nt bs (NE ax bj br) (λs v aj=>?_) ch;rw[EO]at aj;simp only[If]at aj;obtain⟨y,j,rfl⟩:=aj;exact(Ps (g.env s y j)).keeps aa
theorem bO (ae:c.Ok) {o:Oper} {dst:Option Nat} {g:Operand} {xs:List Operand} {ts:Array TypeId} (K:o.op=.call { callee:=.value g,args:=xs.toArray,argTypes:=ts }) (ai:o.dst=dst)
  {f:FuncId} {k:List Nat} (j:DR (Ak σ g)=some (f,k)) {as:List AV} (aa:Ii σ xs=some as)
  {A:List AV} {objs:List (Nat×Obj)} {stay:List Nat} {post:AV->List (Nat×Obj)->Prop} (B:BJ c.P f A objs stay post)
  (ren:List (Nat×B5)) (h1:CD ren=true) (S:CT objs ren=true) (T:BS σ ren (as++k.map λn=>AV.bp n [] 0) A) (V:Ag σ.objs ren objs)
  (hs:List Nat) (an:(c.ds.pin.all λp=>!Ac p.1 hs)=true) {next:Act->World->Prop} {Q:Exit->Act->World->Prop} {a:Act} {w:World} (aq:c.sat σ a w) (ah:∀d,dst=some d->d<c.nt)
  (hk:∀res M,post res M->∃(s:List (Nat×B5)) (N:AV) (z:List (Nat×Obj)),CD s=true/\CT z s=true/\Ag M s z/\Br s res N /\
   I9 ren s stay hs=true/\FY (Am ren) z σ.objs=true/\∀G w',c.sat (CU σ (Am ren) hs dst N z) G w'->next G w'):o.wpIn (FR c.r) 0 c.P a w next Q:=by
 obtain⟨ρ,L⟩:=aq;have I:GZ (vw w c.O0 σ ρ) σ a.eval:=Et L.env;obtain⟨⟨fn,aj,am,ad⟩,B⟩:=B;obtain⟨m,ak,ag⟩:∃m:List Value,a.eval g=.func (.func f) #[] m.toArray/\Jd (vw w c.O0 σ ρ) (k.map λn=>AV.bp n [] 0) m:=by
  cases D:Ak σ g with
  | none=>rw[D]at j;simp[DR]at j
  | some H =>
   rw[D]at j;have C:=I g H D;cases H<;>simp only[DR]at j<;>try(cases j;done)
   ·cases j;exact⟨[],C,rfl⟩
   ·rename_i aw ns;cases j;refine⟨k.map ρ,C.1,?_⟩;have h0:∀l:List Nat,(∀n∈l,n∈k)->Jd (vw w c.O0 σ ρ) (l.map λn=>AV.bp n [] 0) (l.map ρ):=by
     intro l;induction l with
     | nil=>intro _;exact rfl
     | cons n r F =>
      intro J;obtain⟨q,b,i⟩:=C.2 n (J n (by simp));have i:ρ n=_:=i;exact⟨ρ n,r.map ρ,rfl,⟨q,b,i,i⟩,F λx ar=>J x (by simp[ar])⟩
    exact h0 k λ_ h=>h
 have Z:=bM I aa;have Y:∀ {l r:List AV} {t y:List Value},Jd (vw w c.O0 σ ρ) l t->Jd (vw w c.O0 σ ρ) r y->Jd (vw w c.O0 σ ρ) (l++r) (t++y):=by
  intro l;induction l with
  | nil=>intro r t y hu E;have hu:t=[]:=hu;subst hu;exact E
  | cons x l F =>
   intro r t y hu E;obtain⟨v,au,rfl,q,i⟩:=hu;exact⟨v,au++y,rfl,q,F i E⟩
 have X:=Y Z ag;have ap:(execOp a.eval o).run c.P w=.ok (.enter f (xs.map a.eval++m).toArray) w:=by
  have q : ¬ fn.name = "runtime.NumGoroutine" := by simpa using am
  have i:¬fn.body=none:=by intro e;simp[e]at ad
  simp[execOp,K,resolve,Deferred.ofValue,ak,invoke,callFunc,aj,q,i]
 obtain⟨O,R,av,U,W,al,ab,_,ao⟩:=Rq ae L X stay post ren h1 S T V hs an ah hk;have af:=B w O R av (xs.map a.eval++m) U W al ab;refine⟨λ_ _=>trivial,?_⟩;rw[Gv _ _ _ (λcl e=>by rw[K]at e;cases e),ap,Oper.uponIn_enter];refine⟨λh=>(by simp[FR]at h),Ob (af.mono λe w' hh=>?_)⟩;obtain⟨u,rfl,hh⟩:=hh;rw[ai];exact ao u w' hh
theorem A20 (D:c.Ok) {ops:Array Oper} {rest:List Oper} {dst:Option Nat} {g:Operand} {xs:List Operand} {ts:Array TypeId} {ty:TypeId} {pos:String} {after:Array Edge}
  {f:FuncId} {i:List Nat} (E:DR (Ak σ g)=some (f,i)) {as:List AV} (C:Ii σ xs=some as)
  {A:List AV} {objs:List (Nat×Obj)} {stay:List Nat} {post:AV->List (Nat×Obj)->Prop} (z:BJ c.P f A objs stay post)
  (ren:List (Nat×B5)) (hs:List Nat) (h1:CD ren=true) (v:CT objs ren=true) (H:(c.ds.pin.all λp=>!Ac p.1 hs)=true) (x:BS σ ren (as++i.map λn=>AV.bp n [] 0) A) (B:Ag σ.objs ren objs)
  (hk:∀res e,post res e->∃(b:List (Nat×B5)) (h:AV) (d:List (Nat×Obj)),CD b=true/\CT d b=true/\Ag e b d/\Br b res h /\
   I9 ren b stay hs=true/\FY (Am ren) d σ.objs=true/\Ih c R k ops rest (CU σ (Am ren) hs dst h d)) :
  Ih c R k ops (⟨dst,.call ⟨.value g,xs.toArray,ts⟩,ty,pos,after,none⟩ :: rest) σ:=by
 intro j F a w J;unfold wpListIn;rw[BY (by simp[Region.wanted])];refine bO D (xs:=xs) (ts:=ts) rfl rfl E C z ren h1 v x B hs H J (Bx (j _ (by simp))) λres e hp=>?_;obtain⟨b,h,d,m,q,r,s,t,u,y⟩:=hk res e hp;exact⟨b,h,d,m,q,r,s,t,u,λl w' I=>y (λo G=>j o (by simp[G])) F l w' I⟩
end
end
section
open Go Go.RowKit
def bP (s:Nat):List Nat->List Nat
 | []=>[]
 | k :: r=>if s=k then r else k :: bP s r
def H6:List Nat->List (Nat×AV)->List (Nat×AV)
 | _,[]=>[]
 | [],_ :: _=>[]
 | k :: a,(s,v) :: r=>if Ac s (k :: a)=true then (s,v) :: H6 (bP s (k :: a)) r else H6 (k :: a) r
def Dr (a:List Nat):DE->DE
 | some (vc,σ)=>some (vc,⟨H6 a σ.env,σ.objs⟩)
 | none=>none
theorem Yx {s t:Nat}:∀ {a:List Nat},Ac s a=false->Ac s (bP t a)=false
 | [],h=>h
 | k :: r,h=>by
  simp only[Ac]at h;split at h
  ·cases h
  ·rename_i b;simp only[bP];split
   ·exact h
   ·simp only[Ac,An b];exact Yx h
theorem Je {s:Nat}:∀ {env:List (Nat×AV)} {a:List Nat},Ac s a=false->lk s (H6 a env)=none
 | [],a,_=>by cases a<;>rfl
 | (j,v) :: r,[],_=>rfl
 | (j,v) :: r,k :: a,h=>by
  simp only[H6];split
  ·rename_i b;simp only[lk];rw[An (λe=>by subst e;rw[h]at b;cases b)];exact Je (Yx h)
  ·exact Je h
theorem Vm {s:Nat} {x:AV}:∀ {env:List (Nat×AV)} {a:List Nat},lk s (H6 a env)=some x->lk s env=some x
 | [],a,h=>by cases a<;>simp[H6,lk]at h
 | (j,v) :: r,[],h=>by simp[H6,lk]at h
 | (j,v) :: r,k :: a,h=>by
  simp only[H6]at h;split at h
  ·simp only[lk]at h ⊢;split at h
   ·grind
   ·rename_i e;rw[An e];exact Vm h
  ·rename_i b;by_cases e:s=j
   ·grind [Je]
   ·simp only[lk,An e];exact Vm h
theorem H7 {d:List Nat} {r:DE} {vc:Prop} {σ':St} (h:Dr d r=some (vc,σ')):∃b,r=some (vc,b)/\∀c:Cx,Ent c b σ':=by
 cases r with
 | none=>cases h
 | some p =>
  obtain⟨f,b⟩:=p;simp only[Dr]at h;cases h;exact⟨b,rfl,λc a w hs=>Uf (σ':=⟨H6 d b.env,b.objs⟩) (λs v e=>Vm e) (λ_=>rfl) hs⟩
section
variable {c:Cx} {R:Exit->Act->World->Prop} {k:List DZ} {σ σ':St}
theorem zF (g:List Nat) (e:c.P.follows .mixedOrders=true) (b:c.Ok) {id:Nat} {l:List Oper} (d:LY l l.length=true) {vc:Prop}
  (h:Dr g (Lo c.tb l false σ.objs [] l 0 [] [] σ)=some (vc,σ')) (f:vc) (hk:Ev c R (.out .normal) k σ'):Ev c R (.run (.region id l.toArray true)) k σ:=by
 obtain⟨i,h1,a⟩:=H7 h;exact A1X e b d h1 f (hk.ent (a c))
theorem Yy (g:List Nat) (m:Nat) (e:c.P.follows .mixedOrders=true) (b:c.Ok) {id:Nat} {l:List Oper} (d:LY l (l.take (l.length-m)).length=true) {vc:Prop}
  (h:Dr g (Lo c.tb l false σ.objs (l.drop (l.length-m)) (l.take (l.length-m)) 0 [] [] σ)=some (vc,σ')) (f:vc) (hk:Ev c R (.out .normal) k σ'):Ev c R (.run (.region id l.toArray true)) k σ:=by
 obtain⟨i,h1,a⟩:=H7 h;exact A1Y m e b d h1 f (hk.ent (a c))
theorem f7 (f:List Nat) (b:c.Ok) {id:Nat} {l:List Oper} (d:y9 l l.length=true) {vc:Prop}
  (h:Dr f (Lo c.tb l true σ.objs [] l 0 [] [] σ)=some (vc,σ')) (e:vc) (hk:Ev c R (.out .normal) k σ'):Ev c R (.run (.region id l.toArray false)) k σ:=by
 obtain⟨g,h1,a⟩:=H7 h;exact l7 b d h1 e (hk.ent (a c))
theorem ML (e:List Nat) (b:c.Ok) {id:Nat} {l:List Oper} (h0:(l.all λo=>o.guard.isNone)=true) {vc:Prop} (h:Dr e (B1 c.tb l l σ)=some (vc,σ')) (d:vc) (hk:Ev c R (.out .normal) k σ') :
  Ev c R (.run (.region id l.toArray false)) k σ:=by
 obtain⟨f,h1,a⟩:=H7 h;exact l8 b h0 h1 d (hk.ent (a c))
theorem H8 (e:List Nat) (b:c.Ok) {ops:List Oper} {l:List Oper} {vc:Prop} (h:Dr e (B1 c.tb ops l σ)=some (vc,σ')) (d:vc) (hk:Ev c R (.out .normal) k σ'):Ih c R k ops.toArray l σ:=by
 obtain⟨f,h1,a⟩:=H7 h;exact bK b (by simpa using h1) d (hk.ent (a c))
theorem A21 (d:c.Ok) {id:Nat} {l:List Oper} (n:Nat) (h0:(l.all λo=>o.guard.isNone)=true) {vc:Prop} (h:B1 c.tb l (l.take n) σ=some (vc,σ')) (f:vc) (hk:Ih c R k l.toArray (l.drop n) σ') :
  Ev c R (.run (.region id l.toArray false)) k σ:=by
 intro h1 b a w hs;simp only[Ht,Bz,Is]at h1;exact AEJ (QF d n (by simpa using h) f hk (λo e=>h1 o e) b a w hs)
theorem A22 (d:c.P.follows .mixedOrders=true) (a:c.Ok) {id:Nat} {l:List Oper} (n:Nat) (b:LY l (l.take n).length=true) {vc:Prop}
  (h:Lo c.tb l false σ.objs [] (l.take n) 0 [] [] σ=some (vc,σ')) (e:vc) (hk:Ih c R k l.toArray (l.drop n) σ') :
  Ev c R (.run (.region id l.toArray true)) k σ:=fZ d a n b h e hk
theorem CR {ops:Array Oper} (h:Ev c R (.out .normal) k σ):Ih c R k ops [] σ:=A5n h
end
end
end Go.Proofs.YtapkhdkbkodbjaaGreat.Fw
