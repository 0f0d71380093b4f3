/- Contracts over memory; the frame rule of a call. -/
import Derived.Test.YtapkhdkbkodbjaaGreatCZF
set_option linter.unusedVariables false
set_option linter.unusedSimpArgs false
namespace Go.Proofs.YtapkhdkbkodbjaaGreat.Fw
section
open Go Go.RowKit
structure A1g (K O0:Nat->Prop) (objs:List (Nat×Obj)) (ρ:Nat->Value) (w:World):Prop where
 obj:∀n o,lk n objs=some o->A4 (vw w O0 ⟨[],objs⟩ ρ) o (ρ n)
 free:∀n b,HL ⟨[],objs⟩ n->bk (ρ n) b->¬K b/\¬O0 b
 dist:∀n m b,HL ⟨[],objs⟩ n->HL ⟨[],objs⟩ m->bk (ρ n) b->bk (ρ m) b->n=m
def Iu (V:Vw):List AV->List Value->Prop
 | [],a=>a=[]
 | x :: r,a=>∃(v:Value) (l:List Value),a=v :: l/\B3 V x v/\Iu V r l
def MM (K O0:Nat->Prop) (stay:List Nat) (w:World) (ρ:Nat->Value) (post:AV->List (Nat×Obj)->Prop) (u:Value) (w':World):Prop :=
 ∃(res:AV) (a:List (Nat×Obj)) (ρ':Nat->Value),post res a/\Frm K w w'/\A1g K O0 a ρ' w'/\B3 (vw w' O0 ⟨[],a⟩ ρ') res u/\∀n∈stay,ρ' n=ρ n
def BA (P:Program) (f:FuncId) (args:List AV) (objs:List (Nat×Obj)) (stay:List Nat) (post:AV->List (Nat×Obj)->Prop):Prop :=
 (∃ fn : Func, P.funcs[f]? = some fn /\ (fn.name == "runtime.NumGoroutine") = false /\ fn.body.isNone = false) /\
 ∀(w:World) (K O0:Nat->Prop) (ρ:Nat->Value) (a:List Value),(∀b,K b->b<w.heap.size)->(∀b,O0 b->b<w.heap.size)->A1g K O0 objs ρ w->Iu (vw w O0 ⟨[],objs⟩ ρ) args a ->
  Calls P f a.toArray w λe w'=>∃u,e=.returned u/\MM K O0 stay w ρ post u w'
def Aj:Nat->List AV->List (Nat×AV)
 | _,[]=>[]
 | s,x :: r=>(s,x) :: Aj (s+1) r
def ACb:AV->Prop
 | .p t d=>t.ok d
 | _=>True
def Qk:List AV->Prop
 | []=>True
 | x :: r=>ACb x/\Qk r
def A3J:Obj->Prop
 | .arr _ e xs=>(Ty.slice e).ok xs
 | .box _ _ fs=>Qk fs
 | .mapo k v l=>∀x∈l,k.ok x.1/\v.ok x.2
 | .nest _ _ k e xs none=>(Ty.slice (.agg (.prod k (.slice e)))).ok xs
 | _=>True
def PJ:List (Nat×Obj)->Prop
 | []=>True
 | x :: r=>A3J x.2/\PJ r
theorem AAX {V:Vw} {x:AV} {v:Value} (h:B3 V x v):ACb x:=by
 cases x<;>try trivial
 obtain⟨cs,a,_⟩:=h;exact IG a
theorem Us {V:Vw}:∀ {l:List AV} {b:List Value},Iu V l b->Qk l
 | [],_,_=>trivial
 | _ :: _,_,⟨_,_,_,h1,a⟩=>⟨AAX h1,Us a⟩
theorem tV {V:Vw}:∀ {l:List AV} {cs:List Value},Dd V l cs->Qk l
 | [],_,_=>trivial
 | x :: _,_,⟨c1,c2,_,h1,a⟩=>⟨by
   cases x<;>try trivial
   exact IG (h1:B0 _ _ _ _ _),tV a⟩
theorem tW {w:World} {O:Nat->Prop} {k v:Ty}:∀ {a:List MapEntry} {l:List (k.den×v.den)},Ol w O k v a l->∀x∈l,k.ok x.1/\v.ok x.2
 | [],[],_,x,hx=>by cases hx
 | [],_ :: _,h,_,_=>h.elim
 | _ :: _,[],h,_,_=>h.elim
 | e :: a,y :: l,⟨⟨_,h1,_⟩,⟨_,b,_⟩,c⟩,x,hx=>by
  rcases By.1 hx with rfl|hx
  .exact⟨IG h1,IG b⟩
  exact tW c x hx
theorem dA {V:Vw} {o:Obj} {loc:Value} (h:A4 V o loc):A3J o:=by
 cases o with
 | arr et e xs =>
  obtain⟨j,cells,_,c⟩:=h;refine⟨j,λx hx=>?_⟩;obtain⟨i,hi,rfl⟩:=ZT.1 hx;obtain⟨f,_,_,d⟩:=c i _ (AT hi);exact IG d
 | box et st fs=>obtain⟨_,b,cs,_,_,a⟩:=h;exact tV a
 | mapo k v l=>obtain⟨b,f,cl,_,_,a,_⟩:=h;exact tW a
 | nest et n k e xs hl =>
  cases hl with
  | some i=>trivial
  | none =>
   obtain⟨o,ins,cells,_,g⟩:=h;have c:=Oq (O':=λ_=>False) (λ_ _ h=>h) g (λ_ _ _ _ _ h=>h);refine⟨g.max,λx hx=>?_⟩;obtain⟨i,hi,rfl⟩:=ZT.1 hx;obtain⟨f,_,_,d⟩:=c i _ (AT hi);exact IG d
 | frame t fs=>trivial
 | loop L=>trivial
 | itr p s q r m=>trivial
 | dfr=>trivial
theorem Ut:∀ {l:List (Nat×Obj)},MC l=true->(∀n o,lk n l=some o->A3J o)->PJ l
 | [],_,_=>trivial
 | (n,o) :: r,hk,h=>by
  simp only[MC,An,OR,AFI]at hk;refine⟨h n o (by simp[lk]),Ut hk.2 λm x a=>h m x ?_⟩;simp only[lk];rw[As (λe=>hk.1 _ (F2 a) e)];exact a
theorem tY:∀(l:List AV) (a:List Value) (k:Nat) (V:Vw),Iu V l a->∀s v,lk s (Aj k l)=some v->k<=s/\∃u,a[s-k]?=some u/\B3 V v u
 | [],a,k,V,h,s,v,hs=>by simp[Aj,lk]at hs
 | x :: l,a,k,V,h,s,v,hs=>by
  obtain⟨u,r,rfl,h1,b⟩:=h;simp only[Aj,lk]at hs;split at hs
  .grind
  obtain⟨c,f,d,e⟩:=tY l r (k+1) V b s v hs;grind
theorem JK {V:Vw}:∀ {l:List AV} {a:List Value},Iu V l a->a.length=l.length
 | [],a,h=>by have h:a=[]:=h;subst h;rfl
 | _ :: _,_,⟨_,_,rfl,_,h⟩=>by simp[JK h]
def cm (P:Program) (tb:Tb) (w0:World) (K O0:Nat->Prop) (nt:Nat) (pin:List (Nat×Value)):Cx:={ P:=P,tb:=tb,w0:=w0,K:=K,O0:=O0,nt:=nt,ds:={ pin:=pin } }
theorem jE {P:Program} {tb:Tb} {w0:World} {K O0:Nat->Prop} {nt:Nat} {pin:List (Nat×Value)}:(cm P tb w0 K O0 nt pin).tb=tb:=rfl
def TC (objs:List (Nat×Obj)) (n:Nat):Bool :=
 match lk n objs with
 | some (.arr _ _ _)=>Gz n
 | some (.nest _ _ _ _ _ _)=>Gz n
 | some _=>true
 | none=>false
theorem Vt {P:Program} {tb:Tb} {w0:World} {K O0:Nat->Prop} {nt:Nat} {args:List AV} {objs:List (Nat×Obj)} {stay:List Nat} {ρ:Nat->Value} {c:List Value} (f:A1g K O0 objs ρ w0) (q:Iu (vw w0 O0 ⟨[],objs⟩ ρ) args c) (m:stay.all (TC objs)=true) (t:c.length<=nt) :
  (cm P tb w0 K O0 nt (stay.map λn=>(n,ρ n))).sat ⟨Aj 0 args,objs⟩ { tmps:=c.toArray++Array.replicate (nt-c.toArray.size) undef,defers:=[] } w0:=by
 refine⟨ρ,⟨rfl,rfl,rfl,NO _,λ_ _=>rfl⟩,by simp[cm];omega,rfl,λp hp=>?_,f.obj,f.free,f.dist,λs v hs=>?_⟩
 .obtain⟨n,hn,rfl⟩:=IF.1 hp;have:=(OR.1 m) n hn;unfold TC at this;cases g:lk n objs with
  | none=>rw[g]at this;cases this
  | some o =>
   rw[g]at this;refine⟨⟨o,g⟩,rfl,?_⟩;have d:=f.obj n o g;cases o with
   | arr et e xs=>exact .inr this
   | nest et x k e xs hl=>exact .inr this
   | box et st fs=>obtain⟨_,b,cs,a,_⟩:=d;rw[a];exact .inl rfl
   | mapo k v l=>obtain⟨b,r,cl,a,_⟩:=d;rw[a];exact .inl rfl
   | frame C fs=>obtain⟨a,_⟩:=d;rw[a];exact .inl rfl
   | loop L=>obtain⟨b,a,_⟩:=d;rw[a];exact .inl rfl
   | itr y B z A w=>obtain⟨b,a,_⟩:=d;rw[a];exact .inl rfl
   | dfr=>obtain⟨b,a,_⟩:=d;rw[a];exact .inl rfl
 obtain⟨_,u,h1,i⟩:=tY args c 0 _ q s v hs;have h1:c[s]?=some u:=by simpa using h1
 have h:s<c.length:=(UP.1 h1).1;have j:(c.toArray++Array.replicate (nt-c.toArray.size) undef).getD s undef=u:=by
  have:c[s]=u:=by rw[AT h]at h1;injection h1
  simp[Array.getElem?_append,h,this]
 rw[j];exact i
def A7g (P:Program) (fn:Func) (w0:World) (K O0:Nat->Prop) (stay:List Nat) (ρ0:Nat->Value) (post:AV->List (Nat×Obj)->Prop):Exit->Act->World->Prop :=
 bodyPost P fn λe w'=>∃u,e=.returned u/\MM K O0 stay w0 ρ0 post u w'
theorem AAY {P:Program} {tb:Tb} {f:FuncId} {fn:Func} {cd:Code} {nt:Nat} {args:List AV} {objs:List (Nat×Obj)} {stay:List Nat} {post:AV->List (Nat×Obj)->Prop}
  (c : P.funcs[f]? = some fn) (k : (fn.name == "runtime.NumGoroutine") = false) (b : fn.body = some cd) (l : fn.ntmps = nt) (q : args.length <= nt)
  (i:BZ nt cd=true) (p:stay.all (TC objs)=true) (j:MC objs=true) (hT:DH P tb) (hF:JD P tb)
  (h:∀(w0:World) (K O0:Nat->Prop) (ρ0:Nat->Value),(cm P tb w0 K O0 nt (stay.map λn=>(n,ρ0 n))).Ok->Qk args->PJ objs ->
   Ev (cm P tb w0 K O0 nt (stay.map λn=>(n,ρ0 n))) (A7g P fn w0 K O0 stay ρ0 post) (.run cd) [] ⟨Aj 0 args,objs⟩):BA P f args objs stay post:=by
 refine⟨⟨fn,c,k,by simp[b]⟩,λw K O0 ρ s e g d a=>?_⟩;refine calls_of_wp c b ((wpIn_wide (n:=0)).1 ?_);have r:=JK a;rw[l];exact h w K O0 ρ ⟨e,g,hT,hF⟩ (Us a) (Ut j λn o m=>dA (d.obj n o m)) i rfl _ _ (Vt d a p (by omega))
def A1h (tb:Tb) (σ:St) (rv:ResultVar):AV->Prop
 | .p t d=>Jf σ t (K7 tb σ rv)=some d
 | x=>K7 tb σ rv=some x
def Rv (tb:Tb) (σ:St):List ResultVar->List AV->Prop
 | [],[]=>True
 | rv :: a,x :: l=>A1h tb σ rv x/\Rv tb σ a l
 | _,_=>False
def Zq:AV->Bool
 | .tup _=>false
 | _=>true
def TD (tb:Tb) (σ:St):List ResultVar->AV->Prop
 | [],x=>x=.raw (.tuple #[])
 | [rv],x=>A1h tb σ rv x
 | a,.tup l=>l.all Zq=true/\Rv tb σ a l
 | _,_=>False
section
variable {P:Program} {tb:Tb} {w0:World} {K O0:Nat->Prop} {nt:Nat} {ds:Fp} {σ:St} {ρ:Nat->Value} {a:Act} {w:World}
theorem tZ (hT:DH P tb) (hs:CB w0 K O0 nt ds σ ρ a w) {rv:ResultVar} {x:AV} (h:A1h tb σ rv x):∃u,(J4 a.tmps rv).run P w=.ok u w/\B3 (vw w O0 σ ρ) x u:=by
 by_cases hp:∃t d,x=.p t d
 .obtain⟨t,d,rfl⟩:=hp;simp only[A1h]at h;cases c:K7 tb σ rv with
  | none=>rw[c]at h;simp[Jf]at h
  | some v =>
   rw[c]at h;simp only[Jf]at h;obtain⟨u,h1,e⟩:=Uo hT hs c;exact⟨u,h1,Lg (V:=vw w O0 σ ρ) (O':=own O0 σ ρ) (λb f g=>f g) (λh=>by cases h) hs.objs h e⟩
 have h:K7 tb σ rv=some x:=by
  cases x<;>first|exact h|exact absurd ⟨_,_,rfl⟩ hp
 exact Uo hT hs h
theorem ACc {V:Vw} {x:AV} {v:Value} (hn:Zq x=true) (h:B3 V x v):Sw V x v:=by
 cases x<;>first|(simp[Zq]at hn;done)|exact h
theorem Zr (hT:DH P tb) (hs:CB w0 K O0 nt ds σ ρ a w):∀ {c:List ResultVar} {l:List AV},l.all Zq=true->Rv tb σ c l ->
  ∃b:List Value,(c.mapM (J4 a.tmps)).run P w=.ok b w/\b.length=l.length/\IB (vw w O0 σ ρ) l b
 | [],[],_,_=>⟨[],by simp,rfl,rfl⟩
 | [],_ :: _,_,h=>h.elim
 | _ :: _,[],_,h=>h.elim
 | rv :: c,x :: l,hn,h=>by
  simp only[AAk,An]at hn;obtain⟨u,h1,d⟩:=tZ hT hs h.1;obtain⟨b,g,e,f⟩:=Zr hT hs hn.2 h.2;refine⟨u :: b,?_,by simp[e],u,b,rfl,ACc hn.1 d,f⟩
  simp_all
theorem Vu {tb:Tb} {σ:St}:∀ {a:List ResultVar} {l:List AV},Rv tb σ a l->a.length=l.length
 | [],[],_=>rfl
 | [],_ :: _,h=>h.elim
 | _ :: _,[],h=>h.elim
 | _ :: _,_ :: _,h=>by simp[Vu h.2]
theorem Vv (hT:DH P tb) (hs:CB w0 K O0 nt ds σ ρ a w) {fn:Func} {x:AV} (h:TD tb σ fn.results.toList x):∃u,(results fn a.tmps).run P w=.ok u w/\B3 (vw w O0 σ ρ) x u:=by
 have key:∀b:List Value,(fn.results.toList.mapM (J4 a.tmps)).run P w=.ok b w->(results fn a.tmps).run P w=.ok (if h:b.toArray.size=1 then b.toArray[0] else .tuple b.toArray) w:=by
  intro b h1;rw[Ow];have g:(fn.results.mapM (J4 a.tmps)).run P w=.ok b.toArray w:=by
   rw[AC6];simp only[Sem.run_map,h1,Yj]
  simp only[gO,g,Yj,AF6]
 generalize fn.results.toList=m at h key;unfold TD at h;split at h
 .subst h;exact⟨_,key [] (by simp),rfl⟩
 .rename_i rv;obtain⟨u,h1,c⟩:=tZ hT hs h;exact⟨_,key [u] (by simp[h1]),c⟩
 .rename_i l k i;obtain⟨b,h1,c,d⟩:=Zr hT hs h.1 h.2;have f:=Vu h.2;refine⟨_,key b h1,?_⟩;have:¬b.toArray.size=1:=by
   intro e;have e:b.length=1:=by simpa using e
   rw[c,<-f]at e;obtain⟨z,j⟩:=ABO.1 e;exact i z j
  rw[dif_neg this];exact⟨b,rfl,d⟩
 exact h.elim
end
theorem A7h {P:Program} {tb:Tb} {w0:World} {K O0:Nat->Prop} {nt:Nat} {stay:List Nat} {ρ0:Nat->Value} {fn:Func} {post:AV->List (Nat×Obj)->Prop} {σ:St} {e:Exit} (f:(cm P tb w0 K O0 nt (stay.map λn=>(n,ρ0 n))).Ok)
  (c:List ResultVar) (i:fn.results.toList=c) (g:e=.ret\/e=.normal) (res:AV) (h:TD tb σ c res) (hp:post res σ.objs) :
  Ev (cm P tb w0 K O0 nt (stay.map λn=>(n,ρ0 n))) (A7g P fn w0 K O0 stay ρ0 post) (.out e) [] σ:=by
 intro _ _ a w hs;obtain⟨ρ,hs⟩:=hs;obtain⟨u,h1,d⟩:=Vv f.T hs (by rw[i];exact h);have b:MM K O0 stay w0 ρ0 post u w:=by
  refine⟨res,σ.objs,ρ,hp,hs.frm,⟨hs.objs,hs.free,hs.dist⟩,d,λn hn=>?_⟩;exact(hs.pin (n,ρ0 n) (IF.2 ⟨n,hn,rfl⟩)).2.1
 rcases g with rfl|rfl
 .exact⟨hs.defers,u,h1,u,rfl,b⟩
 exact⟨hs.defers,u,h1,u,rfl,b⟩
end
section
open Go Go.RowKit
def DM:Option AV->Option (FuncId×List Nat)
 | some (.fn f)=>some (f,[])
 | some (.clo f ns)=>some (f,ns)
 | _=>none
def Iv (σ:St):List Operand->Option (List AV)
 | []=>some []
 | x :: r=>match Aq σ x,Iv σ r with
  | some v,some a=>some (v :: a)
  | _,_=>none
def HA (σ:St) (ren:List (Nat×B1)) (x:AV):AV->Prop
 | .p t d=>ND false σ t x=some d
 | y=>Bj ren x y
def BM (σ:St) (ren:List (Nat×B1)):List AV->List AV->Prop
 | [],[]=>True
 | x :: l,y :: r=>HA σ ren x y/\BM σ ren l r
 | _,_=>False
def Ah:List (Nat×B1)->List Nat
 | []=>[]
 | (_,.nm n) :: r=>n :: Ah r
 | (_,.nil) :: r=>Ah r
def AAa (m:Nat):Option B1->Bool
 | some (.nm a)=>a==m
 | _=>false
def AAb (n:Nat) (f:Option B1) (m:Nat):Option B1->Bool
 | some (.nm a)=>a==n&&AAa m f
 | _=>false
def JL (ren a:List (Nat×B1)) (stay hs:List Nat):Bool:=(Ah ren).all λn=>Ab n hs||ren.any λp=>Ab p.1 stay&&AAb n (lk n a) p.1 (lk p.1 ren)
def FP (a:List Nat) (b objs:List (Nat×Obj)):Bool:=b.all λp=>Ab p.1 a||(lk p.1 objs).isNone
def LD (dst:Option Nat) (v:AV) (env:List (Nat×AV)):List (Nat×AV) :=
 match dst with
 | some d=>(d,v) :: env
 | none=>env
def CT (σ:St) (a hs:List Nat) (dst:Option Nat) (res:AV) (b:List (Nat×Obj)):St:=⟨LD dst res (CR hs σ.env),b++Aw a hs σ.objs⟩
theorem PK {n:Nat}:∀ {l:List (Nat×B1)},n∈Ah l↔∃m,(m,B1.nm n)∈l
 | []=>by simp[Ah]
 | (m,.nm k) :: r=>by
  simp only[Ah,By,PK (l:=r),AGi,B1.nm.injEq];grind
 | (m,.nil) :: r=>by
  simp only[Ah,By,PK (l:=r),AGi];grind
theorem dB {V:Vw} {σ:St} {ev:Operand->Value} (b:Hg V σ ev):∀ {xs:List Operand} {a:List AV},Iv σ xs=some a->Iu V a (xs.map ev)
 | [],a,h=>by simp only[Iv]at h;cases h;exact(rfl:_=_)
 | x :: r,a,h=>by
  simp only[Iv]at h;split at h
  .rename_i v l h1 c;cases h;exact⟨ev x,r.map ev,rfl,b x v h1,dB b c⟩
  cases h
section
variable {V V':Vw} {ren:List (Nat×B1)} {σ:St}
theorem Vx (f:MD ren V V') (g:∀b,¬V.O b->¬V'.O b) (i:∀n o,lk n σ.objs=some o->A4 V o (V.ρ n)):∀ {l r:List AV} {e:List Value},BM σ ren l r->Iu V l e->Iu V' r e
 | [],[],e,_,h=>h
 | [],_ :: _,_,a,_=>a.elim
 | _ :: _,[],_,a,_=>a.elim
 | x :: l,y :: r,e,a,h=>by
  obtain⟨v,l',rfl,h1,j⟩:=h;refine⟨v,l',rfl,?_,Vx f g i a.2 j⟩;have c:=a.1;by_cases hp:∃t d,y=.p t d
  .obtain⟨t,d,rfl⟩:=hp;have c:ND false σ t x=some d:=c;have:=Lg (V:=V) (O':=V'.O) g (λh=>by cases h) i c h1;show BS V'.w V'.O t v d;rw[f.w];exact this
  have c:Bj ren x y:=by
   cases y<;>first|exact c|exact absurd ⟨_,_,rfl⟩ hp
  exact NP f c h1
end
section
variable {c:Cx} {R:Exit->Act->World->Prop} {k:List DI} {σ:St}
theorem A7i {c:Cx} {a:Act} {dst:Option Nat} {u:Value} {s:Nat} {y:AV} {V:Vw} {env:List (Nat×AV)} {res:AV} (f:a.tmps.size=c.nt) (b:∀d,dst=some d->d<c.nt) (g:B3 V res u) (e:∀s v,lk s env=some v->B3 V v (a.tmps.getD s undef))
  (h:lk s (LD dst res env)=some y):B3 V y ((a.put dst u).tmps.getD s undef):=by
 cases dst with
 | none=>exact e s y h
 | some d =>
  rw[NG a d u s (by rw[f];exact b d rfl)];simp only[LD,lk]at h;split at h
  .grind
  grind
theorem Rw (ax:c.Ok) {dst:Option Nat} {ρ:Nat->Value} {a:Act} {w:World} (g:CB c.w0 c.K c.O0 c.nt c.ds σ ρ a w) {as:List AV} {bg:List Value} (bo:Iu (vw w c.O0 σ ρ) as bg)
  {A:List AV} {objs:List (Nat×Obj)} (stay:List Nat) (post:AV->List (Nat×Obj)->Prop)
  (ren:List (Nat×B1)) (h1:B9 ren=true) (an:CS objs ren=true) (bi:BM σ ren as A) (ar:Ae σ.objs ren objs)
  (hs:List Nat) (cc:(c.ds.pin.all λp=>!Ab p.1 hs)=true) {next:Act->World->Prop} (bq:∀d,dst=some d->d<c.nt)
  (hk:∀res Q,post res Q->∃(t:List (Nat×B1)) (ab:AV) (o:List (Nat×Obj)),B9 t=true/\CS o t=true/\Ae Q t o/\Bj t res ab /\
   JL ren t stay hs=true/\FP (Ah ren) o σ.objs=true/\∀aj w',c.sat (CT σ (Ah ren) hs dst ab o) aj w'->next aj w') :
  ∃(J G:Nat->Prop) (r:Nat->Value),(∀b,J b->b<w.heap.size)/\(∀b,G b->b<w.heap.size)/\A1g J G objs r w/\Iu (vw w G ⟨[],objs⟩ r) A bg/\(∀m n,lk m ren=some (.nm n)->r m=ρ n) /\
   ∀u w',MM J G stay w r post u w'->next (a.put dst u) w':=by
 let r:Nat->Value:=λm=>match lk m ren with|some (.nm n)=>ρ n|_=>.slice none 0 0
 have aa:∀m n,lk m ren=some (.nm n)->r m=ρ n:=λm n f=>by simp[r,f]
 have bd:∀m,lk m ren=some .nil->r m=.slice none 0 0:=λm f=>by simp[r,f]
 let G:Nat->Prop:=λb=>c.O0 b\/∃n,HL σ n/\n∉Ah ren/\bk (ρ n) b
 let J:Nat->Prop:=λb=>b<w.heap.size/\¬ ∃m,HL ⟨[],objs⟩ m/\bk (r m) b
 have R:∀m b,HL ⟨[],objs⟩ m->bk (r m) b->∃n,lk m ren=some (.nm n)/\HL σ n/\bk (ρ n) b:=by
  rintro m b ⟨ai,f⟩ e;have hf:=DL ar f;cases k:lk m ren with
  | none=>rw[k]at hf;exact hf.elim
  | some fr =>
   cases fr with
   | nil=>rw[bd m k]at e;simp[bk,blk]at e
   | nm n =>
    rw[k]at hf;rw[aa m n k]at e;refine⟨n,rfl,?_,e⟩;cases hn:lk n σ.objs with
    | none=>simp only[Gd,hn,IJ]at hf
    | some x=>exact⟨x,hn⟩
 have bu:∀m fr,lk m ren=some fr->HL ⟨[],objs⟩ m:=λm fr f=>by
  simp only[CS,OR]at an;exact AB3.1 (an _ (F2 f))
 have cn:∀m n,lk m ren=some (.nm n)->n∈Ah ren:=λm n f=>PK.2 ⟨m,F2 f⟩;have aw:∀b,¬own c.O0 σ ρ b->¬own G ⟨[],objs⟩ r b:=by
  intro b e B;rcases B with (h0|⟨n,hn,_,i⟩)|⟨m,f,l⟩
  .exact e (.inl h0)
  .exact e (.inr ⟨n,hn,i⟩)
  obtain⟨n,_,hn,i⟩:=R m b f l;exact e (.inr ⟨n,hn,i⟩)
 have au:MD ren (vw w c.O0 σ ρ) (vw w G ⟨[],objs⟩ r):=⟨rfl,aw,aa,bd,bu⟩;have bx:A1g J G objs r w:=by
  refine⟨λm ai f=>Rp au g.objs (DL ar f),λm b f e=>⟨λbl=>bl.2 ⟨m,f,e⟩,λh0=>?_⟩,λm V b f ag e B=>?_⟩
  .obtain⟨n,k,hn,i⟩:=R m b f e;rcases h0 with h0|⟨q,D,C,W⟩
   .exact(g.free n b hn i).2 h0
   have:=g.dist n q b hn D i W;grind
  obtain⟨n,k,hn,i⟩:=R m b f e;obtain⟨q,bb,D,W⟩:=R V b ag B;have:=g.dist n q b hn D i W;grind [Up]
 have bn:∀b,G b->b<w.heap.size:=by
  rintro b (h0|⟨n,⟨ai,hn⟩,_,i⟩)
  .exact ZW (ax.O b h0) g.frm.size
  exact(g.objs n ai hn).block_lt i
 refine⟨J,G,r,λb e=>e.1,bn,bx,Vx au aw g.objs bi bo,aa,?_⟩;rintro u w' ⟨res,Q,ρ',cd,M,U,bp,ce⟩;obtain⟨t,ab,o,cl,ak,ad,bh,al,am,bz⟩:=hk res Q cd;refine bz _ _ ?_
 let F:Nat->Value:=λn=>match lk n t with|some (.nm m)=>ρ' m|some .nil=>.slice none 0 0|none=>ρ n
 have ae:∀n m,lk n t=some (.nm m)->F n=ρ' m:=λn m hn=>by simp[F,hn]
 have ao:∀n,lk n t=some .nil->F n=.slice none 0 0:=λn hn=>by simp[F,hn]
 have cm:∀n,lk n t=none->F n=ρ n:=λn hn=>by simp[F,hn]
 let σ2:=CT σ (Ah ren) hs dst ab o
 have cb:σ2.objs=o++Aw (Ah ren) hs σ.objs:=rfl;have af:∀n,lk n σ2.objs=(lk n o).or (lk n (Aw (Ah ren) hs σ.objs)):=λn=>by rw[cb,A6]
 have ay:∀n fr,lk n t=some fr->∃x,lk n o=some x:=λn fr hn=>by
  simp only[CS,OR]at ak;exact AB3.1 (ak _ (F2 hn))
 have br:∀n x,lk n o=some x->∃fr,lk n t=some fr:=λn x hn=>by
  have hf:=DL ad hn;cases k:lk n t with
  | none=>rw[k]at hf;exact hf.elim
  | some fr=>exact⟨fr,rfl⟩
 have bs:∀n x,lk n o=some x->n∈Ah ren\/lk n σ.objs=none:=λn x hn=>by
  simp only[FP,OR,Ub]at am;rcases am _ (F2 hn) with h|h
  .exact .inl ((Am _ _).1 h)
  exact .inr (by simpa using h)
 have H:∀n x,lk n (Aw (Ah ren) hs σ.objs)=some x->n∉Ah ren/\lk n o=none/\∃y,lk n σ.objs=some y/\x=y.fgt hs:=by
  intro n x hn;rw[B8]at hn;split at hn
  .cases hn
  rename_i C;simp only[ON]at hn;obtain⟨y,j,rfl⟩:=hn;have C:n∉Ah ren:=λh=>C ((Am _ _).2 h);refine⟨C,?_,y,j,rfl⟩;cases hl:lk n o with
  | none=>rfl
  | some z =>
   rcases bs n z hl with h|h
   .exact absurd h C
   rw[h]at j;cases j
 have S:∀n x,lk n σ2.objs=some x->lk n o=some x\/(lk n o=none/\lk n (Aw (Ah ren) hs σ.objs)=some x):=by simp_all
 have P:∀n x b,lk n o=some x->bk (F n) b->∃m,lk n t=some (.nm m)/\HL ⟨[],Q⟩ m/\bk (ρ' m) b:=by
  intro n x b hn e;have hf:=DL ad hn;obtain⟨fr,k⟩:=br n x hn;cases fr with
  | nil=>rw[ao n k]at e;simp[bk,blk]at e
  | nm m =>
   rw[k]at hf;rw[ae n m k]at e;refine⟨m,k,?_,e⟩;cases hn:lk m Q with
   | none=>simp only[Gd,hn,IJ]at hf
   | some z=>exact⟨z,hn⟩
 have I:∀n,lk n o=none->F n=ρ n:=λn hn=>by grind
 have av:MD t (vw w' G ⟨[],Q⟩ ρ') (vw w' c.O0 σ2 F):=by
  refine⟨rfl,λb e B=>?_,ae,ao,λn fr hn=>?_⟩
  .rcases B with h0|⟨n,⟨x,hn⟩,i⟩
   .exact e (.inl (.inl h0))
   rcases S n x hn with hn|⟨E,hn⟩
   .obtain⟨m,_,f,l⟩:=P n x b hn i;exact e (.inr ⟨m,f,l⟩)
   obtain⟨C,_,y,j,_⟩:=H n x hn;rw[I n E]at i;exact e (.inl (.inr ⟨n,⟨y,j⟩,C,i⟩))
  obtain⟨x,hx⟩:=ay n fr hn;exact⟨x,by rw[af,hx];rfl⟩
 have bj:∀b,(∃m,HL ⟨[],objs⟩ m/\bk (r m) b)->own c.O0 σ ρ b:=by
  rintro b ⟨m,f,e⟩;obtain⟨n,_,hn,i⟩:=R m b f e;exact .inr ⟨n,hn,i⟩
 have ap:∀b,b<w.heap.size->¬own c.O0 σ ρ b->J b:=λb N e=>⟨N,λh=>e (bj b h)⟩;have Z:Cs ((vw w c.O0 σ ρ).buts hs) (vw w' c.O0 σ2 F):=by
  have aq:∀n,HL σ n->Ab n hs=false->HL σ2 n/\F n=ρ n:=by
   intro n hn ca;by_cases hh:n∈Ah ren
   .simp only[JL,OR,Ub]at al;rcases al n hh with h|h
    .rw[ca]at h;cases h
    simp only[Ua,An]at h;obtain⟨⟨m,fr⟩,hp,bc,T⟩:=h;simp only at bc T;unfold AAb at T;split at T
    .rename_i q bv;simp only[An,YV]at T;obtain⟨rfl,Y⟩:=T;unfold AAa at Y;split at Y
     .rename_i V az;have:V=m:=by simpa using Y
      subst this;obtain⟨x,hx⟩:=ay _ _ az;refine⟨⟨x,by rw[af,hx];rfl⟩,?_⟩;rw[ae _ _ az,ce V ((Am _ _).1 bc)];exact aa _ _ bv
     cases Y
    cases T
   obtain⟨x,hx⟩:=hn;have k:lk n (Aw (Ah ren) hs σ.objs)=some (x.fgt hs):=by grind [B8,Am]
   obtain⟨_,E,_⟩:=H n _ k;exact⟨⟨_,by rw[af,E,k];rfl⟩,I n E⟩
  refine⟨λb N e B=>?_,λn hn=>(aq n hn.1 hn.2).1,λn hn=>(aq n hn.1 hn.2).2,λb N e=>M.block b (ap b N e)⟩;have N:b<w.heap.size:=N;have e:¬own c.O0 σ ρ b:=e;rcases B with h0|⟨n,⟨x,hn⟩,i⟩
  .exact e (.inl h0)
  rcases S n x hn with hn|⟨E,hn⟩
  .obtain⟨m,_,f,l⟩:=P n x b hn i;exact(U.free m b f l).1 (ap b N e)
  obtain⟨C,_,y,j,_⟩:=H n x hn;rw[I n E]at i;exact e (.inr ⟨n,⟨y,j⟩,i⟩)
 have bm:∀b,c.K b->J b:=λb e=>⟨ZW (ax.K b e) g.frm.size,λ⟨m,f,l⟩=>by
  obtain⟨n,_,hn,i⟩:=R m b f l;exact(g.free n b hn i).1 e⟩
 refine⟨F,⟨M.os.trans g.frm.os,M.tape.trans g.frm.tape,M.output.trans g.frm.output,UR g.frm.size M.size,λb e=>(M.block b (bm b e)).trans (g.frm.block b e)⟩,by rw[QF];exact g.nt,by rw[Kx];exact g.defers,λp hp=>?_,λn x hn=>?_,λn b hl e=>?_,λn q b hl bt e B=>?_,λs v cf=>?_⟩
 .obtain⟨be,ch,ci⟩:=g.pin p hp;have bf:Ab p.1 hs=false:=by simpa using (OR.1 cc) p hp
  have cj:=Z.ρ p.1 ⟨be,bf⟩;exact⟨Z.L p.1 ⟨be,bf⟩,cj.trans ch,ci⟩
 .rcases S n x hn with hn|⟨E,hn⟩
  .exact Rp av U.obj (DL ad hn)
  obtain⟨C,_,y,j,rfl⟩:=H n x hn;rw[I n E];refine cX Z (λb e=>?_) (g.objs n y j);refine M.block b ⟨(g.objs n y j).block_lt e,λ⟨m,f,l⟩=>?_⟩;obtain⟨q,bb,D,W⟩:=R m b f l;have:=g.dist n q b ⟨y,j⟩ D e W;grind
 .obtain⟨x,hn⟩:=hl;rcases S n x hn with hn|⟨E,hn⟩
  .obtain⟨m,_,f,l⟩:=P n x b hn e;have:=U.free m b f l;grind
  obtain⟨C,_,y,j,rfl⟩:=H n x hn;rw[I n E]at e;exact g.free n b ⟨y,j⟩ e
 .obtain⟨x,hn⟩:=hl;obtain⟨X,D⟩:=bt;rcases S n x hn with hn|⟨E,hn⟩<;>rcases S q X D with D|⟨ba,D⟩
  .obtain⟨m,k,f,l⟩:=P n x b hn e;obtain⟨V,bb,ag,bw⟩:=P q X b D B;have:=U.dist m V b f ag l bw;grind [Up]
  .exfalso;obtain⟨m,k,f,l⟩:=P n x b hn e;obtain⟨C,_,y,j,rfl⟩:=H q X D;rw[I q ba]at B;exact(U.free m b f l).2 (.inr ⟨q,⟨y,j⟩,C,B⟩)
  .exfalso;obtain⟨m,k,f,l⟩:=P q X b D B;obtain⟨C,_,y,j,rfl⟩:=H n x hn;rw[I n E]at e;exact(U.free m b f l).2 (.inr ⟨n,⟨y,j⟩,C,e⟩)
  obtain⟨_,_,y,j,rfl⟩:=H n x hn;obtain⟨_,_,ck,cg,rfl⟩:=H q X D;rw[I n E]at e;rw[I q ba]at B;exact g.dist n q b ⟨y,j⟩ ⟨ck,cg⟩ e B
 refine A7i (c:=c) g.nt bq (NP av bh bp) (λs v ah=>?_) cf;rw[Eu]at ah;simp only[ON]at ah;obtain⟨y,j,rfl⟩:=ah;exact(Ul (g.env s y j)).keeps Z
theorem dC (ad:c.Ok) {o:Oper} {dst:Option Nat} {g:Operand} {xs:List Operand} {ts:Array TypeId} (J:o.op=.call { callee:=.value g,args:=xs.toArray,argTypes:=ts }) (ah:o.dst=dst)
  {f:FuncId} {k:List Nat} (j:DM (Aq σ g)=some (f,k)) {as:List AV} (Z:Iv σ xs=some as)
  {A:List AV} {objs:List (Nat×Obj)} {stay:List Nat} {post:AV->List (Nat×Obj)->Prop} (B:BA c.P f A objs stay post)
  (ren:List (Nat×B1)) (h1:B9 ren=true) (R:CS objs ren=true) (S:BM σ ren (as++k.map λn=>AV.bp n [] 0) A) (U:Ae σ.objs ren objs)
  (hs:List Nat) (am:(c.ds.pin.all λp=>!Ab p.1 hs)=true) {next:Act->World->Prop} {Q:Exit->Act->World->Prop} {a:Act} {w:World} (ap:c.sat σ a w) (ag:∀d,dst=some d->d<c.nt)
  (hk:∀res L,post res L->∃(s:List (Nat×B1)) (M:AV) (z:List (Nat×Obj)),B9 s=true/\CS z s=true/\Ae L s z/\Bj s res M /\
   JL ren s stay hs=true/\FP (Ah ren) z σ.objs=true/\∀G w',c.sat (CT σ (Ah ren) hs dst M z) G w'->next G w'):o.wpIn (FR c.r) 0 c.P a w next Q:=by
 obtain⟨ρ,K⟩:=ap;have I:Hg (vw w c.O0 σ ρ) σ a.eval:=F3 K.env;obtain⟨⟨fn,ai,al,ab⟩,B⟩:=B;obtain⟨m,aj,af⟩:∃m:List Value,a.eval g=.func (.func f) #[] m.toArray/\Iu (vw w c.O0 σ ρ) (k.map λn=>AV.bp n [] 0) m:=by
  cases D:Aq σ g with
  | none=>rw[D]at j;simp[DM]at j
  | some H =>
   rw[D]at j;have C:=I g H D;cases H<;>simp only[DM]at j<;>try(cases j;done)
   .cases j;exact⟨[],C,rfl⟩
   rename_i au ns;cases j;refine⟨k.map ρ,C.1,?_⟩;have h0:∀l:List Nat,(∀n∈l,n∈k)->Iu (vw w c.O0 σ ρ) (l.map λn=>AV.bp n [] 0) (l.map ρ):=by
    intro l;induction l with
    | nil=>intro _;exact rfl
    | cons n r F =>
     intro hl;obtain⟨q,b,i⟩:=C.2 n (hl n (by simp));have i:ρ n=_:=i;exact⟨ρ n,r.map ρ,rfl,⟨q,b,i,i⟩,F λx hx=>hl x (by simp[hx])⟩
   exact h0 k λ_ h=>h
 have Y:=dB I Z;have X:∀ {l r:List AV} {t y:List Value},Iu (vw w c.O0 σ ρ) l t->Iu (vw w c.O0 σ ρ) r y->Iu (vw w c.O0 σ ρ) (l++r) (t++y):=by
  intro l;induction l with
  | nil=>intro r t y hu E;have hu:t=[]:=hu;subst hu;exact E
  | cons x l F =>
   intro r t y hu E;obtain⟨v,aq,rfl,q,i⟩:=hu;exact⟨v,aq++y,rfl,q,F i E⟩
 have W:=X Y af;have ao:(execOp a.eval o).run c.P w=.ok (.enter f (xs.map a.eval++m).toArray) w:=by
  have q : ¬ fn.name = "runtime.NumGoroutine" := by simpa using al
  have i:¬fn.body=none:=by intro e;simp[e]at ab
  simp[execOp,J,resolve,Deferred.ofValue,aj,invoke,callFunc,ai,q,i]
 obtain⟨N,O,ar,T,V,ak,aa,_,an⟩:=Rw ad K W stay post ren h1 R S U hs am ag hk;have ae:=B w N O ar (xs.map a.eval++m) T V ak aa;refine⟨λ_ _=>trivial,?_⟩;rw[G8 _ _ _ (λcl e=>by rw[J]at e;cases e),ao,Oper.uponIn_enter];refine⟨λh=>(by simp[FR]at h),Ov (ae.mono λe w' hh=>?_)⟩;obtain⟨u,rfl,hh⟩:=hh;rw[ah];exact an u w' hh
theorem A3K (D:c.Ok) {ops:Array Oper} {rest:List Oper} {dst:Option Nat} {g:Operand} {xs:List Operand} {ts:Array TypeId} {ty:TypeId} {pos:String} {after:Array Edge}
  {f:FuncId} {i:List Nat} (E:DM (Aq σ g)=some (f,i)) {as:List AV} (C:Iv σ xs=some as)
  {A:List AV} {objs:List (Nat×Obj)} {stay:List Nat} {post:AV->List (Nat×Obj)->Prop} (z:BA c.P f A objs stay post)
  (ren:List (Nat×B1)) (hs:List Nat) (h1:B9 ren=true) (v:CS objs ren=true) (H:(c.ds.pin.all λp=>!Ab p.1 hs)=true) (x:BM σ ren (as++i.map λn=>AV.bp n [] 0) A) (B:Ae σ.objs ren objs)
  (hk:∀res e,post res e->∃(b:List (Nat×B1)) (h:AV) (d:List (Nat×Obj)),B9 b=true/\CS d b=true/\Ae e b d/\Bj b res h /\
   JL ren b stay hs=true/\FP (Ah ren) d σ.objs=true/\Lt c R k ops rest (CT σ (Ah ren) hs dst h d)) :
  Lt c R k ops (⟨dst,.call ⟨.value g,xs.toArray,ts⟩,ty,pos,after,none⟩ :: rest) σ:=by
 intro j F a w J;unfold wpListIn;rw[Bq (by simp[Region.wanted])];refine dC D (xs:=xs) (ts:=ts) rfl rfl E C z ren h1 v x B hs H J (Ct (j _ (by simp))) λres e hp=>?_;obtain⟨b,h,d,m,q,r,s,t,u,y⟩:=hk res e hp;exact⟨b,h,d,m,q,r,s,t,u,λl w' I=>y (λo G=>j o (by simp[G])) F l w' I⟩
end
end
section
open Go Go.RowKit
def dF (s:Nat):List Nat->List Nat
 | []=>[]
 | k :: r=>if s=k then r else k :: dF s r
def X1:List Nat->List (Nat×AV)->List (Nat×AV)
 | _,[]=>[]
 | [],_ :: _=>[]
 | k :: a,(s,v) :: r=>if Ab s (k :: a)=true then (s,v) :: X1 (dF s (k :: a)) r else X1 (k :: a) r
def Dg (a:List Nat):DE->DE
 | some (vc,σ)=>some (vc,⟨X1 a σ.env,σ.objs⟩)
 | none=>none
theorem Zs {s t:Nat}:∀ {a:List Nat},Ab s a=false->Ab s (dF t a)=false
 | [],h=>h
 | k :: r,h=>by
  simp only[Ab]at h;split at h
  .cases h
  rename_i b;simp only[dF];split
  .exact h
  simp only[Ab,As b];exact Zs h
theorem Jg {s:Nat}:∀ {env:List (Nat×AV)} {a:List Nat},Ab s a=false->lk s (X1 a env)=none
 | [],a,_=>by cases a<;>rfl
 | (j,v) :: r,[],_=>rfl
 | (j,v) :: r,k :: a,h=>by
  simp only[X1];split
  .rename_i b;simp only[lk];rw[As (λe=>by subst e;rw[h]at b;cases b)];exact Jg (Zs h)
  exact Jg h
theorem Vy {s:Nat} {x:AV}:∀ {env:List (Nat×AV)} {a:List Nat},lk s (X1 a env)=some x->lk s env=some x
 | [],a,h=>by cases a<;>simp[X1,lk]at h
 | (j,v) :: r,[],h=>by simp[X1,lk]at h
 | (j,v) :: r,k :: a,h=>by
  simp only[X1]at h;split at h
  .simp only[lk]at h ⊢;split at h
   .grind
   rename_i e;rw[As e];exact Vy h
  rename_i b;by_cases e:s=j
  .grind [Jg]
  simp only[lk,As e];exact Vy h
theorem IP {d:List Nat} {r:DE} {vc:Prop} {σ':St} (h:Dg d r=some (vc,σ')):∃b,r=some (vc,b)/\∀c:Cx,Ent c b σ':=by
 cases r with
 | none=>cases h
 | some p =>
  obtain⟨f,b⟩:=p;simp only[Dg]at h;cases h;exact⟨b,rfl,λc a w hs=>Ur (σ':=⟨X1 d b.env,b.objs⟩) (λs v e=>Vy e) (λ_=>rfl) hs⟩
section
variable {c:Cx} {R:Exit->Act->World->Prop} {k:List DI} {σ σ':St}
theorem A1i (g:List Nat) (e:c.P.follows .mixedOrders=true) (b:c.Ok) {id:Nat} {l:List Oper} (d:Qb l l.length=true) {vc:Prop}
  (h:Dg g (MJ c.tb l false σ.objs [] l 0 [] [] σ)=some (vc,σ')) (f:vc) (hk:Ev c R (.out .normal) k σ'):Ev c R (.run (.region id l.toArray true)) k σ:=by
 obtain⟨i,h1,a⟩:=IP h;exact A3H e b d h1 f (hk.ent (a c))
theorem A1j (g:List Nat) (m:Nat) (e:c.P.follows .mixedOrders=true) (b:c.Ok) {id:Nat} {l:List Oper} (d:Qb l (l.take (l.length-m)).length=true) {vc:Prop}
  (h:Dg g (MJ c.tb l false σ.objs (l.drop (l.length-m)) (l.take (l.length-m)) 0 [] [] σ)=some (vc,σ')) (f:vc) (hk:Ev c R (.out .normal) k σ'):Ev c R (.run (.region id l.toArray true)) k σ:=by
 obtain⟨i,h1,a⟩:=IP h;exact A3I m e b d h1 f (hk.ent (a c))
theorem TE (f:List Nat) (b:c.Ok) {id:Nat} {l:List Oper} (d:o4 l l.length=true) {vc:Prop}
  (h:Dg f (MJ c.tb l true σ.objs [] l 0 [] [] σ)=some (vc,σ')) (e:vc) (hk:Ev c R (.out .normal) k σ'):Ev c R (.run (.region id l.toArray false)) k σ:=by
 obtain⟨g,h1,a⟩:=IP h;exact o9 b d h1 e (hk.ent (a c))
theorem MN (e:List Nat) (b:c.Ok) {id:Nat} {l:List Oper} (h0:(l.all λo=>o.guard.isNone)=true) {vc:Prop} (h:Dg e (Br c.tb l l σ)=some (vc,σ')) (d:vc) (hk:Ev c R (.out .normal) k σ') :
  Ev c R (.run (.region id l.toArray false)) k σ:=by
 obtain⟨f,h1,a⟩:=IP h;exact pA b h0 h1 d (hk.ent (a c))
theorem IQ (e:List Nat) (b:c.Ok) {ops:List Oper} {l:List Oper} {vc:Prop} (h:Dg e (Br c.tb ops l σ)=some (vc,σ')) (d:vc) (hk:Ev c R (.out .normal) k σ'):Lt c R k ops.toArray l σ:=by
 obtain⟨f,h1,a⟩:=IP h;exact c8 b (by simpa using h1) d (hk.ent (a c))
theorem A3L (d:c.Ok) {id:Nat} {l:List Oper} (n:Nat) (h0:(l.all λo=>o.guard.isNone)=true) {vc:Prop} (h:Br c.tb l (l.take n) σ=some (vc,σ')) (f:vc) (hk:Lt c R k l.toArray (l.drop n) σ') :
  Ev c R (.run (.region id l.toArray false)) k σ:=by
 intro h1 b a w hs;simp only[Ha,BZ,OR]at h1;exact AFC (Qh d n (by simpa using h) f hk (λo e=>h1 o e) b a w hs)
theorem Bk {ops:Array Oper} (h:Ev c R (.out .normal) k σ):Lt c R k ops [] σ:=A7f h
theorem A7j {ops:Array Oper} {l:List Oper} (h:Lt c R k ops l σ') (d:Ent c σ σ'):Lt c R k ops l σ:=λh1 b a w hs=>h h1 b a w (d a w hs)
end
end
end Go.Proofs.YtapkhdkbkodbjaaGreat.Fw
