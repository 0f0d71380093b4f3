/- Contracts over memory; the frame rule of a call. -/
import Derived.Test.YtglkoagnnnpimaaGreatDoorCZF
set_option linter.unusedVariables false
set_option linter.unusedSimpArgs false
namespace Go.Proofs.YtglkoagnnnpimaaGreatDoor.Fw
variable {s:Nat} {Z:AV->List (Nat×Obj)->Prop} {Y:Option Nat} {d:List Nat} {X:Array Oper} {P:Program} {W:List (Nat×Obj)} {V:Nat->Value} {K U:Nat->Prop} {T:Array TypeId} {x:AV} {S:World} {f:FuncId} {v:Value} {R:Tb} {Q:List AV} {O:Func} {N:Vw} {g:Operand}
section
open Go Go.RowKit
structure sZ (K O0:Nat->Prop) (objs:List (Nat×Obj)) (ρ:Nat->Value) (w:World):Prop where
 obj:∀n o,lk n objs=some o->A7 (vw w O0 ⟨[],objs⟩ ρ) o (ρ n)
 free:∀n b,Gk ⟨[],objs⟩ n->bk (ρ n) b->¬K b/\¬O0 b
 dist:∀n m b,Gk ⟨[],objs⟩ n->Gk ⟨[],objs⟩ m->bk (ρ n) b->bk (ρ m) b->n=m
def HY (V:Vw):List AV->List Value->Prop
 | [],a=>a=[]
 | x :: r,a=>∃(v:Value) (l:List Value),a=v :: l/\Bx V x v/\HY V r l
def LX (K O0:Nat->Prop) (stay:List Nat) (w:World) (ρ:Nat->Value) (post:AV->List (Nat×Obj)->Prop) (u:Value) (w':World):Prop :=
 ∃(res:AV) (a:List (Nat×Obj)) (ρ':Nat->Value),post res a/\Frm K w w'/\sZ K O0 a ρ' w'/\Bx (vw w' O0 ⟨[],a⟩ ρ') res u/\∀n∈stay,ρ' n=ρ n
def BB (P:Program) (f:FuncId) (args:List AV) (objs:List (Nat×Obj)) (stay:List Nat) (post:AV->List (Nat×Obj)->Prop):Prop :=
 (∃ fn : Func, P.funcs[f]? = some fn /\ (fn.name == "runtime.NumGoroutine") = false /\ fn.body.isNone = false) /\
 ∀(w:World) (K O0:Nat->Prop) (ρ:Nat->Value) (a:List Value),(∀b,K b->b<w.heap.size)->(∀b,O0 b->b<w.heap.size)->GW w K O0->sZ K O0 objs ρ w->HY (vw w O0 ⟨[],objs⟩ ρ) args a ->
  Calls P f a.toArray w λe w'=>∃u,e=.returned u/\LX K O0 stay w ρ post u w'
def Am:Nat->List AV->List (Nat×AV)
 | _,[]=>[]
 | s,x :: r=>(s,x) :: Am (s+1) r
def A8F:AV->Prop
 | .p t d=>t.ok d
 | _=>True
def PP:List AV->Prop
 | []=>True
 | x :: r=>A8F x/\PP r
def xY:Obj->Prop
 | .arr _ e xs=>(Ty.slice e).ok xs
 | .box _ _ fs=>PP fs
 | .mapo k v l=>∀x∈l,k.ok x.1/\v.ok x.2
 | .nest _ _ k e xs none=>(Ty.slice (.agg (.prod k (.slice e)))).ok xs
 | _=>True
def Nv:List (Nat×Obj)->Prop
 | []=>True
 | x :: r=>xY x.2/\Nv r
theorem A6A {V:Vw} (h:Bx V x v):A8F x:=by
 cases x<;>try trivial
 obtain⟨cs,a,_⟩:=h;exact HW a
theorem TA {V:Vw}:∀ {l:List AV} {b:List Value},HY V l b->PP l
 | [],_,_=>trivial
 | _ :: _,_,⟨_,_,_,h1,a⟩=>⟨A6A h1,TA a⟩
theorem n7 {V:Vw}:∀ {l:List AV} {cs:List Value},AVCs V l cs->PP l
 | [],_,_=>trivial
 | x :: _,_,⟨c1,c2,_,h1,a⟩=>⟨by
   cases x<;>try trivial
   exact HW (h1:Bq _ _ _ _ _),n7 a⟩
theorem n8 {w:World} {O:Nat->Prop} {k v:Ty}:∀ {b:List MapEntry} {l:List (k.den×v.den)},Nk w O k v b l->∀x∈l,k.ok x.1/\v.ok x.2
 | [],[],_,x,a=>by cases a
 | [],_ :: _,h,_,_=>h.elim
 | _ :: _,[],h,_,_=>h.elim
 | e :: b,y :: l,⟨⟨_,h1,_⟩,⟨_,c,_⟩,d⟩,x,a=>by
  rcases GO.1 a with rfl|a
  .exact⟨HW h1,HW c⟩
  exact n8 d x a
theorem ZS {V:Vw} {o:Obj} {loc:Value} (h:A7 V o loc):xY o:=by
 cases o with
 | arr et e xs =>
  obtain⟨n,cells,_,c⟩:=h;refine⟨n,λx f=>?_⟩;obtain⟨i,hi,rfl⟩:=AAy.1 f;obtain⟨g,_,_,d⟩:=c i _ (AT hi);exact HW d
 | box et st fs=>obtain⟨_,b,cs,_,_,a⟩:=h;exact n7 a
 | mapo k v l=>obtain⟨b,g,cl,_,_,a,_⟩:=h;exact n8 a
 | nest et q k e xs m =>
  cases m with
  | some i=>trivial
  | none =>
   obtain⟨o,ins,cells,_,j⟩:=h;have c:=Nn (O':=λ_=>False) (λ_ _ h=>h) j (λ_ _ _ _ _ h=>h);refine⟨j.max,λx f=>?_⟩;obtain⟨i,hi,rfl⟩:=AAy.1 f;obtain⟨g,_,_,d⟩:=c i _ (AT hi);exact HW d
 | frame w fs=>trivial
 | loop L=>trivial
 | itr r u s t p=>trivial
 | dfr=>trivial
 | sit sb sp=>trivial
theorem TB:∀ {l:List (Nat×Obj)},LO l=true->(∀n o,lk n l=some o->xY o)->Nv l
 | [],_,_=>trivial
 | (n,o) :: r,hk,h=>by
  simp only[LO,An,OF,ACb]at hk;refine⟨h n o (by simp[lk]),TB hk.2 λm x a=>h m x ?_⟩;simp only[lk];rw[As (λe=>hk.1 _ (E5 a) e)];exact a
theorem n9:∀(l:List AV) (a:List Value) (k:Nat) (V:Vw),HY V l a->∀s v,lk s (Am k l)=some v->k<=s/\∃u,a[s-k]?=some u/\Bx V v u
 | [],a,k,V,h,s,v,hs=>by simp[Am,lk]at hs
 | x :: l,a,k,V,h,s,v,hs=>by
  obtain⟨u,r,rfl,h1,b⟩:=h;simp only[Am,lk]at hs;split at hs
  .grind
  obtain⟨c,f,d,e⟩:=n9 l r (k+1) V b s v hs;grind
theorem IC {V:Vw}:∀ {l:List AV} {a:List Value},HY V l a->a.length=l.length
 | [],a,h=>by have h:a=[]:=h;subst h;rfl
 | _ :: _,_,⟨_,_,rfl,_,h⟩=>by simp[IC h]
def cm (P:Program) (tb:Tb) (w0:World) (K O0:Nat->Prop) (nt:Nat) (pin:List (Nat×Value)):Cx:={ P:=P,tb:=tb,w0:=w0,K:=K,O0:=O0,nt:=nt,ds:={ pin:=pin } }
theorem oA {tb:Tb} {w0:World} {O0:Nat->Prop} {nt:Nat} {pin:List (Nat×Value)}:(cm P tb w0 K O0 nt pin).tb=tb:=rfl
def R3 (objs:List (Nat×Obj)) (n:Nat):Bool :=
 match lk n objs with
 | some (.arr _ _ _)=>Gl n
 | some (.nest _ _ _ _ _ _)=>Gl n
 | some _=>true
 | none=>false
theorem UV {tb:Tb} {w0:World} {O0:Nat->Prop} {nt:Nat} {args:List AV} {objs:List (Nat×Obj)} {ρ:Nat->Value} {c:List Value} (f:sZ K O0 objs ρ w0) (r:HY (vw w0 O0 ⟨[],objs⟩ ρ) args c) (q:d.all (R3 objs)=true) (x:c.length<=nt) :
  (cm P tb w0 K O0 nt (d.map λn=>(n,ρ n))).sat ⟨Am 0 args,objs⟩ { tmps:=c.toArray++Array.replicate (nt-c.toArray.size) undef,defers:=[] } w0:=by
 refine⟨ρ,⟨rfl,rfl,rfl,OS _,λ_ _=>rfl⟩,by simp[cm];omega,rfl,λp m=>?_,f.obj,f.free,f.dist,λs v hs=>?_⟩
 .obtain⟨n,hn,rfl⟩:=IS.1 m;have:=(OF.1 q) n hn;unfold R3 at this;cases g:lk n objs with
  | none=>rw[g]at this;cases this
  | some o =>
   rw[g]at this;refine⟨⟨o,g⟩,rfl,?_⟩;have stay:=f.obj n o g;cases o with
   | arr et e xs=>exact .inr this
   | nest et z k e xs w=>exact .inr this
   | box et st fs=>obtain⟨_,b,cs,a,_⟩:=stay;rw[a];exact .inl rfl
   | mapo k v l=>obtain⟨b,t,cl,a,_⟩:=stay;rw[a];exact .inl rfl
   | frame E fs=>obtain⟨a,_⟩:=stay;rw[a];exact .inl rfl
   | loop L=>obtain⟨b,a,_⟩:=stay;rw[a];exact .inl rfl
   | itr A D B C y=>obtain⟨b,a,_⟩:=stay;rw[a];exact .inl rfl
   | dfr=>obtain⟨b,a,_⟩:=stay;rw[a];exact .inl rfl
   | sit sb sp=>obtain⟨b,a,_⟩:=stay;rw[a];exact .inl rfl
 obtain⟨_,u,h1,i⟩:=n9 args c 0 _ r s v hs;have h1:c[s]?=some u:=by simpa using h1
 have h:s<c.length:=(QO.1 h1).1;have j:(c.toArray++Array.replicate (nt-c.toArray.size) undef).getD s undef=u:=by
  have:c[s]=u:=by rw[AT h]at h1;injection h1
  simp[Array.getElem?_append,h,this]
 rw[j];exact i
def A3m (P:Program) (fn:Func) (w0:World) (K O0:Nat->Prop) (stay:List Nat) (ρ0:Nat->Value) (post:AV->List (Nat×Obj)->Prop):Exit->Act->World->Prop :=
 bodyPost P fn λe w'=>∃u,e=.returned u/\LX K O0 stay w0 ρ0 post u w'
theorem A6B {tb:Tb} {fn:Func} {cd:Code} {nt:Nat} {args:List AV} {objs:List (Nat×Obj)} {post:AV->List (Nat×Obj)->Prop}
  (c : P.funcs[f]? = some fn) (k : (fn.name == "runtime.NumGoroutine") = false) (b : fn.body = some cd) (l : fn.ntmps = nt) (q : args.length <= nt)
  (i:Bg nt cd=true) (p:d.all (R3 objs)=true) (j:LO objs=true) (hT:C5 P tb) (hF:H9 P tb)
  (h:∀(w0:World) (K O0:Nat->Prop) (ρ0:Nat->Value),(cm P tb w0 K O0 nt (d.map λn=>(n,ρ0 n))).Ok->PP args->Nv objs ->
   Ev (cm P tb w0 K O0 nt (d.map λn=>(n,ρ0 n))) (A3m P fn w0 K O0 d ρ0 post) (.run cd) [] ⟨Am 0 args,objs⟩):BB P f args objs d post:=by
 refine⟨⟨fn,c,k,by simp[b]⟩,λw K O0 ρ s e g hG stay a=>?_⟩;refine calls_of_wp c b ((wpIn_wide (n:=0)).1 ?_);have r:=IC a;rw[l];exact h w K O0 ρ ⟨e,g,hT,hF,hG⟩ (TA a) (TB j λn o m=>ZS (stay.obj n o m)) i rfl _ _ (UV stay a p O1)
def s4 (tb:Tb) (σ:St) (rv:ResultVar):AV->Prop
 | .p t d=>Ij σ t (Ii tb σ rv)=some d
 | x=>Ii tb σ rv=some x
def Qj (tb:Tb) (σ:St):List ResultVar->List AV->Prop
 | [],[]=>True
 | rv :: a,x :: l=>s4 tb σ rv x/\Qj tb σ a l
 | _,_=>False
def XS:AV->Bool
 | .tup _=>false
 | _=>true
def R4 (tb:Tb) (σ:St):List ResultVar->AV->Prop
 | [],x=>x=.raw (.tuple #[])
 | [rv],x=>s4 tb σ rv x
 | a,.tup l=>l.all XS=true/\Qj tb σ a l
 | _,_=>False
section
variable {P:Program} {tb:Tb} {w0:World} {K O0:Nat->Prop} {nt:Nat} {ds:Fp} {σ:St} {ρ:Nat->Value} {a:Act} {w:World}
theorem oB (hT:C5 P tb) (hs:B2 w0 K O0 nt ds σ ρ a w) {rv:ResultVar} (h:s4 tb σ rv x):∃u,(I6 a.tmps rv).run P w=.ok u w/\Bx (vw w O0 σ ρ) x u:=by
 by_cases e:∃t d,x=.p t d
 .obtain⟨t,d,rfl⟩:=e;simp only[s4]at h;cases c:Ii tb σ rv with
  | none=>rw[c]at h;simp[Ij]at h
  | some v =>
   rw[c]at h;simp only[Ij]at h;obtain⟨u,h1,f⟩:=S1 hT hs c;exact⟨u,h1,FA (V:=vw w O0 σ ρ) (O':=own O0 σ ρ) (λb g i=>g i) (λh=>by cases h) hs.objs h f⟩
 have h:Ii tb σ rv=some x:=by
  cases x<;>first|exact h|exact absurd ⟨_,_,rfl⟩ e
 exact S1 hT hs h
theorem A8G {V:Vw} {v:Value} (hn:XS x=true) (h:Bx V x v):Rl V x v:=by
 cases x<;>first|(simp[XS]at hn;done)|exact h
theorem XT (hT:C5 P tb) (hs:B2 w0 K O0 nt ds σ ρ a w):∀ {c:List ResultVar} {l:List AV},l.all XS=true->Qj tb σ c l ->
  ∃b:List Value,(c.mapM (I6 a.tmps)).run P w=.ok b w/\b.length=l.length/\HR (vw w O0 σ ρ) l b
 | [],[],_,_=>⟨[],by simp,rfl,rfl⟩
 | [],_ :: _,_,h=>h.elim
 | _ :: _,[],_,h=>h.elim
 | rv :: c,x :: l,hn,h=>by
  simp only[ABr,An]at hn;obtain⟨u,h1,d⟩:=oB hT hs h.1;obtain⟨b,g,e,f⟩:=XT hT hs hn.2 h.2;refine⟨u :: b,?_,by simp[e],u,b,rfl,A8G hn.1 d,f⟩
  simp_all
theorem UW {tb:Tb} {σ:St}:∀ {a:List ResultVar} {l:List AV},Qj tb σ a l->a.length=l.length
 | [],[],_=>rfl
 | [],_ :: _,h=>h.elim
 | _ :: _,[],h=>h.elim
 | _ :: _,_ :: _,h=>by simp[UW h.2]
theorem UX (hT:C5 P tb) (hs:B2 w0 K O0 nt ds σ ρ a w) {fn:Func} (h:R4 tb σ fn.results.toList x):∃u,(results fn a.tmps).run P w=.ok u w/\Bx (vw w O0 σ ρ) x u:=by
 have key:∀b:List Value,(fn.results.toList.mapM (I6 a.tmps)).run P w=.ok b w->(results fn a.tmps).run P w=.ok (if h:b.toArray.size=1 then b.toArray[0] else .tuple b.toArray) w:=by
  intro b h1;rw[Ns];have g:(fn.results.mapM (I6 a.tmps)).run P w=.ok b.toArray w:=by
   rw[ABG];simp only[Sem.run_map,h1,AAp]
  simp only[AAK,g,AAp,ABd]
 generalize fn.results.toList=m at h key;unfold R4 at h;split at h
 .subst h;exact⟨_,key [] sc,rfl⟩
 .rename_i rv;obtain⟨u,h1,c⟩:=oB hT hs h;exact⟨_,key [u] (by simp[h1]),c⟩
 .rename_i l k i;obtain⟨b,h1,c,d⟩:=XT hT hs h.1 h.2;have f:=UW h.2;refine⟨_,key b h1,?_⟩;have:¬b.toArray.size=1:=by
   intro e;have e:b.length=1:=by simpa using e
   rw[c,<-f]at e;obtain⟨z,j⟩:=AAV.1 e;exact i z j
  rw[dif_neg this];exact⟨b,rfl,d⟩
 exact h.elim
end
theorem A3n {tb:Tb} {w0:World} {O0:Nat->Prop} {nt:Nat} {fn:Func} {post:AV->List (Nat×Obj)->Prop} {σ:St} {e:Exit} (f:(cm P tb w0 K O0 nt (d.map λn=>(n,V n))).Ok)
  (c:List ResultVar) (j:fn.results.toList=c) (g:e=.ret\/e=.normal) (res:AV) (h:R4 tb σ c res) (i:post res σ.objs) :
  Ev (cm P tb w0 K O0 nt (d.map λn=>(n,V n))) (A3m P fn w0 K O0 d V post) (.out e) [] σ:=by
 intro _ _ a w hs;obtain⟨ρ,hs⟩:=hs;obtain⟨u,h1,ρ0⟩:=UX f.T hs (by rw[j];exact h);have b:LX K O0 d w0 V post u w:=by
  refine⟨res,σ.objs,ρ,i,hs.frm,⟨hs.objs,hs.free,hs.dist⟩,ρ0,λn hn=>?_⟩;exact(hs.pin (n,V n) (IS.2 ⟨n,hn,rfl⟩)).2.1
 rcases g with rfl|rfl
 .exact⟨hs.defers,u,h1,u,rfl,b⟩
 exact⟨hs.defers,u,h1,u,rfl,b⟩
end
section
open Go Go.RowKit
def EP:Option AV->Option (FuncId×List Nat)
 | some (.fn f)=>some (f,[])
 | some (.clo f ns)=>if f<1000000 then some (f,ns) else none
 | _=>none
def LY (σ:St):List Operand->Option (List AV)
 | []=>some []
 | x :: r=>match Ag σ x,LY σ r with
  | some v,some a=>some (v :: a)
  | _,_=>none
def LZ (σ:St) (ren:List (Nat×CD)) (x:AV):AV->Prop
 | .p t d=>IZ false σ t x=some d
 | y=>B3 ren x y
def Bt (σ:St) (ren:List (Nat×CD)):List AV->List AV->Prop
 | [],[]=>True
 | x :: l,y :: r=>LZ σ ren x y/\Bt σ ren l r
 | _,_=>False
def Ax:List (Nat×CD)->List Nat
 | []=>[]
 | (_,.nm n) :: r=>n :: Ax r
 | (_,.nil) :: r=>Ax r
def A5L (m:Nat):Option CD->Bool
 | some (.nm a)=>a==m
 | _=>false
def A5M (n:Nat) (f:Option CD) (m:Nat):Option CD->Bool
 | some (.nm a)=>a==n&&A5L m f
 | _=>false
def JA (ren a:List (Nat×CD)) (stay hs:List Nat):Bool:=(Ax ren).all λn=>Ab n hs||ren.any λp=>Ab p.1 stay&&A5M n (lk n a) p.1 (lk p.1 ren)
def F6 (a:List Nat) (b objs:List (Nat×Obj)):Bool:=b.all λp=>Ab p.1 a||(lk p.1 objs).isNone
def Nw (dst:Option Nat) (v:AV) (env:List (Nat×AV)):List (Nat×AV) :=
 match dst with
 | some d=>(d,v) :: env
 | none=>env
def C6 (σ:St) (a hs:List Nat) (dst:Option Nat) (res:AV) (b:List (Nat×Obj)):St:=⟨Nw dst res (Cq hs σ.env),b++Az a hs σ.objs⟩
theorem Nx {n:Nat}:∀ {l:List (Nat×CD)},n∈Ax l↔∃m,(m,CD.nm n)∈l
 | []=>by simp[Ax]
 | (m,.nm k) :: r=>by
  simp only[Ax,GO,Nx (l:=r),ACp,CD.nm.injEq];grind
 | (m,.nil) :: r=>by
  simp only[Ax,GO,Nx (l:=r),ACp];grind
theorem TC {V:Vw} {σ:St} {ev:Operand->Value} (b:EM V σ ev):∀ {xs:List Operand} {a:List AV},LY σ xs=some a->HY V a (xs.map ev)
 | [],a,h=>by simp only[LY]at h;cases h;exact(rfl:_=_)
 | x :: r,a,h=>by
  simp only[LY]at h;split at h
  .rename_i v l h1 c;cases h;exact⟨ev x,r.map ev,rfl,b x v h1,TC b c⟩
  cases h
section
variable {V V':Vw} {ren:List (Nat×CD)} {σ:St}
theorem UY (f:Kx ren V V') (g:∀b,¬V.O b->¬V'.O b) (i:∀n o,lk n σ.objs=some o->A7 V o (V.ρ n)):∀ {l r:List AV} {e:List Value},Bt σ ren l r->HY V l e->HY V' r e
 | [],[],e,_,h=>h
 | [],_ :: _,_,a,_=>a.elim
 | _ :: _,[],_,a,_=>a.elim
 | x :: l,y :: r,e,a,h=>by
  obtain⟨v,l',rfl,h1,k⟩:=h;refine⟨v,l',rfl,?_,UY f g i a.2 k⟩;have c:=a.1;by_cases j:∃t d,y=.p t d
  .obtain⟨t,d,rfl⟩:=j;have c:IZ false σ t x=some d:=c;have:=FA (V:=V) (O':=V'.O) g (λh=>by cases h) i c h1;show BS V'.w V'.O t v d;rw[f.w];exact this
  have c:B3 ren x y:=by
   cases y<;>first|exact c|exact absurd ⟨_,_,rfl⟩ j
  exact MZ f c h1
end
section
variable {c:Cx} {R:Exit->Act->World->Prop} {k:List Ca} {σ:St}
theorem A3o {c:Cx} {a:Act} {dst:Option Nat} {u:Value} {y:AV} {V:Vw} {env:List (Nat×AV)} {res:AV} (f:a.tmps.size=c.nt) (b:∀d,dst=some d->d<c.nt) (g:Bx V res u) (e:∀s v,lk s env=some v->Bx V v (a.tmps.getD s undef))
  (h:lk s (Nw dst res env)=some y):Bx V y ((a.put dst u).tmps.getD s undef):=by
 cases dst with
 | none=>exact e s y h
 | some d =>
  rw[MS a d u s (by rw[f];exact b d rfl)];simp only[Nw,lk]at h;split at h
  .grind
  grind
theorem Mf (aa:c.Ok) {dst:Option Nat} {ρ:Nat->Value} {a:Act} {w:World} (g:B2 c.w0 c.K c.O0 c.nt c.ds σ ρ a w) {as:List AV} {bl:List Value} (bs:HY (vw w c.O0 σ ρ) as bl)
  {A:List AV} {objs:List (Nat×Obj)} (stay:List Nat) (post:AV->List (Nat×Obj)->Prop)
  (ren:List (Nat×CD)) (h1:CR ren=true) (au:Cn objs ren=true) (bn:Bt σ ren as A) (ay:Al σ.objs ren objs)
  (hs:List Nat) (ci:(c.ds.pin.all λp=>!Ab p.1 hs)=true) {next:Act->World->Prop} (bu:∀d,dst=some d->d<c.nt)
  (hk:∀res S,post res S->∃(t:List (Nat×CD)) (ag:AV) (o:List (Nat×Obj)),CR t=true/\Cn o t=true/\Al S t o/\B3 t res ag /\
   JA ren t stay hs=true/\F6 (Ax ren) o σ.objs=true/\∀ao w',c.sat (C6 σ (Ax ren) hs dst ag o) ao w'->next ao w') :
  ∃(I D:Nat->Prop) (r:Nat->Value),(∀b,I b->b<w.heap.size)/\(∀b,D b->b<w.heap.size)/\GW w I D/\sZ I D objs r w/\HY (vw w D ⟨[],objs⟩ r) A bl/\(∀m n,lk m ren=some (.nm n)->r m=ρ n) /\
   ∀u w',LX I D stay w r post u w'->next (a.put dst u) w':=by
 let r:Nat->Value:=λm=>match lk m ren with|some (.nm n)=>ρ n|_=>.slice none 0 0
 have af:∀m n,lk m ren=some (.nm n)->r m=ρ n:=λm n f=>by simp[r,f]
 have bh:∀m,lk m ren=some .nil->r m=.slice none 0 0:=λm f=>by simp[r,f]
 let D:Nat->Prop:=λb=>c.O0 b\/∃n,Gk σ n/\n∉Ax ren/\bk (ρ n) b
 let I:Nat->Prop:=λb=>b<w.heap.size/\¬ ∃m,Gk ⟨[],objs⟩ m/\bk (r m) b
 have N:∀m b,Gk ⟨[],objs⟩ m->bk (r m) b->∃n,lk m ren=some (.nm n)/\Gk σ n/\bk (ρ n) b:=by
  rintro m b ⟨an,f⟩ e;have hf:=DE ay f;cases l:lk m ren with
  | none=>rw[l]at hf;exact hf.elim
  | some fr =>
   cases fr with
   | nil=>rw[bh m l]at e;simp[bk,blk]at e
   | nm n =>
    rw[l]at hf;rw[af m n l]at e;refine⟨n,rfl,?_,e⟩;cases hn:lk n σ.objs with
    | none=>simp only[HX,hn,Jz]at hf
    | some x=>exact⟨x,hn⟩
 have ca:∀m fr,lk m ren=some fr->Gk ⟨[],objs⟩ m:=λm fr f=>by
  simp only[Cn,OF]at au;exact ABn.1 (au _ (E5 f))
 have ct:∀m n,lk m ren=some (.nm n)->n∈Ax ren:=λm n f=>Nx.2 ⟨m,E5 f⟩;have bb:∀b,¬own c.O0 σ ρ b->¬own D ⟨[],objs⟩ r b:=by
  intro b e B;rcases B with (h0|⟨n,hn,_,i⟩)|⟨m,f,k⟩
  .exact e (.inl h0)
  .exact e (.inr ⟨n,hn,i⟩)
  obtain⟨n,_,hn,i⟩:=N m b f k;exact e (.inr ⟨n,hn,i⟩)
 have az:Kx ren (vw w c.O0 σ ρ) (vw w D ⟨[],objs⟩ r):=⟨rfl,bb,af,bh,ca⟩;have cd:sZ I D objs r w:=by
  refine⟨λm an f=>Qd az g.objs (DE ay f),λm b f e=>⟨λbp=>bp.2 ⟨m,f,e⟩,λh0=>?_⟩,λm W b f ak e B=>?_⟩
  .obtain⟨n,l,hn,i⟩:=N m b f e;rcases h0 with h0|⟨q,E,C,Y⟩
   .exact(g.free n b hn i).2 h0
   have:=g.dist n q b hn E i Y;grind
  obtain⟨n,l,hn,i⟩:=N m b f e;obtain⟨q,bf,E,Y⟩:=N W b ak B;have:=g.dist n q b hn E i Y;grind [S2]
 have br:∀b,D b->b<w.heap.size:=by
  rintro b (h0|⟨n,⟨an,hn⟩,_,i⟩)
  .exact AAJ (aa.O b h0) g.frm.size
  exact(g.objs n an hn).block_lt i
 have bx:GW w I D:=aa.G.mono (λb hk cg=>⟨⟨AAJ (aa.K b hk) g.frm.size,λ⟨m,f,k⟩=>by
  obtain⟨n,_,hn,i⟩:=N m b f k;exact(g.free n b hn i).1 hk⟩,λh0=>by
  rcases h0 with h0|⟨n,hn,_,i⟩
  .exact cg h0
  exact(g.free n b hn i).1 hk⟩) g.frm.block
 refine⟨I,D,r,λb e=>e.1,br,bx,cd,UY az bb g.objs bn bs,af,?_⟩;rintro u w' ⟨res,S,ρ',cj,P,V,bt,ck⟩;obtain⟨t,ag,o,cr,ap,ah,bm,aq,ar,ce⟩:=hk res S cj;refine ce _ _ ?_
 let H:Nat->Value:=λn=>match lk n t with|some (.nm m)=>ρ' m|some .nil=>.slice none 0 0|none=>ρ n
 have ai:∀n m,lk n t=some (.nm m)->H n=ρ' m:=λn m hn=>by simp[H,hn]
 have av:∀n,lk n t=some .nil->H n=.slice none 0 0:=λn hn=>by simp[H,hn]
 have cs:∀n,lk n t=none->H n=ρ n:=λn hn=>by simp[H,hn]
 let σ2:=C6 σ (Ax ren) hs dst ag o
 have ch:σ2.objs=o++Az (Ax ren) hs σ.objs:=rfl;have aj:∀n,lk n σ2.objs=(lk n o).or (lk n (Az (Ax ren) hs σ.objs)):=λn=>by rw[ch,A9]
 have bc:∀n fr,lk n t=some fr->∃x,lk n o=some x:=λn fr hn=>by
  simp only[Cn,OF]at ap;exact ABn.1 (ap _ (E5 hn))
 have bv:∀n x,lk n o=some x->∃fr,lk n t=some fr:=λn x hn=>by
  have hf:=DE ah hn;cases l:lk n t with
  | none=>rw[l]at hf;exact hf.elim
  | some fr=>exact⟨fr,rfl⟩
 have bw:∀n x,lk n o=some x->n∈Ax ren\/lk n σ.objs=none:=λn x hn=>by
  simp only[F6,OF,oN]at ar;rcases ar _ (E5 hn) with h|h
  .exact .inl ((Ai _ _).1 h)
  exact .inr (by simpa using h)
 have J:∀n x,lk n (Az (Ax ren) hs σ.objs)=some x->n∉Ax ren/\lk n o=none/\∃y,lk n σ.objs=some y/\x=y.fgt hs:=by
  intro n x hn;rw[CQ]at hn;split at hn
  .cases hn
  rename_i C;simp only[No]at hn;obtain⟨y,j,rfl⟩:=hn;have C:n∉Ax ren:=λh=>C ((Ai _ _).2 h);refine⟨C,?_,y,j,rfl⟩;cases X:lk n o with
  | none=>rfl
  | some z =>
   rcases bw n z X with h|h
   .exact absurd h C
   rw[h]at j;cases j
 have T:∀n x,lk n σ2.objs=some x->lk n o=some x\/(lk n o=none/\lk n (Az (Ax ren) hs σ.objs)=some x):=by simp_all
 have R:∀n x b,lk n o=some x->bk (H n) b->∃m,lk n t=some (.nm m)/\Gk ⟨[],S⟩ m/\bk (ρ' m) b:=by
  intro n x b hn e;have hf:=DE ah hn;obtain⟨fr,l⟩:=bv n x hn;cases fr with
  | nil=>rw[av n l]at e;simp[bk,blk]at e
  | nm m =>
   rw[l]at hf;rw[ai n m l]at e;refine⟨m,l,?_,e⟩;cases hn:lk m S with
   | none=>simp only[HX,hn,Jz]at hf
   | some z=>exact⟨z,hn⟩
 have M:∀n,lk n o=none->H n=ρ n:=λn hn=>by grind
 have ba:Kx t (vw w' D ⟨[],S⟩ ρ') (vw w' c.O0 σ2 H):=by
  refine⟨rfl,λb e B=>?_,ai,av,λn fr hn=>?_⟩
  .rcases B with h0|⟨n,⟨x,hn⟩,i⟩
   .exact e (.inl (.inl h0))
   rcases T n x hn with hn|⟨F,hn⟩
   .obtain⟨m,_,f,k⟩:=R n x b hn i;exact e (.inr ⟨m,f,k⟩)
   obtain⟨C,_,y,j,_⟩:=J n x hn;rw[M n F]at i;exact e (.inl (.inr ⟨n,⟨y,j⟩,C,i⟩))
  obtain⟨x,ae⟩:=bc n fr hn;exact⟨x,by rw[aj,ae];rfl⟩
 have bo:∀b,(∃m,Gk ⟨[],objs⟩ m/\bk (r m) b)->own c.O0 σ ρ b:=by
  rintro b ⟨m,f,e⟩;obtain⟨n,_,hn,i⟩:=N m b f e;exact .inr ⟨n,hn,i⟩
 have aw:∀b,b<w.heap.size->¬own c.O0 σ ρ b->I b:=λb Q e=>⟨Q,λh=>e (bo b h)⟩;have ad:Cm ((vw w c.O0 σ ρ).buts hs) (vw w' c.O0 σ2 H):=by
  have ax:∀n,Gk σ n->Ab n hs=false->Gk σ2 n/\H n=ρ n:=by
   intro n hn cf;by_cases hh:n∈Ax ren
   .simp only[JA,OF,oN]at aq;rcases aq n hh with h|h
    .rw[cf]at h;cases h
    simp only[aT,An]at h;obtain⟨⟨m,fr⟩,al,bg,U⟩:=h;simp only at bg U;unfold A5M at U;split at U
    .rename_i q cb;simp only[An,AAb]at U;obtain⟨rfl,ab⟩:=U;unfold A5L at ab;split at ab
     .rename_i W bd;have:W=m:=by simpa using ab
      subst this;obtain⟨x,ae⟩:=bc _ _ bd;refine⟨⟨x,by rw[aj,ae];rfl⟩,?_⟩;rw[ai _ _ bd,ck W ((Ai _ _).1 bg)];exact af _ _ cb
     cases ab
    cases U
   obtain⟨x,ae⟩:=hn;have l:lk n (Az (Ax ren) hs σ.objs)=some (x.fgt hs):=by grind [CQ,Ai]
   obtain⟨_,F,_⟩:=J n _ l;exact⟨⟨_,by rw[aj,F,l];rfl⟩,M n F⟩
  refine⟨λb Q e B=>?_,λn hn=>(ax n hn.1 hn.2).1,λn hn=>(ax n hn.1 hn.2).2,λb Q e=>P.block b (aw b Q e)⟩;have Q:b<w.heap.size:=Q;have e:¬own c.O0 σ ρ b:=e;rcases B with h0|⟨n,⟨x,hn⟩,i⟩
  .exact e (.inl h0)
  rcases T n x hn with hn|⟨F,hn⟩
  .obtain⟨m,_,f,k⟩:=R n x b hn i;exact(V.free m b f k).1 (aw b Q e)
  obtain⟨C,_,y,j,_⟩:=J n x hn;rw[M n F]at i;exact e (.inr ⟨n,⟨y,j⟩,i⟩)
 have bq:∀b,c.K b->I b:=λb e=>⟨AAJ (aa.K b e) g.frm.size,λ⟨m,f,k⟩=>by
  obtain⟨n,_,hn,i⟩:=N m b f k;exact(g.free n b hn i).1 e⟩
 refine⟨H,⟨P.os.trans g.frm.os,P.tape.trans g.frm.tape,P.output.trans g.frm.output,iF g.frm.size P.size,λb e=>(P.block b (bq b e)).trans (g.frm.block b e)⟩,by rw[Ox];exact g.nt,by rw[Jr];exact g.defers,λp al=>?_,λn x hn=>?_,λn b X e=>?_,λn q b X bz e B=>?_,λs v cl=>?_⟩
 .obtain⟨bi,cn,co⟩:=g.pin p al;have bj:Ab p.1 hs=false:=by simpa using (OF.1 ci) p al
  have cp:=ad.ρ p.1 ⟨bi,bj⟩;exact⟨ad.L p.1 ⟨bi,bj⟩,cp.trans cn,co⟩
 .rcases T n x hn with hn|⟨F,hn⟩
  .exact Qd ba V.obj (DE ah hn)
  obtain⟨C,_,y,j,rfl⟩:=J n x hn;rw[M n F];refine ZK ad (λb e=>?_) (g.objs n y j);refine P.block b ⟨(g.objs n y j).block_lt e,λ⟨m,f,k⟩=>?_⟩;obtain⟨q,bf,E,Y⟩:=N m b f k;have:=g.dist n q b ⟨y,j⟩ E e Y;grind
 .obtain⟨x,hn⟩:=X;rcases T n x hn with hn|⟨F,hn⟩
  .obtain⟨m,_,f,k⟩:=R n x b hn e;have:=V.free m b f k;grind
  obtain⟨C,_,y,j,rfl⟩:=J n x hn;rw[M n F]at e;exact g.free n b ⟨y,j⟩ e
 .obtain⟨x,hn⟩:=X;obtain⟨Z,E⟩:=bz;rcases T n x hn with hn|⟨F,hn⟩<;>rcases T q Z E with E|⟨be,E⟩
  .obtain⟨m,l,f,k⟩:=R n x b hn e;obtain⟨W,bf,ak,cc⟩:=R q Z b E B;have:=V.dist m W b f ak k cc;grind [S2]
  .exfalso;obtain⟨m,l,f,k⟩:=R n x b hn e;obtain⟨C,_,y,j,rfl⟩:=J q Z E;rw[M q be]at B;exact(V.free m b f k).2 (.inr ⟨q,⟨y,j⟩,C,B⟩)
  .exfalso;obtain⟨m,l,f,k⟩:=R q Z b E B;obtain⟨C,_,y,j,rfl⟩:=J n x hn;rw[M n F]at e;exact(V.free m b f k).2 (.inr ⟨n,⟨y,j⟩,C,e⟩)
  obtain⟨_,_,y,j,rfl⟩:=J n x hn;obtain⟨_,_,cq,cm,rfl⟩:=J q Z E;rw[M n F]at e;rw[M q be]at B;exact g.dist n q b ⟨y,j⟩ ⟨cq,cm⟩ e B
 refine A3o (c:=c) g.nt bu (MZ ba bm bt) (λs v am=>?_) cl;rw[F5]at am;simp only[No]at am;obtain⟨y,j,rfl⟩:=am;exact(Sz (g.env s y j)).keeps ad
theorem oC (af:c.Ok) {o:Oper} {dst:Option Nat} {xs:List Operand} {ts:Array TypeId} (K:o.op=.call { callee:=.value g,args:=xs.toArray,argTypes:=ts }) (aj:o.dst=dst)
  {k:List Nat} (j:EP (Ag σ g)=some (f,k)) {as:List AV} (ab:LY σ xs=some as)
  {A:List AV} {objs:List (Nat×Obj)} {stay:List Nat} {post:AV->List (Nat×Obj)->Prop} (B:BB c.P f A objs stay post)
  (ren:List (Nat×CD)) (h1:CR ren=true) (S:Cn objs ren=true) (T:Bt σ ren (as++k.map λn=>AV.bp n [] 0) A) (W:Al σ.objs ren objs)
  (hs:List Nat) (ap:(c.ds.pin.all λp=>!Ab p.1 hs)=true) {next:Act->World->Prop} {Q:Exit->Act->World->Prop} {a:Act} {w:World} (au:c.sat σ a w) (ai:∀d,dst=some d->d<c.nt)
  (hk:∀res M,post res M->∃(s:List (Nat×CD)) (N:AV) (z:List (Nat×Obj)),CR s=true/\Cn z s=true/\Al M s z/\B3 s res N /\
   JA ren s stay hs=true/\F6 (Ax ren) z σ.objs=true/\∀G w',c.sat (C6 σ (Ax ren) hs dst N z) G w'->next G w'):o.wpIn (FR c.r) 0 c.P a w next Q:=by
 obtain⟨ρ,L⟩:=au;have I:EM (vw w c.O0 σ ρ) σ a.eval:=CY L.env;obtain⟨⟨fn,ak,ao,ae⟩,B⟩:=B;obtain⟨m,al,ah⟩:∃m:List Value,a.eval g=.func (.func f) #[] m.toArray/\HY (vw w c.O0 σ ρ) (k.map λn=>AV.bp n [] 0) m:=by
  cases D:Ag σ g with
  | none=>rw[D]at j;simp[EP]at j
  | some H =>
   rw[D]at j;have C:=I g H D;cases H<;>simp only[EP]at j<;>try(cases j;done)
   .cases j;exact⟨[],C,rfl⟩
   rename_i ay ns;split at j<;>cases j;rename_i am;refine⟨k.map ρ,C.1.trans (At am),?_⟩;have h0:∀l:List Nat,(∀n∈l,n∈k)->HY (vw w c.O0 σ ρ) (l.map λn=>AV.bp n [] 0) (l.map ρ):=by
    intro l;induction l with
    | nil=>intro _;exact rfl
    | cons n r F =>
     intro J;obtain⟨q,b,i⟩:=C.2 n (J n sc);have i:ρ n=_:=i;exact⟨ρ n,r.map ρ,rfl,⟨q,b,i,i⟩,F λx av=>J x (by simp[av])⟩
   exact h0 k λ_ h=>h
 have aa:=TC I ab;have Z:∀ {l r:List AV} {t y:List Value},HY (vw w c.O0 σ ρ) l t->HY (vw w c.O0 σ ρ) r y->HY (vw w c.O0 σ ρ) (l++r) (t++y):=by
  intro l;induction l with
  | nil=>intro r t y hu E;have hu:t=[]:=hu;subst hu;exact E
  | cons x l F =>
   intro r t y hu E;obtain⟨v,aw,rfl,q,i⟩:=hu;exact⟨v,aw++y,rfl,q,F i E⟩
 have Y:=Z aa ah;have ar:(execOp a.eval o).run c.P w=.ok (.enter f (xs.map a.eval++m).toArray) w:=by
  have q : ¬ fn.name = "runtime.NumGoroutine" := by simpa using ao
  have i:¬fn.body=none:=by intro e;simp[e]at ae
  simp[execOp,K,resolve,Deferred.ofValue,al,invoke,callFunc,ak,q,i]
 obtain⟨O,R,ax,V,X,U,an,ad,_,aq⟩:=Mf af L Y stay post ren h1 S T W hs ap ai hk;have ag:=B w O R ax (xs.map a.eval++m) V X U an ad;refine⟨λ_ _=>trivial,?_⟩;rw[EO _ _ _ (λcl e=>by rw[K]at e;cases e),ar,ACh];refine⟨λh=>(by simp[FR]at h),HV (ag.mono λe w' hh=>?_)⟩;obtain⟨u,rfl,hh⟩:=hh;rw[aj];exact aq u w' hh
theorem xZ (D:c.Ok) {ops:Array Oper} {rest:List Oper} {dst:Option Nat} {xs:List Operand} {ts:Array TypeId} {ty:TypeId} {pos:String} {after:Array Edge}
  {i:List Nat} (E:EP (Ag σ g)=some (f,i)) {as:List AV} (C:LY σ xs=some as)
  {A:List AV} {objs:List (Nat×Obj)} {stay:List Nat} {post:AV->List (Nat×Obj)->Prop} (z:BB c.P f A objs stay post)
  (ren:List (Nat×CD)) (hs:List Nat) (h1:CR ren=true) (v:Cn objs ren=true) (I:(c.ds.pin.all λp=>!Ab p.1 hs)=true) (x:Bt σ ren (as++i.map λn=>AV.bp n [] 0) A) (B:Al σ.objs ren objs)
  (hk:∀res e,post res e->∃(b:List (Nat×CD)) (h:AV) (d:List (Nat×Obj)),CR b=true/\Cn d b=true/\Al e b d/\B3 b res h /\
   JA ren b stay hs=true/\F6 (Ax ren) d σ.objs=true/\D1 c R k ops rest (C6 σ (Ax ren) hs dst h d)) :
  D1 c R k ops (⟨dst,.call ⟨.value g,xs.toArray,ts⟩,ty,pos,after,none⟩ :: rest) σ:=by
 intro j F a w K;unfold wpListIn;rw[At (by simp[Region.wanted])];refine oC D (xs:=xs) (ts:=ts) rfl rfl E C z ren h1 v x B hs I K (A2 (j _ sc)) λres e H=>?_;obtain⟨b,h,d,m,q,r,s,t,u,y⟩:=hk res e H;exact⟨b,h,d,m,q,r,s,t,u,λl w' J=>y (λo G=>j o (by simp[G])) F l w' J⟩
end
end
section
open Go Go.RowKit
def cX (s:Nat):List Nat->List Nat
 | []=>[]
 | k :: r=>if s=k then r else k :: cX s r
def ID:List Nat->List (Nat×AV)->List (Nat×AV)
 | _,[]=>[]
 | [],_ :: _=>[]
 | k :: a,(s,v) :: r=>if Ab s (k :: a)=true then (s,v) :: ID (cX s (k :: a)) r else ID (k :: a) r
def D2 (a:List Nat):Cz->Cz
 | some (vc,σ)=>some (vc,⟨ID a σ.env,σ.objs⟩)
 | none=>none
theorem XU {s t:Nat}:∀ {a:List Nat},Ab s a=false->Ab s (cX t a)=false
 | [],h=>h
 | k :: r,h=>by
  simp only[Ab]at h;split at h
  .cases h
  rename_i b;simp only[cX];split
  .exact h
  simp only[Ab,As b];exact XU h
theorem Io {s:Nat}:∀ {env:List (Nat×AV)} {a:List Nat},Ab s a=false->lk s (ID a env)=none
 | [],a,_=>by cases a<;>rfl
 | (j,v) :: r,[],_=>rfl
 | (j,v) :: r,k :: a,h=>by
  simp only[ID];split
  .rename_i b;simp only[lk];rw[As (λe=>by subst e;rw[h]at b;cases b)];exact Io (XU h)
  exact Io h
theorem UZ {s:Nat} {x:AV}:∀ {env:List (Nat×AV)} {a:List Nat},lk s (ID a env)=some x->lk s env=some x
 | [],a,h=>by cases a<;>simp[ID,lk]at h
 | (j,v) :: r,[],h=>by simp[ID,lk]at h
 | (j,v) :: r,k :: a,h=>by
  simp only[ID]at h;split at h
  .simp only[lk]at h ⊢;split at h
   .grind
   rename_i e;rw[As e];exact UZ h
  rename_i b;by_cases e:s=j
  .grind [Io]
  simp only[lk,As e];exact UZ h
theorem HZ {r:Cz} {vc:Prop} {σ':St} (h:D2 d r=some (vc,σ')):∃b,r=some (vc,b)/\∀c:Cx,wI c b σ':=by
 cases r with
 | none=>cases h
 | some p =>
  obtain⟨f,b⟩:=p;simp only[D2]at h;cases h;exact⟨b,rfl,λc a w hs=>S7 (σ':=⟨ID d b.env,b.objs⟩) (λs v e=>UZ e) (λ_=>rfl) hs⟩
section
variable {c:Cx} {R:Exit->Act->World->Prop} {k:List Ca} {σ σ':St}
theorem s5 (g:List Nat) (e:c.P.follows .mixedOrders=true) (b:c.Ok) {l:List Oper} (d:LR l l.length=true) {vc:Prop}
  (h:D2 g (LT c.tb l false σ.objs [] l 0 [] [] σ)=some (vc,σ')) (f:vc) (hk:Ev c R (.out .normal) k σ'):Ev c R (.run (.region s l.toArray true)) k σ:=by
 obtain⟨i,h1,a⟩:=HZ h;exact xW e b d h1 f (hk.ent (a c))
theorem s6 (g:List Nat) (m:Nat) (e:c.P.follows .mixedOrders=true) (b:c.Ok) {l:List Oper} (d:LR l (l.take (l.length-m)).length=true) {vc:Prop}
  (h:D2 g (LT c.tb l false σ.objs (l.drop (l.length-m)) (l.take (l.length-m)) 0 [] [] σ)=some (vc,σ')) (f:vc) (hk:Ev c R (.out .normal) k σ'):Ev c R (.run (.region s l.toArray true)) k σ:=by
 obtain⟨i,h1,a⟩:=HZ h;exact xX m e b d h1 f (hk.ent (a c))
theorem cZ (f:List Nat) (b:c.Ok) {l:List Oper} (d:sV l l.length=true) {vc:Prop}
  (h:D2 f (LT c.tb l true σ.objs [] l 0 [] [] σ)=some (vc,σ')) (e:vc) (hk:Ev c R (.out .normal) k σ'):Ev c R (.run (.region s l.toArray false)) k σ:=by
 obtain⟨g,h1,a⟩:=HZ h;exact jX b d h1 e (hk.ent (a c))
theorem La (e:List Nat) (b:c.Ok) {l:List Oper} (h0:(l.all λo=>o.guard.isNone)=true) {vc:Prop} (h:D2 e (Bv c.tb l l σ)=some (vc,σ')) (d:vc) (hk:Ev c R (.out .normal) k σ') :
  Ev c R (.run (.region s l.toArray false)) k σ:=by
 obtain⟨f,h1,a⟩:=HZ h;exact jY b h0 h1 d (hk.ent (a c))
theorem GX (e:List Nat) (b:c.Ok) {ops:List Oper} {l:List Oper} {vc:Prop} (h:D2 e (Bv c.tb ops l σ)=some (vc,σ')) (d:vc) (hk:Ev c R (.out .normal) k σ'):D1 c R k ops.toArray l σ:=by
 obtain⟨f,h1,a⟩:=HZ h;exact ZQ b (by simpa using h1) d (hk.ent (a c))
theorem x4 (d:c.Ok) {l:List Oper} (n:Nat) (h0:(l.all λo=>o.guard.isNone)=true) {vc:Prop} (h:Bv c.tb l (l.take n) σ=some (vc,σ')) (f:vc) (hk:D1 c R k l.toArray (l.drop n) σ') :
  Ev c R (.run (.region s l.toArray false)) k σ:=by
 intro h1 b a w hs;simp only[Gt,Bg,OF]at h1;exact AC2 (PN d n (by simpa using h) f hk (λo e=>h1 o e) b a w hs)
theorem x5 (d:c.P.follows .mixedOrders=true) (a:c.Ok) {l:List Oper} (n:Nat) (b:LR l (l.take n).length=true) {vc:Prop}
  (h:LT c.tb l false σ.objs [] (l.take n) 0 [] [] σ=some (vc,σ')) (e:vc) (hk:D1 c R k l.toArray (l.drop n) σ') :
  Ev c R (.run (.region s l.toArray true)) k σ:=cV d a n b h e hk
theorem E2 {ops:Array Oper} (h:Ev c R (.out .normal) k σ):D1 c R k ops [] σ:=A3l h
theorem A3p {ops:Array Oper} {l:List Oper} (h:D1 c R k ops l σ') (d:wI c σ σ'):D1 c R k ops l σ:=λh1 b a w hs=>h h1 b a w (d a w hs)
end
end
end Go.Proofs.YtglkoagnnnpimaaGreatDoor.Fw
