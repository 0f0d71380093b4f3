/- Contracts over memory; the frame rule of a call. -/
import Derived.Test.YtcmadlghkcjcbaaGreatGZF
set_option linter.unusedVariables false
set_option linter.unusedSimpArgs false
namespace Go.Proofs.YtcmadlghkcjcbaaGreat.Fw
variable {s:Nat} {Z:AV->List (Nat×Obj)->Prop} {Y:Option Nat} {d:List Nat} {P:Program} {X:List (Nat×Obj)} {W:Nat->Value} {K V:Nat->Prop} {U:Array TypeId} {T:Array Oper} {x:AV} {S:World} {f:FuncId} {v:Value} {R:Tb} {Q:List AV} {O:Func} {N:Vw} {g:Operand}
section
open Go Go.RowKit
structure xT (K O0:Nat->Prop) (objs:List (Nat×Obj)) (ρ:Nat->Value) (w:World):Prop where
 obj:∀n o,lk n objs=some o->A6 (vw w O0 ⟨[],objs⟩ ρ) o (ρ n)
 free:∀n b,HK ⟨[],objs⟩ n->bk (ρ n) b->¬K b/\¬O0 b
 dist:∀n m b,HK ⟨[],objs⟩ n->HK ⟨[],objs⟩ m->bk (ρ n) b->bk (ρ m) b->n=m
def Iw (V:Vw):List AV->List Value->Prop
 | [],a=>a=[]
 | x :: r,a=>∃(v:Value) (l:List Value),a=v :: l/\B7 V x v/\Iw V r l
def MK (K O0:Nat->Prop) (stay:List Nat) (w:World) (ρ:Nat->Value) (post:AV->List (Nat×Obj)->Prop) (u:Value) (w':World):Prop :=
 ∃(res:AV) (a:List (Nat×Obj)) (ρ':Nat->Value),post res a/\Frm K w w'/\xT K O0 a ρ' w'/\B7 (vw w' O0 ⟨[],a⟩ ρ') res u/\∀n∈stay,ρ' n=ρ n
def BK (P:Program) (f:FuncId) (args:List AV) (objs:List (Nat×Obj)) (stay:List Nat) (post:AV->List (Nat×Obj)->Prop):Prop :=
 (∃ fn : Func, P.funcs[f]? = some fn /\ (fn.name == "runtime.NumGoroutine") = false /\ fn.body.isNone = false) /\
 ∀(w:World) (K O0:Nat->Prop) (ρ:Nat->Value) (a:List Value),(∀b,K b->b<w.heap.size)->(∀b,O0 b->b<w.heap.size)->xT K O0 objs ρ w->Iw (vw w O0 ⟨[],objs⟩ ρ) args a ->
  Calls P f a.toArray w λe w'=>∃u,e=.returned u/\MK K O0 stay w ρ post u w'
def Ax:Nat->List AV->List (Nat×AV)
 | _,[]=>[]
 | s,x :: r=>(s,x) :: Ax (s+1) r
def A9x:AV->Prop
 | .p t d=>t.ok d
 | _=>True
def QI:List AV->Prop
 | []=>True
 | x :: r=>A9x x/\QI r
def A1a:Obj->Prop
 | .arr _ e xs=>(Ty.slice e).ok xs
 | .box _ _ fs=>QI fs
 | .mapo k v l=>∀x∈l,k.ok x.1/\v.ok x.2
 | .nest _ _ k e xs none=>(Ty.slice (.agg (.prod k (.slice e)))).ok xs
 | _=>True
def Oy:List (Nat×Obj)->Prop
 | []=>True
 | x :: r=>A1a x.2/\Oy r
theorem A7U {V:Vw} (h:B7 V x v):A9x x:=by
 cases x<;>try trivial
 obtain⟨cs,a,_⟩:=h;exact ID a
theorem U2 {V:Vw}:∀ {l:List AV} {b:List Value},Iw V l b->QI l
 | [],_,_=>trivial
 | _ :: _,_,⟨_,_,_,h1,a⟩=>⟨A7U h1,U2 a⟩
theorem tG {V:Vw}:∀ {l:List AV} {cs:List Value},Da V l cs->QI l
 | [],_,_=>trivial
 | x :: _,_,⟨c1,c2,_,h1,a⟩=>⟨by
   cases x<;>try trivial
   exact ID (h1:B1 _ _ _ _ _),tG a⟩
theorem tH {w:World} {O:Nat->Prop} {k v:Ty}:∀ {a:List MapEntry} {l:List (k.den×v.den)},Oj w O k v a l->∀x∈l,k.ok x.1/\v.ok x.2
 | [],[],_,x,hx=>by cases hx
 | [],_ :: _,h,_,_=>h.elim
 | _ :: _,[],h,_,_=>h.elim
 | e :: a,y :: l,⟨⟨_,h1,_⟩,⟨_,b,_⟩,c⟩,x,hx=>by
  rcases DO.1 hx with rfl|hx
  .exact⟨ID h1,ID b⟩
  exact tH c x hx
theorem bS {V:Vw} {o:Obj} {loc:Value} (h:A6 V o loc):A1a o:=by
 cases o with
 | arr et e xs =>
  obtain⟨hm,cells,_,c⟩:=h;refine⟨hm,λx hx=>?_⟩;obtain⟨i,hi,rfl⟩:=gO.1 hx;obtain⟨f,_,_,d⟩:=c i _ (AT hi);exact ID d
 | box et st fs=>obtain⟨_,b,cs,_,_,a⟩:=h;exact tG a
 | mapo k v l=>obtain⟨b,f,cl,_,_,a,_⟩:=h;exact tH a
 | nest et m k e xs hl =>
  cases hl with
  | some i=>trivial
  | none =>
   obtain⟨o,ins,cells,_,g⟩:=h;have c:=Oo (O':=λ_=>False) (λ_ _ h=>h) g (λ_ _ _ _ _ h=>h);refine⟨g.max,λx hx=>?_⟩;obtain⟨i,hi,rfl⟩:=gO.1 hx;obtain⟨f,_,_,d⟩:=c i _ (AT hi);exact ID d
 | frame s fs=>trivial
 | loop L=>trivial
 | itr n r p q j=>trivial
 | dfr=>trivial
theorem U3:∀ {l:List (Nat×Obj)},MB l=true->(∀n o,lk n l=some o->A1a o)->Oy l
 | [],_,_=>trivial
 | (n,o) :: r,hk,h=>by
  simp only[MB,An,Of,ACb]at hk;refine⟨h n o (by simp[lk]),U3 hk.2 λm x hm=>h m x ?_⟩;simp only[lk];rw[At (λe=>hk.1 _ (F9 hm) e)];exact hm
theorem tI:∀(l:List AV) (a:List Value) (k:Nat) (V:Vw),Iw V l a->∀s v,lk s (Ax k l)=some v->k<=s/\∃u,a[s-k]?=some u/\B7 V v u
 | [],a,k,V,h,s,v,hs=>by simp[Ax,lk]at hs
 | x :: l,a,k,V,h,s,v,hs=>by
  obtain⟨u,r,rfl,h1,b⟩:=h;simp only[Ax,lk]at hs;split at hs
  .grind
  obtain⟨c,f,d,e⟩:=tI l r (k+1) V b s v hs;grind
theorem I6 {V:Vw}:∀ {l:List AV} {a:List Value},Iw V l a->a.length=l.length
 | [],a,h=>by have h:a=[]:=h;subst h;rfl
 | _ :: _,_,⟨_,_,rfl,_,h⟩=>by simp[I6 h]
def cm (P:Program) (tb:Tb) (w0:World) (K O0:Nat->Prop) (nt:Nat) (pin:List (Nat×Value)):Cx:={ P:=P,tb:=tb,w0:=w0,K:=K,O0:=O0,nt:=nt,ds:={ pin:=pin } }
theorem tJ {tb:Tb} {w0:World} {O0:Nat->Prop} {nt:Nat} {pin:List (Nat×Value)}:(cm P tb w0 K O0 nt pin).tb=tb:=rfl
def Tj (objs:List (Nat×Obj)) (n:Nat):Bool :=
 match lk n objs with
 | some (.arr _ _ _)=>HL n
 | some (.nest _ _ _ _ _ _)=>HL n
 | some _=>true
 | none=>false
theorem V7 {tb:Tb} {w0:World} {O0:Nat->Prop} {nt:Nat} {args:List AV} {objs:List (Nat×Obj)} {ρ:Nat->Value} {c:List Value} (hm:xT K O0 objs ρ w0) (q:Iw (vw w0 O0 ⟨[],objs⟩ ρ) args c) (m:d.all (Tj objs)=true) (t:c.length<=nt) :
  (cm P tb w0 K O0 nt (d.map λn=>(n,ρ n))).sat ⟨Ax 0 args,objs⟩ { tmps:=c.toArray++Array.replicate (nt-c.toArray.size) undef,defers:=[] } w0:=by
 refine⟨ρ,⟨rfl,rfl,rfl,IN _,λ_ _=>rfl⟩,by simp[cm];omega,rfl,λp j=>?_,hm.obj,hm.free,hm.dist,λs v hs=>?_⟩
 .obtain⟨n,hn,rfl⟩:=Do.1 j;have:=(Of.1 m) n hn;unfold Tj at this;cases f:lk n objs with
  | none=>rw[f]at this;cases this
  | some o =>
   rw[f]at this;refine⟨⟨o,f⟩,rfl,?_⟩;have stay:=hm.obj n o f;cases o with
   | arr et e xs=>exact .inr this
   | nest et x k e xs hl=>exact .inr this
   | box et st fs=>obtain⟨_,b,cs,a,_⟩:=stay;rw[a];exact .inl rfl
   | mapo k v l=>obtain⟨b,r,cl,a,_⟩:=stay;rw[a];exact .inl rfl
   | frame C fs=>obtain⟨a,_⟩:=stay;rw[a];exact .inl rfl
   | loop L=>obtain⟨b,a,_⟩:=stay;rw[a];exact .inl rfl
   | itr y B z A w=>obtain⟨b,a,_⟩:=stay;rw[a];exact .inl rfl
   | dfr=>obtain⟨b,a,_⟩:=stay;rw[a];exact .inl rfl
 obtain⟨_,u,h1,h⟩:=tI args c 0 _ q s v hs;have h1:c[s]?=some u:=by simpa using h1
 have g:s<c.length:=(RL.1 h1).1;have i:(c.toArray++Array.replicate (nt-c.toArray.size) undef).getD s undef=u:=by
  have:c[s]=u:=by rw[AT g]at h1;injection h1
  simp[Array.getElem?_append,g,this]
 rw[i];exact h
def A5o (P:Program) (fn:Func) (w0:World) (K O0:Nat->Prop) (stay:List Nat) (ρ0:Nat->Value) (post:AV->List (Nat×Obj)->Prop):Exit->Act->World->Prop :=
 bodyPost P fn λe w'=>∃u,e=.returned u/\MK K O0 stay w0 ρ0 post u w'
theorem A7V {tb:Tb} {fn:Func} {cd:Code} {nt:Nat} {args:List AV} {objs:List (Nat×Obj)} {post:AV->List (Nat×Obj)->Prop}
  (c : P.funcs[f]? = some fn) (j : (fn.name == "runtime.NumGoroutine") = false) (b : fn.body = some cd) (k : fn.ntmps = nt) (p : args.length <= nt)
  (g:Bn nt cd=true) (m:d.all (Tj objs)=true) (i:MB objs=true) (hT:DC P tb) (hF:I2 P tb)
  (h:∀(w0:World) (K O0:Nat->Prop) (ρ0:Nat->Value),(cm P tb w0 K O0 nt (d.map λn=>(n,ρ0 n))).Ok->QI args->Oy objs ->
   Ev (cm P tb w0 K O0 nt (d.map λn=>(n,ρ0 n))) (A5o P fn w0 K O0 d ρ0 post) (.run cd) [] ⟨Ax 0 args,objs⟩):BK P f args objs d post:=by
 refine⟨⟨fn,c,j,by simp[b]⟩,λw K O0 ρ r stay e hm a=>?_⟩;refine calls_of_wp c b ((wpIn_wide (n:=0)).1 ?_);have q:=I6 a;rw[k];exact h w K O0 ρ ⟨stay,e,hT,hF⟩ (U2 a) (U3 i λn o l=>bS (hm.obj n o l)) g rfl _ _ (V7 hm a m O1)
def xV (tb:Tb) (σ:St) (rv:ResultVar):AV->Prop
 | .p t d=>JW σ t (Jx tb σ rv)=some d
 | x=>Jx tb σ rv=some x
def Rz (tb:Tb) (σ:St):List ResultVar->List AV->Prop
 | [],[]=>True
 | rv :: a,x :: l=>xV tb σ rv x/\Rz tb σ a l
 | _,_=>False
def Y5:AV->Bool
 | .tup _=>false
 | _=>true
def Tk (tb:Tb) (σ:St):List ResultVar->AV->Prop
 | [],x=>x=.raw (.tuple #[])
 | [rv],x=>xV tb σ rv x
 | a,.tup l=>l.all Y5=true/\Rz tb σ a l
 | _,_=>False
section
variable {P:Program} {tb:Tb} {w0:World} {K O0:Nat->Prop} {nt:Nat} {ds:Fp} {σ:St} {ρ:Nat->Value} {a:Act} {w:World}
theorem tK (hT:DC P tb) (hs:CG w0 K O0 nt ds σ ρ a w) {rv:ResultVar} (h:xV tb σ rv x):∃u,(Jy a.tmps rv).run P w=.ok u w/\B7 (vw w O0 σ ρ) x u:=by
 by_cases e:∃t d,x=.p t d
 .obtain⟨t,d,rfl⟩:=e;simp only[xV]at h;cases c:Jx tb σ rv with
  | none=>rw[c]at h;simp[JW]at h
  | some v =>
   rw[c]at h;simp only[JW]at h;obtain⟨u,h1,f⟩:=Ut hT hs c;exact⟨u,h1,LS (V:=vw w O0 σ ρ) (O':=own O0 σ ρ) (λb hb g=>hb g) (λh=>by cases h) hs.objs h f⟩
 have h:Jx tb σ rv=some x:=by
  cases x<;>first|exact h|exact absurd ⟨_,_,rfl⟩ e
 exact Ut hT hs h
theorem A9y {V:Vw} {v:Value} (hn:Y5 x=true) (h:B7 V x v):TR V x v:=by
 cases x<;>first|(simp[Y5]at hn;done)|exact h
theorem Y6 (hT:DC P tb) (hs:CG w0 K O0 nt ds σ ρ a w):∀ {c:List ResultVar} {l:List AV},l.all Y5=true->Rz tb σ c l ->
  ∃b:List Value,(c.mapM (Jy a.tmps)).run P w=.ok b w/\b.length=l.length/\H9 (vw w O0 σ ρ) l b
 | [],[],_,_=>⟨[],by simp,rfl,rfl⟩
 | [],_ :: _,_,h=>h.elim
 | _ :: _,[],_,h=>h.elim
 | rv :: c,x :: l,hn,h=>by
  simp only[ABi,An]at hn;obtain⟨u,h1,d⟩:=tK hT hs h.1;obtain⟨b,g,e,f⟩:=Y6 hT hs hn.2 h.2;refine⟨u :: b,?_,by simp[e],u,b,rfl,A9y hn.1 d,f⟩
  simp_all
theorem V8 {tb:Tb} {σ:St}:∀ {a:List ResultVar} {l:List AV},Rz tb σ a l->a.length=l.length
 | [],[],_=>rfl
 | [],_ :: _,h=>h.elim
 | _ :: _,[],h=>h.elim
 | _ :: _,_ :: _,h=>by simp[V8 h.2]
theorem V9 (hT:DC P tb) (hs:CG w0 K O0 nt ds σ ρ a w) {fn:Func} (h:Tk tb σ fn.results.toList x):∃u,(results fn a.tmps).run P w=.ok u w/\B7 (vw w O0 σ ρ) x u:=by
 have key:∀b:List Value,(fn.results.toList.mapM (Jy a.tmps)).run P w=.ok b w->(results fn a.tmps).run P w=.ok (if h:b.toArray.size=1 then b.toArray[0] else .tuple b.toArray) w:=by
  intro b h1;rw[Ov];have hm:(fn.results.mapM (Jy a.tmps)).run P w=.ok b.toArray w:=by
   rw[ABI];simp only[Sem.run_map,h1,AAl]
  simp only[AAZ,hm,AAl,ABO]
 generalize fn.results.toList=k at h key;unfold Tk at h;split at h
 .subst h;exact⟨_,key [] sc,rfl⟩
 .rename_i rv;obtain⟨u,h1,c⟩:=tK hT hs h;exact⟨_,key [u] (by simp[h1]),c⟩
 .rename_i l j g;obtain⟨b,h1,c,d⟩:=Y6 hT hs h.1 h.2;have f:=V8 h.2;refine⟨_,key b h1,?_⟩;have:¬b.toArray.size=1:=by
   intro e;have e:b.length=1:=by simpa using e
   rw[c,<-f]at e;obtain⟨z,i⟩:=ABy.1 e;exact g z i
  rw[dif_neg this];exact⟨b,rfl,d⟩
 exact h.elim
end
theorem A5p {tb:Tb} {w0:World} {O0:Nat->Prop} {nt:Nat} {fn:Func} {post:AV->List (Nat×Obj)->Prop} {σ:St} {e:Exit} (f:(cm P tb w0 K O0 nt (d.map λn=>(n,W n))).Ok)
  (c:List ResultVar) (j:fn.results.toList=c) (g:e=.ret\/e=.normal) (res:AV) (h:Tk tb σ c res) (i:post res σ.objs) :
  Ev (cm P tb w0 K O0 nt (d.map λn=>(n,W n))) (A5o P fn w0 K O0 d W post) (.out e) [] σ:=by
 intro _ _ a w hs;obtain⟨ρ,hs⟩:=hs;obtain⟨u,h1,ρ0⟩:=V9 f.T hs (by rw[j];exact h);have b:MK K O0 d w0 W post u w:=by
  refine⟨res,σ.objs,ρ,i,hs.frm,⟨hs.objs,hs.free,hs.dist⟩,ρ0,λn hn=>?_⟩;exact(hs.pin (n,W n) (Do.2 ⟨n,hn,rfl⟩)).2.1
 rcases g with rfl|rfl
 .exact⟨hs.defers,u,h1,u,rfl,b⟩
 exact⟨hs.defers,u,h1,u,rfl,b⟩
end
section
open Go Go.RowKit
def Dc:Option AV->Option (FuncId×List Nat)
 | some (.fn f)=>some (f,[])
 | some (.clo f ns)=>some (f,ns)
 | _=>none
def Jc (σ:St):List Operand->Option (List AV)
 | []=>some []
 | x :: r=>match Aq σ x,Jc σ r with
  | some v,some a=>some (v :: a)
  | _,_=>none
def IE (σ:St) (ren:List (Nat×B3)) (x:AV):AV->Prop
 | .p t d=>N2 false σ t x=some d
 | y=>B2 ren x y
def BS (σ:St) (ren:List (Nat×B3)):List AV->List AV->Prop
 | [],[]=>True
 | x :: l,y :: r=>IE σ ren x y/\BS σ ren l r
 | _,_=>False
def Ao:List (Nat×B3)->List Nat
 | []=>[]
 | (_,.nm n) :: r=>n :: Ao r
 | (_,.nil) :: r=>Ao r
def A78 (m:Nat):Option B3->Bool
 | some (.nm a)=>a==m
 | _=>false
def A79 (n:Nat) (f:Option B3) (m:Nat):Option B3->Bool
 | some (.nm a)=>a==n&&A78 m f
 | _=>false
def I7 (ren a:List (Nat×B3)) (stay hs:List Nat):Bool:=(Ao ren).all λn=>Ad n hs||ren.any λp=>Ad p.1 stay&&A79 n (lk n a) p.1 (lk p.1 ren)
def FY (hd:List Nat) (a objs:List (Nat×Obj)):Bool:=a.all λp=>Ad p.1 hd||(lk p.1 objs).isNone
def ML (dst:Option Nat) (v:AV) (env:List (Nat×AV)):List (Nat×AV) :=
 match dst with
 | some d=>(d,v) :: env
 | none=>env
def Cf (σ:St) (hd hs:List Nat) (dst:Option Nat) (res:AV) (a:List (Nat×Obj)):St:=⟨ML dst res (Cc hs σ.env),a++Az hd hs σ.objs⟩
theorem Oz {n:Nat}:∀ {l:List (Nat×B3)},n∈Ao l↔∃m,(m,B3.nm n)∈l
 | []=>by simp[Ao]
 | (m,.nm k) :: r=>by
  simp only[Ao,DO,Oz (l:=r),ACn,B3.nm.injEq];grind
 | (m,.nil) :: r=>by
  simp only[Ao,DO,Oz (l:=r),ACn];grind
theorem bT {V:Vw} {σ:St} {ev:Operand->Value} (b:Hl V σ ev):∀ {xs:List Operand} {a:List AV},Jc σ xs=some a->Iw V a (xs.map ev)
 | [],a,h=>by simp only[Jc]at h;cases h;exact(rfl:_=_)
 | x :: r,a,h=>by
  simp only[Jc]at h;split at h
  .rename_i v l h1 c;cases h;exact⟨ev x,r.map ev,rfl,b x v h1,bT b c⟩
  cases h
section
variable {V V':Vw} {ren:List (Nat×B3)} {σ:St}
theorem WA (e:MC ren V V') (f:∀b,¬V.O b->¬V'.O b) (g:∀n o,lk n σ.objs=some o->A6 V o (V.ρ n)):∀ {l r:List AV} {c:List Value},BS σ ren l r->Iw V l c->Iw V' r c
 | [],[],c,_,h=>h
 | [],_ :: _,_,hm,_=>hm.elim
 | _ :: _,[],_,hm,_=>hm.elim
 | x :: l,y :: r,c,hm,h=>by
  obtain⟨v,l',rfl,h1,j⟩:=h;refine⟨v,l',rfl,?_,WA e f g hm.2 j⟩;have a:=hm.1;by_cases i:∃t d,y=.p t d
  .obtain⟨t,d,rfl⟩:=i;have a:N2 false σ t x=some d:=a;have:=LS (V:=V) (O':=V'.O) f (λh=>by cases h) g a h1;show BU V'.w V'.O t v d;rw[e.w];exact this
  have a:B2 ren x y:=by
   cases y<;>first|exact a|exact absurd ⟨_,_,rfl⟩ i
  exact NL e a h1
end
section
variable {c:Cx} {R:Exit->Act->World->Prop} {k:List DP} {σ:St}
theorem A5q {c:Cx} {a:Act} {dst:Option Nat} {u:Value} {y:AV} {V:Vw} {env:List (Nat×AV)} {res:AV} (e:a.tmps.size=c.nt) (hd:∀d,dst=some d->d<c.nt) (f:B7 V res u) (b:∀s v,lk s env=some v->B7 V v (a.tmps.getD s undef))
  (h:lk s (ML dst res env)=some y):B7 V y ((a.put dst u).tmps.getD s undef):=by
 cases dst with
 | none=>exact b s y h
 | some d =>
  rw[NE a d u s (by rw[e];exact hd d rfl)];simp only[ML,lk]at h;split at h
  .grind
  grind
theorem R0 (av:c.Ok) {dst:Option Nat} {ρ:Nat->Value} {a:Act} {w:World} (e:CG c.w0 c.K c.O0 c.nt c.ds σ ρ a w) {as:List AV} {be:List Value} (bm:Iw (vw w c.O0 σ ρ) as be)
  {A:List AV} {objs:List (Nat×Obj)} (stay:List Nat) (post:AV->List (Nat×Obj)->Prop)
  (ren:List (Nat×B3)) (h1:CJ ren=true) (al:Ca objs ren=true) (bg:BS σ ren as A) (ap:Ah σ.objs ren objs)
  (hs:List Nat) (bz:(c.ds.pin.all λp=>!Ad p.1 hs)=true) {next:Act->World->Prop} (hd:∀d,dst=some d->d<c.nt)
  (hk:∀res M,post res M->∃(o:List (Nat×B3)) (Y:AV) (j:List (Nat×Obj)),CJ o=true/\Ca j o=true/\Ah M o j/\B2 o res Y /\
   I7 ren o stay hs=true/\FY (Ao ren) j σ.objs=true/\∀ah w',c.sat (Cf σ (Ao ren) hs dst Y j) ah w'->next ah w') :
  ∃(G D:Nat->Prop) (l:Nat->Value),(∀b,G b->b<w.heap.size)/\(∀b,D b->b<w.heap.size)/\xT G D objs l w/\Iw (vw w D ⟨[],objs⟩ l) A be/\(∀m n,lk m ren=some (.nm n)->l m=ρ n) /\
   ∀u w',MK G D stay w l post u w'->next (a.put dst u) w':=by
 let l:Nat->Value:=λm=>match lk m ren with|some (.nm n)=>ρ n|_=>.slice none 0 0
 have X:∀m n,lk m ren=some (.nm n)->l m=ρ n:=λm n hm=>by simp[l,hm]
 have bb:∀m,lk m ren=some .nil->l m=.slice none 0 0:=λm hm=>by simp[l,hm]
 let D:Nat->Prop:=λb=>c.O0 b\/∃n,HK σ n/\n∉Ao ren/\bk (ρ n) b
 let G:Nat->Prop:=λb=>b<w.heap.size/\¬ ∃m,HK ⟨[],objs⟩ m/\bk (l m) b
 have N:∀m b,HK ⟨[],objs⟩ m->bk (l m) b->∃n,lk m ren=some (.nm n)/\HK σ n/\bk (ρ n) b:=by
  rintro m b ⟨ag,hm⟩ hb;have hf:=DE ap hm;cases g:lk m ren with
  | none=>rw[g]at hf;exact hf.elim
  | some fr =>
   cases fr with
   | nil=>rw[bb m g]at hb;simp[bk,blk]at hb
   | nm n =>
    rw[g]at hf;rw[X m n g]at hb;refine⟨n,rfl,?_,hb⟩;cases hn:lk n σ.objs with
    | none=>simp only[HO,hn,JZ]at hf
    | some x=>exact⟨x,hn⟩
 have br:∀m fr,lk m ren=some fr->HK ⟨[],objs⟩ m:=λm fr hm=>by
  simp only[Ca,Of]at al;exact ABp.1 (al _ (F9 hm))
 have ck:∀m n,lk m ren=some (.nm n)->n∈Ao ren:=λm n hm=>Oz.2 ⟨m,F9 hm⟩;have au:∀b,¬own c.O0 σ ρ b->¬own D ⟨[],objs⟩ l b:=by
  intro b hb q;rcases q with (h0|⟨n,hn,_,f⟩)|⟨m,hm,i⟩
  .exact hb (.inl h0)
  .exact hb (.inr ⟨n,hn,f⟩)
  obtain⟨n,_,hn,f⟩:=N m b hm i;exact hb (.inr ⟨n,hn,f⟩)
 have aq:MC ren (vw w c.O0 σ ρ) (vw w D ⟨[],objs⟩ l):=⟨rfl,au,X,bb,br⟩;have bu:xT G D objs l w:=by
  refine⟨λm ag hm=>Ru aq e.objs (DE ap hm),λm b hm hb=>⟨λbi=>bi.2 ⟨m,hm,hb⟩,λh0=>?_⟩,λm S b hm ad hb q=>?_⟩
  .obtain⟨n,g,hn,f⟩:=N m b hm hb;rcases h0 with h0|⟨k,t,r,T⟩
   .exact(e.free n b hn f).2 h0
   have:=e.dist n k b hn t f T;grind
  obtain⟨n,g,hn,f⟩:=N m b hm hb;obtain⟨k,az,t,T⟩:=N S b ad q;have:=e.dist n k b hn t f T;grind [Uu]
 have bl:∀b,D b->b<w.heap.size:=by
  rintro b (h0|⟨n,⟨ag,hn⟩,_,f⟩)
  .exact AAU (av.O b h0) e.frm.size
  exact(e.objs n ag hn).block_lt f
 refine⟨G,D,l,λb hb=>hb.1,bl,bu,WA aq au e.objs bg bm,X,?_⟩;rintro u w' ⟨res,M,ρ',ca,H,R,bn,cb⟩;obtain⟨o,Y,j,ci,ai,Z,bf,aj,ak,bv⟩:=hk res M ca;refine bv _ _ ?_
 let C:Nat->Value:=λn=>match lk n o with|some (.nm m)=>ρ' m|some .nil=>.slice none 0 0|none=>ρ n
 have aa:∀n m,lk n o=some (.nm m)->C n=ρ' m:=λn m hn=>by simp[C,hn]
 have am:∀n,lk n o=some .nil->C n=.slice none 0 0:=λn hn=>by simp[C,hn]
 have cj:∀n,lk n o=none->C n=ρ n:=λn hn=>by simp[C,hn]
 let σ2:=Cf σ (Ao ren) hs dst Y j
 have bx:σ2.objs=j++Az (Ao ren) hs σ.objs:=rfl;have ab:∀n,lk n σ2.objs=(lk n j).or (lk n (Az (Ao ren) hs σ.objs)):=λn=>by rw[bx,A2]
 have aw:∀n fr,lk n o=some fr->∃x,lk n j=some x:=λn fr hn=>by
  simp only[Ca,Of]at ai;exact ABp.1 (ai _ (F9 hn))
 have bo:∀n x,lk n j=some x->∃fr,lk n o=some fr:=λn x hn=>by
  have hf:=DE Z hn;cases g:lk n o with
  | none=>rw[g]at hf;exact hf.elim
  | some fr=>exact⟨fr,rfl⟩
 have bp:∀n x,lk n j=some x->n∈Ao ren\/lk n σ.objs=none:=λn x hn=>by
  simp only[FY,Of,TB]at ak;rcases ak _ (F9 hn) with h|h
  .exact .inl ((Al _ _).1 h)
  exact .inr (by simpa using h)
 have E:∀n x,lk n (Az (Ao ren) hs σ.objs)=some x->n∉Ao ren/\lk n j=none/\∃y,lk n σ.objs=some y/\x=y.fgt hs:=by
  intro n x hn;rw[CD]at hn;split at hn
  .cases hn
  rename_i r;simp only[OS]at hn;obtain⟨y,hy,rfl⟩:=hn;have r:n∉Ao ren:=λh=>r ((Al _ _).2 h);refine⟨r,?_,y,hy,rfl⟩;cases hl:lk n j with
  | none=>rfl
  | some z =>
   rcases bp n z hl with h|h
   .exact absurd h r
   rw[h]at hy;cases hy
 have P:∀n x,lk n σ2.objs=some x->lk n j=some x\/(lk n j=none/\lk n (Az (Ao ren) hs σ.objs)=some x):=by simp_all
 have J:∀n x b,lk n j=some x->bk (C n) b->∃m,lk n o=some (.nm m)/\HK ⟨[],M⟩ m/\bk (ρ' m) b:=by
  intro n x b hn hb;have hf:=DE Z hn;obtain⟨fr,g⟩:=bo n x hn;cases fr with
  | nil=>rw[am n g]at hb;simp[bk,blk]at hb
  | nm m =>
   rw[g]at hf;rw[aa n m g]at hb;refine⟨m,g,?_,hb⟩;cases hn:lk m M with
   | none=>simp only[HO,hn,JZ]at hf
   | some z=>exact⟨z,hn⟩
 have F:∀n,lk n j=none->C n=ρ n:=λn hn=>by grind
 have ar:MC o (vw w' D ⟨[],M⟩ ρ') (vw w' c.O0 σ2 C):=by
  refine⟨rfl,λb hb q=>?_,aa,am,λn fr hn=>?_⟩
  .rcases q with h0|⟨n,⟨x,hn⟩,f⟩
   .exact hb (.inl (.inl h0))
   rcases P n x hn with hn|⟨B,hn⟩
   .obtain⟨m,_,hm,i⟩:=J n x b hn f;exact hb (.inr ⟨m,hm,i⟩)
   obtain⟨r,_,y,hy,_⟩:=E n x hn;rw[F n B]at f;exact hb (.inl (.inr ⟨n,⟨y,hy⟩,r,f⟩))
  obtain⟨x,hx⟩:=aw n fr hn;exact⟨x,by rw[ab,hx];rfl⟩
 have bh:∀b,(∃m,HK ⟨[],objs⟩ m/\bk (l m) b)->own c.O0 σ ρ b:=by
  rintro b ⟨m,hm,hb⟩;obtain⟨n,_,hn,f⟩:=N m b hm hb;exact .inr ⟨n,hn,f⟩
 have an:∀b,b<w.heap.size->¬own c.O0 σ ρ b->G b:=λb I hb=>⟨I,λh=>hb (bh b h)⟩;have W:Cu ((vw w c.O0 σ ρ).buts hs) (vw w' c.O0 σ2 C):=by
  have ao:∀n,HK σ n->Ad n hs=false->HK σ2 n/\C n=ρ n:=by
   intro n hn bw;by_cases hh:n∈Ao ren
   .simp only[I7,Of,TB]at aj;rcases aj n hh with h|h
    .rw[bw]at h;cases h
    simp only[Re,An]at h;obtain⟨⟨m,fr⟩,ae,ba,Q⟩:=h;simp only at ba Q;unfold A79 at Q;split at Q
    .rename_i k bs;simp only[An,TE]at Q;obtain⟨rfl,V⟩:=Q;unfold A78 at V;split at V
     .rename_i S ax;have:S=m:=by simpa using V
      subst this;obtain⟨x,hx⟩:=aw _ _ ax;refine⟨⟨x,by rw[ab,hx];rfl⟩,?_⟩;rw[aa _ _ ax,cb S ((Al _ _).1 ba)];exact X _ _ bs
     cases V
    cases Q
   obtain⟨x,hx⟩:=hn;have g:lk n (Az (Ao ren) hs σ.objs)=some (x.fgt hs):=by grind [CD,Al]
   obtain⟨_,B,_⟩:=E n _ g;exact⟨⟨_,by rw[ab,B,g];rfl⟩,F n B⟩
  refine⟨λb I hb q=>?_,λn hn=>(ao n hn.1 hn.2).1,λn hn=>(ao n hn.1 hn.2).2,λb I hb=>H.block b (an b I hb)⟩;have I:b<w.heap.size:=I;have hb:¬own c.O0 σ ρ b:=hb;rcases q with h0|⟨n,⟨x,hn⟩,f⟩
  .exact hb (.inl h0)
  rcases P n x hn with hn|⟨B,hn⟩
  .obtain⟨m,_,hm,i⟩:=J n x b hn f;exact(R.free m b hm i).1 (an b I hb)
  obtain⟨r,_,y,hy,_⟩:=E n x hn;rw[F n B]at f;exact hb (.inr ⟨n,⟨y,hy⟩,f⟩)
 have bj:∀b,c.K b->G b:=λb hb=>⟨AAU (av.K b hb) e.frm.size,λ⟨m,hm,i⟩=>by
  obtain⟨n,_,hn,f⟩:=N m b hm i;exact(e.free n b hn f).1 hb⟩
 refine⟨C,⟨H.os.trans e.frm.os,H.tape.trans e.frm.tape,H.output.trans e.frm.output,RF e.frm.size H.size,λb hb=>(H.block b (bj b hb)).trans (e.frm.block b hb)⟩,by rw[Pp];exact e.nt,by rw[Kh];exact e.defers,λp ae=>?_,λn x hn=>?_,λn b hl hb=>?_,λn k b hl bq hb q=>?_,λs v cc=>?_⟩
 .obtain⟨bc,ce,cf⟩:=e.pin p ae;have bd:Ad p.1 hs=false:=by simpa using (Of.1 bz) p ae
  have cg:=W.ρ p.1 ⟨bc,bd⟩;exact⟨W.L p.1 ⟨bc,bd⟩,cg.trans ce,cf⟩
 .rcases P n x hn with hn|⟨B,hn⟩
  .exact Ru ar R.obj (DE Z hn)
  obtain⟨r,_,y,hy,rfl⟩:=E n x hn;rw[F n B];refine bL W (λb hb=>?_) (e.objs n y hy);refine H.block b ⟨(e.objs n y hy).block_lt hb,λ⟨m,hm,i⟩=>?_⟩;obtain⟨k,az,t,T⟩:=N m b hm i;have:=e.dist n k b ⟨y,hy⟩ t hb T;grind
 .obtain⟨x,hn⟩:=hl;rcases P n x hn with hn|⟨B,hn⟩
  .obtain⟨m,_,hm,i⟩:=J n x b hn hb;have:=R.free m b hm i;grind
  obtain⟨r,_,y,hy,rfl⟩:=E n x hn;rw[F n B]at hb;exact e.free n b ⟨y,hy⟩ hb
 .obtain⟨x,hn⟩:=hl;obtain⟨U,t⟩:=bq;rcases P n x hn with hn|⟨B,hn⟩<;>rcases P k U t with t|⟨ay,t⟩
  .obtain⟨m,g,hm,i⟩:=J n x b hn hb;obtain⟨S,az,ad,bt⟩:=J k U b t q;have:=R.dist m S b hm ad i bt;grind [Uu]
  .exfalso;obtain⟨m,g,hm,i⟩:=J n x b hn hb;obtain⟨r,_,y,hy,rfl⟩:=E k U t;rw[F k ay]at q;exact(R.free m b hm i).2 (.inr ⟨k,⟨y,hy⟩,r,q⟩)
  .exfalso;obtain⟨m,g,hm,i⟩:=J k U b t q;obtain⟨r,_,y,hy,rfl⟩:=E n x hn;rw[F n B]at hb;exact(R.free m b hm i).2 (.inr ⟨n,⟨y,hy⟩,r,hb⟩)
  obtain⟨_,_,y,hy,rfl⟩:=E n x hn;obtain⟨_,_,ch,cd,rfl⟩:=E k U t;rw[F n B]at hb;rw[F k ay]at q;exact e.dist n k b ⟨y,hy⟩ ⟨ch,cd⟩ hb q
 refine A5q (c:=c) e.nt hd (NL ar bf bn) (λs v af=>?_) cc;rw[Ez]at af;simp only[OS]at af;obtain⟨y,hy,rfl⟩:=af;exact(Ur (e.env s y hy)).keeps W
theorem bU (ad:c.Ok) {o:Oper} {dst:Option Nat} {xs:List Operand} {ts:Array TypeId} (J:o.op=.call { callee:=.value g,args:=xs.toArray,argTypes:=ts }) (ag:o.dst=dst)
  {k:List Nat} (j:Dc (Aq σ g)=some (f,k)) {as:List AV} (Z:Jc σ xs=some as)
  {A:List AV} {objs:List (Nat×Obj)} {stay:List Nat} {post:AV->List (Nat×Obj)->Prop} (B:BK c.P f A objs stay post)
  (ren:List (Nat×B3)) (h1:CJ ren=true) (R:Ca objs ren=true) (S:BS σ ren (as++k.map λn=>AV.bp n [] 0) A) (U:Ah σ.objs ren objs)
  (hs:List Nat) (al:(c.ds.pin.all λp=>!Ad p.1 hs)=true) {next:Act->World->Prop} {Q:Exit->Act->World->Prop} {a:Act} {w:World} (ao:c.sat σ a w) (hd:∀d,dst=some d->d<c.nt)
  (hk:∀res L,post res L->∃(s:List (Nat×B3)) (M:AV) (z:List (Nat×Obj)),CJ s=true/\Ca z s=true/\Ah L s z/\B2 s res M /\
   I7 ren s stay hs=true/\FY (Ao ren) z σ.objs=true/\∀G w',c.sat (Cf σ (Ao ren) hs dst M z) G w'->next G w'):o.wpIn (FR c.r) 0 c.P a w next Q:=by
 obtain⟨ρ,K⟩:=ao;have I:Hl (vw w c.O0 σ ρ) σ a.eval:=GA K.env;obtain⟨⟨fn,ah,ak,ab⟩,B⟩:=B;obtain⟨m,ai,af⟩:∃m:List Value,a.eval g=.func (.func f) #[] m.toArray/\Iw (vw w c.O0 σ ρ) (k.map λn=>AV.bp n [] 0) m:=by
  cases D:Aq σ g with
  | none=>rw[D]at j;simp[Dc]at j
  | some H =>
   rw[D]at j;have C:=I g H D;cases H<;>simp only[Dc]at j<;>try(cases j;done)
   .cases j;exact⟨[],C,rfl⟩
   rename_i ar ns;cases j;refine⟨k.map ρ,C.1,?_⟩;have h0:∀l:List Nat,(∀n∈l,n∈k)->Iw (vw w c.O0 σ ρ) (l.map λn=>AV.bp n [] 0) (l.map ρ):=by
    intro l;induction l with
    | nil=>intro _;exact rfl
    | cons n r F =>
     intro hl;obtain⟨q,b,i⟩:=C.2 n (hl n sc);have i:ρ n=_:=i;exact⟨ρ n,r.map ρ,rfl,⟨q,b,i,i⟩,F λx hx=>hl x (by simp[hx])⟩
   exact h0 k λ_ h=>h
 have Y:=bT I Z;have X:∀ {l r:List AV} {t y:List Value},Iw (vw w c.O0 σ ρ) l t->Iw (vw w c.O0 σ ρ) r y->Iw (vw w c.O0 σ ρ) (l++r) (t++y):=by
  intro l;induction l with
  | nil=>intro r t y hu E;have hu:t=[]:=hu;subst hu;exact E
  | cons x l F =>
   intro r t y hu E;obtain⟨v,ap,rfl,q,i⟩:=hu;exact⟨v,ap++y,rfl,q,F i E⟩
 have W:=X Y af;have an:(execOp a.eval o).run c.P w=.ok (.enter f (xs.map a.eval++m).toArray) w:=by
  have q : ¬ fn.name = "runtime.NumGoroutine" := by simpa using ak
  have i:¬fn.body=none:=by intro e;simp[e]at ab
  simp[execOp,J,resolve,Deferred.ofValue,ai,invoke,callFunc,ah,q,i]
 obtain⟨N,O,aq,T,V,aj,aa,_,am⟩:=R0 ad K W stay post ren h1 R S U hs al hd hk;have ae:=B w N O aq (xs.map a.eval++m) T V aj aa;refine⟨λ_ _=>trivial,?_⟩;rw[G9 _ _ _ (λcl e=>by rw[J]at e;cases e),an,Oper.uponIn_enter];refine⟨λh=>(by simp[FR]at h),Ou (ae.mono λe w' hh=>?_)⟩;obtain⟨u,rfl,hh⟩:=hh;rw[ag];exact am u w' hh
theorem A1b (C:c.Ok) {ops:Array Oper} {rest:List Oper} {dst:Option Nat} {xs:List Operand} {ts:Array TypeId} {ty:TypeId} {pos:String} {after:Array Edge}
  {i:List Nat} (D:Dc (Aq σ g)=some (f,i)) {as:List AV} (B:Jc σ xs=some as)
  {A:List AV} {objs:List (Nat×Obj)} {stay:List Nat} {post:AV->List (Nat×Obj)->Prop} (y:BK c.P f A objs stay post)
  (ren:List (Nat×B3)) (hs:List Nat) (h1:CJ ren=true) (u:Ca objs ren=true) (H:(c.ds.pin.all λp=>!Ad p.1 hs)=true) (v:BS σ ren (as++i.map λn=>AV.bp n [] 0) A) (z:Ah σ.objs ren objs)
  (hk:∀res e,post res e->∃(b:List (Nat×B3)) (h:AV) (d:List (Nat×Obj)),CJ b=true/\Ca d b=true/\Ah e b d/\B2 b res h /\
   I7 ren b stay hs=true/\FY (Ao ren) d σ.objs=true/\N4 c R k ops rest (Cf σ (Ao ren) hs dst h d)) :
  N4 c R k ops (⟨dst,.call ⟨.value g,xs.toArray,ts⟩,ty,pos,after,none⟩ :: rest) σ:=by
 intro hd E a w J;unfold wpListIn;rw[BY (by simp[Region.wanted])];refine bU C (xs:=xs) (ts:=ts) rfl rfl D B y ren h1 u v z hs H J (Ce (hd _ sc)) λres e G=>?_;obtain⟨b,h,d,l,m,q,r,s,t,x⟩:=hk res e G;exact⟨b,h,d,l,m,q,r,s,t,λj w' I=>x (λo F=>hd o (by simp[F])) E j w' I⟩
end
end
section
open Go Go.RowKit
def gK (s:Nat):List Nat->List Nat
 | []=>[]
 | k :: r=>if s=k then r else k :: gK s r
def I8:List Nat->List (Nat×AV)->List (Nat×AV)
 | _,[]=>[]
 | [],_ :: _=>[]
 | k :: a,(s,v) :: r=>if Ad s (k :: a)=true then (s,v) :: I8 (gK s (k :: a)) r else I8 (k :: a) r
def Dr (a:List Nat):C7->C7
 | some (vc,σ)=>some (vc,⟨I8 a σ.env,σ.objs⟩)
 | none=>none
theorem Y7 {s t:Nat}:∀ {a:List Nat},Ad s a=false->Ad s (gK t a)=false
 | [],h=>h
 | k :: r,h=>by
  simp only[Ad]at h;split at h
  .cases h
  rename_i b;simp only[gK];split
  .exact h
  simp only[Ad,At b];exact Y7 h
theorem Jd {s:Nat}:∀ {env:List (Nat×AV)} {a:List Nat},Ad s a=false->lk s (I8 a env)=none
 | [],a,_=>by cases a<;>rfl
 | (j,v) :: r,[],_=>rfl
 | (j,v) :: r,k :: a,h=>by
  simp only[I8];split
  .rename_i b;simp only[lk];rw[At (λe=>by subst e;rw[h]at b;cases b)];exact Jd (Y7 h)
  exact Jd h
theorem WB {s:Nat} {x:AV}:∀ {env:List (Nat×AV)} {a:List Nat},lk s (I8 a env)=some x->lk s env=some x
 | [],a,h=>by cases a<;>simp[I8,lk]at h
 | (j,v) :: r,[],h=>by simp[I8,lk]at h
 | (j,v) :: r,k :: a,h=>by
  simp only[I8]at h;split at h
  .simp only[lk]at h ⊢;split at h
   .grind
   rename_i e;rw[At e];exact WB h
  rename_i b;by_cases e:s=j
  .grind [Jd]
  simp only[lk,At e];exact WB h
theorem IG {r:C7} {vc:Prop} {σ':St} (h:Dr d r=some (vc,σ')):∃b,r=some (vc,b)/\∀c:Cx,Ent c b σ':=by
 cases r with
 | none=>cases h
 | some p =>
  obtain⟨f,b⟩:=p;simp only[Dr]at h;cases h;exact⟨b,rfl,λc a w hs=>Uz (σ':=⟨I8 d b.env,b.objs⟩) (λs v e=>WB e) (λ_=>rfl) hs⟩
section
variable {c:Cx} {R:Exit->Act->World->Prop} {k:List DP} {σ σ':St}
theorem xW (f:List Nat) (hm:c.P.follows .mixedOrders=true) (b:c.Ok) {l:List Oper} (d:QC l l.length=true) {vc:Prop}
  (h:Dr f (NR c.tb l false σ.objs [] l 0 [] [] σ)=some (vc,σ')) (e:vc) (hk:Ev c R (.out .normal) k σ'):Ev c R (.run (.region s l.toArray true)) k σ:=by
 obtain⟨g,h1,a⟩:=IG h;exact A18 hm b d h1 e (hk.ent (a c))
theorem xX (f:List Nat) (m:Nat) (hm:c.P.follows .mixedOrders=true) (b:c.Ok) {l:List Oper} (d:QC l (l.take (l.length-m)).length=true) {vc:Prop}
  (h:Dr f (NR c.tb l false σ.objs (l.drop (l.length-m)) (l.take (l.length-m)) 0 [] [] σ)=some (vc,σ')) (e:vc) (hk:Ev c R (.out .normal) k σ'):Ev c R (.run (.region s l.toArray true)) k σ:=by
 obtain⟨g,h1,a⟩:=IG h;exact A19 m hm b d h1 e (hk.ent (a c))
theorem Tl (f:List Nat) (b:c.Ok) {l:List Oper} (d:nT l l.length=true) {vc:Prop}
  (h:Dr f (NR c.tb l true σ.objs [] l 0 [] [] σ)=some (vc,σ')) (e:vc) (hk:Ev c R (.out .normal) k σ'):Ev c R (.run (.region s l.toArray false)) k σ:=by
 obtain⟨g,h1,a⟩:=IG h;exact nY b d h1 e (hk.ent (a c))
theorem MM (e:List Nat) (b:c.Ok) {l:List Oper} (h0:(l.all λo=>o.guard.isNone)=true) {vc:Prop} (h:Dr e (B5 c.tb l l σ)=some (vc,σ')) (d:vc) (hk:Ev c R (.out .normal) k σ') :
  Ev c R (.run (.region s l.toArray false)) k σ:=by
 obtain⟨f,h1,a⟩:=IG h;exact nZ b h0 h1 d (hk.ent (a c))
theorem HA (e:List Nat) (b:c.Ok) {ops:List Oper} {l:List Oper} {vc:Prop} (h:Dr e (B5 c.tb ops l σ)=some (vc,σ')) (d:vc) (hk:Ev c R (.out .normal) k σ'):N4 c R k ops.toArray l σ:=by
 obtain⟨f,h1,a⟩:=IG h;exact bR b (by simpa using h1) d (hk.ent (a c))
theorem A1c (d:c.Ok) {l:List Oper} (n:Nat) (h0:(l.all λo=>o.guard.isNone)=true) {vc:Prop} (h:B5 c.tb l (l.take n) σ=some (vc,σ')) (f:vc) (hk:N4 c R k l.toArray (l.drop n) σ') :
  Ev c R (.run (.region s l.toArray false)) k σ:=by
 intro h1 b a w hs;simp only[IC,Bn,Of]at h1;exact AC4 (NT d n (by simpa using h) f hk (λo e=>h1 o e) b a w hs)
theorem C4 {ops:Array Oper} (h:Ev c R (.out .normal) k σ):N4 c R k ops [] σ:=A5n h
end
end
end Go.Proofs.YtcmadlghkcjcbaaGreat.Fw
