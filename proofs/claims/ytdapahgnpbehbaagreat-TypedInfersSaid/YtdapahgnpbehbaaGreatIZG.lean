/- Contracts over memory; the frame rule of a call. -/
import Derived.Test.YtdapahgnpbehbaaGreatIZF
set_option linter.unusedVariables false
set_option linter.unusedSimpArgs false
namespace Go.Proofs.YtdapahgnpbehbaaGreat.Fw
section
open Go Go.RowKit
structure Zg (K O0:Nat→Prop) (objs:List (Nat×Obj)) (ρ:Nat→Value) (w:World):Prop where
 obj:∀n o,lk n objs=some o→Aw (vw w O0 ⟨[],objs⟩ ρ) o (ρ n)
 free:∀n b,Fl ⟨[],objs⟩ n→bk (ρ n) b→¬K b∧¬O0 b
 dist:∀n m b,Fl ⟨[],objs⟩ n→Fl ⟨[],objs⟩ m→bk (ρ n) b→bk (ρ m) b→n=m
def Hb (V:Vw):List AV→List Value→Prop
 | [],a=>a=[]
 | x :: r,a=>∃(v:Value) (l:List Value),a=v :: l∧Bm V x v∧Hb V r l
def NI (K O0:Nat→Prop) (stay:List Nat) (w:World) (ρ:Nat→Value) (post:AV→List (Nat×Obj)→Prop) (u:Value) (w':World):Prop :=
 ∃(res:AV) (a:List (Nat×Obj)) (ρ':Nat→Value),post res a∧Frm K w w'∧Zg K O0 a ρ' w'∧Bm (vw w' O0 ⟨[],a⟩ ρ') res u∧∀n∈stay,ρ' n=ρ n
def BE (P:Program) (f:FuncId) (args:List AV) (objs:List (Nat×Obj)) (stay:List Nat) (post:AV→List (Nat×Obj)→Prop):Prop :=
 (∃ fn : Func, P.funcs[f]? = some fn ∧ (fn.name == "runtime.NumGoroutine") = false ∧ fn.body.isNone = false) ∧
 ∀(w:World) (K O0:Nat→Prop) (ρ:Nat→Value) (a:List Value),(∀b,K b→b<w.heap.size)→(∀b,O0 b→b<w.heap.size)→Zg K O0 objs ρ w→Hb (vw w O0 ⟨[],objs⟩ ρ) args a →
  Calls P f a.toArray w fun e w'=>∃u,e=.returned u∧NI K O0 stay w ρ post u w'
def Ak:Nat→List AV→List (Nat×AV)
 | _,[]=>[]
 | s,x :: r=>(s,x) :: Ak (s+1) r
def A1l:AV→Prop
 | .p t d=>t.ok d
 | _=>True
def NJ:List AV→Prop
 | []=>True
 | x :: r=>A1l x∧NJ r
def pB:Obj→Prop
 | .arr _ e xs=>(Ty.slice e).ok xs
 | .box _ _ fs=>NJ fs
 | .mapo k v l=>∀x∈l,k.ok x.1∧v.ok x.2
 | .nest _ _ k e xs none=>(Ty.slice (.agg (.prod k (.slice e)))).ok xs
 | _=>True
def MM:List (Nat×Obj)→Prop
 | []=>True
 | x :: r=>pB x.2∧MM r
theorem A0t {V:Vw} {x:AV} {v:Value} (h:Bm V x v):A1l x:=by
 cases x<;>try trivial
 obtain⟨cs,a,_⟩:=h;exact Gt a
theorem Qu {V:Vw}:∀ {l:List AV} {b:List Value},Hb V l b→NJ l
 | [],_,_=>trivial
 | _ :: _,_,⟨_,_,_,h1,a⟩=>⟨A0t h1,Qu a⟩
theorem cS {V:Vw}:∀ {l:List AV} {cs:List Value},Cw V l cs→NJ l
 | [],_,_=>trivial
 | x :: _,_,⟨c1,c2,_,h1,a⟩=>⟨by
   cases x<;>try trivial
   exact Gt (h1:Be _ _ _ _ _),cS a⟩
theorem cU {w:World} {O:Nat→Prop} {k v:Ty}:∀ {b:List MapEntry} {l:List (k.den×v.den)},Ic w O k v b l→∀x∈l,k.ok x.1∧v.ok x.2
 | [],[],_,x,a=>by cases a
 | [],_ :: _,h,_,_=>h.elim
 | _ :: _,[],h,_,_=>h.elim
 | e :: b,y :: l,⟨⟨_,h1,_⟩,⟨_,c,_⟩,d⟩,x,a=>by
  rcases Do.1 a with rfl|a
  ·exact⟨Gt h1,Gt c⟩
  ·exact cU d x a
theorem Vq {V:Vw} {o:Obj} {loc:Value} (h:Aw V o loc):pB o:=by
 cases o with
 | arr et e xs =>
  obtain⟨n,cells,_,c⟩:=h;refine⟨n,fun x f=>?_⟩;obtain⟨i,hi,rfl⟩:=AAa.1 f;obtain⟨g,_,_,d⟩:=c i _ (AT hi);exact Gt d
 | box et w fs=>obtain⟨_,b,cs,_,_,a⟩:=h;exact cS a
 | mapo k v l=>obtain⟨b,g,cl,_,_,a,_⟩:=h;exact cU a
 | nest et q k e xs m =>
  cases m with
  | some i=>trivial
  | none =>
   obtain⟨o,ins,cells,_,j⟩:=h;have c:=MD (O':=fun _=>False) (fun _ _ h=>h) j (fun _ _ _ _ _ h=>h);refine⟨j.max,fun x f=>?_⟩;obtain⟨i,hi,rfl⟩:=AAa.1 f;obtain⟨g,_,_,d⟩:=c i _ (AT hi);exact Gt d
 | frame y fs=>trivial
 | loop L=>trivial
 | itr r u s t p=>trivial
 | dfr=>trivial
theorem Qv:∀ {l:List (Nat×Obj)},Ka l=true→(∀n o,lk n l=some o→pB o)→MM l
 | [],_,_=>trivial
 | (n,o) :: r,hk,h=>by
  simp only[Ka,An,DO,ABR]at hk;refine⟨h n o (by simp[lk]),Qv hk.2 fun m x a=>h m x ?_⟩;simp only[lk];rw[At (fun e=>hk.1 _ (E9 a) e)];exact a
theorem cV:∀(l:List AV) (a:List Value) (k:Nat) (V:Vw),Hb V l a→∀s v,lk s (Ak k l)=some v→k≤s∧∃u,a[s-k]?=some u∧Bm V v u
 | [],a,k,V,h,s,v,hs=>by simp[Ak,lk]at hs
 | x :: l,a,k,V,h,s,v,hs=>by
  obtain⟨u,r,rfl,h1,b⟩:=h;simp only[Ak,lk]at hs;split at hs
  ·rename_i e;cases hs;subst e;exact⟨If _,u,by simp,h1⟩
  ·obtain⟨g,f,c,d⟩:=cV l r (k+1) V b s v hs;refine⟨by omega,f,?_,d⟩;rw[show s-k=(s-(k+1))+1 by omega];simpa using c
theorem Hv {V:Vw}:∀ {l:List AV} {a:List Value},Hb V l a→a.length=l.length
 | [],a,h=>by have h:a=[]:=h;subst h;rfl
 | _ :: _,_,⟨_,_,rfl,_,h⟩=>by simp[Hv h]
def cm (P:Program) (tb:Tb) (w0:World) (K O0:Nat→Prop) (nt:Nat) (pin:List (Nat×Value)):Cx:={ P:=P,tb:=tb,w0:=w0,K:=K,O0:=O0,nt:=nt,ds:={ pin:=pin } }
theorem XV {P:Program} {tb:Tb} {w0:World} {K O0:Nat→Prop} {nt:Nat} {pin:List (Nat×Value)}:(cm P tb w0 K O0 nt pin).tb=tb:=rfl
def Pz (objs:List (Nat×Obj)) (n:Nat):Bool :=
 match lk n objs with
 | some (.arr _ _ _)=>Fv n
 | some (.nest _ _ _ _ _ _)=>Fv n
 | some _=>true
 | none=>false
theorem Rl {P:Program} {tb:Tb} {w0:World} {K O0:Nat→Prop} {nt:Nat} {args:List AV} {objs:List (Nat×Obj)} {stay:List Nat} {ρ:Nat→Value} {c:List Value} (f:Zg K O0 objs ρ w0) (q:Hb (vw w0 O0 ⟨[],objs⟩ ρ) args c) (m:stay.all (Pz objs)=true) (w:c.length≤nt) :
  (cm P tb w0 K O0 nt (stay.map fun n=>(n,ρ n))).sat ⟨Ak 0 args,objs⟩ { tmps:=c.toArray++Array.replicate (nt-c.toArray.size) undef,defers:=[] } w0:=by
 refine⟨ρ,⟨rfl,rfl,rfl,If _,fun _ _=>rfl⟩,by simp[cm];omega,rfl,fun p hp=>?_,f.obj,f.free,f.dist,fun s v hs=>?_⟩
 ·obtain⟨n,hn,rfl⟩:=Of.1 hp;have:=(DO.1 m) n hn;unfold Pz at this;cases g:lk n objs with
  | none=>rw[g]at this;cases this
  | some o =>
   rw[g]at this;refine⟨⟨o,g⟩,rfl,?_⟩;have d:=f.obj n o g;cases o with
   | arr et e xs=>exact .inr this
   | nest et y k e xs t=>exact .inr this
   | box et D fs=>obtain⟨_,b,cs,a,_⟩:=d;rw[a];exact .inl rfl
   | mapo k v l=>obtain⟨b,r,cl,a,_⟩:=d;rw[a];exact .inl rfl
   | frame E fs=>obtain⟨a,_⟩:=d;rw[a];exact .inl rfl
   | loop L=>obtain⟨b,a,_⟩:=d;rw[a];exact .inl rfl
   | itr z C A B x=>obtain⟨b,a,_⟩:=d;rw[a];exact .inl rfl
   | dfr=>obtain⟨b,a,_⟩:=d;rw[a];exact .inl rfl
 ·obtain⟨_,u,h1,i⟩:=cV args c 0 _ q s v hs;have h1:c[s]?=some u:=by simpa using h1
  have h:s<c.length:=(No.1 h1).1;have j:(c.toArray++Array.replicate (nt-c.toArray.size) undef).getD s undef=u:=by
   have:c[s]=u:=by rw[AT h]at h1;injection h1
   simp[Array.getElem?_append,h,this]
  rw[j];exact i
def vG (P:Program) (fn:Func) (w0:World) (K O0:Nat→Prop) (stay:List Nat) (ρ0:Nat→Value) (post:AV→List (Nat×Obj)→Prop):Exit→Act→World→Prop :=
 bodyPost P fn fun e w'=>∃u,e=.returned u∧NI K O0 stay w0 ρ0 post u w'
theorem A0u {P:Program} {tb:Tb} {f:FuncId} {fn:Func} {cd:Code} {nt:Nat} {args:List AV} {objs:List (Nat×Obj)} {stay:List Nat} {post:AV→List (Nat×Obj)→Prop}
  (c : P.funcs[f]? = some fn) (k : (fn.name == "runtime.NumGoroutine") = false) (b : fn.body = some cd) (l : fn.ntmps = nt) (q : args.length ≤ nt)
  (i:Bk nt cd=true) (p:stay.all (Pz objs)=true) (j:Ka objs=true) (hT:Cg P tb) (hF:Hl P tb)
  (h:∀(w0:World) (K O0:Nat→Prop) (ρ0:Nat→Value),(cm P tb w0 K O0 nt (stay.map fun n=>(n,ρ0 n))).Ok→NJ args→MM objs →
   Ev (cm P tb w0 K O0 nt (stay.map fun n=>(n,ρ0 n))) (vG P fn w0 K O0 stay ρ0 post) (.run cd) [] ⟨Ak 0 args,objs⟩):BE P f args objs stay post:=by
 refine⟨⟨fn,c,k,by simp[b]⟩,fun w K O0 ρ s e g d a=>?_⟩;refine calls_of_wp c b ((wpIn_wide (n:=0)).1 ?_);have r:=Hv a;rw[l];exact h w K O0 ρ ⟨e,g,hT,hF⟩ (Qu a) (Qv j fun n o m=>Vq (d.obj n o m)) i rfl _ _ (Rl d a p (by omega))
def kW (tb:Tb) (σ:St) (rv:ResultVar):AV→Prop
 | .p t d=>ID σ t (Gr tb σ rv)=some d
 | x=>Gr tb σ rv=some x
def Oj (tb:Tb) (σ:St):List ResultVar→List AV→Prop
 | [],[]=>True
 | rv :: a,x :: l=>kW tb σ rv x∧Oj tb σ a l
 | _,_=>False
def UH:AV→Bool
 | .tup _=>false
 | _=>true
def Rm (tb:Tb) (σ:St):List ResultVar→AV→Prop
 | [],x=>x=.raw (.tuple #[])
 | [rv],x=>kW tb σ rv x
 | a,.tup l=>l.all UH=true∧Oj tb σ a l
 | _,_=>False
section
variable {P:Program} {tb:Tb} {w0:World} {K O0:Nat→Prop} {nt:Nat} {ds:Fp} {σ:St} {ρ:Nat→Value} {a:Act} {w:World}
theorem cW (hT:Cg P tb) (hs:Bb w0 K O0 nt ds σ ρ a w) {rv:ResultVar} {x:AV} (h:kW tb σ rv x):∃u,(Ii a.tmps rv).run P w=.ok u w∧Bm (vw w O0 σ ρ) x u:=by
 by_cases hp:∃t d,x=.p t d
 ·obtain⟨t,d,rfl⟩:=hp;simp only[kW]at h;cases c:Gr tb σ rv with
  | none=>rw[c]at h;simp[ID]at h
  | some v =>
   rw[c]at h;simp only[ID]at h;obtain⟨u,h1,e⟩:=Qp hT hs c;exact⟨u,h1,Ie (V:=vw w O0 σ ρ) (O':=own O0 σ ρ) (fun b f g=>f g) (fun h=>by cases h) hs.objs h e⟩
 ·have h:Gr tb σ rv=some x:=by
   cases x<;>first|exact h|exact absurd ⟨_,_,rfl⟩ hp
  exact Qp hT hs h
theorem A1m {V:Vw} {x:AV} {v:Value} (hn:UH x=true) (h:Bm V x v):Pi V x v:=by
 cases x<;>first|(simp[UH]at hn;done)|exact h
theorem UI (hT:Cg P tb) (hs:Bb w0 K O0 nt ds σ ρ a w):∀ {c:List ResultVar} {l:List AV},l.all UH=true→Oj tb σ c l →
  ∃b:List Value,(c.mapM (Ii a.tmps)).run P w=.ok b w∧b.length=l.length∧Ib (vw w O0 σ ρ) l b
 | [],[],_,_=>⟨[],by simp,rfl,rfl⟩
 | [],_ :: _,_,h=>h.elim
 | _ :: _,[],_,h=>h.elim
 | rv :: c,x :: l,hn,h=>by
  simp only[AAU,An]at hn;obtain⟨u,h1,d⟩:=cW hT hs h.1;obtain⟨b,e,f,g⟩:=UI hT hs hn.2 h.2;refine⟨u :: b,?_,by simp[f],u,b,rfl,A1m hn.1 d,g⟩;rw[List.mapM_cons];simp only[AAA,h1,AA6,e,AB1]
theorem Rn {tb:Tb} {σ:St}:∀ {a:List ResultVar} {l:List AV},Oj tb σ a l→a.length=l.length
 | [],[],_=>rfl
 | [],_ :: _,h=>h.elim
 | _ :: _,[],h=>h.elim
 | _ :: _,_ :: _,h=>by simp[Rn h.2]
theorem XW (hT:Cg P tb) (hs:Bb w0 K O0 nt ds σ ρ a w) {fn:Func} {x:AV} (h:Rm tb σ fn.results.toList x):∃u,(results fn a.tmps).run P w=.ok u w∧Bm (vw w O0 σ ρ) x u:=by
 have key:∀b:List Value,(fn.results.toList.mapM (Ii a.tmps)).run P w=.ok b w→(results fn a.tmps).run P w=.ok (if h:b.toArray.size=1 then b.toArray[0] else .tuple b.toArray) w:=by
  intro b h1;rw[MG];have g:(fn.results.mapM (Ii a.tmps)).run P w=.ok b.toArray w:=by
   rw[ABl];simp only[Sem.run_map,h1,AA6]
  simp only[AAA,g,AA6,AB1]
 generalize fn.results.toList=m at h key;unfold Rm at h;split at h
 ·subst h;exact⟨_,key [] (by simp),rfl⟩
 ·rename_i rv;obtain⟨u,h1,c⟩:=cW hT hs h;exact⟨_,key [u] (by simp[h1]),c⟩
 ·rename_i l k i;obtain⟨b,h1,c,d⟩:=UI hT hs h.1 h.2;have f:=Rn h.2;refine⟨_,key b h1,?_⟩;have:¬b.toArray.size=1:=by
   intro e;have e:b.length=1:=by simpa using e
   rw[c,←f]at e;obtain⟨z,j⟩:=AAJ.1 e;exact i z j
  rw[dif_neg this];exact⟨b,rfl,d⟩
 ·exact h.elim
end
theorem vH {P:Program} {tb:Tb} {w0:World} {K O0:Nat→Prop} {nt:Nat} {stay:List Nat} {ρ0:Nat→Value} {fn:Func} {post:AV→List (Nat×Obj)→Prop} {σ:St} {e:Exit} (f:(cm P tb w0 K O0 nt (stay.map fun n=>(n,ρ0 n))).Ok)
  (c:List ResultVar) (i:fn.results.toList=c) (g:e=.ret∨e=.normal) (res:AV) (h:Rm tb σ c res) (hp:post res σ.objs) :
  Ev (cm P tb w0 K O0 nt (stay.map fun n=>(n,ρ0 n))) (vG P fn w0 K O0 stay ρ0 post) (.out e) [] σ:=by
 intro _ _ a w hs;obtain⟨ρ,hs⟩:=hs;obtain⟨u,h1,d⟩:=XW f.T hs (by rw[i];exact h);have b:NI K O0 stay w0 ρ0 post u w:=by
  refine⟨res,σ.objs,ρ,hp,hs.frm,⟨hs.objs,hs.free,hs.dist⟩,d,fun n hn=>?_⟩;exact(hs.pin (n,ρ0 n) (Of.2 ⟨n,hn,rfl⟩)).2.1
 rcases g with rfl|rfl
 ·exact⟨hs.defers,u,h1,u,rfl,b⟩
 ·exact⟨hs.defers,u,h1,u,rfl,b⟩
end
section
open Go Go.RowKit
def Df:Option AV→Option (FuncId×List Nat)
 | some (.fn f)=>some (f,[])
 | some (.clo f ns)=>some (f,ns)
 | _=>none
def Kk (σ:St):List Operand→Option (List AV)
 | []=>some []
 | x :: r=>match AZ σ x,Kk σ r with
  | some v,some a=>some (v :: a)
  | _,_=>none
def Ip (σ:St) (ren:List (Nat×B8)) (x:AV):AV→Prop
 | .p t d=>J0 false σ t x=some d
 | y=>Bn ren x y
def Bg (σ:St) (ren:List (Nat×B8)):List AV→List AV→Prop
 | [],[]=>True
 | x :: l,y :: r=>Ip σ ren x y∧Bg σ ren l r
 | _,_=>False
def Ap:List (Nat×B8)→List Nat
 | []=>[]
 | (_,.nm n) :: r=>n :: Ap r
 | (_,.nil) :: r=>Ap r
def zZ (m:Nat):Option B8→Bool
 | some (.nm a)=>a==m
 | _=>false
def z0 (n:Nat) (f:Option B8) (m:Nat):Option B8→Bool
 | some (.nm a)=>a==n&&zZ m f
 | _=>false
def J9 (ren a:List (Nat×B8)) (stay hs:List Nat):Bool:=(Ap ren).all fun n=>AU n hs||ren.any fun p=>AU p.1 stay&&z0 n (lk n a) p.1 (lk p.1 ren)
def GI (a:List Nat) (b objs:List (Nat×Obj)):Bool:=b.all fun p=>AU p.1 a||(lk p.1 objs).isNone
def Kl (dst:Option Nat) (v:AV) (env:List (Nat×AV)):List (Nat×AV) :=
 match dst with
 | some d=>(d,v) :: env
 | none=>env
def Ci (σ:St) (a hs:List Nat) (dst:Option Nat) (res:AV) (b:List (Nat×Obj)):St:=⟨Kl dst res (Ba hs σ.env),b++Ab a hs σ.objs⟩
theorem MN {n:Nat}:∀ {l:List (Nat×B8)},n∈Ap l↔∃m,(m,B8.nm n)∈l
 | []=>by simp[Ap]
 | (m,.nm k) :: r=>by
  simp only[Ap,Do,MN (l:=r),ACn,B8.nm.injEq];constructor
  ·rintro (rfl|⟨j,a⟩)
   ·exact⟨m,.inl ⟨rfl,rfl⟩⟩
   ·exact⟨j,.inr a⟩
  ·rintro⟨j,(⟨_,rfl⟩|a)⟩
   ·exact .inl rfl
   ·exact .inr ⟨j,a⟩
 | (m,.nil) :: r=>by
  simp only[Ap,Do,MN (l:=r),ACn];constructor
  ·rintro⟨j,a⟩;exact⟨j,.inr a⟩
  ·rintro⟨j,(⟨_,h⟩|a)⟩
   ·cases h
   ·exact⟨j,a⟩
theorem Vr {V:Vw} {σ:St} {ev:Operand→Value} (b:FK V σ ev):∀ {xs:List Operand} {a:List AV},Kk σ xs=some a→Hb V a (xs.map ev)
 | [],a,h=>by simp only[Kk]at h;cases h;exact(rfl:_=_)
 | x :: r,a,h=>by
  simp only[Kk]at h;split at h
  ·rename_i v l h1 c;cases h;exact⟨ev x,r.map ev,rfl,b x v h1,Vr b c⟩
  ·cases h
section
variable {V V':Vw} {ren:List (Nat×B8)} {σ:St}
theorem Ro (f:Kb ren V V') (g:∀b,¬V.O b→¬V'.O b) (i:∀n o,lk n σ.objs=some o→Aw V o (V.ρ n)):∀ {l r:List AV} {e:List Value},Bg σ ren l r→Hb V l e→Hb V' r e
 | [],[],e,_,h=>h
 | [],_ :: _,_,a,_=>a.elim
 | _ :: _,[],_,a,_=>a.elim
 | x :: l,y :: r,e,a,h=>by
  obtain⟨v,l',rfl,h1,j⟩:=h;refine⟨v,l',rfl,?_,Ro f g i a.2 j⟩;have c:=a.1;by_cases hp:∃t d,y=.p t d
  ·obtain⟨t,d,rfl⟩:=hp;have c:J0 false σ t x=some d:=c;have:=Ie (V:=V) (O':=V'.O) g (fun h=>by cases h) i c h1;show BM V'.w V'.O t v d;rw[f.w];exact this
  ·have c:Bn ren x y:=by
    cases y<;>first|exact c|exact absurd ⟨_,_,rfl⟩ hp
   exact LS f c h1
end
section
variable {c:Cx} {R:Exit→Act→World→Prop} {k:List DG} {σ:St}
theorem cX {c:Cx} {a:Act} {dst:Option Nat} {u:Value} {s:Nat} {y:AV} {V:Vw} {env:List (Nat×AV)} {res:AV} (i:a.tmps.size=c.nt) (f:∀d,dst=some d→d<c.nt) (g:Bm V res u) (b:∀s v,lk s env=some v→Bm V v (a.tmps.getD s undef))
  (h:lk s (Kl dst res env)=some y):Bm V y ((a.put dst u).tmps.getD s undef):=by
 cases dst with
 | none=>exact b s y h
 | some d =>
  rw[JT a d u s (by rw[i];exact f d rfl)];simp only[Kl,lk]at h;split at h
  ·rename_i e;cases h;rw[BY e];exact g
  ·rename_i e;rw[At e];exact b s y h
theorem Ol (bd:c.Ok) {dst:Option Nat} {ρ:Nat→Value} {a:Act} {w:World} (g:Bb c.w0 c.K c.O0 c.nt c.ds σ ρ a w) {as:List AV} {bn:List Value} (bu:Hb (vw w c.O0 σ ρ) as bn)
  {A:List AV} {objs:List (Nat×Obj)} (stay:List Nat) (post:AV→List (Nat×Obj)→Prop)
  (ren:List (Nat×B8)) (h1:CG ren=true) (au:Cc objs ren=true) (br:Bg σ ren as A) (az:Al σ.objs ren objs)
  (hs:List Nat) (ci:(c.ds.pin.all fun p=>!AU p.1 hs)=true) {next:Act→World→Prop} (bw:∀d,dst=some d→d<c.nt)
  (hk:∀res S,post res S→∃(t:List (Nat×B8)) (ag:AV) (l:List (Nat×Obj)),CG t=true∧Cc l t=true∧Al S t l∧Bn t res ag ∧
   J9 ren t stay hs=true∧GI (Ap ren) l σ.objs=true∧∀ao w',c.sat (Ci σ (Ap ren) hs dst ag l) ao w'→next ao w') :
  ∃(M G:Nat→Prop) (B:Nat→Value),(∀b,M b→b<w.heap.size)∧(∀b,G b→b<w.heap.size)∧Zg M G objs B w∧Hb (vw w G ⟨[],objs⟩ B) A bn∧(∀m n,lk m ren=some (.nm n)→B m=ρ n) ∧
   ∀u w',NI M G stay w B post u w'→next (a.put dst u) w':=by
 let B:Nat→Value:=fun m=>match lk m ren with|some (.nm n)=>ρ n|_=>.slice none 0 0
 have af:∀m n,lk m ren=some (.nm n)→B m=ρ n:=fun m n f=>by simp[B,f]
 have bj:∀m,lk m ren=some .nil→B m=.slice none 0 0:=fun m f=>by simp[B,f]
 let G:Nat→Prop:=fun b=>c.O0 b∨∃n,Fl σ n∧n∉Ap ren∧bk (ρ n) b
 let M:Nat→Prop:=fun b=>b<w.heap.size∧¬ ∃m,Fl ⟨[],objs⟩ m∧bk (B m) b
 have T:∀m b,Fl ⟨[],objs⟩ m→bk (B m) b→∃n,lk m ren=some (.nm n)∧Fl σ n∧bk (ρ n) b:=by
  rintro m b ⟨an,f⟩ e;have hf:=Cq az f;cases j:lk m ren with
  | none=>rw[j]at hf;exact hf.elim
  | some fr =>
   cases fr with
   | nil=>rw[bj m j]at e;simp[bk,blk]at e
   | nm n =>
    rw[j]at hf;rw[af m n j]at e;refine⟨n,rfl,?_,e⟩;cases hn:lk n σ.objs with
    | none=>simp only[GH,hn,IE]at hf
    | some x=>exact⟨x,hn⟩
 have cb:∀m fr,lk m ren=some fr→Fl ⟨[],objs⟩ m:=fun m fr f=>by
  simp only[Cc,DO]at au;exact AB2.1 (au _ (E9 f))
 have bf:∀m n,lk m ren=some (.nm n)→n∈Ap ren:=fun m n f=>MN.2 ⟨m,E9 f⟩;have bc:∀b,¬own c.O0 σ ρ b→¬own G ⟨[],objs⟩ B b:=by
  intro b e C;rcases C with (h0|⟨n,hn,_,i⟩)|⟨m,f,o⟩
  ·exact e (.inl h0)
  ·exact e (.inr ⟨n,hn,i⟩)
  ·obtain⟨n,_,hn,i⟩:=T m b f o;exact e (.inr ⟨n,hn,i⟩)
 have ba:Kb ren (vw w c.O0 σ ρ) (vw w G ⟨[],objs⟩ B):=⟨rfl,bc,af,bj,cb⟩;have ce:Zg M G objs B w:=by
  refine⟨fun m an f=>Od ba g.objs (Cq az f),fun m b f e=>⟨fun aj=>aj.2 ⟨m,f,e⟩,fun h0=>?_⟩,fun m X b f al e C=>?_⟩
  ·obtain⟨n,j,hn,i⟩:=T m b f e;rcases h0 with h0|⟨r,D,q,Y⟩
   ·exact(g.free n b hn i).2 h0
   ·have:=g.dist n r b hn D i Y;subst this;exact q (bf m n j)
  ·obtain⟨n,j,hn,i⟩:=T m b f e;obtain⟨r,Z,D,Y⟩:=T X b al C;have:=g.dist n r b hn D i Y;subst this;exact Qq h1 j Z
 have bt:∀b,G b→b<w.heap.size:=by
  rintro b (h0|⟨n,⟨an,hn⟩,_,i⟩)
  ·exact AAq (bd.O b h0) g.frm.size
  ·exact(g.objs n an hn).block_lt i
 refine⟨M,G,B,fun b e=>e.1,bt,ce,Ro ba bc g.objs br bu,af,?_⟩;rintro u w' ⟨res,S,ρ',cj,N,W,bv,ck⟩;obtain⟨t,ag,l,bo,ap,ah,bp,aq,ar,cf⟩:=hk res S cj;refine cf _ _ ?_
 let F:Nat→Value:=fun n=>match lk n t with|some (.nm m)=>ρ' m|some .nil=>.slice none 0 0|none=>ρ n
 have ai:∀n m,lk n t=some (.nm m)→F n=ρ' m:=fun n m hn=>by simp[F,hn]
 have av:∀n,lk n t=some .nil→F n=.slice none 0 0:=fun n hn=>by simp[F,hn]
 have bq:∀n,lk n t=none→F n=ρ n:=fun n hn=>by simp[F,hn]
 let σ2:=Ci σ (Ap ren) hs dst ag l
 have ch:σ2.objs=l++Ab (Ap ren) hs σ.objs:=rfl;have ae:∀n,lk n σ2.objs=(lk n l).or (lk n (Ab (Ap ren) hs σ.objs)):=fun n=>by rw[ch,Av]
 have ak:∀n fr,lk n t=some fr→∃x,lk n l=some x:=fun n fr hn=>by
  simp only[Cc,DO]at ap;exact AB2.1 (ap _ (E9 hn))
 have bx:∀n x,lk n l=some x→∃fr,lk n t=some fr:=fun n x hn=>by
  have hf:=Cq ah hn;cases j:lk n t with
  | none=>rw[j]at hf;exact hf.elim
  | some fr=>exact⟨fr,rfl⟩
 have bz:∀n x,lk n l=some x→n∈Ap ren∨lk n σ.objs=none:=fun n x hn=>by
  simp only[GI,DO,AA1]at ar;rcases ar _ (E9 hn) with h|h
  ·exact .inl ((AW _ _).1 h)
  ·exact .inr (by simpa using h)
 have I:∀n x,lk n (Ab (Ap ren) hs σ.objs)=some x→n∉Ap ren∧lk n l=none∧∃y,lk n σ.objs=some y∧x=y.fgt hs:=by
  intro n x hn;rw[BR]at hn;split at hn
  ·cases hn
  ·rename_i q;simp only[IN]at hn;obtain⟨y,k,rfl⟩:=hn;have q:n∉Ap ren:=fun h=>q ((AW _ _).2 h);refine⟨q,?_,y,k,rfl⟩;cases H:lk n l with
   | none=>rfl
   | some z =>
    rcases bz n z H with h|h
    ·exact absurd h q
    ·rw[h]at k;cases k
 have U:∀n x,lk n σ2.objs=some x→lk n l=some x∨(lk n l=none∧lk n (Ab (Ap ren) hs σ.objs)=some x):=by
  intro n x hn;rw[ae]at hn;cases H:lk n l with
  | some z=>rw[H]at hn;exact .inl hn
  | none=>rw[H]at hn;exact .inr ⟨rfl,by simpa using hn⟩
 have Q:∀n x b,lk n l=some x→bk (F n) b→∃m,lk n t=some (.nm m)∧Fl ⟨[],S⟩ m∧bk (ρ' m) b:=by
  intro n x b hn e;have hf:=Cq ah hn;obtain⟨fr,j⟩:=bx n x hn;cases fr with
  | nil=>rw[av n j]at e;simp[bk,blk]at e
  | nm m =>
   rw[j]at hf;rw[ai n m j]at e;refine⟨m,j,?_,e⟩;cases hn:lk m S with
   | none=>simp only[GH,hn,IE]at hf
   | some z=>exact⟨z,hn⟩
 have J:∀n,lk n l=none→F n=ρ n:=fun n hn=>by
  apply bq;cases H:lk n t with
  | none=>rfl
  | some fr=>obtain⟨x,R⟩:=ak n fr H;rw[R]at hn;cases hn
 have bb:Kb t (vw w' G ⟨[],S⟩ ρ') (vw w' c.O0 σ2 F):=by
  refine⟨rfl,fun b e C=>?_,ai,av,fun n fr hn=>?_⟩
  ·rcases C with h0|⟨n,⟨x,hn⟩,i⟩
   ·exact e (.inl (.inl h0))
   ·rcases U n x hn with hn|⟨E,hn⟩
    ·obtain⟨m,_,f,o⟩:=Q n x b hn i;exact e (.inr ⟨m,f,o⟩)
    ·obtain⟨q,_,y,k,_⟩:=I n x hn;rw[J n E]at i;exact e (.inl (.inr ⟨n,⟨y,k⟩,q,i⟩))
  ·obtain⟨x,R⟩:=ak n fr hn;exact⟨x,by rw[ae,R];rfl⟩
 have bs:∀b,(∃m,Fl ⟨[],objs⟩ m∧bk (B m) b)→own c.O0 σ ρ b:=by
  rintro b ⟨m,f,e⟩;obtain⟨n,_,hn,i⟩:=T m b f e;exact .inr ⟨n,hn,i⟩
 have ax:∀b,b<w.heap.size→¬own c.O0 σ ρ b→M b:=fun b P e=>⟨P,fun h=>e (bs b h)⟩;have ad:B7 ((vw w c.O0 σ ρ).buts hs) (vw w' c.O0 σ2 F):=by
  have ay:∀n,Fl σ n→AU n hs=false→Fl σ2 n∧F n=ρ n:=by
   intro n hn cg;by_cases be:n∈Ap ren
   ·simp only[J9,DO,AA1]at aq;rcases aq n be with h|h
    ·rw[cg]at h;cases h
    ·simp only[OF,An]at h;obtain⟨⟨m,fr⟩,hp,bi,V⟩:=h;simp only at bi V;unfold z0 at V;split at V
     ·rename_i r cc;simp only[An,AA0]at V;obtain⟨rfl,ab⟩:=V;unfold zZ at ab;split at ab
      ·rename_i X bg;have:X=m:=by simpa using ab
       subst this;obtain⟨x,R⟩:=ak _ _ bg;refine⟨⟨x,by rw[ae,R];rfl⟩,?_⟩;rw[ai _ _ bg,ck X ((AW _ _).1 bi)];exact af _ _ cc
      ·cases ab
     ·cases V
   ·obtain⟨x,R⟩:=hn;have j:lk n (Ab (Ap ren) hs σ.objs)=some (x.fgt hs):=by
     rw[BR,At (fun h=>be ((AW _ _).1 h)),R];rfl
    obtain⟨_,E,_⟩:=I n _ j;exact⟨⟨_,by rw[ae,E,j];rfl⟩,J n E⟩
  refine⟨fun b P e C=>?_,fun n hn=>(ay n hn.1 hn.2).1,fun n hn=>(ay n hn.1 hn.2).2,fun b P e=>N.block b (ax b P e)⟩;have P:b<w.heap.size:=P;have e:¬own c.O0 σ ρ b:=e;rcases C with h0|⟨n,⟨x,hn⟩,i⟩
  ·exact e (.inl h0)
  ·rcases U n x hn with hn|⟨E,hn⟩
   ·obtain⟨m,_,f,o⟩:=Q n x b hn i;exact(W.free m b f o).1 (ax b P e)
   ·obtain⟨q,_,y,k,_⟩:=I n x hn;rw[J n E]at i;exact e (.inr ⟨n,⟨y,k⟩,i⟩)
 have aw:∀b,c.K b→M b:=fun b e=>⟨AAq (bd.K b e) g.frm.size,fun⟨m,f,o⟩=>by
  obtain⟨n,_,hn,i⟩:=T m b f o;exact(g.free n b hn i).1 e⟩
 refine⟨F,⟨N.os.trans g.frm.os,N.tape.trans g.frm.tape,N.output.trans g.frm.output,f4 g.frm.size N.size,fun b e=>(N.block b (aw b e)).trans (g.frm.block b e)⟩,by rw[Id];exact g.nt,by rw[FX];exact g.defers,fun p hp=>?_,fun n x hn=>?_,fun n b H e=>?_,fun n r b H ca e C=>?_,fun s v cl=>?_⟩
 ·obtain⟨bl,cn,co⟩:=g.pin p hp;have bm:AU p.1 hs=false:=by simpa using (DO.1 ci) p hp
  have cp:=ad.ρ p.1 ⟨bl,bm⟩;exact⟨ad.L p.1 ⟨bl,bm⟩,cp.trans cn,co⟩
 ·rcases U n x hn with hn|⟨E,hn⟩
  ·exact Od bb W.obj (Cq ah hn)
  ·obtain⟨q,_,y,k,rfl⟩:=I n x hn;rw[J n E];refine Qn ad (fun b e=>?_) (g.objs n y k);refine N.block b ⟨(g.objs n y k).block_lt e,fun⟨m,f,o⟩=>?_⟩;obtain⟨r,Z,D,Y⟩:=T m b f o;have:=g.dist n r b ⟨y,k⟩ D e Y;subst this;exact q (bf m n Z)
 ·obtain⟨x,hn⟩:=H;rcases U n x hn with hn|⟨E,hn⟩
  ·obtain⟨m,_,f,o⟩:=Q n x b hn e;have:=W.free m b f o;exact⟨fun aj=>this.1 (aw b aj),fun h0=>this.2 (.inl h0)⟩
  ·obtain⟨q,_,y,k,rfl⟩:=I n x hn;rw[J n E]at e;exact g.free n b ⟨y,k⟩ e
 ·obtain⟨x,hn⟩:=H;obtain⟨aa,D⟩:=ca;rcases U n x hn with hn|⟨E,hn⟩<;>rcases U r aa D with D|⟨bh,D⟩
  ·obtain⟨m,j,f,o⟩:=Q n x b hn e;obtain⟨X,Z,al,cd⟩:=Q r aa b D C;have:=W.dist m X b f al o cd;subst this;exact Qq bo j Z
  ·exfalso;obtain⟨m,j,f,o⟩:=Q n x b hn e;obtain⟨q,_,y,k,rfl⟩:=I r aa D;rw[J r bh]at C;exact(W.free m b f o).2 (.inr ⟨r,⟨y,k⟩,q,C⟩)
  ·exfalso;obtain⟨m,j,f,o⟩:=Q r aa b D C;obtain⟨q,_,y,k,rfl⟩:=I n x hn;rw[J n E]at e;exact(W.free m b f o).2 (.inr ⟨n,⟨y,k⟩,q,e⟩)
  ·obtain⟨_,_,y,k,rfl⟩:=I n x hn;obtain⟨_,_,cq,cm,rfl⟩:=I r aa D;rw[J n E]at e;rw[J r bh]at C;exact g.dist n r b ⟨y,k⟩ ⟨cq,cm⟩ e C
 ·refine cX (c:=c) g.nt bw (LS bb bp bv) (fun s v am=>?_) cl;rw[Dl]at am;simp only[IN]at am;obtain⟨y,k,rfl⟩:=am;exact(M0 (g.env s y k)).keeps ad
theorem cZ (ag:c.Ok) {o:Oper} {dst:Option Nat} {g:Operand} {xs:List Operand} {ts:Array TypeId} (M:o.op=.call { callee:=.value g,args:=xs.toArray,argTypes:=ts }) (ak:o.dst=dst)
  {f:FuncId} {k:List Nat} (j:Df (AZ σ g)=some (f,k)) {as:List AV} (ad:Kk σ xs=some as)
  {A:List AV} {objs:List (Nat×Obj)} {stay:List Nat} {post:AV→List (Nat×Obj)→Prop} (C:BE c.P f A objs stay post)
  (ren:List (Nat×B8)) (h1:CG ren=true) (U:Cc objs ren=true) (V:Bg σ ren (as++k.map fun n=>AV.bp n [] 0) A) (X:Al σ.objs ren objs)
  (hs:List Nat) (ap:(c.ds.pin.all fun p=>!AU p.1 hs)=true) {next:Act→World→Prop} {Q:Exit→Act→World→Prop} {a:Act} {w:World} (au:c.sat σ a w) (aj:∀d,dst=some d→d<c.nt)
  (hk:∀res O,post res O→∃(t:List (Nat×B8)) (R:AV) (B:List (Nat×Obj)),CG t=true∧Cc B t=true∧Al O t B∧Bn t res R ∧
   J9 ren t stay hs=true∧GI (Ap ren) B σ.objs=true∧∀I w',c.sat (Ci σ (Ap ren) hs dst R B) I w'→next I w'):o.wpIn (FR c.r) 0 c.P a w next Q:=by
 obtain⟨ρ,N⟩:=au;have K:FK (vw w c.O0 σ ρ) σ a.eval:=DU N.env;obtain⟨⟨fn,al,ao,af⟩,C⟩:=C;obtain⟨m,am,ai⟩:∃m:List Value,a.eval g=.func (.func f) #[] m.toArray∧Hb (vw w c.O0 σ ρ) (k.map fun n=>AV.bp n [] 0) m:=by
  cases E:AZ σ g with
  | none=>rw[E]at j;simp[Df]at j
  | some J =>
   rw[E]at j;have D:=K g J E;cases J<;>simp only[Df]at j<;>try(cases j;done)
   ·cases j;exact⟨[],D,rfl⟩
   ·rename_i ay ns;cases j;refine⟨k.map ρ,D.1,?_⟩;have h0:∀l:List Nat,(∀n∈l,n∈k)→Hb (vw w c.O0 σ ρ) (l.map fun n=>AV.bp n [] 0) (l.map ρ):=by
     intro l;induction l with
     | nil=>intro _;exact rfl
     | cons n r H =>
      intro L;obtain⟨q,b,i⟩:=D.2 n (L n (by simp));have i:ρ n=_:=i;exact⟨ρ n,r.map ρ,rfl,⟨q,b,i,i⟩,H fun x av=>L x (by simp[av])⟩
    exact h0 k fun _ h=>h
 have ab:=Vr K ad;have aa:∀ {l r:List AV} {y z:List Value},Hb (vw w c.O0 σ ρ) l y→Hb (vw w c.O0 σ ρ) r z→Hb (vw w c.O0 σ ρ) (l++r) (y++z):=by
  intro l;induction l with
  | nil=>intro r y z s G;have s:y=[]:=s;subst s;exact G
  | cons x l H =>
   intro r y z s G;obtain⟨v,aw,rfl,q,i⟩:=s;exact⟨v,aw++z,rfl,q,H i G⟩
 have Z:=aa ab ai;have ar:(execOp a.eval o).run c.P w=.ok (.enter f (xs.map a.eval++m).toArray) w:=by
  have q : ¬ fn.name = "runtime.NumGoroutine" := by simpa using ao
  have i:¬fn.body=none:=by intro e;simp[e]at af
  simp[execOp,M,resolve,Deferred.ofValue,am,invoke,callFunc,al,q,i]
 obtain⟨S,T,ax,W,Y,an,ae,_,aq⟩:=Ol ag N Z stay post ren h1 U V X hs ap aj hk;have ah:=C w S T ax (xs.map a.eval++m) W Y an ae;refine⟨fun _ _=>trivial,?_⟩;rw[Er _ _ _ (fun cl e=>by rw[M]at e;cases e),ar,ACm];refine⟨fun h=>(by simp[FR]at h),JX (ah.mono fun e w' F=>?_)⟩;obtain⟨u,rfl,F⟩:=F;rw[ak];exact aq u w' F
theorem pC (D:c.Ok) {ops:Array Oper} {rest:List Oper} {dst:Option Nat} {g:Operand} {xs:List Operand} {ts:Array TypeId} {ty:TypeId} {pos:String} {after:Array Edge}
  {f:FuncId} {i:List Nat} (E:Df (AZ σ g)=some (f,i)) {as:List AV} (C:Kk σ xs=some as)
  {A:List AV} {objs:List (Nat×Obj)} {stay:List Nat} {post:AV→List (Nat×Obj)→Prop} (z:BE c.P f A objs stay post)
  (ren:List (Nat×B8)) (hs:List Nat) (h1:CG ren=true) (v:Cc objs ren=true) (H:(c.ds.pin.all fun p=>!AU p.1 hs)=true) (x:Bg σ ren (as++i.map fun n=>AV.bp n [] 0) A) (B:Al σ.objs ren objs)
  (hk:∀res e,post res e→∃(b:List (Nat×B8)) (h:AV) (d:List (Nat×Obj)),CG b=true∧Cc d b=true∧Al e b d∧Bn b res h ∧
   J9 ren b stay hs=true∧GI (Ap ren) d σ.objs=true∧GQ c R k ops rest (Ci σ (Ap ren) hs dst h d)) :
  GQ c R k ops (⟨dst,.call ⟨.value g,xs.toArray,ts⟩,ty,pos,after,none⟩ :: rest) σ:=by
 intro j F a w J;unfold wpListIn;rw[BY (by simp[Region.wanted])];refine cZ D (xs:=xs) (ts:=ts) rfl rfl E C z ren h1 v x B hs H J (Bd (j _ (by simp))) fun res e hp=>?_;obtain⟨b,h,d,m,q,r,s,t,u,y⟩:=hk res e hp;exact⟨b,h,d,m,q,r,s,t,u,fun l w' I=>y (fun o G=>j o (by simp[G])) F l w' I⟩
end
end
section
open Go Go.RowKit
def Vs (s:Nat):List Nat→List Nat
 | []=>[]
 | k :: r=>if s=k then r else k :: Vs s r
def Gz:List Nat→List (Nat×AV)→List (Nat×AV)
 | _,[]=>[]
 | [],_ :: _=>[]
 | k :: a,(s,v) :: r=>if AU s (k :: a)=true then (s,v) :: Gz (Vs s (k :: a)) r else Gz (k :: a) r
def DJ (a:List Nat):Cb→Cb
 | some (vc,σ)=>some (vc,⟨Gz a σ.env,σ.objs⟩)
 | none=>none
theorem UJ {s t:Nat}:∀ {a:List Nat},AU s a=false→AU s (Vs t a)=false
 | [],h=>h
 | k :: r,h=>by
  simp only[AU]at h;split at h
  ·cases h
  ·rename_i b;simp only[Vs];split
   ·exact h
   ·simp only[AU,At b];exact UJ h
theorem IG {s:Nat}:∀ {env:List (Nat×AV)} {a:List Nat},AU s a=false→lk s (Gz a env)=none
 | [],a,_=>by cases a<;>rfl
 | (j,v) :: r,[],_=>rfl
 | (j,v) :: r,k :: a,h=>by
  simp only[Gz];split
  ·rename_i b;simp only[lk];rw[At (fun e=>by subst e;rw[h]at b;cases b)];exact IG (UJ h)
  ·exact IG h
theorem Rp {s:Nat} {x:AV}:∀ {env:List (Nat×AV)} {a:List Nat},lk s (Gz a env)=some x→lk s env=some x
 | [],a,h=>by cases a<;>simp[Gz,lk]at h
 | (j,v) :: r,[],h=>by simp[Gz,lk]at h
 | (j,v) :: r,k :: a,h=>by
  simp only[Gz]at h;split at h
  ·simp only[lk]at h ⊢;split at h
   ·rename_i e;rw[BY e];exact h
   ·rename_i e;rw[At e];exact Rp h
  ·rename_i b;by_cases e:s=j
   ·subst e;rw[IG (by simpa using b)]at h;cases h
   ·simp only[lk,At e];exact Rp h
theorem G0 {d:List Nat} {r:Cb} {vc:Prop} {σ':St} (h:DJ d r=some (vc,σ')):∃b,r=some (vc,b)∧∀c:Cx,t9 c b σ':=by
 cases r with
 | none=>cases h
 | some p =>
  obtain⟨f,b⟩:=p;simp only[DJ]at h;cases h;exact⟨b,rfl,fun c a w hs=>Qs (σ':=⟨Gz d b.env,b.objs⟩) (fun s v e=>Rp e) (fun _=>rfl) hs⟩
section
variable {c:Cx} {R:Exit→Act→World→Prop} {k:List DG} {σ σ':St}
theorem UK (g:List Nat) (e:c.P.follows .mixedOrders=true) (b:c.Ok) {id:Nat} {l:List Oper} (d:J6 l l.length=true) {vc:Prop}
  (h:DJ g (J8 c.tb l false σ.objs [] l 0 [] [] σ)=some (vc,σ')) (f:vc) (hk:Ev c R (.out .normal) k σ'):Ev c R (.run (.region id l.toArray true)) k σ:=by
 obtain⟨i,h1,a⟩:=G0 h;exact o9 e b d h1 f (hk.ent (a c))
theorem kX (g:List Nat) (m:Nat) (e:c.P.follows .mixedOrders=true) (b:c.Ok) {id:Nat} {l:List Oper} (d:J6 l (l.take (l.length-m)).length=true) {vc:Prop}
  (h:DJ g (J8 c.tb l false σ.objs (l.drop (l.length-m)) (l.take (l.length-m)) 0 [] [] σ)=some (vc,σ')) (f:vc) (hk:Ev c R (.out .normal) k σ'):Ev c R (.run (.region id l.toArray true)) k σ:=by
 obtain⟨i,h1,a⟩:=G0 h;exact pA m e b d h1 f (hk.ent (a c))
theorem XX (f:List Nat) (b:c.Ok) {id:Nat} {l:List Oper} (d:kS l l.length=true) {vc:Prop}
  (h:DJ f (J8 c.tb l true σ.objs [] l 0 [] [] σ)=some (vc,σ')) (e:vc) (hk:Ev c R (.out .normal) k σ'):Ev c R (.run (.region id l.toArray false)) k σ:=by
 obtain⟨g,h1,a⟩:=G0 h;exact Ze b d h1 e (hk.ent (a c))
theorem Km (e:List Nat) (b:c.Ok) {id:Nat} {l:List Oper} (h0:(l.all fun o=>o.guard.isNone)=true) {vc:Prop} (h:DJ e (Bl c.tb l l σ)=some (vc,σ')) (d:vc) (hk:Ev c R (.out .normal) k σ') :
  Ev c R (.run (.region id l.toArray false)) k σ:=by
 obtain⟨f,h1,a⟩:=G0 h;exact Zf b h0 h1 d (hk.ent (a c))
theorem G2 (e:List Nat) (b:c.Ok) {ops:List Oper} {l:List Oper} {vc:Prop} (h:DJ e (Bl c.tb ops l σ)=some (vc,σ')) (d:vc) (hk:Ev c R (.out .normal) k σ'):GQ c R k ops.toArray l σ:=by
 obtain⟨f,h1,a⟩:=G0 h;exact Vp b (by simpa using h1) d (hk.ent (a c))
theorem pD (d:c.Ok) {id:Nat} {l:List Oper} (n:Nat) (h0:(l.all fun o=>o.guard.isNone)=true) {vc:Prop} (h:Bl c.tb l (l.take n) σ=some (vc,σ')) (f:vc) (hk:GQ c R k l.toArray (l.drop n) σ') :
  Ev c R (.run (.region id l.toArray false)) k σ:=by
 intro h1 b a w hs;simp only[Hq,Bk,DO]at h1;exact ABZ (Qt d n (by simpa using h) f hk (fun o e=>h1 o e) b a w hs)
theorem pE (d:c.P.follows .mixedOrders=true) (a:c.Ok) {id:Nat} {l:List Oper} (n:Nat) (b:J6 l (l.take n).length=true) {vc:Prop}
  (h:J8 c.tb l false σ.objs [] (l.take n) 0 [] [] σ=some (vc,σ')) (e:vc) (hk:GQ c R k l.toArray (l.drop n) σ') :
  Ev c R (.run (.region id l.toArray true)) k σ:=XR d a n b h e hk
theorem Ca {ops:Array Oper} (h:Ev c R (.out .normal) k σ):GQ c R k ops [] σ:=vF h
end
end
end Go.Proofs.YtdapahgnpbehbaaGreat.Fw
