/- Contracts over memory; the frame rule of a call. -/
import Derived.Test.YtdapahgnpbehbaaGreatKZF
set_option linter.unusedVariables false
set_option linter.unusedSimpArgs false
namespace Go.Proofs.YtdapahgnpbehbaaGreat.Fw
section
open Go Go.RowKit
structure jC (K O0:Nat→Prop) (objs:List (Nat×Obj)) (ρ:Nat→Value) (w:World):Prop where
 obj:∀n o,lk n objs=some o→A1 (vw w O0 ⟨[],objs⟩ ρ) o (ρ n)
 free:∀n b,Gb ⟨[],objs⟩ n→bk (ρ n) b→¬K b∧¬O0 b
 dist:∀n m b,Gb ⟨[],objs⟩ n→Gb ⟨[],objs⟩ m→bk (ρ n) b→bk (ρ m) b→n=m
def Ij (V:Vw):List AV→List Value→Prop
 | [],a=>a=[]
 | x :: r,a=>∃(v:Value) (l:List Value),a=v :: l∧B2 V x v∧Ij V r l
def Ov (K O0:Nat→Prop) (stay:List Nat) (w:World) (ρ:Nat→Value) (post:AV→List (Nat×Obj)→Prop) (u:Value) (w':World):Prop :=
 ∃(res:AV) (a:List (Nat×Obj)) (ρ':Nat→Value),post res a∧Frm K w w'∧jC K O0 a ρ' w'∧B2 (vw w' O0 ⟨[],a⟩ ρ') res u∧∀n∈stay,ρ' n=ρ n
def BL (P:Program) (f:FuncId) (args:List AV) (objs:List (Nat×Obj)) (stay:List Nat) (post:AV→List (Nat×Obj)→Prop):Prop :=
 (∃ fn : Func, P.funcs[f]? = some fn ∧ (fn.name == "runtime.NumGoroutine") = false ∧ fn.body.isNone = false) ∧
 ∀(w:World) (K O0:Nat→Prop) (ρ:Nat→Value) (a:List Value),(∀b,K b→b<w.heap.size)→(∀b,O0 b→b<w.heap.size)→jC K O0 objs ρ w→Ij (vw w O0 ⟨[],objs⟩ ρ) args a →
  Calls P f a.toArray w fun e w'=>∃u,e=.returned u∧Ov K O0 stay w ρ post u w'
def Ao:Nat→List AV→List (Nat×AV)
 | _,[]=>[]
 | s,x :: r=>(s,x) :: Ao (s+1) r
def A4y:AV→Prop
 | .p t d=>t.ok d
 | _=>True
def Ow:List AV→Prop
 | []=>True
 | x :: r=>A4y x∧Ow r
def u9:Obj→Prop
 | .arr _ e xs=>(Ty.slice e).ok xs
 | .box _ _ fs=>Ow fs
 | .mapo k v l=>∀x∈l,k.ok x.1∧v.ok x.2
 | .nest _ _ k e xs none=>(Ty.slice (.agg (.prod k (.slice e)))).ok xs
 | _=>True
def Nk:List (Nat×Obj)→Prop
 | []=>True
 | x :: r=>u9 x.2∧Nk r
theorem A3v {V:Vw} {x:AV} {v:Value} (h:B2 V x v):A4y x:=by
 cases x<;>try trivial
 obtain⟨cs,hr,_⟩:=h;exact H6 hr
theorem SW {V:Vw}:∀ {l:List AV} {b:List Value},Ij V l b→Ow l
 | [],_,_=>trivial
 | _ :: _,_,⟨_,_,_,h1,a⟩=>⟨A3v h1,SW a⟩
theorem m7 {V:Vw}:∀ {l:List AV} {cs:List Value},DQ V l cs→Ow l
 | [],_,_=>trivial
 | x :: _,_,⟨c1,c2,_,h1,a⟩=>⟨by
   cases x<;>try trivial
   exact H6 (h1:Br _ _ _ _ _),m7 a⟩
theorem m8 {w:World} {O:Nat→Prop} {k v:Ty}:∀ {b:List MapEntry} {l:List (k.den×v.den)},Jm w O k v b l→∀x∈l,k.ok x.1∧v.ok x.2
 | [],[],_,x,a=>by cases a
 | [],_ :: _,h,_,_=>h.elim
 | _ :: _,[],h,_,_=>h.elim
 | e :: b,y :: l,⟨⟨_,h1,_⟩,⟨_,c,_⟩,d⟩,x,a=>by
  rcases GO.1 a with rfl|a
  ·exact⟨H6 h1,H6 c⟩
  ·exact m8 d x a
theorem X3 {V:Vw} {o:Obj} {loc:Value} (h:A1 V o loc):u9 o:=by
 cases o with
 | arr et e xs =>
  obtain⟨m,cells,_,c⟩:=h;refine⟨m,fun x d=>?_⟩;obtain⟨i,hi,rfl⟩:=AAf.1 d;obtain⟨f,_,_,hr⟩:=c i _ (AT hi);exact H6 hr
 | box et u fs=>obtain⟨_,b,cs,_,_,a⟩:=h;exact m7 a
 | mapo k v l=>obtain⟨b,f,cl,_,_,a,_⟩:=h;exact m8 a
 | nest et p k e xs j =>
  cases j with
  | some i=>trivial
  | none =>
   obtain⟨o,ins,cells,_,g⟩:=h;have c:=Na (O':=fun _=>False) (fun _ _ h=>h) g (fun _ _ _ _ _ h=>h);refine⟨g.max,fun x d=>?_⟩;obtain⟨i,hi,rfl⟩:=AAf.1 d;obtain⟨f,_,_,hr⟩:=c i _ (AT hi);exact H6 hr
 | frame w fs=>trivial
 | loop L=>trivial
 | itr q t r s n=>trivial
 | dfr=>trivial
theorem SX:∀ {l:List (Nat×Obj)},Ln l=true→(∀n o,lk n l=some o→u9 o)→Nk l
 | [],_,_=>trivial
 | (n,o) :: r,hk,h=>by
  simp only[Ln,An,Do,ABS]at hk;refine⟨h n o (by simp[lk]),SX hk.2 fun m x a=>h m x ?_⟩;simp only[lk];rw[At (fun e=>hk.1 _ (Fl a) e)];exact a
theorem m9:∀(l:List AV) (a:List Value) (k:Nat) (V:Vw),Ij V l a→∀s v,lk s (Ao k l)=some v→k≤s∧∃u,a[s-k]?=some u∧B2 V v u
 | [],a,k,V,h,s,v,hs=>by simp[Ao,lk]at hs
 | x :: l,a,k,V,h,s,v,hs=>by
  obtain⟨u,r,rfl,h1,b⟩:=h;simp only[Ao,lk]at hs;split at hs
  ·rename_i e;cases hs;subst e;exact⟨NO _,u,by simp,h1⟩
  ·obtain⟨g,f,c,d⟩:=m9 l r (k+1) V b s v hs;refine⟨by omega,f,?_,d⟩;rw[show s-k=(s-(k+1))+1 by omega];simpa using c
theorem I0 {V:Vw}:∀ {l:List AV} {a:List Value},Ij V l a→a.length=l.length
 | [],a,h=>by have h:a=[]:=h;subst h;rfl
 | _ :: _,_,⟨_,_,rfl,_,h⟩=>by simp[I0 h]
def cm (P:Program) (tb:Tb) (w0:World) (K O0:Nat→Prop) (nt:Nat) (pin:List (Nat×Value)):Cx:={ P:=P,tb:=tb,w0:=w0,K:=K,O0:=O0,nt:=nt,ds:={ pin:=pin } }
theorem WO {P:Program} {tb:Tb} {w0:World} {K O0:Nat→Prop} {nt:Nat} {pin:List (Nat×Value)}:(cm P tb w0 K O0 nt pin).tb=tb:=rfl
def Rd (objs:List (Nat×Obj)) (n:Nat):Bool :=
 match lk n objs with
 | some (.arr _ _ _)=>GE n
 | some (.nest _ _ _ _ _ _)=>GE n
 | some _=>true
 | none=>false
theorem TH {P:Program} {tb:Tb} {w0:World} {K O0:Nat→Prop} {nt:Nat} {args:List AV} {objs:List (Nat×Obj)} {stay:List Nat} {ρ:Nat→Value} {c:List Value} (f:jC K O0 objs ρ w0) (q:Ij (vw w0 O0 ⟨[],objs⟩ ρ) args c) (m:stay.all (Rd objs)=true) (w:c.length≤nt) :
  (cm P tb w0 K O0 nt (stay.map fun n=>(n,ρ n))).sat ⟨Ao 0 args,objs⟩ { tmps:=c.toArray++Array.replicate (nt-c.toArray.size) undef,defers:=[] } w0:=by
 refine⟨ρ,⟨rfl,rfl,rfl,NO _,fun _ _=>rfl⟩,by simp[cm];omega,rfl,fun p hp=>?_,f.obj,f.free,f.dist,fun s v hs=>?_⟩
 ·obtain⟨n,hn,rfl⟩:=If.1 hp;have:=(Do.1 m) n hn;unfold Rd at this;cases g:lk n objs with
  | none=>rw[g]at this;cases this
  | some o =>
   rw[g]at this;refine⟨⟨o,g⟩,rfl,?_⟩;have d:=f.obj n o g;cases o with
   | arr et e xs=>exact .inr this
   | nest et y k e xs t=>exact .inr this
   | box et D fs=>obtain⟨_,b,cs,a,_⟩:=d;rw[a];exact .inl rfl
   | mapo k v l=>obtain⟨b,r,cl,a,_⟩:=d;rw[a];exact .inl rfl
   | frame E fs=>obtain⟨a,_⟩:=d;rw[a];exact .inl rfl
   | loop L=>obtain⟨b,a,_⟩:=d;rw[a];exact .inl rfl
   | itr z C A B x=>obtain⟨b,a,_⟩:=d;rw[a];exact .inl rfl
   | dfr=>obtain⟨b,a,_⟩:=d;rw[a];exact .inl rfl
 ·obtain⟨_,u,h1,i⟩:=m9 args c 0 _ q s v hs;have h1:c[s]?=some u:=by simpa using h1
  have h:s<c.length:=(QB.1 h1).1;have j:(c.toArray++Array.replicate (nt-c.toArray.size) undef).getD s undef=u:=by
   have:c[s]=u:=by rw[AT h]at h1;injection h1
   simp[Array.getElem?_append,h,this]
  rw[j];exact i
def A1F (P:Program) (fn:Func) (w0:World) (K O0:Nat→Prop) (stay:List Nat) (ρ0:Nat→Value) (post:AV→List (Nat×Obj)→Prop):Exit→Act→World→Prop :=
 bodyPost P fn fun e w'=>∃u,e=.returned u∧Ov K O0 stay w0 ρ0 post u w'
theorem A3w {P:Program} {tb:Tb} {f:FuncId} {fn:Func} {cd:Code} {nt:Nat} {args:List AV} {objs:List (Nat×Obj)} {stay:List Nat} {post:AV→List (Nat×Obj)→Prop}
  (c : P.funcs[f]? = some fn) (k : (fn.name == "runtime.NumGoroutine") = false) (b : fn.body = some cd) (l : fn.ntmps = nt) (q : args.length ≤ nt)
  (i:Bk nt cd=true) (p:stay.all (Rd objs)=true) (j:Ln objs=true) (hT:DB P tb) (hF:Iq P tb)
  (h:∀(w0:World) (K O0:Nat→Prop) (ρ0:Nat→Value),(cm P tb w0 K O0 nt (stay.map fun n=>(n,ρ0 n))).Ok→Ow args→Nk objs →
   Ev (cm P tb w0 K O0 nt (stay.map fun n=>(n,ρ0 n))) (A1F P fn w0 K O0 stay ρ0 post) (.run cd) [] ⟨Ao 0 args,objs⟩):BL P f args objs stay post:=by
 refine⟨⟨fn,c,k,by simp[b]⟩,fun w K O0 ρ s e g d a=>?_⟩;refine calls_of_wp c b ((wpIn_wide (n:=0)).1 ?_);have r:=I0 a;rw[l];exact h w K O0 ρ ⟨e,g,hT,hF⟩ (SW a) (SX j fun n o m=>X3 (d.obj n o m)) i rfl _ _ (TH d a p (by omega))
def p8 (tb:Tb) (σ:St) (rv:ResultVar):AV→Prop
 | .p t d=>JU σ t (H5 tb σ rv)=some d
 | x=>H5 tb σ rv=some x
def QU (tb:Tb) (σ:St):List ResultVar→List AV→Prop
 | [],[]=>True
 | rv :: a,x :: l=>p8 tb σ rv x∧QU tb σ a l
 | _,_=>False
def WP:AV→Bool
 | .tup _=>false
 | _=>true
def TJ (tb:Tb) (σ:St):List ResultVar→AV→Prop
 | [],x=>x=.raw (.tuple #[])
 | [rv],x=>p8 tb σ rv x
 | a,.tup l=>l.all WP=true∧QU tb σ a l
 | _,_=>False
section
variable {P:Program} {tb:Tb} {w0:World} {K O0:Nat→Prop} {nt:Nat} {ds:Fp} {σ:St} {ρ:Nat→Value} {a:Act} {w:World}
theorem nA (hT:DB P tb) (hs:Bo w0 K O0 nt ds σ ρ a w) {rv:ResultVar} {x:AV} (h:p8 tb σ rv x):∃u,(Jr a.tmps rv).run P w=.ok u w∧B2 (vw w O0 σ ρ) x u:=by
 by_cases hp:∃t d,x=.p t d
 ·obtain⟨t,d,rfl⟩:=hp;simp only[p8]at h;cases hr:H5 tb σ rv with
  | none=>rw[hr]at h;simp[JU]at h
  | some v =>
   rw[hr]at h;simp only[JU]at h;obtain⟨u,h1,c⟩:=SR hT hs hr;exact⟨u,h1,Jo (V:=vw w O0 σ ρ) (O':=own O0 σ ρ) (fun b e f=>e f) (fun h=>by cases h) hs.objs h c⟩
 ·have h:H5 tb σ rv=some x:=by
   cases x<;>first|exact h|exact absurd ⟨_,_,rfl⟩ hp
  exact SR hT hs h
theorem A4z {V:Vw} {x:AV} {v:Value} (hn:WP x=true) (h:B2 V x v):RI V x v:=by
 cases x<;>first|(simp[WP]at hn;done)|exact h
theorem WQ (hT:DB P tb) (hs:Bo w0 K O0 nt ds σ ρ a w):∀ {c:List ResultVar} {l:List AV},l.all WP=true→QU tb σ c l →
  ∃b:List Value,(c.mapM (Jr a.tmps)).run P w=.ok b w∧b.length=l.length∧Jl (vw w O0 σ ρ) l b
 | [],[],_,_=>⟨[],by simp,rfl,rfl⟩
 | [],_ :: _,_,h=>h.elim
 | _ :: _,[],_,h=>h.elim
 | rv :: c,x :: l,hn,h=>by
  simp only[AB0,An]at hn;obtain⟨u,h1,d⟩:=nA hT hs h.1;obtain⟨b,e,f,g⟩:=WQ hT hs hn.2 h.2;refine⟨u :: b,?_,by simp[f],u,b,rfl,A4z hn.1 d,g⟩;rw[List.mapM_cons];simp only[AAH,h1,AA6,e,AB6]
theorem TK {tb:Tb} {σ:St}:∀ {a:List ResultVar} {l:List AV},QU tb σ a l→a.length=l.length
 | [],[],_=>rfl
 | [],_ :: _,h=>h.elim
 | _ :: _,[],h=>h.elim
 | _ :: _,_ :: _,h=>by simp[TK h.2]
theorem Zg (hT:DB P tb) (hs:Bo w0 K O0 nt ds σ ρ a w) {fn:Func} {x:AV} (h:TJ tb σ fn.results.toList x):∃u,(results fn a.tmps).run P w=.ok u w∧B2 (vw w O0 σ ρ) x u:=by
 have key:∀b:List Value,(fn.results.toList.mapM (Jr a.tmps)).run P w=.ok b w→(results fn a.tmps).run P w=.ok (if h:b.toArray.size=1 then b.toArray[0] else .tuple b.toArray) w:=by
  intro b h1;rw[Nf];have g:(fn.results.mapM (Jr a.tmps)).run P w=.ok b.toArray w:=by
   rw[ABs];simp only[Sem.run_map,h1,AA6]
  simp only[AAH,g,AA6,AB6]
 generalize fn.results.toList=m at h key;unfold TJ at h;split at h
 ·subst h;exact⟨_,key [] (by simp),rfl⟩
 ·rename_i rv;obtain⟨u,h1,c⟩:=nA hT hs h;exact⟨_,key [u] (by simp[h1]),c⟩
 ·rename_i l k i;obtain⟨b,h1,c,d⟩:=WQ hT hs h.1 h.2;have f:=TK h.2;refine⟨_,key b h1,?_⟩;have:¬b.toArray.size=1:=by
   intro e;have e:b.length=1:=by simpa using e
   rw[c,←f]at e;obtain⟨z,j⟩:=AAQ.1 e;exact i z j
  rw[dif_neg this];exact⟨b,rfl,d⟩
 ·exact h.elim
end
theorem A1G {P:Program} {tb:Tb} {w0:World} {K O0:Nat→Prop} {nt:Nat} {stay:List Nat} {ρ0:Nat→Value} {fn:Func} {post:AV→List (Nat×Obj)→Prop} {σ:St} {e:Exit} (f:(cm P tb w0 K O0 nt (stay.map fun n=>(n,ρ0 n))).Ok)
  (c:List ResultVar) (hr:fn.results.toList=c) (g:e=.ret∨e=.normal) (res:AV) (h:TJ tb σ c res) (hp:post res σ.objs) :
  Ev (cm P tb w0 K O0 nt (stay.map fun n=>(n,ρ0 n))) (A1F P fn w0 K O0 stay ρ0 post) (.out e) [] σ:=by
 intro _ _ a w hs;obtain⟨ρ,hs⟩:=hs;obtain⟨u,h1,d⟩:=Zg f.T hs (by rw[hr];exact h);have b:Ov K O0 stay w0 ρ0 post u w:=by
  refine⟨res,σ.objs,ρ,hp,hs.frm,⟨hs.objs,hs.free,hs.dist⟩,d,fun n hn=>?_⟩;exact(hs.pin (n,ρ0 n) (If.2 ⟨n,hn,rfl⟩)).2.1
 rcases g with rfl|rfl
 ·exact⟨hs.defers,u,h1,u,rfl,b⟩
 ·exact⟨hs.defers,u,h1,u,rfl,b⟩
end
section
open Go Go.RowKit
def Dg:Option AV→Option (FuncId×List Nat)
 | some (.fn f)=>some (f,[])
 | some (.clo f ns)=>some (f,ns)
 | _=>none
def LY (σ:St):List Operand→Option (List AV)
 | []=>some []
 | x :: r=>match Ae σ x,LY σ r with
  | some v,some a=>some (v :: a)
  | _,_=>none
def IA (σ:St) (ren:List (Nat×CO)) (x:AV):AV→Prop
 | .p t d=>KJ false σ t x=some d
 | y=>Bx ren x y
def Bh (σ:St) (ren:List (Nat×CO)):List AV→List AV→Prop
 | [],[]=>True
 | x :: l,y :: r=>IA σ ren x y∧Bh σ ren l r
 | _,_=>False
def Au:List (Nat×CO)→List Nat
 | []=>[]
 | (_,.nm n) :: r=>n :: Au r
 | (_,.nil) :: r=>Au r
def A2R (m:Nat):Option CO→Bool
 | some (.nm a)=>a==m
 | _=>false
def A2S (n:Nat) (f:Option CO) (m:Nat):Option CO→Bool
 | some (.nm a)=>a==n&&A2R m f
 | _=>false
def LI (ren a:List (Nat×CO)) (stay hs:List Nat):Bool:=(Au ren).all fun n=>AX n hs||ren.any fun p=>AX p.1 stay&&A2S n (lk n a) p.1 (lk p.1 ren)
def HD (a:List Nat) (b objs:List (Nat×Obj)):Bool:=b.all fun p=>AX p.1 a||(lk p.1 objs).isNone
def Ki (dst:Option Nat) (v:AV) (env:List (Nat×AV)):List (Nat×AV) :=
 match dst with
 | some d=>(d,v) :: env
 | none=>env
def Cn (σ:St) (a hs:List Nat) (dst:Option Nat) (res:AV) (b:List (Nat×Obj)):St:=⟨Ki dst res (Bi hs σ.env),b++Ad a hs σ.objs⟩
theorem Nl {n:Nat}:∀ {l:List (Nat×CO)},n∈Au l↔∃m,(m,CO.nm n)∈l
 | []=>by simp[Au]
 | (m,.nm k) :: r=>by
  simp only[Au,GO,Nl (l:=r),ACw,CO.nm.injEq];constructor
  ·rintro (rfl|⟨j,a⟩)
   ·exact⟨m,.inl ⟨rfl,rfl⟩⟩
   ·exact⟨j,.inr a⟩
  ·rintro⟨j,(⟨_,rfl⟩|a)⟩
   ·exact .inl rfl
   ·exact .inr ⟨j,a⟩
 | (m,.nil) :: r=>by
  simp only[Au,GO,Nl (l:=r),ACw];constructor
  ·rintro⟨j,a⟩;exact⟨j,.inr a⟩
  ·rintro⟨j,(⟨_,h⟩|a)⟩
   ·cases h
   ·exact⟨j,a⟩
theorem X4 {V:Vw} {σ:St} {ev:Operand→Value} (b:F4 V σ ev):∀ {xs:List Operand} {a:List AV},LY σ xs=some a→Ij V a (xs.map ev)
 | [],a,h=>by simp only[LY]at h;cases h;exact(rfl:_=_)
 | x :: r,a,h=>by
  simp only[LY]at h;split at h
  ·rename_i v l h1 c;cases h;exact⟨ev x,r.map ev,rfl,b x v h1,X4 b c⟩
  ·cases h
section
variable {V V':Vw} {ren:List (Nat×CO)} {σ:St}
theorem TL (f:Lo ren V V') (g:∀b,¬V.O b→¬V'.O b) (i:∀n o,lk n σ.objs=some o→A1 V o (V.ρ n)):∀ {l r:List AV} {e:List Value},Bh σ ren l r→Ij V l e→Ij V' r e
 | [],[],e,_,h=>h
 | [],_ :: _,_,a,_=>a.elim
 | _ :: _,[],_,a,_=>a.elim
 | x :: l,y :: r,e,a,h=>by
  obtain⟨v,l',rfl,h1,j⟩:=h;refine⟨v,l',rfl,?_,TL f g i a.2 j⟩;have c:=a.1;by_cases hp:∃t d,y=.p t d
  ·obtain⟨t,d,rfl⟩:=hp;have c:KJ false σ t x=some d:=c;have:=Jo (V:=V) (O':=V'.O) g (fun h=>by cases h) i c h1;show BW V'.w V'.O t v d;rw[f.w];exact this
  ·have c:Bx ren x y:=by
    cases y<;>first|exact c|exact absurd ⟨_,_,rfl⟩ hp
   exact Ma f c h1
end
section
variable {c:Cx} {R:Exit→Act→World→Prop} {k:List DX} {σ:St}
theorem nB {c:Cx} {a:Act} {dst:Option Nat} {u:Value} {s:Nat} {y:AV} {V:Vw} {env:List (Nat×AV)} {res:AV} (i:a.tmps.size=c.nt) (f:∀d,dst=some d→d<c.nt) (g:B2 V res u) (b:∀s v,lk s env=some v→B2 V v (a.tmps.getD s undef))
  (h:lk s (Ki dst res env)=some y):B2 V y ((a.put dst u).tmps.getD s undef):=by
 cases dst with
 | none=>exact b s y h
 | some d =>
  rw[KR a d u s (by rw[i];exact f d rfl)];simp only[Ki,lk]at h;split at h
  ·rename_i e;cases h;rw[BY e];exact g
  ·rename_i e;rw[At e];exact b s y h
theorem QV (bc:c.Ok) {dst:Option Nat} {ρ:Nat→Value} {a:Act} {w:World} (g:Bo c.w0 c.K c.O0 c.nt c.ds σ ρ a w) {as:List AV} {bl:List Value} (bs:Ij (vw w c.O0 σ ρ) as bl)
  {A:List AV} {objs:List (Nat×Obj)} (stay:List Nat) (post:AV→List (Nat×Obj)→Prop)
  (ren:List (Nat×CO)) (h1:CT ren=true) (ar:Cm objs ren=true) (bp:Bh σ ren as A) (ay:Ak σ.objs ren objs)
  (hs:List Nat) (cg:(c.ds.pin.all fun p=>!AX p.1 hs)=true) {next:Act→World→Prop} (bu:∀d,dst=some d→d<c.nt)
  (hk:∀res R,post res R→∃(r:List (Nat×CO)) (af:AV) (k:List (Nat×Obj)),CT r=true∧Cm k r=true∧Ak R r k∧Bx r res af ∧
   LI ren r stay hs=true∧HD (Au ren) k σ.objs=true∧∀an w',c.sat (Cn σ (Au ren) hs dst af k) an w'→next an w') :
  ∃(J F:Nat→Prop) (t:Nat→Value),(∀b,J b→b<w.heap.size)∧(∀b,F b→b<w.heap.size)∧jC J F objs t w∧Ij (vw w F ⟨[],objs⟩ t) A bl∧(∀m n,lk m ren=some (.nm n)→t m=ρ n) ∧
   ∀u w',Ov J F stay w t post u w'→next (a.put dst u) w':=by
 let t:Nat→Value:=fun m=>match lk m ren with|some (.nm n)=>ρ n|_=>.slice none 0 0
 have ae:∀m n,lk m ren=some (.nm n)→t m=ρ n:=fun m n f=>by simp[t,f]
 have bh:∀m,lk m ren=some .nil→t m=.slice none 0 0:=fun m f=>by simp[t,f]
 let F:Nat→Prop:=fun b=>c.O0 b∨∃n,Gb σ n∧n∉Au ren∧bk (ρ n) b
 let J:Nat→Prop:=fun b=>b<w.heap.size∧¬ ∃m,Gb ⟨[],objs⟩ m∧bk (t m) b
 have S:∀m b,Gb ⟨[],objs⟩ m→bk (t m) b→∃n,lk m ren=some (.nm n)∧Gb σ n∧bk (ρ n) b:=by
  rintro m b ⟨am,f⟩ e;have hf:=DI ay f;cases hr:lk m ren with
  | none=>rw[hr]at hf;exact hf.elim
  | some fr =>
   cases fr with
   | nil=>rw[bh m hr]at e;simp[bk,blk]at e
   | nm n =>
    rw[hr]at hf;rw[ae m n hr]at e;refine⟨n,rfl,?_,e⟩;cases hn:lk n σ.objs with
    | none=>simp only[GK,hn,H8]at hf
    | some x=>exact⟨x,hn⟩
 have bz:∀m fr,lk m ren=some fr→Gb ⟨[],objs⟩ m:=fun m fr f=>by
  simp only[Cm,Do]at ar;exact AB8.1 (ar _ (Fl f))
 have bd:∀m n,lk m ren=some (.nm n)→n∈Au ren:=fun m n f=>Nl.2 ⟨m,Fl f⟩;have bb:∀b,¬own c.O0 σ ρ b→¬own F ⟨[],objs⟩ t b:=by
  intro b e B;rcases B with (h0|⟨n,hn,_,i⟩)|⟨m,f,l⟩
  ·exact e (.inl h0)
  ·exact e (.inr ⟨n,hn,i⟩)
  ·obtain⟨n,_,hn,i⟩:=S m b f l;exact e (.inr ⟨n,hn,i⟩)
 have az:Lo ren (vw w c.O0 σ ρ) (vw w F ⟨[],objs⟩ t):=⟨rfl,bb,ae,bh,bz⟩;have cc:jC J F objs t w:=by
  refine⟨fun m am f=>QO az g.objs (DI ay f),fun m b f e=>⟨fun ai=>ai.2 ⟨m,f,e⟩,fun h0=>?_⟩,fun m W b f ak e B=>?_⟩
  ·obtain⟨n,hr,hn,i⟩:=S m b f e;rcases h0 with h0|⟨q,C,o,X⟩
   ·exact(g.free n b hn i).2 h0
   ·have:=g.dist n q b hn C i X;subst this;exact o (bd m n hr)
  ·obtain⟨n,hr,hn,i⟩:=S m b f e;obtain⟨q,Y,C,X⟩:=S W b ak B;have:=g.dist n q b hn C i X;subst this;exact SS h1 hr Y
 have br:∀b,F b→b<w.heap.size:=by
  rintro b (h0|⟨n,⟨am,hn⟩,_,i⟩)
  ·exact AAu (bc.O b h0) g.frm.size
  ·exact(g.objs n am hn).block_lt i
 refine⟨J,F,t,fun b e=>e.1,br,cc,TL az bb g.objs bp bs,ae,?_⟩;rintro u w' ⟨res,R,ρ',ch,M,V,bt,ci⟩;obtain⟨r,af,k,bm,ao,ag,bn,ap,aq,cd⟩:=hk res R ch;refine cd _ _ ?_
 let E:Nat→Value:=fun n=>match lk n r with|some (.nm m)=>ρ' m|some .nil=>.slice none 0 0|none=>ρ n
 have ah:∀n m,lk n r=some (.nm m)→E n=ρ' m:=fun n m hn=>by simp[E,hn]
 have au:∀n,lk n r=some .nil→E n=.slice none 0 0:=fun n hn=>by simp[E,hn]
 have bo:∀n,lk n r=none→E n=ρ n:=fun n hn=>by simp[E,hn]
 let σ2:=Cn σ (Au ren) hs dst af k
 have cf:σ2.objs=k++Ad (Au ren) hs σ.objs:=rfl;have ad:∀n,lk n σ2.objs=(lk n k).or (lk n (Ad (Au ren) hs σ.objs)):=fun n=>by rw[cf,A0]
 have aj:∀n fr,lk n r=some fr→∃x,lk n k=some x:=fun n fr hn=>by
  simp only[Cm,Do]at ao;exact AB8.1 (ao _ (Fl hn))
 have bv:∀n x,lk n k=some x→∃fr,lk n r=some fr:=fun n x hn=>by
  have hf:=DI ag hn;cases hr:lk n r with
  | none=>rw[hr]at hf;exact hf.elim
  | some fr=>exact⟨fr,rfl⟩
 have bw:∀n x,lk n k=some x→n∈Au ren∨lk n σ.objs=none:=fun n x hn=>by
  simp only[HD,Do,iN]at aq;rcases aq _ (Fl hn) with h|h
  ·exact .inl ((AZ _ _).1 h)
  ·exact .inr (by simpa using h)
 have H:∀n x,lk n (Ad (Au ren) hs σ.objs)=some x→n∉Au ren∧lk n k=none∧∃y,lk n σ.objs=some y∧x=y.fgt hs:=by
  intro n x hn;rw[Bb]at hn;split at hn
  ·cases hn
  ·rename_i o;simp only[Is]at hn;obtain⟨y,j,rfl⟩:=hn;have o:n∉Au ren:=fun h=>o ((AZ _ _).2 h);refine⟨o,?_,y,j,rfl⟩;cases G:lk n k with
   | none=>rfl
   | some z =>
    rcases bw n z G with h|h
    ·exact absurd h o
    ·rw[h]at j;cases j
 have T:∀n x,lk n σ2.objs=some x→lk n k=some x∨(lk n k=none∧lk n (Ad (Au ren) hs σ.objs)=some x):=by
  intro n x hn;rw[ad]at hn;cases G:lk n k with
  | some z=>rw[G]at hn;exact .inl hn
  | none=>rw[G]at hn;exact .inr ⟨rfl,by simpa using hn⟩
 have P:∀n x b,lk n k=some x→bk (E n) b→∃m,lk n r=some (.nm m)∧Gb ⟨[],R⟩ m∧bk (ρ' m) b:=by
  intro n x b hn e;have hf:=DI ag hn;obtain⟨fr,hr⟩:=bv n x hn;cases fr with
  | nil=>rw[au n hr]at e;simp[bk,blk]at e
  | nm m =>
   rw[hr]at hf;rw[ah n m hr]at e;refine⟨m,hr,?_,e⟩;cases hn:lk m R with
   | none=>simp only[GK,hn,H8]at hf
   | some z=>exact⟨z,hn⟩
 have I:∀n,lk n k=none→E n=ρ n:=fun n hn=>by
  apply bo;cases G:lk n r with
  | none=>rfl
  | some fr=>obtain⟨x,Q⟩:=aj n fr G;rw[Q]at hn;cases hn
 have ba:Lo r (vw w' F ⟨[],R⟩ ρ') (vw w' c.O0 σ2 E):=by
  refine⟨rfl,fun b e B=>?_,ah,au,fun n fr hn=>?_⟩
  ·rcases B with h0|⟨n,⟨x,hn⟩,i⟩
   ·exact e (.inl (.inl h0))
   ·rcases T n x hn with hn|⟨D,hn⟩
    ·obtain⟨m,_,f,l⟩:=P n x b hn i;exact e (.inr ⟨m,f,l⟩)
    ·obtain⟨o,_,y,j,_⟩:=H n x hn;rw[I n D]at i;exact e (.inl (.inr ⟨n,⟨y,j⟩,o,i⟩))
  ·obtain⟨x,Q⟩:=aj n fr hn;exact⟨x,by rw[ad,Q];rfl⟩
 have bq:∀b,(∃m,Gb ⟨[],objs⟩ m∧bk (t m) b)→own c.O0 σ ρ b:=by
  rintro b ⟨m,f,e⟩;obtain⟨n,_,hn,i⟩:=S m b f e;exact .inr ⟨n,hn,i⟩
 have aw:∀b,b<w.heap.size→¬own c.O0 σ ρ b→J b:=fun b N e=>⟨N,fun h=>e (bq b h)⟩;have ab:CN ((vw w c.O0 σ ρ).buts hs) (vw w' c.O0 σ2 E):=by
  have ax:∀n,Gb σ n→AX n hs=false→Gb σ2 n∧E n=ρ n:=by
   intro n hn ce;by_cases hh:n∈Au ren
   ·simp only[LI,Do,iN]at ap;rcases ap n hh with h|h
    ·rw[ce]at h;cases h
    ·simp only[Of,An]at h;obtain⟨⟨m,fr⟩,hp,bg,U⟩:=h;simp only at bg U;unfold A2S at U;split at U
     ·rename_i q ca;simp only[An,AA1]at U;obtain⟨rfl,aa⟩:=U;unfold A2R at aa;split at aa
      ·rename_i W be;have:W=m:=by simpa using aa
       subst this;obtain⟨x,Q⟩:=aj _ _ be;refine⟨⟨x,by rw[ad,Q];rfl⟩,?_⟩;rw[ah _ _ be,ci W ((AZ _ _).1 bg)];exact ae _ _ ca
      ·cases aa
     ·cases U
   ·obtain⟨x,Q⟩:=hn;have hr:lk n (Ad (Au ren) hs σ.objs)=some (x.fgt hs):=by
     rw[Bb,At (fun h=>hh ((AZ _ _).1 h)),Q];rfl
    obtain⟨_,D,_⟩:=H n _ hr;exact⟨⟨_,by rw[ad,D,hr];rfl⟩,I n D⟩
  refine⟨fun b N e B=>?_,fun n hn=>(ax n hn.1 hn.2).1,fun n hn=>(ax n hn.1 hn.2).2,fun b N e=>M.block b (aw b N e)⟩;have N:b<w.heap.size:=N;have e:¬own c.O0 σ ρ b:=e;rcases B with h0|⟨n,⟨x,hn⟩,i⟩
  ·exact e (.inl h0)
  ·rcases T n x hn with hn|⟨D,hn⟩
   ·obtain⟨m,_,f,l⟩:=P n x b hn i;exact(V.free m b f l).1 (aw b N e)
   ·obtain⟨o,_,y,j,_⟩:=H n x hn;rw[I n D]at i;exact e (.inr ⟨n,⟨y,j⟩,i⟩)
 have av:∀b,c.K b→J b:=fun b e=>⟨AAu (bc.K b e) g.frm.size,fun⟨m,f,l⟩=>by
  obtain⟨n,_,hn,i⟩:=S m b f l;exact(g.free n b hn i).1 e⟩
 refine⟨E,⟨M.os.trans g.frm.os,M.tape.trans g.frm.tape,M.output.trans g.frm.output,To g.frm.size M.size,fun b e=>(M.block b (av b e)).trans (g.frm.block b e)⟩,by rw[Jn];exact g.nt,by rw[GI];exact g.defers,fun p hp=>?_,fun n x hn=>?_,fun n b G e=>?_,fun n q b G bx e B=>?_,fun s v cj=>?_⟩
 ·obtain⟨bi,cl,cm⟩:=g.pin p hp;have bj:AX p.1 hs=false:=by simpa using (Do.1 cg) p hp
  have cn:=ab.ρ p.1 ⟨bi,bj⟩;exact⟨ab.L p.1 ⟨bi,bj⟩,cn.trans cl,cm⟩
 ·rcases T n x hn with hn|⟨D,hn⟩
  ·exact QO ba V.obj (DI ag hn)
  ·obtain⟨o,_,y,j,rfl⟩:=H n x hn;rw[I n D];refine SM ab (fun b e=>?_) (g.objs n y j);refine M.block b ⟨(g.objs n y j).block_lt e,fun⟨m,f,l⟩=>?_⟩;obtain⟨q,Y,C,X⟩:=S m b f l;have:=g.dist n q b ⟨y,j⟩ C e X;subst this;exact o (bd m n Y)
 ·obtain⟨x,hn⟩:=G;rcases T n x hn with hn|⟨D,hn⟩
  ·obtain⟨m,_,f,l⟩:=P n x b hn e;have:=V.free m b f l;exact⟨fun ai=>this.1 (av b ai),fun h0=>this.2 (.inl h0)⟩
  ·obtain⟨o,_,y,j,rfl⟩:=H n x hn;rw[I n D]at e;exact g.free n b ⟨y,j⟩ e
 ·obtain⟨x,hn⟩:=G;obtain⟨Z,C⟩:=bx;rcases T n x hn with hn|⟨D,hn⟩<;>rcases T q Z C with C|⟨bf,C⟩
  ·obtain⟨m,hr,f,l⟩:=P n x b hn e;obtain⟨W,Y,ak,cb⟩:=P q Z b C B;have:=V.dist m W b f ak l cb;subst this;exact SS bm hr Y
  ·exfalso;obtain⟨m,hr,f,l⟩:=P n x b hn e;obtain⟨o,_,y,j,rfl⟩:=H q Z C;rw[I q bf]at B;exact(V.free m b f l).2 (.inr ⟨q,⟨y,j⟩,o,B⟩)
  ·exfalso;obtain⟨m,hr,f,l⟩:=P q Z b C B;obtain⟨o,_,y,j,rfl⟩:=H n x hn;rw[I n D]at e;exact(V.free m b f l).2 (.inr ⟨n,⟨y,j⟩,o,e⟩)
  ·obtain⟨_,_,y,j,rfl⟩:=H n x hn;obtain⟨_,_,co,ck,rfl⟩:=H q Z C;rw[I n D]at e;rw[I q bf]at B;exact g.dist n q b ⟨y,j⟩ ⟨co,ck⟩ e B
 ·refine nB (c:=c) g.nt bu (Ma ba bn bt) (fun s v al=>?_) cj;rw[ED]at al;simp only[Is]at al;obtain⟨y,j,rfl⟩:=al;exact(Oe (g.env s y j)).keeps ab
theorem nC (ae:c.Ok) {o:Oper} {dst:Option Nat} {g:Operand} {xs:List Operand} {ts:Array TypeId} (K:o.op=.call { callee:=.value g,args:=xs.toArray,argTypes:=ts }) (ai:o.dst=dst)
  {f:FuncId} {k:List Nat} (j:Dg (Ae σ g)=some (f,k)) {as:List AV} (aa:LY σ xs=some as)
  {A:List AV} {objs:List (Nat×Obj)} {stay:List Nat} {post:AV→List (Nat×Obj)→Prop} (B:BL c.P f A objs stay post)
  (ren:List (Nat×CO)) (h1:CT ren=true) (S:Cm objs ren=true) (T:Bh σ ren (as++k.map fun n=>AV.bp n [] 0) A) (V:Ak σ.objs ren objs)
  (hs:List Nat) (an:(c.ds.pin.all fun p=>!AX p.1 hs)=true) {next:Act→World→Prop} {Q:Exit→Act→World→Prop} {a:Act} {w:World} (aq:c.sat σ a w) (ah:∀d,dst=some d→d<c.nt)
  (hk:∀res M,post res M→∃(s:List (Nat×CO)) (N:AV) (z:List (Nat×Obj)),CT s=true∧Cm z s=true∧Ak M s z∧Bx s res N ∧
   LI ren s stay hs=true∧HD (Au ren) z σ.objs=true∧∀G w',c.sat (Cn σ (Au ren) hs dst N z) G w'→next G w'):o.wpIn (FR c.r) 0 c.P a w next Q:=by
 obtain⟨ρ,L⟩:=aq;have I:F4 (vw w c.O0 σ ρ) σ a.eval:=Dn L.env;obtain⟨⟨fn,aj,am,ad⟩,B⟩:=B;obtain⟨m,ak,ag⟩:∃m:List Value,a.eval g=.func (.func f) #[] m.toArray∧Ij (vw w c.O0 σ ρ) (k.map fun n=>AV.bp n [] 0) m:=by
  cases D:Ae σ g with
  | none=>rw[D]at j;simp[Dg]at j
  | some H =>
   rw[D]at j;have C:=I g H D;cases H<;>simp only[Dg]at j<;>try(cases j;done)
   ·cases j;exact⟨[],C,rfl⟩
   ·rename_i aw ns;cases j;refine⟨k.map ρ,C.1,?_⟩;have h0:∀l:List Nat,(∀n∈l,n∈k)→Ij (vw w c.O0 σ ρ) (l.map fun n=>AV.bp n [] 0) (l.map ρ):=by
     intro l;induction l with
     | nil=>intro _;exact rfl
     | cons n r F =>
      intro J;obtain⟨q,b,i⟩:=C.2 n (J n (by simp));have i:ρ n=_:=i;exact⟨ρ n,r.map ρ,rfl,⟨q,b,i,i⟩,F fun x ar=>J x (by simp[ar])⟩
    exact h0 k fun _ h=>h
 have Z:=X4 I aa;have Y:∀ {l r:List AV} {t y:List Value},Ij (vw w c.O0 σ ρ) l t→Ij (vw w c.O0 σ ρ) r y→Ij (vw w c.O0 σ ρ) (l++r) (t++y):=by
  intro l;induction l with
  | nil=>intro r t y hu E;have hu:t=[]:=hu;subst hu;exact E
  | cons x l F =>
   intro r t y hu E;obtain⟨v,au,rfl,q,i⟩:=hu;exact⟨v,au++y,rfl,q,F i E⟩
 have X:=Y Z ag;have ap:(execOp a.eval o).run c.P w=.ok (.enter f (xs.map a.eval++m).toArray) w:=by
  have q : ¬ fn.name = "runtime.NumGoroutine" := by simpa using am
  have i:¬fn.body=none:=by intro e;simp[e]at ad
  simp[execOp,K,resolve,Deferred.ofValue,ak,invoke,callFunc,aj,q,i]
 obtain⟨O,R,av,U,W,al,ab,_,ao⟩:=QV ae L X stay post ren h1 S T V hs an ah hk;have af:=B w O R av (xs.map a.eval++m) U W al ab;refine⟨fun _ _=>trivial,?_⟩;rw[FQ _ _ _ (fun cl e=>by rw[K]at e;cases e),ap,ACu];refine⟨fun h=>(by simp[FR]at h),KV (af.mono fun e w' hh=>?_)⟩;obtain⟨u,rfl,hh⟩:=hh;rw[ai];exact ao u w' hh
theorem vA (D:c.Ok) {ops:Array Oper} {rest:List Oper} {dst:Option Nat} {g:Operand} {xs:List Operand} {ts:Array TypeId} {ty:TypeId} {pos:String} {after:Array Edge}
  {f:FuncId} {i:List Nat} (E:Dg (Ae σ g)=some (f,i)) {as:List AV} (C:LY σ xs=some as)
  {A:List AV} {objs:List (Nat×Obj)} {stay:List Nat} {post:AV→List (Nat×Obj)→Prop} (z:BL c.P f A objs stay post)
  (ren:List (Nat×CO)) (hs:List Nat) (h1:CT ren=true) (v:Cm objs ren=true) (H:(c.ds.pin.all fun p=>!AX p.1 hs)=true) (x:Bh σ ren (as++i.map fun n=>AV.bp n [] 0) A) (B:Ak σ.objs ren objs)
  (hk:∀res e,post res e→∃(b:List (Nat×CO)) (h:AV) (d:List (Nat×Obj)),CT b=true∧Cm d b=true∧Ak e b d∧Bx b res h ∧
   LI ren b stay hs=true∧HD (Au ren) d σ.objs=true∧HN c R k ops rest (Cn σ (Au ren) hs dst h d)) :
  HN c R k ops (⟨dst,.call ⟨.value g,xs.toArray,ts⟩,ty,pos,after,none⟩ :: rest) σ:=by
 intro j F a w J;unfold wpListIn;rw[BY (by simp[Region.wanted])];refine nC D (xs:=xs) (ts:=ts) rfl rfl E C z ren h1 v x B hs H J (Bq (j _ (by simp))) fun res e hp=>?_;obtain⟨b,h,d,m,q,r,s,t,u,y⟩:=hk res e hp;exact⟨b,h,d,m,q,r,s,t,u,fun l w' I=>y (fun o G=>j o (by simp[G])) F l w' I⟩
end
end
section
open Go Go.RowKit
def Ve (s:Nat):List Nat→List Nat
 | []=>[]
 | k :: r=>if s=k then r else k :: Ve s r
def HO:List Nat→List (Nat×AV)→List (Nat×AV)
 | _,[]=>[]
 | [],_ :: _=>[]
 | k :: a,(s,v) :: r=>if AX s (k :: a)=true then (s,v) :: HO (Ve s (k :: a)) r else HO (k :: a) r
def DS (a:List Nat):Cz→Cz
 | some (vc,σ)=>some (vc,⟨HO a σ.env,σ.objs⟩)
 | none=>none
theorem WR {s t:Nat}:∀ {a:List Nat},AX s a=false→AX s (Ve t a)=false
 | [],h=>h
 | k :: r,h=>by
  simp only[AX]at h;split at h
  ·cases h
  ·rename_i b;simp only[Ve];split
   ·exact h
   ·simp only[AX,At b];exact WR h
theorem JW {s:Nat}:∀ {env:List (Nat×AV)} {a:List Nat},AX s a=false→lk s (HO a env)=none
 | [],a,_=>by cases a<;>rfl
 | (j,v) :: r,[],_=>rfl
 | (j,v) :: r,k :: a,h=>by
  simp only[HO];split
  ·rename_i b;simp only[lk];rw[At (fun e=>by subst e;rw[h]at b;cases b)];exact JW (WR h)
  ·exact JW h
theorem TM {s:Nat} {x:AV}:∀ {env:List (Nat×AV)} {a:List Nat},lk s (HO a env)=some x→lk s env=some x
 | [],a,h=>by cases a<;>simp[HO,lk]at h
 | (j,v) :: r,[],h=>by simp[HO,lk]at h
 | (j,v) :: r,k :: a,h=>by
  simp only[HO]at h;split at h
  ·simp only[lk]at h ⊢;split at h
   ·rename_i e;rw[BY e];exact h
   ·rename_i e;rw[At e];exact TM h
  ·rename_i b;by_cases e:s=j
   ·subst e;rw[JW (by simpa using b)]at h;cases h
   ·simp only[lk,At e];exact TM h
theorem IB {d:List Nat} {r:Cz} {vc:Prop} {σ':St} (h:DS d r=some (vc,σ')):∃b,r=some (vc,b)∧∀c:Cx,Ent c b σ':=by
 cases r with
 | none=>cases h
 | some p =>
  obtain⟨f,b⟩:=p;simp only[DS]at h;cases h;exact⟨b,rfl,fun c a w hs=>SU (σ':=⟨HO d b.env,b.objs⟩) (fun s v e=>TM e) (fun _=>rfl) hs⟩
section
variable {c:Cx} {R:Exit→Act→World→Prop} {k:List DX} {σ σ':St}
theorem WS (g:List Nat) (e:c.P.follows .mixedOrders=true) (b:c.Ok) {id:Nat} {l:List Oper} (d:LG l l.length=true) {vc:Prop}
  (h:DS g (Kd c.tb l false σ.objs [] l 0 [] [] σ)=some (vc,σ')) (f:vc) (hk:Ev c R (.out .normal) k σ'):Ev c R (.run (.region id l.toArray true)) k σ:=by
 obtain⟨i,h1,a⟩:=IB h;exact u6 e b d h1 f (hk.ent (a c))
theorem p9 (g:List Nat) (m:Nat) (e:c.P.follows .mixedOrders=true) (b:c.Ok) {id:Nat} {l:List Oper} (d:LG l (l.take (l.length-m)).length=true) {vc:Prop}
  (h:DS g (Kd c.tb l false σ.objs (l.drop (l.length-m)) (l.take (l.length-m)) 0 [] [] σ)=some (vc,σ')) (f:vc) (hk:Ev c R (.out .normal) k σ'):Ev c R (.run (.region id l.toArray true)) k σ:=by
 obtain⟨i,h1,a⟩:=IB h;exact u7 m e b d h1 f (hk.ent (a c))
theorem Zh (f:List Nat) (b:c.Ok) {id:Nat} {l:List Oper} (d:p4 l l.length=true) {vc:Prop}
  (h:DS f (Kd c.tb l true σ.objs [] l 0 [] [] σ)=some (vc,σ')) (e:vc) (hk:Ev c R (.out .normal) k σ'):Ev c R (.run (.region id l.toArray false)) k σ:=by
 obtain⟨g,h1,a⟩:=IB h;exact jA b d h1 e (hk.ent (a c))
theorem Lv (e:List Nat) (b:c.Ok) {id:Nat} {l:List Oper} (h0:(l.all fun o=>o.guard.isNone)=true) {vc:Prop} (h:DS e (Bt c.tb l l σ)=some (vc,σ')) (d:vc) (hk:Ev c R (.out .normal) k σ') :
  Ev c R (.run (.region id l.toArray false)) k σ:=by
 obtain⟨f,h1,a⟩:=IB h;exact jB b h0 h1 d (hk.ent (a c))
theorem IC (e:List Nat) (b:c.Ok) {ops:List Oper} {l:List Oper} {vc:Prop} (h:DS e (Bt c.tb ops l σ)=some (vc,σ')) (d:vc) (hk:Ev c R (.out .normal) k σ'):HN c R k ops.toArray l σ:=by
 obtain⟨f,h1,a⟩:=IB h;exact X2 b (by simpa using h1) d (hk.ent (a c))
theorem vB (d:c.Ok) {id:Nat} {l:List Oper} (n:Nat) (h0:(l.all fun o=>o.guard.isNone)=true) {vc:Prop} (h:Bt c.tb l (l.take n) σ=some (vc,σ')) (f:vc) (hk:HN c R k l.toArray (l.drop n) σ') :
  Ev c R (.run (.region id l.toArray false)) k σ:=by
 intro h1 b a w hs;simp only[H2,Bk,Do]at h1;exact AC6 (SV d n (by simpa using h) f hk (fun o e=>h1 o e) b a w hs)
theorem vC (d:c.P.follows .mixedOrders=true) (a:c.Ok) {id:Nat} {l:List Oper} (n:Nat) (b:LG l (l.take n).length=true) {vc:Prop}
  (h:Kd c.tb l false σ.objs [] (l.take n) 0 [] [] σ=some (vc,σ')) (e:vc) (hk:HN c R k l.toArray (l.drop n) σ') :
  Ev c R (.run (.region id l.toArray true)) k σ:=Ze d a n b h e hk
theorem Cy {ops:Array Oper} (h:Ev c R (.out .normal) k σ):HN c R k ops [] σ:=A1E h
end
end
end Go.Proofs.YtdapahgnpbehbaaGreat.Fw
