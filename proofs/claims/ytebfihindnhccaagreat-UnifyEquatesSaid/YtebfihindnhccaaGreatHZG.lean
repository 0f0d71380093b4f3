/- Contracts over memory; the frame rule of a call. -/
/- Contracts with memory: what a call does to the objects that are handed over. -/
import Derived.Test.YtebfihindnhccaaGreatHZF
set_option linter.unusedVariables false
set_option linter.unusedSimpArgs false
namespace Go.Proofs.YtebfihindnhccaaGreat.Fw
section
open Go Go.RowKit
structure sD (K O0:Nat→Prop) (objs:List (Nat×Obj)) (ρ:Nat→Value) (w:World):Prop where
 obj:∀n o,lk n objs=some o→A2 (vw w O0 ⟨[],objs⟩ ρ) o (ρ n)
 free:∀n b,GP ⟨[],objs⟩ n→bk (ρ n) b→¬K b∧¬O0 b
 dist:∀n m b,GP ⟨[],objs⟩ n→GP ⟨[],objs⟩ m→bk (ρ n) b→bk (ρ m) b→n=m
def Lw (V:Vw):List AV→List Value→Prop
 | [],vs=>vs=[]
 | x :: r,vs=>∃(v:Value) (l:List Value),vs=v :: l∧B1 V x v∧Lw V r l
def eG (K O0:Nat→Prop) (stay:List Nat) (w:World) (ρ:Nat→Value) (post:AV→List (Nat×Obj)→Prop) (u:Value) (w':World):Prop :=
 ∃(res:AV) (objs':List (Nat×Obj)) (ρ':Nat→Value),post res objs'∧Frm K w w'∧sD K O0 objs' ρ' w'∧B1 (vw w' O0 ⟨[],objs'⟩ ρ') res u∧∀n∈stay,ρ' n=ρ n
def FI (P:Program) (f:FuncId) (args:List AV) (objs:List (Nat×Obj)) (stay:List Nat) (post:AV→List (Nat×Obj)→Prop):Prop :=
 (∃ fn : Func, P.funcs[f]? = some fn ∧ (fn.name == "runtime.NumGoroutine") = false ∧ fn.body.isNone = false) ∧
 ∀(w:World) (K O0:Nat→Prop) (ρ:Nat→Value) (vs:List Value),(∀b,K b→b<w.heap.size)→(∀b,O0 b→b<w.heap.size)→sD K O0 objs ρ w→Lw (vw w O0 ⟨[],objs⟩ ρ) args vs →
  Calls P f vs.toArray w fun e w'=>∃u,e=.returned u∧eG K O0 stay w ρ post u w'
/-! ### From the body -/
def Ca:Nat→List AV→List (Nat×AV)
 | _,[]=>[]
 | s,x :: r=>(s,x) :: Ca (s+1) r
def A2V:AV→Prop
 | .p t d=>t.ok d
 | _=>True
def YA:List AV→Prop
 | []=>True
 | x :: r=>A2V x∧YA r
def sE:Obj→Prop
 | .arr _ e xs=>(Ty.slice e).ok xs
 | .box _ _ fs=>YA fs
 | .mapo k v l=>∀x∈l,k.ok x.1∧v.ok x.2
 | .nest _ _ k e xs none=>(Ty.slice (.agg (.prod k (.slice e)))).ok xs
 | _=>True
def aV:List (Nat×Obj)→Prop
 | []=>True
 | x :: r=>sE x.2∧aV r
theorem A27 {V:Vw} {x:AV} {v:Value} (h:B1 V x v):A2V x:=by
 cases x<;>try trivial
 obtain⟨cs,hr,_⟩:=h
 exact Gq hr
theorem eH {V:Vw}:∀ {l:List AV} {vs:List Value},Lw V l vs→YA l
 | [],_,_=>trivial
 | _ :: _,_,⟨_,_,_,h1,h2⟩=>⟨A27 h1,eH h2⟩
theorem eI {V:Vw}:∀ {l:List AV} {cs:List Value},Cz V l cs→YA l
 | [],_,_=>trivial
 | x :: _,_,⟨c1,c2,_,h1,h2⟩=>⟨by
   cases x<;>try trivial
   exact Gq (h1:Be _ _ _ _ _),eI h2⟩
theorem eJ {w:World} {O:Nat→Prop} {k v:Ty}:∀ {es:List MapEntry} {l:List (k.den×v.den)},NG w O k v es l→∀x∈l,k.ok x.1∧v.ok x.2
 | [],[],_,x,hx=>by cases hx
 | [],_ :: _,h,_,_=>h.elim
 | _ :: _,[],h,_,_=>h.elim
 | e :: es,y :: l,⟨⟨_,h1,_⟩,⟨_,h2,_⟩,h3⟩,x,hx=>by
  rcases List.mem_cons.1 hx with rfl|hx
  ·exact⟨Gq h1,Gq h2⟩
  ·exact eJ h3 x hx
theorem yG {V:Vw} {o:Obj} {loc:Value} (h:A2 V o loc):sE o:=by
 cases o with
 | arr et e xs =>
  obtain⟨hm,cells,_,hel⟩:=h
  refine⟨hm,fun x hx=>?_⟩
  obtain⟨i,hi,rfl⟩:=List.mem_iff_getElem.1 hx
  obtain⟨es,_,_,hr⟩:=hel i _ (List.getElem?_eq_getElem hi)
  exact Gq hr
 | box et st fs=>obtain⟨_,b,cs,_,_,h2⟩:=h;exact eI h2
 | mapo k v l=>obtain⟨b,es,cl,_,_,h2⟩:=h;exact eJ h2
 | nest et iet k e xs hl =>
  cases hl with
  | some i=>trivial
  | none =>
   obtain⟨o,ins,cells,_,hN⟩:=h
   have hel:=MR (O':=fun _=>False) (fun _ _ h=>h) hN (fun _ _ _ _ _ h=>h)
   refine⟨hN.max,fun x hx=>?_⟩
   obtain⟨i,hi,rfl⟩:=List.mem_iff_getElem.1 hx
   obtain⟨es,_,_,hr⟩:=hel i _ (List.getElem?_eq_getElem hi)
   exact Gq hr
 | frame tm fs=>trivial
 | loop L=>trivial
 | dfr=>trivial
theorem eK:∀ {l:List (Nat×Obj)},WQ l=true→(∀n o,lk n l=some o→sE o)→aV l
 | [],_,_=>trivial
 | (n,o) :: r,hk,h=>by
  simp only[WQ,Bool.and_eq_true,List.all_eq_true,bne_iff_ne]at hk
  refine⟨h n o (by simp[lk]),eK hk.2 fun m x hm=>h m x ?_⟩
  simp only[lk]
  rw[if_neg (fun e=>hk.1 _ (FD hm) e)]
  exact hm
theorem eL:∀(l:List AV) (vs:List Value) (k:Nat) (V:Vw),Lw V l vs→∀s v,lk s (Ca k l)=some v→k≤s∧∃u,vs[s-k]?=some u∧B1 V v u
 | [],vs,k,V,h,s,v,hs=>by simp[Ca,lk]at hs
 | x :: l,vs,k,V,h,s,v,hs=>by
  obtain⟨u,r,rfl,h1,h2⟩:=h
  simp only[Ca,lk]at hs
  split at hs
  ·rename_i e
   cases hs
   subst e
   exact⟨Nat.le_refl _,u,by simp,h1⟩
  ·obtain⟨h3,u',h4,h5⟩:=eL l r (k+1) V h2 s v hs
   refine⟨by omega,u',?_,h5⟩
   rw[show s-k=(s-(k+1))+1 by omega]
   simpa using h4
theorem QN {V:Vw}:∀ {l:List AV} {vs:List Value},Lw V l vs→vs.length=l.length
 | [],vs,h=>by have h:vs=[]:=h;subst h;rfl
 | _ :: _,_,⟨_,_,rfl,_,h⟩=>by simp[QN h]
def cm (P:Program) (tb:Tb) (w0:World) (K O0:Nat→Prop) (nt:Nat) (pin:List (Nat×Value)):Cx:={ P:=P,tb:=tb,w0:=w0,K:=K,O0:=O0,nt:=nt,ds:={ pin:=pin } }
theorem YB {P:Program} {tb:Tb} {w0:World} {K O0:Nat→Prop} {nt:Nat} {pin:List (Nat×Value)}:(cm P tb w0 K O0 nt pin).tb=tb:=rfl
def sF (objs:List (Nat×Obj)) (n:Nat):Bool :=
 match lk n objs with
 | some (.arr _ _ _)=>Fx n
 | some (.nest _ _ _ _ _ _)=>Fx n
 | some _=>true
 | none=>false
theorem aW {P:Program} {tb:Tb} {w0:World} {K O0:Nat→Prop} {nt:Nat} {args:List AV} {objs:List (Nat×Obj)} {stay:List Nat} {ρ:Nat→Value} {vs:List Value} (hm:sD K O0 objs ρ w0) (hv:Lw (vw w0 O0 ⟨[],objs⟩ ρ) args vs) (hst:stay.all (sF objs)=true) (hnt:vs.length≤nt) :
  (cm P tb w0 K O0 nt (stay.map fun n=>(n,ρ n))).sat ⟨Ca 0 args,objs⟩ { tmps:=vs.toArray++Array.replicate (nt-vs.toArray.size) undef,defers:=[] } w0:=by
 refine⟨ρ,⟨rfl,rfl,rfl,Nat.le_refl _,fun _ _=>rfl⟩,by simp[cm];omega,rfl,fun p hp=>?_,hm.obj,hm.free,hm.dist,fun s v hs=>?_⟩
 ·obtain⟨n,hn,rfl⟩:=List.mem_map.1 hp
  have:=(List.all_eq_true.1 hst) n hn
  unfold sF at this
  cases ho:lk n objs with
  | none=>rw[ho]at this;cases this
  | some o =>
   rw[ho]at this
   refine⟨⟨o,ho⟩,rfl,?_⟩
   have hob:=hm.obj n o ho
   cases o with
   | arr et e xs=>exact .inr this
   | nest et iet k e xs hl=>exact .inr this
   | box et st fs=>obtain⟨_,b,cs,he,_⟩:=hob;rw[he];exact .inl rfl
   | mapo k v l=>obtain⟨b,es,cl,he,_⟩:=hob;rw[he];exact .inl rfl
   | frame tm fs=>obtain⟨he,_⟩:=hob;rw[he];exact .inl rfl
   | loop L=>obtain⟨b,he,_⟩:=hob;rw[he];exact .inl rfl
   | dfr=>obtain⟨b,he,_⟩:=hob;rw[he];exact .inl rfl
 ·obtain⟨_,u,h1,h2⟩:=eL args vs 0 _ hv s v hs
  have h1:vs[s]?=some u:=by simpa using h1
  have hlt:s<vs.length:=(List.getElem?_eq_some_iff.1 h1).1
  have hget:(vs.toArray++Array.replicate (nt-vs.toArray.size) undef).getD s undef=u:=by
   have:vs[s]=u:=by rw[List.getElem?_eq_getElem hlt]at h1;injection h1
   simp[Array.getElem?_append,hlt,this]
  rw[hget]
  exact h2
def A2W (P:Program) (fn:Func) (w0:World) (K O0:Nat→Prop) (stay:List Nat) (ρ0:Nat→Value) (post:AV→List (Nat×Obj)→Prop):Exit→Act→World→Prop :=
 bodyPost P fn fun e w'=>∃u,e=.returned u∧eG K O0 stay w0 ρ0 post u w'
theorem Gw {P:Program} {tb:Tb} {f:FuncId} {fn:Func} {cd:Code} {nt:Nat} {args:List AV} {objs:List (Nat×Obj)} {stay:List Nat} {post:AV→List (Nat×Obj)→Prop}
  (hfn : P.funcs[f]? = some fn) (hname : (fn.name == "runtime.NumGoroutine") = false) (hbody : fn.body = some cd) (hnt : fn.ntmps = nt) (hlen : args.length ≤ nt)
  (hcode:CZ nt cd=true) (hst:stay.all (sF objs)=true) (hkeys:WQ objs=true) (hT:Dr P tb) (hF:QC P tb)
  (h:∀(w0:World) (K O0:Nat→Prop) (ρ0:Nat→Value),(cm P tb w0 K O0 nt (stay.map fun n=>(n,ρ0 n))).Ok→YA args→aV objs →
   Ev (cm P tb w0 K O0 nt (stay.map fun n=>(n,ρ0 n))) (A2W P fn w0 K O0 stay ρ0 post) (.run cd) [] ⟨Ca 0 args,objs⟩):FI P f args objs stay post:=by
 refine⟨⟨fn,hfn,hname,by simp[hbody]⟩,fun w K O0 ρ vs hK hO hm hv=>?_⟩
 refine calls_of_wp hfn hbody ((wpIn_wide (n:=0)).1 ?_)
 have hvl:=QN hv
 rw[hnt]
 exact h w K O0 ρ ⟨hK,hO,hT,hF⟩ (eH hv) (eK hkeys fun n o ho=>yG (hm.obj n o ho)) hcode rfl _ _ (aW hm hv hst (by omega))
def sG (tb:Tb) (σ:St) (rv:ResultVar):AV→Prop
 | .p t d=>I8 σ t (I7 tb σ rv)=some d
 | x=>I7 tb σ rv=some x
def R7 (tb:Tb) (σ:St):List ResultVar→List AV→Prop
 | [],[]=>True
 | rv :: rvs,x :: l=>sG tb σ rv x∧R7 tb σ rvs l
 | _,_=>False
def YC:AV→Bool
 | .tup _=>false
 | _=>true
def eO (tb:Tb) (σ:St):List ResultVar→AV→Prop
 | [],x=>x=.raw (.tuple #[])
 | [rv],x=>sG tb σ rv x
 | rvs,.tup l=>l.all YC=true∧R7 tb σ rvs l
 | _,_=>False
section
variable {P:Program} {tb:Tb} {w0:World} {K O0:Nat→Prop} {nt:Nat} {ds:Fp} {σ:St} {ρ:Nat→Value} {a:Act} {w:World}
theorem eQ (hT:Dr P tb) (hs:B6 w0 K O0 nt ds σ ρ a w) {rv:ResultVar} {x:AV} (h:sG tb σ rv x):∃u,(IT a.tmps rv).run P w=.ok u w∧B1 (vw w O0 σ ρ) x u:=by
 by_cases hp:∃t d,x=.p t d
 ·obtain⟨t,d,rfl⟩:=hp
  simp only[sG]at h
  cases hr:I7 tb σ rv with
  | none=>rw[hr]at h;simp[I8]at h
  | some v =>
   rw[hr]at h
   simp only[I8]at h
   obtain⟨u,h1,h2⟩:=RA hT hs hr
   exact⟨u,h1,L5 (V:=vw w O0 σ ρ) (O':=own O0 σ ρ) (fun b hb hb'=>hb hb') (fun h=>by cases h) hs.objs h h2⟩
 ·have h:I7 tb σ rv=some x:=by
   cases x<;>first|exact h|exact absurd ⟨_,_,rfl⟩ hp
  exact RA hT hs h
theorem A2X {V:Vw} {x:AV} {v:Value} (hn:YC x=true) (h:B1 V x v):Py V x v:=by
 cases x<;>first|(simp[YC]at hn;done)|exact h
theorem Ug (hT:Dr P tb) (hs:B6 w0 K O0 nt ds σ ρ a w):∀ {rvs:List ResultVar} {l:List AV},l.all YC=true→R7 tb σ rvs l →
  ∃us:List Value,(rvs.mapM (IT a.tmps)).run P w=.ok us w∧us.length=l.length∧QQQ (vw w O0 σ ρ) l us
 | [],[],_,_=>⟨[],by simp,rfl,rfl⟩
 | [],_ :: _,_,h=>h.elim
 | _ :: _,[],_,h=>h.elim
 | rv :: rvs,x :: l,hn,h=>by
  simp only[List.all_cons,Bool.and_eq_true]at hn
  obtain⟨u,h1,h2⟩:=eQ hT hs h.1
  obtain⟨us,h3,h4,h5⟩:=Ug hT hs hn.2 h.2
  refine⟨u :: us,?_,by simp[h4],u,us,rfl,A2X hn.1 h2,h5⟩
  rw[List.mapM_cons]
  simp only[Sem.run_bind,h1,Result.andThen_ok,h3,Sem.run_pure]
theorem R8 {tb:Tb} {σ:St}:∀ {rvs:List ResultVar} {l:List AV},R7 tb σ rvs l→rvs.length=l.length
 | [],[],_=>rfl
 | [],_ :: _,h=>h.elim
 | _ :: _,[],h=>h.elim
 | _ :: _,_ :: _,h=>by simp[R8 h.2]
theorem sI (hT:Dr P tb) (hs:B6 w0 K O0 nt ds σ ρ a w) {fn:Func} {x:AV} (h:eO tb σ fn.results.toList x):∃u,(results fn a.tmps).run P w=.ok u w∧B1 (vw w O0 σ ρ) x u:=by
 have key:∀us:List Value,(fn.results.toList.mapM (IT a.tmps)).run P w=.ok us w→(results fn a.tmps).run P w=.ok (if h:us.toArray.size=1 then us.toArray[0] else .tuple us.toArray) w:=by
  intro us h1
  rw[MU]
  have hm:(fn.results.mapM (IT a.tmps)).run P w=.ok us.toArray w:=by
   rw[Array.mapM_eq_mapM_toList]
   simp only[Sem.run_map,h1,Result.andThen_ok]
  simp only[Sem.run_bind,hm,Result.andThen_ok,Sem.run_pure]
 generalize fn.results.toList=rvs at h key
 unfold eO at h
 split at h
 ·subst h
  exact⟨_,key [] (by simp),rfl⟩
 ·rename_i rv
  obtain⟨u,h1,h2⟩:=eQ hT hs h
  exact⟨_,key [u] (by simp[h1]),h2⟩
 ·rename_i l hne1 hne2
  obtain⟨us,h1,h2,h3⟩:=Ug hT hs h.1 h.2
  have h4:=R8 h.2
  refine⟨_,key us h1,?_⟩
  have:¬us.toArray.size=1:=by
   intro e
   have e:us.length=1:=by simpa using e
   rw[h2,←h4]at e
   obtain⟨z,hz⟩:=List.length_eq_one_iff.1 e
   exact hne2 z hz
  rw[dif_neg this]
  exact⟨us,rfl,h3⟩
 ·exact h.elim
end
theorem DN {P:Program} {tb:Tb} {w0:World} {K O0:Nat→Prop} {nt:Nat} {stay:List Nat} {ρ0:Nat→Value} {fn:Func} {post:AV→List (Nat×Obj)→Prop} {σ:St} {e:Exit} (hc:(cm P tb w0 K O0 nt (stay.map fun n=>(n,ρ0 n))).Ok)
  (rs:List ResultVar) (hr:fn.results.toList=rs) (he:e=.ret∨e=.normal) (res:AV) (h:eO tb σ rs res) (hp:post res σ.objs) :
  Ev (cm P tb w0 K O0 nt (stay.map fun n=>(n,ρ0 n))) (A2W P fn w0 K O0 stay ρ0 post) (.out e) [] σ:=by
 intro _ _ a w hs
 obtain⟨ρ,hs⟩:=hs
 obtain⟨u,h1,h2⟩:=sI hc.T hs (by rw[hr];exact h)
 have hpost:eG K O0 stay w0 ρ0 post u w:=by
  refine⟨res,σ.objs,ρ,hp,hs.frm,⟨hs.objs,hs.free,hs.dist⟩,h2,fun n hn=>?_⟩
  exact(hs.pin (n,ρ0 n) (List.mem_map.2 ⟨n,hn,rfl⟩)).2.1
 rcases he with rfl|rfl
 ·exact⟨hs.defers,u,h1,u,rfl,hpost⟩
 ·exact⟨hs.defers,u,h1,u,rfl,hpost⟩
end
/- A call by a contract with memory. -/
section
open Go Go.RowKit
/-! ### The call -/
def Cj:Option AV→Option (FuncId×List Nat)
 | some (.fn f)=>some (f,[])
 | some (.clo f ns)=>some (f,ns)
 | _=>none
def JF (σ:St):List Operand→Option (List AV)
 | []=>some []
 | x :: r=>match Ap σ x,JF σ r with
  | some v,some vs=>some (v :: vs)
  | _,_=>none
def F3 (σ:St) (ren:List (Nat×B7)) (x:AV):AV→Prop
 | .p t d=>MN false σ t x=some d
 | y=>CB ren x y
def BW (σ:St) (ren:List (Nat×B7)):List AV→List AV→Prop
 | [],[]=>True
 | x :: l,y :: r=>F3 σ ren x y∧BW σ ren l r
 | _,_=>False
def Av:List (Nat×B7)→List Nat
 | []=>[]
 | (_,.nm n) :: r=>n :: Av r
 | (_,.nil) :: r=>Av r
def A1A (m:Nat):Option B7→Bool
 | some (.nm m')=>m'==m
 | _=>false
def A1B (n:Nat) (f:Option B7) (m:Nat):Option B7→Bool
 | some (.nm n')=>n'==n&&A1A m f
 | _=>false
def Nq (ren ren2:List (Nat×B7)) (stay hs:List Nat):Bool:=(Av ren).all fun n=>AZ n hs||ren.any fun p=>AZ p.1 stay&&A1B n (lk n ren2) p.1 (lk p.1 ren)
def Hz (hd:List Nat) (objs2 objs:List (Nat×Obj)):Bool:=objs2.all fun p=>AZ p.1 hd||(lk p.1 objs).isNone
def JG (dst:Option Nat) (v:AV) (env:List (Nat×AV)):List (Nat×AV) :=
 match dst with
 | some d=>(d,v) :: env
 | none=>env
def EO (σ:St) (hd hs:List Nat) (dst:Option Nat) (res:AV) (objs2:List (Nat×Obj)):St:=⟨JG dst res (Co hs σ.env),objs2++BD hd hs σ.objs⟩
theorem MZ {n:Nat}:∀ {l:List (Nat×B7)},n∈Av l↔∃m,(m,B7.nm n)∈l
 | []=>by simp[Av]
 | (m,.nm k) :: r=>by
  simp only[Av,List.mem_cons,MZ (l:=r),Prod.mk.injEq,B7.nm.injEq]
  constructor
  ·rintro (rfl|⟨j,hj⟩)
   ·exact⟨m,.inl ⟨rfl,rfl⟩⟩
   ·exact⟨j,.inr hj⟩
  ·rintro⟨j,(⟨_,rfl⟩|hj)⟩
   ·exact .inl rfl
   ·exact .inr ⟨j,hj⟩
 | (m,.nil) :: r=>by
  simp only[Av,List.mem_cons,MZ (l:=r),Prod.mk.injEq]
  constructor
  ·rintro⟨j,hj⟩;exact⟨j,.inr hj⟩
  ·rintro⟨j,(⟨_,h⟩|hj)⟩
   ·cases h
   ·exact⟨j,hj⟩
theorem eU {V:Vw} {σ:St} {ev:Operand→Value} (hev:IP V σ ev):∀ {xs:List Operand} {vs:List AV},JF σ xs=some vs→Lw V vs (xs.map ev)
 | [],vs,h=>by simp only[JF]at h;cases h;exact(rfl:_=_)
 | x :: r,vs,h=>by
  simp only[JF]at h
  split at h
  ·rename_i v l h1 h2
   cases h
   exact⟨ev x,r.map ev,rfl,hev x v h1,eU hev h2⟩
  ·cases h
section
variable {V V':Vw} {ren:List (Nat×B7)} {σ:St}
theorem R9 (hV:KH ren V V') (hO:∀b,¬V.O b→¬V'.O b) (hobj:∀n o,lk n σ.objs=some o→A2 V o (V.ρ n)):∀ {l r:List AV} {vs:List Value},BW σ ren l r→Lw V l vs→Lw V' r vs
 | [],[],vs,_,h=>h
 | [],_ :: _,_,hm,_=>hm.elim
 | _ :: _,[],_,hm,_=>hm.elim
 | x :: l,y :: r,vs,hm,h=>by
  obtain⟨v,l',rfl,h1,h2⟩:=h
  refine⟨v,l',rfl,?_,R9 hV hO hobj hm.2 h2⟩
  have hm1:=hm.1
  by_cases hp:∃t d,y=.p t d
  ·obtain⟨t,d,rfl⟩:=hp
   have hm1:MN false σ t x=some d:=hm1
   have:=L5 (V:=V) (O':=V'.O) hO (fun h=>by cases h) hobj hm1 h1
   show Bf V'.w V'.O t v d
   rw[hV.w]
   exact this
  ·have hm1:CB ren x y:=by
    cases y<;>first|exact hm1|exact absurd ⟨_,_,rfl⟩ hp
   exact LL hV hm1 h1
end
section
variable {c:Cx} {R:Exit→Act→World→Prop} {k:List EY} {σ:St}
theorem yH {c:Cx} {a:Act} {dst:Option Nat} {u:Value} {s:Nat} {y:AV} {V:Vw} {env:List (Nat×AV)} {res:AV} (hsz:a.tmps.size=c.nt) (hd:∀d,dst=some d→d<c.nt) (hres:B1 V res u) (henv:∀s v,lk s env=some v→B1 V v (a.tmps.getD s undef))
  (h:lk s (JG dst res env)=some y):B1 V y ((a.put dst u).tmps.getD s undef):=by
 cases dst with
 | none=>exact henv s y h
 | some d =>
  rw[NI a d u s (by rw[hsz];exact hd d rfl)]
  simp only[JG,lk]at h
  split at h
  ·rename_i e;cases h;rw[if_pos e];exact hres
  ·rename_i e;rw[if_neg e];exact henv s y h
theorem oA (hc:c.Ok) {dst:Option Nat} {ρ:Nat→Value} {a:Act} {w:World} (hsr:B6 c.w0 c.K c.O0 c.nt c.ds σ ρ a w) {as:List AV} {vs:List Value} (hall:Lw (vw w c.O0 σ ρ) as vs)
  {A:List AV} {objs:List (Nat×Obj)} (stay:List Nat) (post:AV→List (Nat×Obj)→Prop)
  (ren:List (Nat×B7)) (h1:Cu ren=true) (h2:DZ objs ren=true) (hA:BW σ ren as A) (hO:Au σ.objs ren objs)
  (hs:List Nat) (hpin:(c.ds.pin.all fun p=>!AZ p.1 hs)=true) {next:Act→World→Prop} (hd:∀d,dst=some d→d<c.nt)
  (hk:∀res objs',post res objs'→∃(ren2:List (Nat×B7)) (res2:AV) (objs2:List (Nat×Obj)),Cu ren2=true∧DZ objs2 ren2=true∧Au objs' ren2 objs2∧CB ren2 res res2 ∧
   Nq ren ren2 stay hs=true∧Hz (Av ren) objs2 σ.objs=true∧∀a' w',c.sat (EO σ (Av ren) hs dst res2 objs2) a' w'→next a' w') :
  ∃(Kc O0c:Nat→Prop) (ρc:Nat→Value),(∀b,Kc b→b<w.heap.size)∧(∀b,O0c b→b<w.heap.size)∧sD Kc O0c objs ρc w∧Lw (vw w O0c ⟨[],objs⟩ ρc) A vs∧(∀m n,lk m ren=some (.nm n)→ρc m=ρ n) ∧
   ∀u w',eG Kc O0c stay w ρc post u w'→next (a.put dst u) w':=by
 let ρc:Nat→Value:=fun m=>match lk m ren with|some (.nm n)=>ρ n|_=>.slice none 0 0
 have hρc:∀m n,lk m ren=some (.nm n)→ρc m=ρ n:=fun m n hm=>by simp[ρc,hm]
 have hρnil:∀m,lk m ren=some .nil→ρc m=.slice none 0 0:=fun m hm=>by simp[ρc,hm]
 let O0c:Nat→Prop:=fun b=>c.O0 b∨∃n,GP σ n∧n∉Av ren∧bk (ρ n) b
 let Kc:Nat→Prop:=fun b=>b<w.heap.size∧¬ ∃m,GP ⟨[],objs⟩ m∧bk (ρc m) b
 have src:∀m b,GP ⟨[],objs⟩ m→bk (ρc m) b→∃n,lk m ren=some (.nm n)∧GP σ n∧bk (ρ n) b:=by
  rintro m b ⟨o',hm⟩ hb
  have hf:=Ci hO hm
  cases hr:lk m ren with
  | none=>rw[hr]at hf;exact hf.elim
  | some fr =>
   cases fr with
   | nil=>rw[hρnil m hr]at hb;simp[bk,blk]at hb
   | nm n =>
    rw[hr]at hf
    rw[hρc m n hr]at hb
    refine⟨n,rfl,?_,hb⟩
    cases hn:lk n σ.objs with
    | none=>simp only[Fg,hn,Gr]at hf
    | some x=>exact⟨x,hn⟩
 have hlL:∀m fr,lk m ren=some fr→GP ⟨[],objs⟩ m:=fun m fr hm=>by
  simp only[DZ,List.all_eq_true]at h2
  exact Option.isSome_iff_exists.1 (h2 _ (FD hm))
 have hhand:∀m n,lk m ren=some (.nm n)→n∈Av ren:=fun m n hm=>MZ.2 ⟨m,FD hm⟩
 have hVO:∀b,¬own c.O0 σ ρ b→¬own O0c ⟨[],objs⟩ ρc b:=by
  intro b hb hb'
  rcases hb' with (h0|⟨n,hn,_,hnb⟩)|⟨m,hm,hmb⟩
  ·exact hb (.inl h0)
  ·exact hb (.inr ⟨n,hn,hnb⟩)
  ·obtain⟨n,_,hn,hnb⟩:=src m b hm hmb
   exact hb (.inr ⟨n,hn,hnb⟩)
 have hV:KH ren (vw w c.O0 σ ρ) (vw w O0c ⟨[],objs⟩ ρc):=⟨rfl,hVO,hρc,hρnil,hlL⟩
 have hmem:sD Kc O0c objs ρc w:=by
  refine⟨fun m o' hm=>Ox hV hsr.objs (Ci hO hm),fun m b hm hb=>⟨fun hK=>hK.2 ⟨m,hm,hb⟩,fun h0=>?_⟩,fun m m' b hm hm' hb hb'=>?_⟩
  ·obtain⟨n,hr,hn,hnb⟩:=src m b hm hb
   rcases h0 with h0|⟨n',hn',hnh,hnb'⟩
   ·exact(hsr.free n b hn hnb).2 h0
   ·have:=hsr.dist n n' b hn hn' hnb hnb'
    subst this
    exact hnh (hhand m n hr)
  ·obtain⟨n,hr,hn,hnb⟩:=src m b hm hb
   obtain⟨n',hr',hn',hnb'⟩:=src m' b hm' hb'
   have:=hsr.dist n n' b hn hn' hnb hnb'
   subst this
   exact RB h1 hr hr'
 have hO0c:∀b,O0c b→b<w.heap.size:=by
  rintro b (h0|⟨n,⟨o',hn⟩,_,hnb⟩)
  ·exact Nat.lt_of_lt_of_le (hc.O b h0) hsr.frm.size
  ·exact(hsr.objs n o' hn).block_lt hnb
 refine⟨Kc,O0c,ρc,fun b hb=>hb.1,hO0c,hmem,R9 hV hVO hsr.objs hA hall,hρc,?_⟩
 rintro u w' ⟨res,objs',ρ',hpost,hfrm,hmem',hav,hstay⟩
 obtain⟨ren2,res2,objs2,g1,g2,g3,g4,g5,g6,hnext⟩:=hk res objs' hpost
 refine hnext _ _ ?_
 let ρ2:Nat→Value:=fun n=>match lk n ren2 with|some (.nm m)=>ρ' m|some .nil=>.slice none 0 0|none=>ρ n
 have h2nm:∀n m,lk n ren2=some (.nm m)→ρ2 n=ρ' m:=fun n m hn=>by simp[ρ2,hn]
 have h2nil:∀n,lk n ren2=some .nil→ρ2 n=.slice none 0 0:=fun n hn=>by simp[ρ2,hn]
 have h2no:∀n,lk n ren2=none→ρ2 n=ρ n:=fun n hn=>by simp[ρ2,hn]
 let σ2:=EO σ (Av ren) hs dst res2 objs2
 have hobjs2:σ2.objs=objs2++BD (Av ren) hs σ.objs:=rfl
 have hlk2:∀n,lk n σ2.objs=(lk n objs2).or (lk n (BD (Av ren) hs σ.objs)):=fun n=>by rw[hobjs2,Ar]
 have hdom:∀n fr,lk n ren2=some fr→∃x,lk n objs2=some x:=fun n fr hn=>by
  simp only[DZ,List.all_eq_true]at g2
  exact Option.isSome_iff_exists.1 (g2 _ (FD hn))
 have hdom':∀n x,lk n objs2=some x→∃fr,lk n ren2=some fr:=fun n x hn=>by
  have hf:=Ci g3 hn
  cases hr:lk n ren2 with
  | none=>rw[hr]at hf;exact hf.elim
  | some fr=>exact⟨fr,rfl⟩
 have hfr:∀n x,lk n objs2=some x→n∈Av ren∨lk n σ.objs=none:=fun n x hn=>by
  simp only[Hz,List.all_eq_true,Bool.or_eq_true]at g6
  rcases g6 _ (FD hn) with h|h
  ·exact .inl ((Ae _ _).1 h)
  ·exact .inr (by simpa using h)
 have hrest:∀n x,lk n (BD (Av ren) hs σ.objs)=some x→n∉Av ren∧lk n objs2=none∧∃y,lk n σ.objs=some y∧x=y.fgt hs:=by
  intro n x hn
  rw[Cg]at hn
  split at hn
  ·cases hn
  ·rename_i hnh
   simp only[Option.map_eq_some_iff]at hn
   obtain⟨y,hy,rfl⟩:=hn
   have hnh:n∉Av ren:=fun h=>hnh ((Ae _ _).2 h)
   refine⟨hnh,?_,y,hy,rfl⟩
   cases hl:lk n objs2 with
   | none=>rfl
   | some z =>
    rcases hfr n z hl with h|h
    ·exact absurd h hnh
    ·rw[h]at hy;cases hy
 have hcase:∀n x,lk n σ2.objs=some x→lk n objs2=some x∨(lk n objs2=none∧lk n (BD (Av ren) hs σ.objs)=some x):=by
  intro n x hn
  rw[hlk2]at hn
  cases hl:lk n objs2 with
  | some z=>rw[hl]at hn;exact .inl hn
  | none=>rw[hl]at hn;exact .inr ⟨rfl,by simpa using hn⟩
 have hsrc2:∀n x b,lk n objs2=some x→bk (ρ2 n) b→∃m,lk n ren2=some (.nm m)∧GP ⟨[],objs'⟩ m∧bk (ρ' m) b:=by
  intro n x b hn hb
  have hf:=Ci g3 hn
  obtain⟨fr,hr⟩:=hdom' n x hn
  cases fr with
  | nil=>rw[h2nil n hr]at hb;simp[bk,blk]at hb
  | nm m =>
   rw[hr]at hf
   rw[h2nm n m hr]at hb
   refine⟨m,hr,?_,hb⟩
   cases hn:lk m objs' with
   | none=>simp only[Fg,hn,Gr]at hf
   | some z=>exact⟨z,hn⟩
 have hρ2rest:∀n,lk n objs2=none→ρ2 n=ρ n:=fun n hn=>by
  apply h2no
  cases hl:lk n ren2 with
  | none=>rfl
  | some fr=>obtain⟨x,hx⟩:=hdom n fr hl;rw[hx]at hn;cases hn
 have hV2:KH ren2 (vw w' O0c ⟨[],objs'⟩ ρ') (vw w' c.O0 σ2 ρ2):=by
  refine⟨rfl,fun b hb hb'=>?_,h2nm,h2nil,fun n fr hn=>?_⟩
  ·rcases hb' with h0|⟨n,⟨x,hn⟩,hnb⟩
   ·exact hb (.inl (.inl h0))
   ·rcases hcase n x hn with hn|⟨hno,hn⟩
    ·obtain⟨m,_,hm,hmb⟩:=hsrc2 n x b hn hnb
     exact hb (.inr ⟨m,hm,hmb⟩)
    ·obtain⟨hnh,_,y,hy,_⟩:=hrest n x hn
     rw[hρ2rest n hno]at hnb
     exact hb (.inl (.inr ⟨n,⟨y,hy⟩,hnh,hnb⟩))
  ·obtain⟨x,hx⟩:=hdom n fr hn
   exact⟨x,by rw[hlk2,hx];rfl⟩
 have hHblock:∀b,(∃m,GP ⟨[],objs⟩ m∧bk (ρc m) b)→own c.O0 σ ρ b:=by
  rintro b ⟨m,hm,hb⟩
  obtain⟨n,_,hn,hnb⟩:=src m b hm hb
  exact .inr ⟨n,hn,hnb⟩
 have hKcO:∀b,b<w.heap.size→¬own c.O0 σ ρ b→Kc b:=fun b hlt hb=>⟨hlt,fun h=>hb (hHblock b h)⟩
 have hkeep:CX ((vw w c.O0 σ ρ).buts hs) (vw w' c.O0 σ2 ρ2):=by
  have hL:∀n,GP σ n→AZ n hs=false→GP σ2 n∧ρ2 n=ρ n:=by
   intro n hn hnhs
   by_cases hh:n∈Av ren
   ·simp only[Nq,List.all_eq_true,Bool.or_eq_true]at g5
    rcases g5 n hh with h|h
    ·rw[hnhs]at h;cases h
    ·simp only[List.any_eq_true,Bool.and_eq_true]at h
     obtain⟨⟨m,fr⟩,hp,hst,hk1⟩:=h
     simp only at hst hk1
     unfold A1B at hk1
     split at hk1
     ·rename_i n' hlm
      simp only[Bool.and_eq_true,beq_iff_eq]at hk1
      obtain⟨rfl,hk2⟩:=hk1
      unfold A1A at hk2
      split at hk2
      ·rename_i m' hl2
       have:m'=m:=by simpa using hk2
       subst this
       obtain⟨x,hx⟩:=hdom _ _ hl2
       refine⟨⟨x,by rw[hlk2,hx];rfl⟩,?_⟩
       rw[h2nm _ _ hl2,hstay m' ((Ae _ _).1 hst)]
       exact hρc _ _ hlm
      ·cases hk2
     ·cases hk1
   ·obtain⟨x,hx⟩:=hn
    have hr:lk n (BD (Av ren) hs σ.objs)=some (x.fgt hs):=by
     rw[Cg,if_neg (fun h=>hh ((Ae _ _).1 h)),hx];rfl
    obtain⟨_,hno,_⟩:=hrest n _ hr
    exact⟨⟨_,by rw[hlk2,hno,hr];rfl⟩,hρ2rest n hno⟩
  refine⟨fun b hlt hb hb'=>?_,fun n hn=>(hL n hn.1 hn.2).1,fun n hn=>(hL n hn.1 hn.2).2,fun b hlt hb=>hfrm.block b (hKcO b hlt hb)⟩
  have hlt:b<w.heap.size:=hlt
  have hb:¬own c.O0 σ ρ b:=hb
  rcases hb' with h0|⟨n,⟨x,hn⟩,hnb⟩
  ·exact hb (.inl h0)
  ·rcases hcase n x hn with hn|⟨hno,hn⟩
   ·obtain⟨m,_,hm,hmb⟩:=hsrc2 n x b hn hnb
    exact(hmem'.free m b hm hmb).1 (hKcO b hlt hb)
   ·obtain⟨hnh,_,y,hy,_⟩:=hrest n x hn
    rw[hρ2rest n hno]at hnb
    exact hb (.inr ⟨n,⟨y,hy⟩,hnb⟩)
 have hKK:∀b,c.K b→Kc b:=fun b hb=>⟨Nat.lt_of_lt_of_le (hc.K b hb) hsr.frm.size,fun⟨m,hm,hmb⟩=>by
  obtain⟨n,_,hn,hnb⟩:=src m b hm hmb
  exact(hsr.free n b hn hnb).1 hb⟩
 refine⟨ρ2,⟨hfrm.os.trans hsr.frm.os,hfrm.tape.trans hsr.frm.tape,hfrm.output.trans hsr.frm.output,Nat.le_trans hsr.frm.size hfrm.size,fun b hb=>(hfrm.block b (hKK b hb)).trans (hsr.frm.block b hb)⟩,by rw[NH];exact hsr.nt,by rw[I4];exact hsr.defers,fun p hp=>?_,fun n x hn=>?_,fun n b hl hb=>?_,fun n n' b hl hl' hb hb'=>?_,fun s v hsv=>?_⟩
 ·obtain⟨q1,q2,q3⟩:=hsr.pin p hp
  have q4:AZ p.1 hs=false:=by simpa using (List.all_eq_true.1 hpin) p hp
  have q5:=hkeep.ρ p.1 ⟨q1,q4⟩
  exact⟨hkeep.L p.1 ⟨q1,q4⟩,q5.trans q2,q3⟩
 ·rcases hcase n x hn with hn|⟨hno,hn⟩
  ·exact Ox hV2 hmem'.obj (Ci g3 hn)
  ·obtain⟨hnh,_,y,hy,rfl⟩:=hrest n x hn
   rw[hρ2rest n hno]
   refine dZ hkeep (fun b hb=>?_) (hsr.objs n y hy)
   refine hfrm.block b ⟨(hsr.objs n y hy).block_lt hb,fun⟨m,hm,hmb⟩=>?_⟩
   obtain⟨n',hr',hn',hnb'⟩:=src m b hm hmb
   have:=hsr.dist n n' b ⟨y,hy⟩ hn' hb hnb'
   subst this
   exact hnh (hhand m n hr')
 ·obtain⟨x,hn⟩:=hl
  rcases hcase n x hn with hn|⟨hno,hn⟩
  ·obtain⟨m,_,hm,hmb⟩:=hsrc2 n x b hn hb
   have:=hmem'.free m b hm hmb
   exact⟨fun hK=>this.1 (hKK b hK),fun h0=>this.2 (.inl h0)⟩
  ·obtain⟨hnh,_,y,hy,rfl⟩:=hrest n x hn
   rw[hρ2rest n hno]at hb
   exact hsr.free n b ⟨y,hy⟩ hb
 ·obtain⟨x,hn⟩:=hl
  obtain⟨x',hn'⟩:=hl'
  rcases hcase n x hn with hn|⟨hno,hn⟩<;>rcases hcase n' x' hn' with hn'|⟨hno',hn'⟩
  ·obtain⟨m,hr,hm,hmb⟩:=hsrc2 n x b hn hb
   obtain⟨m',hr',hm',hmb'⟩:=hsrc2 n' x' b hn' hb'
   have:=hmem'.dist m m' b hm hm' hmb hmb'
   subst this
   exact RB g1 hr hr'
  ·exfalso
   obtain⟨m,hr,hm,hmb⟩:=hsrc2 n x b hn hb
   obtain⟨hnh,_,y,hy,rfl⟩:=hrest n' x' hn'
   rw[hρ2rest n' hno']at hb'
   exact(hmem'.free m b hm hmb).2 (.inr ⟨n',⟨y,hy⟩,hnh,hb'⟩)
  ·exfalso
   obtain⟨m,hr,hm,hmb⟩:=hsrc2 n' x' b hn' hb'
   obtain⟨hnh,_,y,hy,rfl⟩:=hrest n x hn
   rw[hρ2rest n hno]at hb
   exact(hmem'.free m b hm hmb).2 (.inr ⟨n,⟨y,hy⟩,hnh,hb⟩)
  ·obtain⟨_,_,y,hy,rfl⟩:=hrest n x hn
   obtain⟨_,_,y',hy',rfl⟩:=hrest n' x' hn'
   rw[hρ2rest n hno]at hb
   rw[hρ2rest n' hno']at hb'
   exact hsr.dist n n' b ⟨y,hy⟩ ⟨y',hy'⟩ hb hb'
 ·refine yH (c:=c) hsr.nt hd (LL hV2 g4 hav) (fun s v hv=>?_) hsv
  rw[Et]at hv
  simp only[Option.map_eq_some_iff]at hv
  obtain⟨y,hy,rfl⟩:=hv
  exact(WL (hsr.env s y hy)).keeps hkeep
theorem WS (hc:c.Ok) {o:Oper} {dst:Option Nat} {g:Operand} {xs:List Operand} {ts:Array TypeId} (ho:o.op=.call { callee:=.value g,args:=xs.toArray,argTypes:=ts }) (hdst:o.dst=dst)
  {f:FuncId} {capn:List Nat} (hg:Cj (Ap σ g)=some (f,capn)) {as:List AV} (has:JF σ xs=some as)
  {A:List AV} {objs:List (Nat×Obj)} {stay:List Nat} {post:AV→List (Nat×Obj)→Prop} (hM:FI c.P f A objs stay post)
  (ren:List (Nat×B7)) (h1:Cu ren=true) (h2:DZ objs ren=true) (hA:BW σ ren (as++capn.map fun n=>AV.bp n [] 0) A) (hO:Au σ.objs ren objs)
  (hs:List Nat) (hpin:(c.ds.pin.all fun p=>!AZ p.1 hs)=true) {next:Act→World→Prop} {Q:Exit→Act→World→Prop} {a:Act} {w:World} (hsat:c.sat σ a w) (hd:∀d,dst=some d→d<c.nt)
  (hk:∀res objs',post res objs'→∃(ren2:List (Nat×B7)) (res2:AV) (objs2:List (Nat×Obj)),Cu ren2=true∧DZ objs2 ren2=true∧Au objs' ren2 objs2∧CB ren2 res res2 ∧
   Nq ren ren2 stay hs=true∧Hz (Av ren) objs2 σ.objs=true∧∀a' w',c.sat (EO σ (Av ren) hs dst res2 objs2) a' w'→next a' w'):o.wpIn (FR c.r) 0 c.P a w next Q:=by
 obtain⟨ρ,hsr⟩:=hsat
 have hev:IP (vw w c.O0 σ ρ) σ a.eval:=Hx hsr.env
 obtain⟨⟨fn,hfn,hname,hbody⟩,hM⟩:=hM
 obtain⟨caps,hge,hcaps⟩:∃caps:List Value,a.eval g=.func (.func f) #[] caps.toArray∧Lw (vw w c.O0 σ ρ) (capn.map fun n=>AV.bp n [] 0) caps:=by
  cases hgv:Ap σ g with
  | none=>rw[hgv]at hg;simp[Cj]at hg
  | some gv =>
   rw[hgv]at hg
   have hgr:=hev g gv hgv
   cases gv<;>simp only[Cj]at hg<;>try(cases hg;done)
   ·cases hg
    exact⟨[],hgr,rfl⟩
   ·rename_i f' ns
    cases hg
    refine⟨capn.map ρ,hgr.1,?_⟩
    have h0:∀l:List Nat,(∀n∈l,n∈capn)→Lw (vw w c.O0 σ ρ) (l.map fun n=>AV.bp n [] 0) (l.map ρ):=by
     intro l
     induction l with
     | nil=>intro _;exact rfl
     | cons n r ih =>
      intro hl
      obtain⟨g1,b,g2⟩:=hgr.2 n (hl n (by simp))
      have g2:ρ n=_:=g2
      exact⟨ρ n,r.map ρ,rfl,⟨g1,b,g2,g2⟩,ih fun x hx=>hl x (by simp[hx])⟩
    exact h0 capn fun _ h=>h
 have hargs:=eU hev has
 have happ:∀ {l r:List AV} {us vs:List Value},Lw (vw w c.O0 σ ρ) l us→Lw (vw w c.O0 σ ρ) r vs→Lw (vw w c.O0 σ ρ) (l++r) (us++vs):=by
  intro l
  induction l with
  | nil=>intro r us vs hu hv;have hu:us=[]:=hu;subst hu;exact hv
  | cons x l ih =>
   intro r us vs hu hv
   obtain⟨v,us',rfl,g1,g2⟩:=hu
   exact⟨v,us'++vs,rfl,g1,ih g2 hv⟩
 have hall:=happ hargs hcaps
 have hrun:(execOp a.eval o).run c.P w=.ok (.enter f (xs.map a.eval++caps).toArray) w:=by
  have g1 : ¬ fn.name = "runtime.NumGoroutine" := by simpa using hname
  have g2:¬fn.body=none:=by intro e;simp[e]at hbody
  simp[execOp,ho,resolve,Deferred.ofValue,hge,invoke,callFunc,hfn,g1,g2]
 obtain⟨Kc,O0c,ρc,hK1,hO1,hmem,hav,_,hpost⟩:=oA hc hsr hall stay post ren h1 h2 hA hO hs hpin hd hk
 have hcall:=hM w Kc O0c ρc (xs.map a.eval++caps) hK1 hO1 hmem hav
 refine⟨fun _ _=>trivial,?_⟩
 rw[He _ _ _ (fun cl e=>by rw[ho]at e;cases e),hrun,Oper.uponIn_enter]
 refine⟨fun h=>(by simp[FR]at h),Rx (hcall.mono fun e w' hh=>?_)⟩
 obtain⟨u,rfl,hh⟩:=hh
 rw[hdst]
 exact hpost u w' hh
theorem sJ (hc:c.Ok) {ops:Array Oper} {rest:List Oper} {dst:Option Nat} {g:Operand} {xs:List Operand} {ts:Array TypeId} {ty:TypeId} {pos:String} {after:Array Edge}
  {f:FuncId} {capn:List Nat} (hg:Cj (Ap σ g)=some (f,capn)) {as:List AV} (has:JF σ xs=some as)
  {A:List AV} {objs:List (Nat×Obj)} {stay:List Nat} {post:AV→List (Nat×Obj)→Prop} (hM:FI c.P f A objs stay post)
  (ren:List (Nat×B7)) (hs:List Nat) (h1:Cu ren=true) (h2:DZ objs ren=true) (hpin:(c.ds.pin.all fun p=>!AZ p.1 hs)=true) (hA:BW σ ren (as++capn.map fun n=>AV.bp n [] 0) A) (hO:Au σ.objs ren objs)
  (hk:∀res objs',post res objs'→∃(ren2:List (Nat×B7)) (res2:AV) (objs2:List (Nat×Obj)),Cu ren2=true∧DZ objs2 ren2=true∧Au objs' ren2 objs2∧CB ren2 res res2 ∧
   Nq ren ren2 stay hs=true∧Hz (Av ren) objs2 σ.objs=true∧QM c R k ops rest (EO σ (Av ren) hs dst res2 objs2)) :
  QM c R k ops (⟨dst,.call ⟨.value g,xs.toArray,ts⟩,ty,pos,after,none⟩ :: rest) σ:=by
 intro hd hko a w hsat
 unfold wpListIn
 rw[if_pos (by simp[Region.wanted])]
 refine WS hc (xs:=xs) (ts:=ts) rfl rfl hg has hM ren h1 h2 hA hO hs hpin hsat (Ct (hd _ (by simp))) fun res objs' hp=>?_
 obtain⟨ren2,res2,objs2,g1,g2,g3,g4,g5,g6,hE⟩:=hk res objs' hp
 exact⟨ren2,res2,objs2,g1,g2,g3,g4,g5,g6,fun a' w' hs'=>hE (fun o ho=>hd o (by simp[ho])) hko a' w' hs'⟩
end
end
/- Slots that are read no more are dropped behind each region. -/
section
open Go Go.RowKit
def WT (s:Nat):List Nat→List Nat
 | []=>[]
 | k :: r=>if s=k then r else k :: WT s r
def Gx:List Nat→List (Nat×AV)→List (Nat×AV)
 | _,[]=>[]
 | [],_ :: _=>[]
 | k :: lv,(s,v) :: r=>if AZ s (k :: lv)=true then (s,v) :: Gx (WT s (k :: lv)) r else Gx (k :: lv) r
def DP (lv:List Nat):CW→CW
 | some (vc,σ)=>some (vc,⟨Gx lv σ.env,σ.objs⟩)
 | none=>none
theorem Uh {s t:Nat}:∀ {lv:List Nat},AZ s lv=false→AZ s (WT t lv)=false
 | [],h=>h
 | k :: r,h=>by
  simp only[AZ]at h
  split at h
  ·cases h
  ·rename_i hne
   simp only[WT]
   split
   ·exact h
   ·simp only[AZ,if_neg hne]
    exact Uh h
theorem H0 {s:Nat}:∀ {env:List (Nat×AV)} {lv:List Nat},AZ s lv=false→lk s (Gx lv env)=none
 | [],lv,_=>by cases lv<;>rfl
 | (j,v) :: r,[],_=>rfl
 | (j,v) :: r,k :: lv,h=>by
  simp only[Gx]
  split
  ·rename_i hj
   simp only[lk]
   rw[if_neg (fun e=>by subst e;rw[h]at hj;cases hj)]
   exact H0 (Uh h)
  ·exact H0 h
theorem SA {s:Nat} {x:AV}:∀ {env:List (Nat×AV)} {lv:List Nat},lk s (Gx lv env)=some x→lk s env=some x
 | [],lv,h=>by cases lv<;>simp[Gx,lk]at h
 | (j,v) :: r,[],h=>by simp[Gx,lk]at h
 | (j,v) :: r,k :: lv,h=>by
  simp only[Gx]at h
  split at h
  ·simp only[lk]at h ⊢
   split at h
   ·rename_i e;rw[if_pos e];exact h
   ·rename_i e;rw[if_neg e];exact SA h
  ·rename_i hj
   by_cases e:s=j
   ·subst e
    rw[H0 (by simpa using hj)]at h
    cases h
   ·simp only[lk,if_neg e]
    exact SA h
theorem Gy {lv:List Nat} {r:CW} {vc:Prop} {σ':St} (h:DP lv r=some (vc,σ')):∃σ1,r=some (vc,σ1)∧∀c:Cx,yA c σ1 σ':=by
 cases r with
 | none=>cases h
 | some p =>
  obtain⟨vc1,σ1⟩:=p
  simp only[DP]at h
  cases h
  exact⟨σ1,rfl,fun c a w hs=>RE (σ':=⟨Gx lv σ1.env,σ1.objs⟩) (fun s v hv=>SA hv) (fun _=>rfl) hs⟩
section
variable {c:Cx} {R:Exit→Act→World→Prop} {k:List EY} {σ σ':St}
theorem oB (lv:List Nat) (hm:c.P.follows .mixedOrders=true) (hc:c.Ok) {id:Nat} {l:List Oper} (hchk:Ni l l.length=true) {vc:Prop}
  (h:DP lv (KL c.tb l false σ.objs [] l 0 [] [] σ)=some (vc,σ')) (hvc:vc) (hk:Ev c R (.out .normal) k σ'):Ev c R (.run (.region id l.toArray true)) k σ:=by
 obtain⟨σ1,h1,h2⟩:=Gy h
 exact sB hm hc hchk h1 hvc (hk.ent (h2 c))
theorem oC (lv:List Nat) (m:Nat) (hm:c.P.follows .mixedOrders=true) (hc:c.Ok) {id:Nat} {l:List Oper} (hchk:Ni l (l.take (l.length-m)).length=true) {vc:Prop}
  (h:DP lv (KL c.tb l false σ.objs (l.drop (l.length-m)) (l.take (l.length-m)) 0 [] [] σ)=some (vc,σ')) (hvc:vc) (hk:Ev c R (.out .normal) k σ'):Ev c R (.run (.region id l.toArray true)) k σ:=by
 obtain⟨σ1,h1,h2⟩:=Gy h
 exact sC m hm hc hchk h1 hvc (hk.ent (h2 c))
theorem YD (lv:List Nat) (hc:c.Ok) {id:Nat} {l:List Oper} (hchk:n6 l l.length=true) {vc:Prop}
  (h:DP lv (KL c.tb l true σ.objs [] l 0 [] [] σ)=some (vc,σ')) (hvc:vc) (hk:Ev c R (.out .normal) k σ'):Ev c R (.run (.region id l.toArray false)) k σ:=by
 obtain⟨σ1,h1,h2⟩:=Gy h
 exact aR hc hchk h1 hvc (hk.ent (h2 c))
theorem QO (lv:List Nat) (hc:c.Ok) {id:Nat} {l:List Oper} (h0:(l.all fun o=>o.guard.isNone)=true) {vc:Prop} (h:DP lv (Bd c.tb l l σ)=some (vc,σ')) (hvc:vc) (hk:Ev c R (.out .normal) k σ') :
  Ev c R (.run (.region id l.toArray false)) k σ:=by
 obtain⟨σ1,h1,h2⟩:=Gy h
 exact aU hc h0 h1 hvc (hk.ent (h2 c))
theorem Nr (lv:List Nat) (hc:c.Ok) {ops:List Oper} {l:List Oper} {vc:Prop} (h:DP lv (Bd c.tb ops l σ)=some (vc,σ')) (hvc:vc) (hk:Ev c R (.out .normal) k σ'):QM c R k ops.toArray l σ:=by
 obtain⟨σ1,h1,h2⟩:=Gy h
 exact WR hc (by simpa using h1) hvc (hk.ent (h2 c))
theorem sK (hc:c.Ok) {id:Nat} {l:List Oper} (n:Nat) (h0:(l.all fun o=>o.guard.isNone)=true) {vc:Prop} (h:Bd c.tb l (l.take n) σ=some (vc,σ')) (hvc:vc) (hk:QM c R k l.toArray (l.drop n) σ') :
  Ev c R (.run (.region id l.toArray false)) k σ:=by
 intro h1 h2 a w hs
 simp only[KF,CZ,List.all_eq_true]at h1
 exact wpIn_region_list (RF hc n (by simpa using h) hvc hk (fun o ho=>h1 o ho) h2 a w hs)
theorem Ga {ops:Array Oper} (h:Ev c R (.out .normal) k σ):QM c R k ops [] σ:=yF h
end
end
/- (Once the executor's equations were made here; Fw43 does it now.) -/
section
end
end Go.Proofs.YtebfihindnhccaaGreat.Fw
