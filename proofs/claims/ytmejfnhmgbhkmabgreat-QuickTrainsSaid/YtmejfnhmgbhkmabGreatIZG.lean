/- Contracts over memory; the frame rule of a call. -/
/- Contracts with memory: what a call does to the objects that are handed over. -/
import Derived.Test.YtmejfnhmgbhkmabGreatIZF
set_option linter.unusedVariables false
set_option linter.unusedSimpArgs false
namespace Go.Proofs.YtmejfnhmgbhkmabGreat.Fw
section
open Go Go.RowKit
structure jS (K O0:Nat→Prop) (objs:List (Nat×Obj)) (ρ:Nat→Value) (w:World):Prop where
 obj:∀n o,lk n objs=some o→Aq (vw w O0 ⟨[],objs⟩ ρ) o (ρ n)
 free:∀n b,Fy ⟨[],objs⟩ n→bk (ρ n) b→¬K b∧¬O0 b
 dist:∀n m b,Fy ⟨[],objs⟩ n→Fy ⟨[],objs⟩ m→bk (ρ n) b→bk (ρ m) b→n=m
def Hk (V:Vw):List AV→List Value→Prop
 | [],vs=>vs=[]
 | x :: r,vs=>∃(v:Value) (l:List Value),vs=v :: l∧Bo V x v∧Hk V r l
def M7 (K O0:Nat→Prop) (stay:List Nat) (w:World) (ρ:Nat→Value) (post:AV→List (Nat×Obj)→Prop) (u:Value) (w':World):Prop :=
 ∃(res:AV) (objs':List (Nat×Obj)) (ρ':Nat→Value),post res objs'∧Frm K w w'∧jS K O0 objs' ρ' w'∧Bo (vw w' O0 ⟨[],objs'⟩ ρ') res u∧∀n∈stay,ρ' n=ρ n
def B9 (P:Program) (f:FuncId) (args:List AV) (objs:List (Nat×Obj)) (stay:List Nat) (post:AV→List (Nat×Obj)→Prop):Prop :=
 (∃ fn : Func, P.funcs[f]? = some fn ∧ (fn.name == "runtime.NumGoroutine") = false ∧ fn.body.isNone = false) ∧
 ∀(w:World) (K O0:Nat→Prop) (ρ:Nat→Value) (vs:List Value),(∀b,K b→b<w.heap.size)→(∀b,O0 b→b<w.heap.size)→jS K O0 objs ρ w→Hk (vw w O0 ⟨[],objs⟩ ρ) args vs →
  Calls P f vs.toArray w fun e w'=>∃u,e=.returned u∧M7 K O0 stay w ρ post u w'
/-! ### From the body -/
def A1:Nat→List AV→List (Nat×AV)
 | _,[]=>[]
 | s,x :: r=>(s,x) :: A1 (s+1) r
def A0C:AV→Prop
 | .p t d=>t.ok d
 | _=>True
def RH:List AV→Prop
 | []=>True
 | x :: r=>A0C x∧RH r
def nY:Obj→Prop
 | .arr _ e xs=>(Ty.slice e).ok xs
 | .box _ _ fs=>RH fs
 | .mapo k v l=>∀x∈l,k.ok x.1∧v.ok x.2
 | .nest _ _ k e xs none=>(Ty.slice (.agg (.prod k (.slice e)))).ok xs
 | _=>True
def RI:List (Nat×Obj)→Prop
 | []=>True
 | x :: r=>nY x.2∧RI r
theorem z3 {V:Vw} {x:AV} {v:Value} (h:Bo V x v):A0C x:=by
 cases x<;>try trivial
 obtain⟨cs,hr,_⟩:=h
 exact GU hr
theorem QT {V:Vw}:∀ {l:List AV} {vs:List Value},Hk V l vs→RH l
 | [],_,_=>trivial
 | _ :: _,_,⟨_,_,_,h1,h2⟩=>⟨z3 h1,QT h2⟩
theorem b4 {V:Vw}:∀ {l:List AV} {cs:List Value},Cq V l cs→RH l
 | [],_,_=>trivial
 | x :: _,_,⟨c1,c2,_,h1,h2⟩=>⟨by
   cases x<;>try trivial
   exact GU (h1:Bh _ _ _ _ _),b4 h2⟩
theorem b5 {w:World} {O:Nat→Prop} {k v:Ty}:∀ {es:List MapEntry} {l:List (k.den×v.den)},LN w O k v es l→∀x∈l,k.ok x.1∧v.ok x.2
 | [],[],_,x,hx=>by cases hx
 | [],_ :: _,h,_,_=>h.elim
 | _ :: _,[],h,_,_=>h.elim
 | e :: es,y :: l,⟨⟨_,h1,_⟩,⟨_,h2,_⟩,h3⟩,x,hx=>by
  rcases List.mem_cons.1 hx with rfl|hx
  ·exact⟨GU h1,GU h2⟩
  ·exact b5 h3 x hx
theorem VW {V:Vw} {o:Obj} {loc:Value} (h:Aq V o loc):nY o:=by
 cases o with
 | arr et e xs =>
  obtain⟨hm,cells,_,hel⟩:=h
  refine⟨hm,fun x hx=>?_⟩
  obtain⟨i,hi,rfl⟩:=List.mem_iff_getElem.1 hx
  obtain⟨es,_,_,hr⟩:=hel i _ (List.getElem?_eq_getElem hi)
  exact GU hr
 | box et st fs=>obtain⟨_,b,cs,_,_,h2⟩:=h;exact b4 h2
 | mapo k v l=>obtain⟨b,es,cl,_,_,h2,_⟩:=h;exact b5 h2
 | nest et iet k e xs hl =>
  cases hl with
  | some i=>trivial
  | none =>
   obtain⟨o,ins,cells,_,hN⟩:=h
   have hel:=Lq (O':=fun _=>False) (fun _ _ h=>h) hN (fun _ _ _ _ _ h=>h)
   refine⟨hN.max,fun x hx=>?_⟩
   obtain⟨i,hi,rfl⟩:=List.mem_iff_getElem.1 hx
   obtain⟨es,_,_,hr⟩:=hel i _ (List.getElem?_eq_getElem hi)
   exact GU hr
 | frame tm fs=>trivial
 | loop L=>trivial
 | itr ik iv il ilf icu=>trivial
 | dfr=>trivial
theorem QU:∀ {l:List (Nat×Obj)},OA l=true→(∀n o,lk n l=some o→nY o)→RI l
 | [],_,_=>trivial
 | (n,o) :: r,hk,h=>by
  simp only[OA,Bool.and_eq_true,List.all_eq_true,bne_iff_ne]at hk
  refine⟨h n o (by simp[lk]),QU hk.2 fun m x hm=>h m x ?_⟩
  simp only[lk]
  rw[if_neg (fun e=>hk.1 _ (E3 hm) e)]
  exact hm
theorem b6:∀(l:List AV) (vs:List Value) (k:Nat) (V:Vw),Hk V l vs→∀s v,lk s (A1 k l)=some v→k≤s∧∃u,vs[s-k]?=some u∧Bo V v u
 | [],vs,k,V,h,s,v,hs=>by simp[A1,lk]at hs
 | x :: l,vs,k,V,h,s,v,hs=>by
  obtain⟨u,r,rfl,h1,h2⟩:=h
  simp only[A1,lk]at hs
  split at hs
  ·rename_i e
   cases hs
   subst e
   exact⟨Nat.le_refl _,u,by simp,h1⟩
  ·obtain⟨h3,u',h4,h5⟩:=b6 l r (k+1) V h2 s v hs
   refine⟨by omega,u',?_,h5⟩
   rw[show s-k=(s-(k+1))+1 by omega]
   simpa using h4
theorem HO {V:Vw}:∀ {l:List AV} {vs:List Value},Hk V l vs→vs.length=l.length
 | [],vs,h=>by have h:vs=[]:=h;subst h;rfl
 | _ :: _,_,⟨_,_,rfl,_,h⟩=>by simp[HO h]
def cm (P:Program) (tb:Tb) (w0:World) (K O0:Nat→Prop) (nt:Nat) (pin:List (Nat×Value)):Cx:={ P:=P,tb:=tb,w0:=w0,K:=K,O0:=O0,nt:=nt,ds:={ pin:=pin } }
theorem XJ {P:Program} {tb:Tb} {w0:World} {K O0:Nat→Prop} {nt:Nat} {pin:List (Nat×Value)}:(cm P tb w0 K O0 nt pin).tb=tb:=rfl
def Tt (objs:List (Nat×Obj)) (n:Nat):Bool :=
 match lk n objs with
 | some (.arr _ _ _)=>Ff n
 | some (.nest _ _ _ _ _ _)=>Ff n
 | some _=>true
 | none=>false
theorem RJ {P:Program} {tb:Tb} {w0:World} {K O0:Nat→Prop} {nt:Nat} {args:List AV} {objs:List (Nat×Obj)} {stay:List Nat} {ρ:Nat→Value} {vs:List Value} (hm:jS K O0 objs ρ w0) (hv:Hk (vw w0 O0 ⟨[],objs⟩ ρ) args vs) (hst:stay.all (Tt objs)=true) (hnt:vs.length≤nt) :
  (cm P tb w0 K O0 nt (stay.map fun n=>(n,ρ n))).sat ⟨A1 0 args,objs⟩ { tmps:=vs.toArray++Array.replicate (nt-vs.toArray.size) undef,defers:=[] } w0:=by
 refine⟨ρ,⟨rfl,rfl,rfl,Nat.le_refl _,fun _ _=>rfl⟩,by simp[cm];omega,rfl,fun p hp=>?_,hm.obj,hm.free,hm.dist,fun s v hs=>?_⟩
 ·obtain⟨n,hn,rfl⟩:=List.mem_map.1 hp
  have:=(List.all_eq_true.1 hst) n hn
  unfold Tt at this
  cases ho:lk n objs with
  | none=>rw[ho]at this;cases this
  | some o =>
   rw[ho]at this
   refine⟨⟨o,ho⟩,rfl,?_⟩
   have hob:=hm.obj n o ho
   cases o with
   | arr et e xs=>exact .inr this
   | nest et iet k e xs hl=>exact .inr this
   | box et st fs=>obtain⟨_,b,cs,he,_⟩:=hob;rw[he];exact .inl rfl
   | mapo k v l=>obtain⟨b,es,cl,he,_⟩:=hob;rw[he];exact .inl rfl
   | frame tm fs=>obtain⟨he,_⟩:=hob;rw[he];exact .inl rfl
   | loop L=>obtain⟨b,he,_⟩:=hob;rw[he];exact .inl rfl
   | itr ik iv il ilf icu=>obtain⟨b,he,_⟩:=hob;rw[he];exact .inl rfl
   | dfr=>obtain⟨b,he,_⟩:=hob;rw[he];exact .inl rfl
 ·obtain⟨_,u,h1,h2⟩:=b6 args vs 0 _ hv s v hs
  have h1:vs[s]?=some u:=by simpa using h1
  have hlt:s<vs.length:=(List.getElem?_eq_some_iff.1 h1).1
  have hget:(vs.toArray++Array.replicate (nt-vs.toArray.size) undef).getD s undef=u:=by
   have:vs[s]=u:=by rw[List.getElem?_eq_getElem hlt]at h1;injection h1
   simp[Array.getElem?_append,hlt,this]
  rw[hget]
  exact h2
def A0D (P:Program) (fn:Func) (w0:World) (K O0:Nat→Prop) (stay:List Nat) (ρ0:Nat→Value) (post:AV→List (Nat×Obj)→Prop):Exit→Act→World→Prop :=
 bodyPost P fn fun e w'=>∃u,e=.returned u∧M7 K O0 stay w0 ρ0 post u w'
theorem Bw {P:Program} {tb:Tb} {f:FuncId} {fn:Func} {cd:Code} {nt:Nat} {args:List AV} {objs:List (Nat×Obj)} {stay:List Nat} {post:AV→List (Nat×Obj)→Prop}
  (hfn : P.funcs[f]? = some fn) (hname : (fn.name == "runtime.NumGoroutine") = false) (hbody : fn.body = some cd) (hnt : fn.ntmps = nt) (hlen : args.length ≤ nt)
  (hcode:CD nt cd=true) (hst:stay.all (Tt objs)=true) (hkeys:OA objs=true) (hT:DG P tb) (hF:LW P tb)
  (h:∀(w0:World) (K O0:Nat→Prop) (ρ0:Nat→Value),(cm P tb w0 K O0 nt (stay.map fun n=>(n,ρ0 n))).Ok→RH args→RI objs →
   Ev (cm P tb w0 K O0 nt (stay.map fun n=>(n,ρ0 n))) (A0D P fn w0 K O0 stay ρ0 post) (.run cd) [] ⟨A1 0 args,objs⟩):B9 P f args objs stay post:=by
 refine⟨⟨fn,hfn,hname,by simp[hbody]⟩,fun w K O0 ρ vs hK hO hm hv=>?_⟩
 refine calls_of_wp hfn hbody ((wpIn_wide (n:=0)).1 ?_)
 have hvl:=HO hv
 rw[hnt]
 exact h w K O0 ρ ⟨hK,hO,hT,hF⟩ (QT hv) (QU hkeys fun n o ho=>VW (hm.obj n o ho)) hcode rfl _ _ (RJ hm hv hst (by omega))
def ZU (tb:Tb) (σ:St) (rv:ResultVar):AV→Prop
 | .p t d=>GS σ t (Gy tb σ rv)=some d
 | x=>Gy tb σ rv=some x
def L0 (tb:Tb) (σ:St):List ResultVar→List AV→Prop
 | [],[]=>True
 | rv :: rvs,x :: l=>ZU tb σ rv x∧L0 tb σ rvs l
 | _,_=>False
def RK:AV→Bool
 | .tup _=>false
 | _=>true
def RL (tb:Tb) (σ:St):List ResultVar→AV→Prop
 | [],x=>x=.raw (.tuple #[])
 | [rv],x=>ZU tb σ rv x
 | rvs,.tup l=>l.all RK=true∧L0 tb σ rvs l
 | _,_=>False
section
variable {P:Program} {tb:Tb} {w0:World} {K O0:Nat→Prop} {nt:Nat} {ds:Fp} {σ:St} {ρ:Nat→Value} {a:Act} {w:World}
theorem b7 (hT:DG P tb) (hs:BX w0 K O0 nt ds σ ρ a w) {rv:ResultVar} {x:AV} (h:ZU tb σ rv x):∃u,(H8 a.tmps rv).run P w=.ok u w∧Bo (vw w O0 σ ρ) x u:=by
 by_cases hp:∃t d,x=.p t d
 ·obtain⟨t,d,rfl⟩:=hp
  simp only[ZU]at h
  cases hr:Gy tb σ rv with
  | none=>rw[hr]at h;simp[GS]at h
  | some v =>
   rw[hr]at h
   simp only[GS]at h
   obtain⟨u,h1,h2⟩:=QO hT hs hr
   exact⟨u,h1,LT (V:=vw w O0 σ ρ) (O':=own O0 σ ρ) (fun b hb hb'=>hb hb') (fun h=>by cases h) hs.objs h h2⟩
 ·have h:Gy tb σ rv=some x:=by
   cases x<;>first|exact h|exact absurd ⟨_,_,rfl⟩ hp
  exact QO hT hs h
theorem A0E {V:Vw} {x:AV} {v:Value} (hn:RK x=true) (h:Bo V x v):PF V x v:=by
 cases x<;>first|(simp[RK]at hn;done)|exact h
theorem Tu (hT:DG P tb) (hs:BX w0 K O0 nt ds σ ρ a w):∀ {rvs:List ResultVar} {l:List AV},l.all RK=true→L0 tb σ rvs l →
  ∃us:List Value,(rvs.mapM (H8 a.tmps)).run P w=.ok us w∧us.length=l.length∧H5 (vw w O0 σ ρ) l us
 | [],[],_,_=>⟨[],by simp,rfl,rfl⟩
 | [],_ :: _,_,h=>h.elim
 | _ :: _,[],_,h=>h.elim
 | rv :: rvs,x :: l,hn,h=>by
  simp only[List.all_cons,Bool.and_eq_true]at hn
  obtain⟨u,h1,h2⟩:=b7 hT hs h.1
  obtain⟨us,h3,h4,h5⟩:=Tu hT hs hn.2 h.2
  refine⟨u :: us,?_,by simp[h4],u,us,rfl,A0E hn.1 h2,h5⟩
  rw[List.mapM_cons]
  simp only[Sem.run_bind,h1,Result.andThen_ok,h3,Sem.run_pure]
theorem RM {tb:Tb} {σ:St}:∀ {rvs:List ResultVar} {l:List AV},L0 tb σ rvs l→rvs.length=l.length
 | [],[],_=>rfl
 | [],_ :: _,h=>h.elim
 | _ :: _,[],h=>h.elim
 | _ :: _,_ :: _,h=>by simp[RM h.2]
theorem XK (hT:DG P tb) (hs:BX w0 K O0 nt ds σ ρ a w) {fn:Func} {x:AV} (h:RL tb σ fn.results.toList x):∃u,(results fn a.tmps).run P w=.ok u w∧Bo (vw w O0 σ ρ) x u:=by
 have key:∀us:List Value,(fn.results.toList.mapM (H8 a.tmps)).run P w=.ok us w→(results fn a.tmps).run P w=.ok (if h:us.toArray.size=1 then us.toArray[0] else .tuple us.toArray) w:=by
  intro us h1
  rw[Lu]
  have hm:(fn.results.mapM (H8 a.tmps)).run P w=.ok us.toArray w:=by
   rw[Array.mapM_eq_mapM_toList]
   simp only[Sem.run_map,h1,Result.andThen_ok]
  simp only[Sem.run_bind,hm,Result.andThen_ok,Sem.run_pure]
 generalize fn.results.toList=rvs at h key
 unfold RL at h
 split at h
 ·subst h
  exact⟨_,key [] (by simp),rfl⟩
 ·rename_i rv
  obtain⟨u,h1,h2⟩:=b7 hT hs h
  exact⟨_,key [u] (by simp[h1]),h2⟩
 ·rename_i l hne1 hne2
  obtain⟨us,h1,h2,h3⟩:=Tu hT hs h.1 h.2
  have h4:=RM h.2
  refine⟨_,key us h1,?_⟩
  have:¬us.toArray.size=1:=by
   intro e
   have e:us.length=1:=by simpa using e
   rw[h2,←h4]at e
   obtain⟨z,hz⟩:=List.length_eq_one_iff.1 e
   exact hne2 z hz
  rw[dif_neg this]
  exact⟨us,rfl,h3⟩
 ·exact h.elim
end
theorem Am {P:Program} {tb:Tb} {w0:World} {K O0:Nat→Prop} {nt:Nat} {stay:List Nat} {ρ0:Nat→Value} {fn:Func} {post:AV→List (Nat×Obj)→Prop} {σ:St} {e:Exit} (hc:(cm P tb w0 K O0 nt (stay.map fun n=>(n,ρ0 n))).Ok)
  (rs:List ResultVar) (hr:fn.results.toList=rs) (he:e=.ret∨e=.normal) (res:AV) (h:RL tb σ rs res) (hp:post res σ.objs) :
  Ev (cm P tb w0 K O0 nt (stay.map fun n=>(n,ρ0 n))) (A0D P fn w0 K O0 stay ρ0 post) (.out e) [] σ:=by
 intro _ _ a w hs
 obtain⟨ρ,hs⟩:=hs
 obtain⟨u,h1,h2⟩:=XK hc.T hs (by rw[hr];exact h)
 have hpost:M7 K O0 stay w0 ρ0 post u w:=by
  refine⟨res,σ.objs,ρ,hp,hs.frm,⟨hs.objs,hs.free,hs.dist⟩,h2,fun n hn=>?_⟩
  exact(hs.pin (n,ρ0 n) (List.mem_map.2 ⟨n,hn,rfl⟩)).2.1
 rcases he with rfl|rfl
 ·exact⟨hs.defers,u,h1,u,rfl,hpost⟩
 ·exact⟨hs.defers,u,h1,u,rfl,hpost⟩
end
/- A call by a contract with memory. -/
section
open Go Go.RowKit
/-! ### The call -/
def EW:Option AV→Option (FuncId×List Nat)
 | some (.fn f)=>some (f,[])
 | some (.clo f ns)=>some (f,ns)
 | _=>none
def L1 (σ:St):List Operand→Option (List AV)
 | []=>some []
 | x :: r=>match Aj σ x,L1 σ r with
  | some v,some vs=>some (v :: vs)
  | _,_=>none
def IE (σ:St) (ren:List (Nat×CH)) (x:AV):AV→Prop
 | .p t d=>Ll false σ t x=some d
 | y=>B1 ren x y
def Bx (σ:St) (ren:List (Nat×CH)):List AV→List AV→Prop
 | [],[]=>True
 | x :: l,y :: r=>IE σ ren x y∧Bx σ ren l r
 | _,_=>False
def Ap:List (Nat×CH)→List Nat
 | []=>[]
 | (_,.nm n) :: r=>n :: Ap r
 | (_,.nil) :: r=>Ap r
def yX (m:Nat):Option CH→Bool
 | some (.nm m')=>m'==m
 | _=>false
def yY (n:Nat) (f:Option CH) (m:Nat):Option CH→Bool
 | some (.nm n')=>n'==n&&yX m f
 | _=>false
def LY (ren ren2:List (Nat×CH)) (stay hs:List Nat):Bool:=(Ap ren).all fun n=>AW n hs||ren.any fun p=>AW p.1 stay&&yY n (lk n ren2) p.1 (lk p.1 ren)
def Hl (hd:List Nat) (objs2 objs:List (Nat×Obj)):Bool:=objs2.all fun p=>AW p.1 hd||(lk p.1 objs).isNone
def J1 (dst:Option Nat) (v:AV) (env:List (Nat×AV)):List (Nat×AV) :=
 match dst with
 | some d=>(d,v) :: env
 | none=>env
def Cs (σ:St) (hd hs:List Nat) (dst:Option Nat) (res:AV) (objs2:List (Nat×Obj)):St:=⟨J1 dst res (Bn hs σ.env),objs2++Af hd hs σ.objs⟩
theorem L3 {n:Nat}:∀ {l:List (Nat×CH)},n∈Ap l↔∃m,(m,CH.nm n)∈l
 | []=>by simp[Ap]
 | (m,.nm k) :: r=>by
  simp only[Ap,List.mem_cons,L3 (l:=r),Prod.mk.injEq,CH.nm.injEq]
  constructor
  ·rintro (rfl|⟨j,hj⟩)
   ·exact⟨m,.inl ⟨rfl,rfl⟩⟩
   ·exact⟨j,.inr hj⟩
  ·rintro⟨j,(⟨_,rfl⟩|hj)⟩
   ·exact .inl rfl
   ·exact .inr ⟨j,hj⟩
 | (m,.nil) :: r=>by
  simp only[Ap,List.mem_cons,L3 (l:=r),Prod.mk.injEq]
  constructor
  ·rintro⟨j,hj⟩;exact⟨j,.inr hj⟩
  ·rintro⟨j,(⟨_,h⟩|hj)⟩
   ·cases h
   ·exact⟨j,hj⟩
theorem VX {V:Vw} {σ:St} {ev:Operand→Value} (hev:FP V σ ev):∀ {xs:List Operand} {vs:List AV},L1 σ xs=some vs→Hk V vs (xs.map ev)
 | [],vs,h=>by simp only[L1]at h;cases h;exact(rfl:_=_)
 | x :: r,vs,h=>by
  simp only[L1]at h
  split at h
  ·rename_i v l h1 h2
   cases h
   exact⟨ev x,r.map ev,rfl,hev x v h1,VX hev h2⟩
  ·cases h
section
variable {V V':Vw} {ren:List (Nat×CH)} {σ:St}
theorem RN (hV:Ju ren V V') (hO:∀b,¬V.O b→¬V'.O b) (hobj:∀n o,lk n σ.objs=some o→Aq V o (V.ρ n)):∀ {l r:List AV} {vs:List Value},Bx σ ren l r→Hk V l vs→Hk V' r vs
 | [],[],vs,_,h=>h
 | [],_ :: _,_,hm,_=>hm.elim
 | _ :: _,[],_,hm,_=>hm.elim
 | x :: l,y :: r,vs,hm,h=>by
  obtain⟨v,l',rfl,h1,h2⟩:=h
  refine⟨v,l',rfl,?_,RN hV hO hobj hm.2 h2⟩
  have hm1:=hm.1
  by_cases hp:∃t d,y=.p t d
  ·obtain⟨t,d,rfl⟩:=hp
   have hm1:Ll false σ t x=some d:=hm1
   have:=LT (V:=V) (O':=V'.O) hO (fun h=>by cases h) hobj hm1 h1
   show Bg V'.w V'.O t v d
   rw[hV.w]
   exact this
  ·have hm1:B1 ren x y:=by
    cases y<;>first|exact hm1|exact absurd ⟨_,_,rfl⟩ hp
   exact Ks hV hm1 h1
end
section
variable {c:Cx} {R:Exit→Act→World→Prop} {k:List DU} {σ:St}
theorem uC {c:Cx} {a:Act} {dst:Option Nat} {u:Value} {s:Nat} {y:AV} {V:Vw} {env:List (Nat×AV)} {res:AV} (hsz:a.tmps.size=c.nt) (hd:∀d,dst=some d→d<c.nt) (hres:Bo V res u) (henv:∀s v,lk s env=some v→Bo V v (a.tmps.getD s undef))
  (h:lk s (J1 dst res env)=some y):Bo V y ((a.put dst u).tmps.getD s undef):=by
 cases dst with
 | none=>exact henv s y h
 | some d =>
  rw[Im a d u s (by rw[hsz];exact hd d rfl)]
  simp only[J1,lk]at h
  split at h
  ·rename_i e;cases h;rw[if_pos e];exact hres
  ·rename_i e;rw[if_neg e];exact henv s y h
theorem OH (hc:c.Ok) {dst:Option Nat} {ρ:Nat→Value} {a:Act} {w:World} (hsr:BX c.w0 c.K c.O0 c.nt c.ds σ ρ a w) {as:List AV} {vs:List Value} (hall:Hk (vw w c.O0 σ ρ) as vs)
  {A:List AV} {objs:List (Nat×Obj)} (stay:List Nat) (post:AV→List (Nat×Obj)→Prop)
  (ren:List (Nat×CH)) (h1:Cd ren=true) (h2:Cz objs ren=true) (hA:Bx σ ren as A) (hO:Ar σ.objs ren objs)
  (hs:List Nat) (hpin:(c.ds.pin.all fun p=>!AW p.1 hs)=true) {next:Act→World→Prop} (hd:∀d,dst=some d→d<c.nt)
  (hk:∀res objs',post res objs'→∃(ren2:List (Nat×CH)) (res2:AV) (objs2:List (Nat×Obj)),Cd ren2=true∧Cz objs2 ren2=true∧Ar objs' ren2 objs2∧B1 ren2 res res2 ∧
   LY ren ren2 stay hs=true∧Hl (Ap ren) objs2 σ.objs=true∧∀a' w',c.sat (Cs σ (Ap ren) hs dst res2 objs2) a' w'→next a' w') :
  ∃(Kc O0c:Nat→Prop) (ρc:Nat→Value),(∀b,Kc b→b<w.heap.size)∧(∀b,O0c b→b<w.heap.size)∧jS Kc O0c objs ρc w∧Hk (vw w O0c ⟨[],objs⟩ ρc) A vs∧(∀m n,lk m ren=some (.nm n)→ρc m=ρ n) ∧
   ∀u w',M7 Kc O0c stay w ρc post u w'→next (a.put dst u) w':=by
 let ρc:Nat→Value:=fun m=>match lk m ren with|some (.nm n)=>ρ n|_=>.slice none 0 0
 have hρc:∀m n,lk m ren=some (.nm n)→ρc m=ρ n:=fun m n hm=>by simp[ρc,hm]
 have hρnil:∀m,lk m ren=some .nil→ρc m=.slice none 0 0:=fun m hm=>by simp[ρc,hm]
 let O0c:Nat→Prop:=fun b=>c.O0 b∨∃n,Fy σ n∧n∉Ap ren∧bk (ρ n) b
 let Kc:Nat→Prop:=fun b=>b<w.heap.size∧¬ ∃m,Fy ⟨[],objs⟩ m∧bk (ρc m) b
 have src:∀m b,Fy ⟨[],objs⟩ m→bk (ρc m) b→∃n,lk m ren=some (.nm n)∧Fy σ n∧bk (ρ n) b:=by
  rintro m b ⟨o',hm⟩ hb
  have hf:=Ce hO hm
  cases hr:lk m ren with
  | none=>rw[hr]at hf;exact hf.elim
  | some fr =>
   cases fr with
   | nil=>rw[hρnil m hr]at hb;simp[bk,blk]at hb
   | nm n =>
    rw[hr]at hf
    rw[hρc m n hr]at hb
    refine⟨n,rfl,?_,hb⟩
    cases hn:lk n σ.objs with
    | none=>simp only[F1,hn,Hj]at hf
    | some x=>exact⟨x,hn⟩
 have hlL:∀m fr,lk m ren=some fr→Fy ⟨[],objs⟩ m:=fun m fr hm=>by
  simp only[Cz,List.all_eq_true]at h2
  exact Option.isSome_iff_exists.1 (h2 _ (E3 hm))
 have hhand:∀m n,lk m ren=some (.nm n)→n∈Ap ren:=fun m n hm=>L3.2 ⟨m,E3 hm⟩
 have hVO:∀b,¬own c.O0 σ ρ b→¬own O0c ⟨[],objs⟩ ρc b:=by
  intro b hb hb'
  rcases hb' with (h0|⟨n,hn,_,hnb⟩)|⟨m,hm,hmb⟩
  ·exact hb (.inl h0)
  ·exact hb (.inr ⟨n,hn,hnb⟩)
  ·obtain⟨n,_,hn,hnb⟩:=src m b hm hmb
   exact hb (.inr ⟨n,hn,hnb⟩)
 have hV:Ju ren (vw w c.O0 σ ρ) (vw w O0c ⟨[],objs⟩ ρc):=⟨rfl,hVO,hρc,hρnil,hlL⟩
 have hmem:jS Kc O0c objs ρc w:=by
  refine⟨fun m o' hm=>OB hV hsr.objs (Ce hO hm),fun m b hm hb=>⟨fun hK=>hK.2 ⟨m,hm,hb⟩,fun h0=>?_⟩,fun m m' b hm hm' hb hb'=>?_⟩
  ·obtain⟨n,hr,hn,hnb⟩:=src m b hm hb
   rcases h0 with h0|⟨n',hn',hnh,hnb'⟩
   ·exact(hsr.free n b hn hnb).2 h0
   ·have:=hsr.dist n n' b hn hn' hnb hnb'
    subst this
    exact hnh (hhand m n hr)
  ·obtain⟨n,hr,hn,hnb⟩:=src m b hm hb
   obtain⟨n',hr',hn',hnb'⟩:=src m' b hm' hb'
   have:=hsr.dist n n' b hn hn' hnb hnb'
   subst this
   exact QP h1 hr hr'
 have hO0c:∀b,O0c b→b<w.heap.size:=by
  rintro b (h0|⟨n,⟨o',hn⟩,_,hnb⟩)
  ·exact Nat.lt_of_lt_of_le (hc.O b h0) hsr.frm.size
  ·exact(hsr.objs n o' hn).block_lt hnb
 refine⟨Kc,O0c,ρc,fun b hb=>hb.1,hO0c,hmem,RN hV hVO hsr.objs hA hall,hρc,?_⟩
 rintro u w' ⟨res,objs',ρ',hpost,hfrm,hmem',hav,hstay⟩
 obtain⟨ren2,res2,objs2,g1,g2,g3,g4,g5,g6,hnext⟩:=hk res objs' hpost
 refine hnext _ _ ?_
 let ρ2:Nat→Value:=fun n=>match lk n ren2 with|some (.nm m)=>ρ' m|some .nil=>.slice none 0 0|none=>ρ n
 have h2nm:∀n m,lk n ren2=some (.nm m)→ρ2 n=ρ' m:=fun n m hn=>by simp[ρ2,hn]
 have h2nil:∀n,lk n ren2=some .nil→ρ2 n=.slice none 0 0:=fun n hn=>by simp[ρ2,hn]
 have h2no:∀n,lk n ren2=none→ρ2 n=ρ n:=fun n hn=>by simp[ρ2,hn]
 let σ2:=Cs σ (Ap ren) hs dst res2 objs2
 have hobjs2:σ2.objs=objs2++Af (Ap ren) hs σ.objs:=rfl
 have hlk2:∀n,lk n σ2.objs=(lk n objs2).or (lk n (Af (Ap ren) hs σ.objs)):=fun n=>by rw[hobjs2,Ax]
 have hdom:∀n fr,lk n ren2=some fr→∃x,lk n objs2=some x:=fun n fr hn=>by
  simp only[Cz,List.all_eq_true]at g2
  exact Option.isSome_iff_exists.1 (g2 _ (E3 hn))
 have hdom':∀n x,lk n objs2=some x→∃fr,lk n ren2=some fr:=fun n x hn=>by
  have hf:=Ce g3 hn
  cases hr:lk n ren2 with
  | none=>rw[hr]at hf;exact hf.elim
  | some fr=>exact⟨fr,rfl⟩
 have hfr:∀n x,lk n objs2=some x→n∈Ap ren∨lk n σ.objs=none:=fun n x hn=>by
  simp only[Hl,List.all_eq_true,Bool.or_eq_true]at g6
  rcases g6 _ (E3 hn) with h|h
  ·exact .inl ((AX _ _).1 h)
  ·exact .inr (by simpa using h)
 have hrest:∀n x,lk n (Af (Ap ren) hs σ.objs)=some x→n∉Ap ren∧lk n objs2=none∧∃y,lk n σ.objs=some y∧x=y.fgt hs:=by
  intro n x hn
  rw[Bb]at hn
  split at hn
  ·cases hn
  ·rename_i hnh
   simp only[Option.map_eq_some_iff]at hn
   obtain⟨y,hy,rfl⟩:=hn
   have hnh:n∉Ap ren:=fun h=>hnh ((AX _ _).2 h)
   refine⟨hnh,?_,y,hy,rfl⟩
   cases hl:lk n objs2 with
   | none=>rfl
   | some z =>
    rcases hfr n z hl with h|h
    ·exact absurd h hnh
    ·rw[h]at hy;cases hy
 have hcase:∀n x,lk n σ2.objs=some x→lk n objs2=some x∨(lk n objs2=none∧lk n (Af (Ap ren) hs σ.objs)=some x):=by
  intro n x hn
  rw[hlk2]at hn
  cases hl:lk n objs2 with
  | some z=>rw[hl]at hn;exact .inl hn
  | none=>rw[hl]at hn;exact .inr ⟨rfl,by simpa using hn⟩
 have hsrc2:∀n x b,lk n objs2=some x→bk (ρ2 n) b→∃m,lk n ren2=some (.nm m)∧Fy ⟨[],objs'⟩ m∧bk (ρ' m) b:=by
  intro n x b hn hb
  have hf:=Ce g3 hn
  obtain⟨fr,hr⟩:=hdom' n x hn
  cases fr with
  | nil=>rw[h2nil n hr]at hb;simp[bk,blk]at hb
  | nm m =>
   rw[hr]at hf
   rw[h2nm n m hr]at hb
   refine⟨m,hr,?_,hb⟩
   cases hn:lk m objs' with
   | none=>simp only[F1,hn,Hj]at hf
   | some z=>exact⟨z,hn⟩
 have hρ2rest:∀n,lk n objs2=none→ρ2 n=ρ n:=fun n hn=>by
  apply h2no
  cases hl:lk n ren2 with
  | none=>rfl
  | some fr=>obtain⟨x,hx⟩:=hdom n fr hl;rw[hx]at hn;cases hn
 have hV2:Ju ren2 (vw w' O0c ⟨[],objs'⟩ ρ') (vw w' c.O0 σ2 ρ2):=by
  refine⟨rfl,fun b hb hb'=>?_,h2nm,h2nil,fun n fr hn=>?_⟩
  ·rcases hb' with h0|⟨n,⟨x,hn⟩,hnb⟩
   ·exact hb (.inl (.inl h0))
   ·rcases hcase n x hn with hn|⟨hno,hn⟩
    ·obtain⟨m,_,hm,hmb⟩:=hsrc2 n x b hn hnb
     exact hb (.inr ⟨m,hm,hmb⟩)
    ·obtain⟨hnh,_,y,hy,_⟩:=hrest n x hn
     rw[hρ2rest n hno]at hnb
     exact hb (.inl (.inr ⟨n,⟨y,hy⟩,hnh,hnb⟩))
  ·obtain⟨x,hx⟩:=hdom n fr hn
   exact⟨x,by rw[hlk2,hx];rfl⟩
 have hHblock:∀b,(∃m,Fy ⟨[],objs⟩ m∧bk (ρc m) b)→own c.O0 σ ρ b:=by
  rintro b ⟨m,hm,hb⟩
  obtain⟨n,_,hn,hnb⟩:=src m b hm hb
  exact .inr ⟨n,hn,hnb⟩
 have hKcO:∀b,b<w.heap.size→¬own c.O0 σ ρ b→Kc b:=fun b hlt hb=>⟨hlt,fun h=>hb (hHblock b h)⟩
 have hkeep:B8 ((vw w c.O0 σ ρ).buts hs) (vw w' c.O0 σ2 ρ2):=by
  have hL:∀n,Fy σ n→AW n hs=false→Fy σ2 n∧ρ2 n=ρ n:=by
   intro n hn hnhs
   by_cases hh:n∈Ap ren
   ·simp only[LY,List.all_eq_true,Bool.or_eq_true]at g5
    rcases g5 n hh with h|h
    ·rw[hnhs]at h;cases h
    ·simp only[List.any_eq_true,Bool.and_eq_true]at h
     obtain⟨⟨m,fr⟩,hp,hst,hk1⟩:=h
     simp only at hst hk1
     unfold yY at hk1
     split at hk1
     ·rename_i n' hlm
      simp only[Bool.and_eq_true,beq_iff_eq]at hk1
      obtain⟨rfl,hk2⟩:=hk1
      unfold yX at hk2
      split at hk2
      ·rename_i m' hl2
       have:m'=m:=by simpa using hk2
       subst this
       obtain⟨x,hx⟩:=hdom _ _ hl2
       refine⟨⟨x,by rw[hlk2,hx];rfl⟩,?_⟩
       rw[h2nm _ _ hl2,hstay m' ((AX _ _).1 hst)]
       exact hρc _ _ hlm
      ·cases hk2
     ·cases hk1
   ·obtain⟨x,hx⟩:=hn
    have hr:lk n (Af (Ap ren) hs σ.objs)=some (x.fgt hs):=by
     rw[Bb,if_neg (fun h=>hh ((AX _ _).1 h)),hx];rfl
    obtain⟨_,hno,_⟩:=hrest n _ hr
    exact⟨⟨_,by rw[hlk2,hno,hr];rfl⟩,hρ2rest n hno⟩
  refine⟨fun b hlt hb hb'=>?_,fun n hn=>(hL n hn.1 hn.2).1,fun n hn=>(hL n hn.1 hn.2).2,fun b hlt hb=>hfrm.block b (hKcO b hlt hb)⟩
  have hlt:b<w.heap.size:=hlt
  have hb:¬own c.O0 σ ρ b:=hb
  rcases hb' with h0|⟨n,⟨x,hn⟩,hnb⟩
  ·exact hb (.inl h0)
  ·rcases hcase n x hn with hn|⟨hno,hn⟩
   ·obtain⟨m,_,hm,hmb⟩:=hsrc2 n x b hn hnb
    exact(hmem'.free m b hm hmb).1 (hKcO b hlt hb)
   ·obtain⟨hnh,_,y,hy,_⟩:=hrest n x hn
    rw[hρ2rest n hno]at hnb
    exact hb (.inr ⟨n,⟨y,hy⟩,hnb⟩)
 have hKK:∀b,c.K b→Kc b:=fun b hb=>⟨Nat.lt_of_lt_of_le (hc.K b hb) hsr.frm.size,fun⟨m,hm,hmb⟩=>by
  obtain⟨n,_,hn,hnb⟩:=src m b hm hmb
  exact(hsr.free n b hn hnb).1 hb⟩
 refine⟨ρ2,⟨hfrm.os.trans hsr.frm.os,hfrm.tape.trans hsr.frm.tape,hfrm.output.trans hsr.frm.output,Nat.le_trans hsr.frm.size hfrm.size,fun b hb=>(hfrm.block b (hKK b hb)).trans (hsr.frm.block b hb)⟩,by rw[Jn];exact hsr.nt,by rw[GP];exact hsr.defers,fun p hp=>?_,fun n x hn=>?_,fun n b hl hb=>?_,fun n n' b hl hl' hb hb'=>?_,fun s v hsv=>?_⟩
 ·obtain⟨q1,q2,q3⟩:=hsr.pin p hp
  have q4:AW p.1 hs=false:=by simpa using (List.all_eq_true.1 hpin) p hp
  have q5:=hkeep.ρ p.1 ⟨q1,q4⟩
  exact⟨hkeep.L p.1 ⟨q1,q4⟩,q5.trans q2,q3⟩
 ·rcases hcase n x hn with hn|⟨hno,hn⟩
  ·exact OB hV2 hmem'.obj (Ce g3 hn)
  ·obtain⟨hnh,_,y,hy,rfl⟩:=hrest n x hn
   rw[hρ2rest n hno]
   refine QM hkeep (fun b hb=>?_) (hsr.objs n y hy)
   refine hfrm.block b ⟨(hsr.objs n y hy).block_lt hb,fun⟨m,hm,hmb⟩=>?_⟩
   obtain⟨n',hr',hn',hnb'⟩:=src m b hm hmb
   have:=hsr.dist n n' b ⟨y,hy⟩ hn' hb hnb'
   subst this
   exact hnh (hhand m n hr')
 ·obtain⟨x,hn⟩:=hl
  rcases hcase n x hn with hn|⟨hno,hn⟩
  ·obtain⟨m,_,hm,hmb⟩:=hsrc2 n x b hn hb
   have:=hmem'.free m b hm hmb
   exact⟨fun hK=>this.1 (hKK b hK),fun h0=>this.2 (.inl h0)⟩
  ·obtain⟨hnh,_,y,hy,rfl⟩:=hrest n x hn
   rw[hρ2rest n hno]at hb
   exact hsr.free n b ⟨y,hy⟩ hb
 ·obtain⟨x,hn⟩:=hl
  obtain⟨x',hn'⟩:=hl'
  rcases hcase n x hn with hn|⟨hno,hn⟩<;>rcases hcase n' x' hn' with hn'|⟨hno',hn'⟩
  ·obtain⟨m,hr,hm,hmb⟩:=hsrc2 n x b hn hb
   obtain⟨m',hr',hm',hmb'⟩:=hsrc2 n' x' b hn' hb'
   have:=hmem'.dist m m' b hm hm' hmb hmb'
   subst this
   exact QP g1 hr hr'
  ·exfalso
   obtain⟨m,hr,hm,hmb⟩:=hsrc2 n x b hn hb
   obtain⟨hnh,_,y,hy,rfl⟩:=hrest n' x' hn'
   rw[hρ2rest n' hno']at hb'
   exact(hmem'.free m b hm hmb).2 (.inr ⟨n',⟨y,hy⟩,hnh,hb'⟩)
  ·exfalso
   obtain⟨m,hr,hm,hmb⟩:=hsrc2 n' x' b hn' hb'
   obtain⟨hnh,_,y,hy,rfl⟩:=hrest n x hn
   rw[hρ2rest n hno]at hb
   exact(hmem'.free m b hm hmb).2 (.inr ⟨n,⟨y,hy⟩,hnh,hb⟩)
  ·obtain⟨_,_,y,hy,rfl⟩:=hrest n x hn
   obtain⟨_,_,y',hy',rfl⟩:=hrest n' x' hn'
   rw[hρ2rest n hno]at hb
   rw[hρ2rest n' hno']at hb'
   exact hsr.dist n n' b ⟨y,hy⟩ ⟨y',hy'⟩ hb hb'
 ·refine uC (c:=c) hsr.nt hd (Ks hV2 g4 hav) (fun s v hv=>?_) hsv
  rw[Eo]at hv
  simp only[Option.map_eq_some_iff]at hv
  obtain⟨y,hy,rfl⟩:=hv
  exact(Mp (hsr.env s y hy)).keeps hkeep
theorem uD (hc:c.Ok) {o:Oper} {dst:Option Nat} {g:Operand} {xs:List Operand} {ts:Array TypeId} (ho:o.op=.call { callee:=.value g,args:=xs.toArray,argTypes:=ts }) (hdst:o.dst=dst)
  {f:FuncId} {capn:List Nat} (hg:EW (Aj σ g)=some (f,capn)) {as:List AV} (has:L1 σ xs=some as)
  {A:List AV} {objs:List (Nat×Obj)} {stay:List Nat} {post:AV→List (Nat×Obj)→Prop} (hM:B9 c.P f A objs stay post)
  (ren:List (Nat×CH)) (h1:Cd ren=true) (h2:Cz objs ren=true) (hA:Bx σ ren (as++capn.map fun n=>AV.bp n [] 0) A) (hO:Ar σ.objs ren objs)
  (hs:List Nat) (hpin:(c.ds.pin.all fun p=>!AW p.1 hs)=true) {next:Act→World→Prop} {Q:Exit→Act→World→Prop} {a:Act} {w:World} (hsat:c.sat σ a w) (hd:∀d,dst=some d→d<c.nt)
  (hk:∀res objs',post res objs'→∃(ren2:List (Nat×CH)) (res2:AV) (objs2:List (Nat×Obj)),Cd ren2=true∧Cz objs2 ren2=true∧Ar objs' ren2 objs2∧B1 ren2 res res2 ∧
   LY ren ren2 stay hs=true∧Hl (Ap ren) objs2 σ.objs=true∧∀a' w',c.sat (Cs σ (Ap ren) hs dst res2 objs2) a' w'→next a' w'):o.wpIn (FR c.r) 0 c.P a w next Q:=by
 obtain⟨ρ,hsr⟩:=hsat
 have hev:FP (vw w c.O0 σ ρ) σ a.eval:=De hsr.env
 obtain⟨⟨fn,hfn,hname,hbody⟩,hM⟩:=hM
 obtain⟨caps,hge,hcaps⟩:∃caps:List Value,a.eval g=.func (.func f) #[] caps.toArray∧Hk (vw w c.O0 σ ρ) (capn.map fun n=>AV.bp n [] 0) caps:=by
  cases hgv:Aj σ g with
  | none=>rw[hgv]at hg;simp[EW]at hg
  | some gv =>
   rw[hgv]at hg
   have hgr:=hev g gv hgv
   cases gv<;>simp only[EW]at hg<;>try(cases hg;done)
   ·cases hg
    exact⟨[],hgr,rfl⟩
   ·rename_i f' ns
    cases hg
    refine⟨capn.map ρ,hgr.1,?_⟩
    have h0:∀l:List Nat,(∀n∈l,n∈capn)→Hk (vw w c.O0 σ ρ) (l.map fun n=>AV.bp n [] 0) (l.map ρ):=by
     intro l
     induction l with
     | nil=>intro _;exact rfl
     | cons n r ih =>
      intro hl
      obtain⟨g1,b,g2⟩:=hgr.2 n (hl n (by simp))
      have g2:ρ n=_:=g2
      exact⟨ρ n,r.map ρ,rfl,⟨g1,b,g2,g2⟩,ih fun x hx=>hl x (by simp[hx])⟩
    exact h0 capn fun _ h=>h
 have hargs:=VX hev has
 have happ:∀ {l r:List AV} {us vs:List Value},Hk (vw w c.O0 σ ρ) l us→Hk (vw w c.O0 σ ρ) r vs→Hk (vw w c.O0 σ ρ) (l++r) (us++vs):=by
  intro l
  induction l with
  | nil=>intro r us vs hu hv;have hu:us=[]:=hu;subst hu;exact hv
  | cons x l ih =>
   intro r us vs hu hv
   obtain⟨v,us',rfl,g1,g2⟩:=hu
   exact⟨v,us'++vs,rfl,g1,ih g2 hv⟩
 have hall:=happ hargs hcaps
 have hrun:(execOp a.eval o).run c.P w=.ok (.enter f (xs.map a.eval++caps).toArray) w:=by
  have g1 : ¬ fn.name = "runtime.NumGoroutine" := by simpa using hname
  have g2:¬fn.body=none:=by intro e;simp[e]at hbody
  simp[execOp,ho,resolve,Deferred.ofValue,hge,invoke,callFunc,hfn,g1,g2]
 obtain⟨Kc,O0c,ρc,hK1,hO1,hmem,hav,_,hpost⟩:=OH hc hsr hall stay post ren h1 h2 hA hO hs hpin hd hk
 have hcall:=hM w Kc O0c ρc (xs.map a.eval++caps) hK1 hO1 hmem hav
 refine⟨fun _ _=>trivial,?_⟩
 rw[Fj _ _ _ (fun cl e=>by rw[ho]at e;cases e),hrun,Oper.uponIn_enter]
 refine⟨fun h=>(by simp[FR]at h),Lt (hcall.mono fun e w' hh=>?_)⟩
 obtain⟨u,rfl,hh⟩:=hh
 rw[hdst]
 exact hpost u w' hh
theorem nZ (hc:c.Ok) {ops:Array Oper} {rest:List Oper} {dst:Option Nat} {g:Operand} {xs:List Operand} {ts:Array TypeId} {ty:TypeId} {pos:String} {after:Array Edge}
  {f:FuncId} {capn:List Nat} (hg:EW (Aj σ g)=some (f,capn)) {as:List AV} (has:L1 σ xs=some as)
  {A:List AV} {objs:List (Nat×Obj)} {stay:List Nat} {post:AV→List (Nat×Obj)→Prop} (hM:B9 c.P f A objs stay post)
  (ren:List (Nat×CH)) (hs:List Nat) (h1:Cd ren=true) (h2:Cz objs ren=true) (hpin:(c.ds.pin.all fun p=>!AW p.1 hs)=true) (hA:Bx σ ren (as++capn.map fun n=>AV.bp n [] 0) A) (hO:Ar σ.objs ren objs)
  (hk:∀res objs',post res objs'→∃(ren2:List (Nat×CH)) (res2:AV) (objs2:List (Nat×Obj)),Cd ren2=true∧Cz objs2 ren2=true∧Ar objs' ren2 objs2∧B1 ren2 res res2 ∧
   LY ren ren2 stay hs=true∧Hl (Ap ren) objs2 σ.objs=true∧HN c R k ops rest (Cs σ (Ap ren) hs dst res2 objs2)) :
  HN c R k ops (⟨dst,.call ⟨.value g,xs.toArray,ts⟩,ty,pos,after,none⟩ :: rest) σ:=by
 intro hd hko a w hsat
 unfold wpListIn
 rw[if_pos (by simp[Region.wanted])]
 refine uD hc (xs:=xs) (ts:=ts) rfl rfl hg has hM ren h1 h2 hA hO hs hpin hsat (Bv (hd _ (by simp))) fun res objs' hp=>?_
 obtain⟨ren2,res2,objs2,g1,g2,g3,g4,g5,g6,hE⟩:=hk res objs' hp
 exact⟨ren2,res2,objs2,g1,g2,g3,g4,g5,g6,fun a' w' hs'=>hE (fun o ho=>hd o (by simp[ho])) hko a' w' hs'⟩
end
end
/- Slots that are read no more are dropped behind each region. -/
section
open Go Go.RowKit
def VY (s:Nat):List Nat→List Nat
 | []=>[]
 | k :: r=>if s=k then r else k :: VY s r
def GZ:List Nat→List (Nat×AV)→List (Nat×AV)
 | _,[]=>[]
 | [],_ :: _=>[]
 | k :: lv,(s,v) :: r=>if AW s (k :: lv)=true then (s,v) :: GZ (VY s (k :: lv)) r else GZ (k :: lv) r
def DJ (lv:List Nat):CW→CW
 | some (vc,σ)=>some (vc,⟨GZ lv σ.env,σ.objs⟩)
 | none=>none
theorem Tv {s t:Nat}:∀ {lv:List Nat},AW s lv=false→AW s (VY t lv)=false
 | [],h=>h
 | k :: r,h=>by
  simp only[AW]at h
  split at h
  ·cases h
  ·rename_i hne
   simp only[VY]
   split
   ·exact h
   ·simp only[AW,if_neg hne]
    exact Tv h
theorem Hm {s:Nat}:∀ {env:List (Nat×AV)} {lv:List Nat},AW s lv=false→lk s (GZ lv env)=none
 | [],lv,_=>by cases lv<;>rfl
 | (j,v) :: r,[],_=>rfl
 | (j,v) :: r,k :: lv,h=>by
  simp only[GZ]
  split
  ·rename_i hj
   simp only[lk]
   rw[if_neg (fun e=>by subst e;rw[h]at hj;cases hj)]
   exact Hm (Tv h)
  ·exact Hm h
theorem RP {s:Nat} {x:AV}:∀ {env:List (Nat×AV)} {lv:List Nat},lk s (GZ lv env)=some x→lk s env=some x
 | [],lv,h=>by cases lv<;>simp[GZ,lk]at h
 | (j,v) :: r,[],h=>by simp[GZ,lk]at h
 | (j,v) :: r,k :: lv,h=>by
  simp only[GZ]at h
  split at h
  ·simp only[lk]at h ⊢
   split at h
   ·rename_i e;rw[if_pos e];exact h
   ·rename_i e;rw[if_neg e];exact RP h
  ·rename_i hj
   by_cases e:s=j
   ·subst e
    rw[Hm (by simpa using hj)]at h
    cases h
   ·simp only[lk,if_neg e]
    exact RP h
theorem Ga {lv:List Nat} {r:CW} {vc:Prop} {σ':St} (h:DJ lv r=some (vc,σ')):∃σ1,r=some (vc,σ1)∧∀c:Cx,sW c σ1 σ':=by
 cases r with
 | none=>cases h
 | some p =>
  obtain⟨vc1,σ1⟩:=p
  simp only[DJ]at h
  cases h
  exact⟨σ1,rfl,fun c a w hs=>QR (σ':=⟨GZ lv σ1.env,σ1.objs⟩) (fun s v hv=>RP hv) (fun _=>rfl) hs⟩
section
variable {c:Cx} {R:Exit→Act→World→Prop} {k:List DU} {σ σ':St}
theorem jT (lv:List Nat) (hm:c.P.follows .mixedOrders=true) (hc:c.Ok) {id:Nat} {l:List Oper} (hchk:Jw l l.length=true) {vc:Prop}
  (h:DJ lv (JX c.tb l false σ.objs [] l 0 [] [] σ)=some (vc,σ')) (hvc:vc) (hk:Ev c R (.out .normal) k σ'):Ev c R (.run (.region id l.toArray true)) k σ:=by
 obtain⟨σ1,h1,h2⟩:=Ga h
 exact nW hm hc hchk h1 hvc (hk.ent (h2 c))
theorem jU (lv:List Nat) (m:Nat) (hm:c.P.follows .mixedOrders=true) (hc:c.Ok) {id:Nat} {l:List Oper} (hchk:Jw l (l.take (l.length-m)).length=true) {vc:Prop}
  (h:DJ lv (JX c.tb l false σ.objs (l.drop (l.length-m)) (l.take (l.length-m)) 0 [] [] σ)=some (vc,σ')) (hvc:vc) (hk:Ev c R (.out .normal) k σ'):Ev c R (.run (.region id l.toArray true)) k σ:=by
 obtain⟨σ1,h1,h2⟩:=Ga h
 exact nX m hm hc hchk h1 hvc (hk.ent (h2 c))
theorem XL (lv:List Nat) (hc:c.Ok) {id:Nat} {l:List Oper} (hchk:jO l l.length=true) {vc:Prop}
  (h:DJ lv (JX c.tb l true σ.objs [] l 0 [] [] σ)=some (vc,σ')) (hvc:vc) (hk:Ev c R (.out .normal) k σ'):Ev c R (.run (.region id l.toArray false)) k σ:=by
 obtain⟨σ1,h1,h2⟩:=Ga h
 exact ZS hc hchk h1 hvc (hk.ent (h2 c))
theorem HP (lv:List Nat) (hc:c.Ok) {id:Nat} {l:List Oper} (h0:(l.all fun o=>o.guard.isNone)=true) {vc:Prop} (h:DJ lv (Br c.tb l l σ)=some (vc,σ')) (hvc:vc) (hk:Ev c R (.out .normal) k σ') :
  Ev c R (.run (.region id l.toArray false)) k σ:=by
 obtain⟨σ1,h1,h2⟩:=Ga h
 exact ZT hc h0 h1 hvc (hk.ent (h2 c))
theorem M8 (lv:List Nat) (hc:c.Ok) {ops:List Oper} {l:List Oper} {vc:Prop} (h:DJ lv (Br c.tb ops l σ)=some (vc,σ')) (hvc:vc) (hk:Ev c R (.out .normal) k σ'):HN c R k ops.toArray l σ:=by
 obtain⟨σ1,h1,h2⟩:=Ga h
 exact VV hc (by simpa using h1) hvc (hk.ent (h2 c))
theorem n4 (hc:c.Ok) {id:Nat} {l:List Oper} (n:Nat) (h0:(l.all fun o=>o.guard.isNone)=true) {vc:Prop} (h:Br c.tb l (l.take n) σ=some (vc,σ')) (hvc:vc) (hk:HN c R k l.toArray (l.drop n) σ') :
  Ev c R (.run (.region id l.toArray false)) k σ:=by
 intro h1 h2 a w hs
 simp only[H7,CD,List.all_eq_true]at h1
 exact wpIn_region_list (VU hc n (by simpa using h) hvc hk (fun o ho=>h1 o ho) h2 a w hs)
theorem n5 (hm:c.P.follows .mixedOrders=true) (hc:c.Ok) {id:Nat} {l:List Oper} (n:Nat) (hchk:Jw l (l.take n).length=true) {vc:Prop}
  (h:JX c.tb l false σ.objs [] (l.take n) 0 [] [] σ=some (vc,σ')) (hvc:vc) (hk:HN c R k l.toArray (l.drop n) σ') :
  Ev c R (.run (.region id l.toArray true)) k σ:=XF hm hc n hchk h hvc hk
theorem CU {ops:Array Oper} (h:Ev c R (.out .normal) k σ):HN c R k ops [] σ:=uB h
end
end
/- (Once the executor's equations were made here; Fw43 does it now.) -/
section
end
end Go.Proofs.YtmejfnhmgbhkmabGreat.Fw
