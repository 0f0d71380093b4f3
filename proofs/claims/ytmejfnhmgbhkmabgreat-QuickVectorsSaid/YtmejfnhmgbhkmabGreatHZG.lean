/- Contracts over memory; the frame rule of a call. -/
/- Contracts with memory: what a call does to the objects that are handed over. -/
import Derived.Test.YtmejfnhmgbhkmabGreatHZF
set_option linter.unusedVariables false
set_option linter.unusedSimpArgs false
namespace Go.Proofs.YtmejfnhmgbhkmabGreat.Fw
section
open Go Go.RowKit
structure mZ (K O0:Nat→Prop) (objs:List (Nat×Obj)) (ρ:Nat→Value) (w:World):Prop where
 obj:∀n o,lk n objs=some o→Av (vw w O0 ⟨[],objs⟩ ρ) o (ρ n)
 free:∀n b,GJ ⟨[],objs⟩ n→bk (ρ n) b→¬K b∧¬O0 b
 dist:∀n m b,GJ ⟨[],objs⟩ n→GJ ⟨[],objs⟩ m→bk (ρ n) b→bk (ρ m) b→n=m
def IE (V:Vw):List AV→List Value→Prop
 | [],vs=>vs=[]
 | x :: r,vs=>∃(v:Value) (l:List Value),vs=v :: l∧Br V x v∧IE V r l
def Nq (K O0:Nat→Prop) (stay:List Nat) (w:World) (ρ:Nat→Value) (post:AV→List (Nat×Obj)→Prop) (u:Value) (w':World):Prop :=
 ∃(res:AV) (objs':List (Nat×Obj)) (ρ':Nat→Value),post res objs'∧Frm K w w'∧mZ K O0 objs' ρ' w'∧Br (vw w' O0 ⟨[],objs'⟩ ρ') res u∧∀n∈stay,ρ' n=ρ n
def Ca (P:Program) (f:FuncId) (args:List AV) (objs:List (Nat×Obj)) (stay:List Nat) (post:AV→List (Nat×Obj)→Prop):Prop :=
 (∃ fn : Func, P.funcs[f]? = some fn ∧ (fn.name == "runtime.NumGoroutine") = false ∧ fn.body.isNone = false) ∧
 ∀(w:World) (K O0:Nat→Prop) (ρ:Nat→Value) (vs:List Value),(∀b,K b→b<w.heap.size)→(∀b,O0 b→b<w.heap.size)→mZ K O0 objs ρ w→IE (vw w O0 ⟨[],objs⟩ ρ) args vs →
  Calls P f vs.toArray w fun e w'=>∃u,e=.returned u∧Nq K O0 stay w ρ post u w'
/-! ### From the body -/
def BU:Nat→List AV→List (Nat×AV)
 | _,[]=>[]
 | s,x :: r=>(s,x) :: BU (s+1) r
def A2o:AV→Prop
 | .p t d=>t.ok d
 | _=>True
def SD:List AV→Prop
 | []=>True
 | x :: r=>A2o x∧SD r
def rU:Obj→Prop
 | .arr _ e xs=>(Ty.slice e).ok xs
 | .box _ _ fs=>SD fs
 | .mapo k v l=>∀x∈l,k.ok x.1∧v.ok x.2
 | .nest _ _ k e xs none=>(Ty.slice (.agg (.prod k (.slice e)))).ok xs
 | _=>True
def SE:List (Nat×Obj)→Prop
 | []=>True
 | x :: r=>rU x.2∧SE r
theorem A1A {V:Vw} {x:AV} {v:Value} (h:Br V x v):A2o x:=by
 cases x<;>try trivial
 obtain⟨cs,hr,_⟩:=h
 exact Gv hr
theorem RQ {V:Vw}:∀ {l:List AV} {vs:List Value},IE V l vs→SD l
 | [],_,_=>trivial
 | _ :: _,_,⟨_,_,_,h1,h2⟩=>⟨A1A h1,RQ h2⟩
theorem fN {V:Vw}:∀ {l:List AV} {cs:List Value},Cy V l cs→SD l
 | [],_,_=>trivial
 | x :: _,_,⟨c1,c2,_,h1,h2⟩=>⟨by
   cases x<;>try trivial
   exact Gv (h1:Bj _ _ _ _ _),fN h2⟩
theorem fO {w:World} {O:Nat→Prop} {k v:Ty}:∀ {es:List MapEntry} {l:List (k.den×v.den)},Lp w O k v es l→∀x∈l,k.ok x.1∧v.ok x.2
 | [],[],_,x,hx=>by cases hx
 | [],_ :: _,h,_,_=>h.elim
 | _ :: _,[],h,_,_=>h.elim
 | e :: es,y :: l,⟨⟨_,h1,_⟩,⟨_,h2,_⟩,h3⟩,x,hx=>by
  rcases List.mem_cons.1 hx with rfl|hx
  ·exact⟨Gv h1,Gv h2⟩
  ·exact fO h3 x hx
theorem Wo {V:Vw} {o:Obj} {loc:Value} (h:Av V o loc):rU o:=by
 cases o with
 | arr et e xs =>
  obtain⟨hm,cells,_,hel⟩:=h
  refine⟨hm,fun x hx=>?_⟩
  obtain⟨i,hi,rfl⟩:=List.mem_iff_getElem.1 hx
  obtain⟨es,_,_,hr⟩:=hel i _ (List.getElem?_eq_getElem hi)
  exact Gv hr
 | box et st fs=>obtain⟨_,b,cs,_,_,h2⟩:=h;exact fN h2
 | mapo k v l=>obtain⟨b,es,cl,_,_,h2,_⟩:=h;exact fO h2
 | nest et iet k e xs hl =>
  cases hl with
  | some i=>trivial
  | none =>
   obtain⟨o,ins,cells,_,hN⟩:=h
   have hel:=MR (O':=fun _=>False) (fun _ _ h=>h) hN (fun _ _ _ _ _ h=>h)
   refine⟨hN.max,fun x hx=>?_⟩
   obtain⟨i,hi,rfl⟩:=List.mem_iff_getElem.1 hx
   obtain⟨es,_,_,hr⟩:=hel i _ (List.getElem?_eq_getElem hi)
   exact Gv hr
 | frame tm fs=>trivial
 | loop L=>trivial
 | itr ik iv il ilf icu=>trivial
 | dfr=>trivial
theorem RR:∀ {l:List (Nat×Obj)},O9 l=true→(∀n o,lk n l=some o→rU o)→SE l
 | [],_,_=>trivial
 | (n,o) :: r,hk,h=>by
  simp only[O9,Bool.and_eq_true,List.all_eq_true,bne_iff_ne]at hk
  refine⟨h n o (by simp[lk]),RR hk.2 fun m x hm=>h m x ?_⟩
  simp only[lk]
  rw[if_neg (fun e=>hk.1 _ (FD hm) e)]
  exact hm
theorem fP:∀(l:List AV) (vs:List Value) (k:Nat) (V:Vw),IE V l vs→∀s v,lk s (BU k l)=some v→k≤s∧∃u,vs[s-k]?=some u∧Br V v u
 | [],vs,k,V,h,s,v,hs=>by simp[BU,lk]at hs
 | x :: l,vs,k,V,h,s,v,hs=>by
  obtain⟨u,r,rfl,h1,h2⟩:=h
  simp only[BU,lk]at hs
  split at hs
  ·rename_i e
   cases hs
   subst e
   exact⟨Nat.le_refl _,u,by simp,h1⟩
  ·obtain⟨h3,u',h4,h5⟩:=fP l r (k+1) V h2 s v hs
   refine⟨by omega,u',?_,h5⟩
   rw[show s-k=(s-(k+1))+1 by omega]
   simpa using h4
theorem Hp {V:Vw}:∀ {l:List AV} {vs:List Value},IE V l vs→vs.length=l.length
 | [],vs,h=>by have h:vs=[]:=h;subst h;rfl
 | _ :: _,_,⟨_,_,rfl,_,h⟩=>by simp[Hp h]
def cm (P:Program) (tb:Tb) (w0:World) (K O0:Nat→Prop) (nt:Nat) (pin:List (Nat×Value)):Cx:={ P:=P,tb:=tb,w0:=w0,K:=K,O0:=O0,nt:=nt,ds:={ pin:=pin } }
theorem YZ {P:Program} {tb:Tb} {w0:World} {K O0:Nat→Prop} {nt:Nat} {pin:List (Nat×Value)}:(cm P tb w0 K O0 nt pin).tb=tb:=rfl
def Ur (objs:List (Nat×Obj)) (n:Nat):Bool :=
 match lk n objs with
 | some (.arr _ _ _)=>F1 n
 | some (.nest _ _ _ _ _ _)=>F1 n
 | some _=>true
 | none=>false
theorem SF {P:Program} {tb:Tb} {w0:World} {K O0:Nat→Prop} {nt:Nat} {args:List AV} {objs:List (Nat×Obj)} {stay:List Nat} {ρ:Nat→Value} {vs:List Value} (hm:mZ K O0 objs ρ w0) (hv:IE (vw w0 O0 ⟨[],objs⟩ ρ) args vs) (hst:stay.all (Ur objs)=true) (hnt:vs.length≤nt) :
  (cm P tb w0 K O0 nt (stay.map fun n=>(n,ρ n))).sat ⟨BU 0 args,objs⟩ { tmps:=vs.toArray++Array.replicate (nt-vs.toArray.size) undef,defers:=[] } w0:=by
 refine⟨ρ,⟨rfl,rfl,rfl,Nat.le_refl _,fun _ _=>rfl⟩,by simp[cm];omega,rfl,fun p hp=>?_,hm.obj,hm.free,hm.dist,fun s v hs=>?_⟩
 ·obtain⟨n,hn,rfl⟩:=List.mem_map.1 hp
  have:=(List.all_eq_true.1 hst) n hn
  unfold Ur at this
  cases ho:lk n objs with
  | none=>rw[ho]at this;cases this
  | some o =>
   rw[ho]at this
   refine⟨⟨o,ho⟩,rfl,?_⟩
   have hob:=hm.obj n o ho
   cases o with
   | arr et e xs=>exact .inr this
   | nest et iet k e xs hl=>exact .inr this
   | box et st fs=>obtain⟨_,b,cs,he,_⟩:=hob;rw[he];exact .inl rfl
   | mapo k v l=>obtain⟨b,es,cl,he,_⟩:=hob;rw[he];exact .inl rfl
   | frame tm fs=>obtain⟨he,_⟩:=hob;rw[he];exact .inl rfl
   | loop L=>obtain⟨b,he,_⟩:=hob;rw[he];exact .inl rfl
   | itr ik iv il ilf icu=>obtain⟨b,he,_⟩:=hob;rw[he];exact .inl rfl
   | dfr=>obtain⟨b,he,_⟩:=hob;rw[he];exact .inl rfl
 ·obtain⟨_,u,h1,h2⟩:=fP args vs 0 _ hv s v hs
  have h1:vs[s]?=some u:=by simpa using h1
  have hlt:s<vs.length:=(List.getElem?_eq_some_iff.1 h1).1
  have hget:(vs.toArray++Array.replicate (nt-vs.toArray.size) undef).getD s undef=u:=by
   have:vs[s]=u:=by rw[List.getElem?_eq_getElem hlt]at h1;injection h1
   simp[Array.getElem?_append,hlt,this]
  rw[hget]
  exact h2
def A2p (P:Program) (fn:Func) (w0:World) (K O0:Nat→Prop) (stay:List Nat) (ρ0:Nat→Value) (post:AV→List (Nat×Obj)→Prop):Exit→Act→World→Prop :=
 bodyPost P fn fun e w'=>∃u,e=.returned u∧Nq K O0 stay w0 ρ0 post u w'
theorem DJ {P:Program} {tb:Tb} {f:FuncId} {fn:Func} {cd:Code} {nt:Nat} {args:List AV} {objs:List (Nat×Obj)} {stay:List Nat} {post:AV→List (Nat×Obj)→Prop}
  (hfn : P.funcs[f]? = some fn) (hname : (fn.name == "runtime.NumGoroutine") = false) (hbody : fn.body = some cd) (hnt : fn.ntmps = nt) (hlen : args.length ≤ nt)
  (hcode:CE nt cd=true) (hst:stay.all (Ur objs)=true) (hkeys:O9 objs=true) (hT:DG P tb) (hF:Lz P tb)
  (h:∀(w0:World) (K O0:Nat→Prop) (ρ0:Nat→Value),(cm P tb w0 K O0 nt (stay.map fun n=>(n,ρ0 n))).Ok→SD args→SE objs →
   Ev (cm P tb w0 K O0 nt (stay.map fun n=>(n,ρ0 n))) (A2p P fn w0 K O0 stay ρ0 post) (.run cd) [] ⟨BU 0 args,objs⟩):Ca P f args objs stay post:=by
 refine⟨⟨fn,hfn,hname,by simp[hbody]⟩,fun w K O0 ρ vs hK hO hm hv=>?_⟩
 refine calls_of_wp hfn hbody ((wpIn_wide (n:=0)).1 ?_)
 have hvl:=Hp hv
 rw[hnt]
 exact h w K O0 ρ ⟨hK,hO,hT,hF⟩ (RQ hv) (RR hkeys fun n o ho=>Wo (hm.obj n o ho)) hcode rfl _ _ (SF hm hv hst (by omega))
def m5 (tb:Tb) (σ:St) (rv:ResultVar):AV→Prop
 | .p t d=>ID σ t (IC tb σ rv)=some d
 | x=>IC tb σ rv=some x
def PF (tb:Tb) (σ:St):List ResultVar→List AV→Prop
 | [],[]=>True
 | rv :: rvs,x :: l=>m5 tb σ rv x∧PF tb σ rvs l
 | _,_=>False
def Us:AV→Bool
 | .tup _=>false
 | _=>true
def Ut (tb:Tb) (σ:St):List ResultVar→AV→Prop
 | [],x=>x=.raw (.tuple #[])
 | [rv],x=>m5 tb σ rv x
 | rvs,.tup l=>l.all Us=true∧PF tb σ rvs l
 | _,_=>False
section
variable {P:Program} {tb:Tb} {w0:World} {K O0:Nat→Prop} {nt:Nat} {ds:Fp} {σ:St} {ρ:Nat→Value} {a:Act} {w:World}
theorem fQ (hT:DG P tb) (hs:Bb w0 K O0 nt ds σ ρ a w) {rv:ResultVar} {x:AV} (h:m5 tb σ rv x):∃u,(Ic a.tmps rv).run P w=.ok u w∧Br (vw w O0 σ ρ) x u:=by
 by_cases hp:∃t d,x=.p t d
 ·obtain⟨t,d,rfl⟩:=hp
  simp only[m5]at h
  cases hr:IC tb σ rv with
  | none=>rw[hr]at h;simp[ID]at h
  | some v =>
   rw[hr]at h
   simp only[ID]at h
   obtain⟨u,h1,h2⟩:=RL hT hs hr
   exact⟨u,h1,Lw (V:=vw w O0 σ ρ) (O':=own O0 σ ρ) (fun b hb hb'=>hb hb') (fun h=>by cases h) hs.objs h h2⟩
 ·have h:IC tb σ rv=some x:=by
   cases x<;>first|exact h|exact absurd ⟨_,_,rfl⟩ hp
  exact RL hT hs h
theorem A2q {V:Vw} {x:AV} {v:Value} (hn:Us x=true) (h:Br V x v):QE V x v:=by
 cases x<;>first|(simp[Us]at hn;done)|exact h
theorem Uu (hT:DG P tb) (hs:Bb w0 K O0 nt ds σ ρ a w):∀ {rvs:List ResultVar} {l:List AV},l.all Us=true→PF tb σ rvs l →
  ∃us:List Value,(rvs.mapM (Ic a.tmps)).run P w=.ok us w∧us.length=l.length∧IY (vw w O0 σ ρ) l us
 | [],[],_,_=>⟨[],by simp,rfl,rfl⟩
 | [],_ :: _,_,h=>h.elim
 | _ :: _,[],_,h=>h.elim
 | rv :: rvs,x :: l,hn,h=>by
  simp only[List.all_cons,Bool.and_eq_true]at hn
  obtain⟨u,h1,h2⟩:=fQ hT hs h.1
  obtain⟨us,h3,h4,h5⟩:=Uu hT hs hn.2 h.2
  refine⟨u :: us,?_,by simp[h4],u,us,rfl,A2q hn.1 h2,h5⟩
  rw[List.mapM_cons]
  simp only[Sem.run_bind,h1,Result.andThen_ok,h3,Sem.run_pure]
theorem SG {tb:Tb} {σ:St}:∀ {rvs:List ResultVar} {l:List AV},PF tb σ rvs l→rvs.length=l.length
 | [],[],_=>rfl
 | [],_ :: _,h=>h.elim
 | _ :: _,[],h=>h.elim
 | _ :: _,_ :: _,h=>by simp[SG h.2]
theorem Ya (hT:DG P tb) (hs:Bb w0 K O0 nt ds σ ρ a w) {fn:Func} {x:AV} (h:Ut tb σ fn.results.toList x):∃u,(results fn a.tmps).run P w=.ok u w∧Br (vw w O0 σ ρ) x u:=by
 have key:∀us:List Value,(fn.results.toList.mapM (Ic a.tmps)).run P w=.ok us w→(results fn a.tmps).run P w=.ok (if h:us.toArray.size=1 then us.toArray[0] else .tuple us.toArray) w:=by
  intro us h1
  rw[MV]
  have hm:(fn.results.mapM (Ic a.tmps)).run P w=.ok us.toArray w:=by
   rw[Array.mapM_eq_mapM_toList]
   simp only[Sem.run_map,h1,Result.andThen_ok]
  simp only[Sem.run_bind,hm,Result.andThen_ok,Sem.run_pure]
 generalize fn.results.toList=rvs at h key
 unfold Ut at h
 split at h
 ·subst h
  exact⟨_,key [] (by simp),rfl⟩
 ·rename_i rv
  obtain⟨u,h1,h2⟩:=fQ hT hs h
  exact⟨_,key [u] (by simp[h1]),h2⟩
 ·rename_i l hne1 hne2
  obtain⟨us,h1,h2,h3⟩:=Uu hT hs h.1 h.2
  have h4:=SG h.2
  refine⟨_,key us h1,?_⟩
  have:¬us.toArray.size=1:=by
   intro e
   have e:us.length=1:=by simpa using e
   rw[h2,←h4]at e
   obtain⟨z,hz⟩:=List.length_eq_one_iff.1 e
   exact hne2 z hz
  rw[dif_neg this]
  exact⟨us,rfl,h3⟩
 ·exact h.elim
end
theorem Bp {P:Program} {tb:Tb} {w0:World} {K O0:Nat→Prop} {nt:Nat} {stay:List Nat} {ρ0:Nat→Value} {fn:Func} {post:AV→List (Nat×Obj)→Prop} {σ:St} {e:Exit} (hc:(cm P tb w0 K O0 nt (stay.map fun n=>(n,ρ0 n))).Ok)
  (rs:List ResultVar) (hr:fn.results.toList=rs) (he:e=.ret∨e=.normal) (res:AV) (h:Ut tb σ rs res) (hp:post res σ.objs) :
  Ev (cm P tb w0 K O0 nt (stay.map fun n=>(n,ρ0 n))) (A2p P fn w0 K O0 stay ρ0 post) (.out e) [] σ:=by
 intro _ _ a w hs
 obtain⟨ρ,hs⟩:=hs
 obtain⟨u,h1,h2⟩:=Ya hc.T hs (by rw[hr];exact h)
 have hpost:Nq K O0 stay w0 ρ0 post u w:=by
  refine⟨res,σ.objs,ρ,hp,hs.frm,⟨hs.objs,hs.free,hs.dist⟩,h2,fun n hn=>?_⟩
  exact(hs.pin (n,ρ0 n) (List.mem_map.2 ⟨n,hn,rfl⟩)).2.1
 rcases he with rfl|rfl
 ·exact⟨hs.defers,u,h1,u,rfl,hpost⟩
 ·exact⟨hs.defers,u,h1,u,rfl,hpost⟩
end
/- A call by a contract with memory. -/
section
open Go Go.RowKit
/-! ### The call -/
def Cl:Option AV→Option (FuncId×List Nat)
 | some (.fn f)=>some (f,[])
 | some (.clo f ns)=>some (f,ns)
 | _=>none
def Ha (σ:St):List Operand→Option (List AV)
 | []=>some []
 | x :: r=>match Aq σ x,Ha σ r with
  | some v,some vs=>some (v :: vs)
  | _,_=>none
def F7 (σ:St) (ren:List (Nat×Bm)) (x:AV):AV→Prop
 | .p t d=>MN false σ t x=some d
 | y=>BX ren x y
def BA (σ:St) (ren:List (Nat×Bm)):List AV→List AV→Prop
 | [],[]=>True
 | x :: l,y :: r=>F7 σ ren x y∧BA σ ren l r
 | _,_=>False
def Ag:List (Nat×Bm)→List Nat
 | []=>[]
 | (_,.nm n) :: r=>n :: Ag r
 | (_,.nil) :: r=>Ag r
def A12 (m:Nat):Option Bm→Bool
 | some (.nm m')=>m'==m
 | _=>false
def A13 (n:Nat) (f:Option Bm) (m:Nat):Option Bm→Bool
 | some (.nm n')=>n'==n&&A12 m f
 | _=>false
def Hq (ren ren2:List (Nat×Bm)) (stay hs:List Nat):Bool:=(Ag ren).all fun n=>AW n hs||ren.any fun p=>AW p.1 stay&&A13 n (lk n ren2) p.1 (lk p.1 ren)
def Eq (hd:List Nat) (objs2 objs:List (Nat×Obj)):Bool:=objs2.all fun p=>AW p.1 hd||(lk p.1 objs).isNone
def JK (dst:Option Nat) (v:AV) (env:List (Nat×AV)):List (Nat×AV) :=
 match dst with
 | some d=>(d,v) :: env
 | none=>env
def B1 (σ:St) (hd hs:List Nat) (dst:Option Nat) (res:AV) (objs2:List (Nat×Obj)):St:=⟨JK dst res (Bi hs σ.env),objs2++Ak hd hs σ.objs⟩
theorem Mb {n:Nat}:∀ {l:List (Nat×Bm)},n∈Ag l↔∃m,(m,Bm.nm n)∈l
 | []=>by simp[Ag]
 | (m,.nm k) :: r=>by
  simp only[Ag,List.mem_cons,Mb (l:=r),Prod.mk.injEq,Bm.nm.injEq]
  constructor
  ·rintro (rfl|⟨j,hj⟩)
   ·exact⟨m,.inl ⟨rfl,rfl⟩⟩
   ·exact⟨j,.inr hj⟩
  ·rintro⟨j,(⟨_,rfl⟩|hj)⟩
   ·exact .inl rfl
   ·exact .inr ⟨j,hj⟩
 | (m,.nil) :: r=>by
  simp only[Ag,List.mem_cons,Mb (l:=r),Prod.mk.injEq]
  constructor
  ·rintro⟨j,hj⟩;exact⟨j,.inr hj⟩
  ·rintro⟨j,(⟨_,h⟩|hj)⟩
   ·cases h
   ·exact⟨j,hj⟩
theorem Wp {V:Vw} {σ:St} {ev:Operand→Value} (hev:Ff V σ ev):∀ {xs:List Operand} {vs:List AV},Ha σ xs=some vs→IE V vs (xs.map ev)
 | [],vs,h=>by simp only[Ha]at h;cases h;exact(rfl:_=_)
 | x :: r,vs,h=>by
  simp only[Ha]at h
  split at h
  ·rename_i v l h1 h2
   cases h
   exact⟨ev x,r.map ev,rfl,hev x v h1,Wp hev h2⟩
  ·cases h
section
variable {V V':Vw} {ren:List (Nat×Bm)} {σ:St}
theorem SH (hV:KJ ren V V') (hO:∀b,¬V.O b→¬V'.O b) (hobj:∀n o,lk n σ.objs=some o→Av V o (V.ρ n)):∀ {l r:List AV} {vs:List Value},BA σ ren l r→IE V l vs→IE V' r vs
 | [],[],vs,_,h=>h
 | [],_ :: _,_,hm,_=>hm.elim
 | _ :: _,[],_,hm,_=>hm.elim
 | x :: l,y :: r,vs,hm,h=>by
  obtain⟨v,l',rfl,h1,h2⟩:=h
  refine⟨v,l',rfl,?_,SH hV hO hobj hm.2 h2⟩
  have hm1:=hm.1
  by_cases hp:∃t d,y=.p t d
  ·obtain⟨t,d,rfl⟩:=hp
   have hm1:MN false σ t x=some d:=hm1
   have:=Lw (V:=V) (O':=V'.O) hO (fun h=>by cases h) hobj hm1 h1
   show Bh V'.w V'.O t v d
   rw[hV.w]
   exact this
  ·have hm1:BX ren x y:=by
    cases y<;>first|exact hm1|exact absurd ⟨_,_,rfl⟩ hp
   exact LG hV hm1 h1
end
section
variable {c:Cx} {R:Exit→Act→World→Prop} {k:List DW} {σ:St}
theorem xS {c:Cx} {a:Act} {dst:Option Nat} {u:Value} {s:Nat} {y:AV} {V:Vw} {env:List (Nat×AV)} {res:AV} (hsz:a.tmps.size=c.nt) (hd:∀d,dst=some d→d<c.nt) (hres:Br V res u) (henv:∀s v,lk s env=some v→Br V v (a.tmps.getD s undef))
  (h:lk s (JK dst res env)=some y):Br V y ((a.put dst u).tmps.getD s undef):=by
 cases dst with
 | none=>exact henv s y h
 | some d =>
  rw[JA a d u s (by rw[hsz];exact hd d rfl)]
  simp only[JK,lk]at h
  split at h
  ·rename_i e;cases h;rw[if_pos e];exact hres
  ·rename_i e;rw[if_neg e];exact henv s y h
theorem PG (hc:c.Ok) {dst:Option Nat} {ρ:Nat→Value} {a:Act} {w:World} (hsr:Bb c.w0 c.K c.O0 c.nt c.ds σ ρ a w) {as:List AV} {vs:List Value} (hall:IE (vw w c.O0 σ ρ) as vs)
  {A:List AV} {objs:List (Nat×Obj)} (stay:List Nat) (post:AV→List (Nat×Obj)→Prop)
  (ren:List (Nat×Bm)) (h1:Bv ren=true) (h2:B9 objs ren=true) (hA:BA σ ren as A) (hO:Ab σ.objs ren objs)
  (hs:List Nat) (hpin:(c.ds.pin.all fun p=>!AW p.1 hs)=true) {next:Act→World→Prop} (hd:∀d,dst=some d→d<c.nt)
  (hk:∀res objs',post res objs'→∃(ren2:List (Nat×Bm)) (res2:AV) (objs2:List (Nat×Obj)),Bv ren2=true∧B9 objs2 ren2=true∧Ab objs' ren2 objs2∧BX ren2 res res2 ∧
   Hq ren ren2 stay hs=true∧Eq (Ag ren) objs2 σ.objs=true∧∀a' w',c.sat (B1 σ (Ag ren) hs dst res2 objs2) a' w'→next a' w') :
  ∃(Kc O0c:Nat→Prop) (ρc:Nat→Value),(∀b,Kc b→b<w.heap.size)∧(∀b,O0c b→b<w.heap.size)∧mZ Kc O0c objs ρc w∧IE (vw w O0c ⟨[],objs⟩ ρc) A vs∧(∀m n,lk m ren=some (.nm n)→ρc m=ρ n) ∧
   ∀u w',Nq Kc O0c stay w ρc post u w'→next (a.put dst u) w':=by
 let ρc:Nat→Value:=fun m=>match lk m ren with|some (.nm n)=>ρ n|_=>.slice none 0 0
 have hρc:∀m n,lk m ren=some (.nm n)→ρc m=ρ n:=fun m n hm=>by simp[ρc,hm]
 have hρnil:∀m,lk m ren=some .nil→ρc m=.slice none 0 0:=fun m hm=>by simp[ρc,hm]
 let O0c:Nat→Prop:=fun b=>c.O0 b∨∃n,GJ σ n∧n∉Ag ren∧bk (ρ n) b
 let Kc:Nat→Prop:=fun b=>b<w.heap.size∧¬ ∃m,GJ ⟨[],objs⟩ m∧bk (ρc m) b
 have src:∀m b,GJ ⟨[],objs⟩ m→bk (ρc m) b→∃n,lk m ren=some (.nm n)∧GJ σ n∧bk (ρ n) b:=by
  rintro m b ⟨o',hm⟩ hb
  have hf:=Ck hO hm
  cases hr:lk m ren with
  | none=>rw[hr]at hf;exact hf.elim
  | some fr =>
   cases fr with
   | nil=>rw[hρnil m hr]at hb;simp[bk,blk]at hb
   | nm n =>
    rw[hr]at hf
    rw[hρc m n hr]at hb
    refine⟨n,rfl,?_,hb⟩
    cases hn:lk n σ.objs with
    | none=>simp only[Fg,hn,Gx]at hf
    | some x=>exact⟨x,hn⟩
 have hlL:∀m fr,lk m ren=some fr→GJ ⟨[],objs⟩ m:=fun m fr hm=>by
  simp only[B9,List.all_eq_true]at h2
  exact Option.isSome_iff_exists.1 (h2 _ (FD hm))
 have hhand:∀m n,lk m ren=some (.nm n)→n∈Ag ren:=fun m n hm=>Mb.2 ⟨m,FD hm⟩
 have hVO:∀b,¬own c.O0 σ ρ b→¬own O0c ⟨[],objs⟩ ρc b:=by
  intro b hb hb'
  rcases hb' with (h0|⟨n,hn,_,hnb⟩)|⟨m,hm,hmb⟩
  ·exact hb (.inl h0)
  ·exact hb (.inr ⟨n,hn,hnb⟩)
  ·obtain⟨n,_,hn,hnb⟩:=src m b hm hmb
   exact hb (.inr ⟨n,hn,hnb⟩)
 have hV:KJ ren (vw w c.O0 σ ρ) (vw w O0c ⟨[],objs⟩ ρc):=⟨rfl,hVO,hρc,hρnil,hlL⟩
 have hmem:mZ Kc O0c objs ρc w:=by
  refine⟨fun m o' hm=>PA hV hsr.objs (Ck hO hm),fun m b hm hb=>⟨fun hK=>hK.2 ⟨m,hm,hb⟩,fun h0=>?_⟩,fun m m' b hm hm' hb hb'=>?_⟩
  ·obtain⟨n,hr,hn,hnb⟩:=src m b hm hb
   rcases h0 with h0|⟨n',hn',hnh,hnb'⟩
   ·exact(hsr.free n b hn hnb).2 h0
   ·have:=hsr.dist n n' b hn hn' hnb hnb'
    subst this
    exact hnh (hhand m n hr)
  ·obtain⟨n,hr,hn,hnb⟩:=src m b hm hb
   obtain⟨n',hr',hn',hnb'⟩:=src m' b hm' hb'
   have:=hsr.dist n n' b hn hn' hnb hnb'
   subst this
   exact RM h1 hr hr'
 have hO0c:∀b,O0c b→b<w.heap.size:=by
  rintro b (h0|⟨n,⟨o',hn⟩,_,hnb⟩)
  ·exact Nat.lt_of_lt_of_le (hc.O b h0) hsr.frm.size
  ·exact(hsr.objs n o' hn).block_lt hnb
 refine⟨Kc,O0c,ρc,fun b hb=>hb.1,hO0c,hmem,SH hV hVO hsr.objs hA hall,hρc,?_⟩
 rintro u w' ⟨res,objs',ρ',hpost,hfrm,hmem',hav,hstay⟩
 obtain⟨ren2,res2,objs2,g1,g2,g3,g4,g5,g6,hnext⟩:=hk res objs' hpost
 refine hnext _ _ ?_
 let ρ2:Nat→Value:=fun n=>match lk n ren2 with|some (.nm m)=>ρ' m|some .nil=>.slice none 0 0|none=>ρ n
 have h2nm:∀n m,lk n ren2=some (.nm m)→ρ2 n=ρ' m:=fun n m hn=>by simp[ρ2,hn]
 have h2nil:∀n,lk n ren2=some .nil→ρ2 n=.slice none 0 0:=fun n hn=>by simp[ρ2,hn]
 have h2no:∀n,lk n ren2=none→ρ2 n=ρ n:=fun n hn=>by simp[ρ2,hn]
 let σ2:=B1 σ (Ag ren) hs dst res2 objs2
 have hobjs2:σ2.objs=objs2++Ak (Ag ren) hs σ.objs:=rfl
 have hlk2:∀n,lk n σ2.objs=(lk n objs2).or (lk n (Ak (Ag ren) hs σ.objs)):=fun n=>by rw[hobjs2,Aw]
 have hdom:∀n fr,lk n ren2=some fr→∃x,lk n objs2=some x:=fun n fr hn=>by
  simp only[B9,List.all_eq_true]at g2
  exact Option.isSome_iff_exists.1 (g2 _ (FD hn))
 have hdom':∀n x,lk n objs2=some x→∃fr,lk n ren2=some fr:=fun n x hn=>by
  have hf:=Ck g3 hn
  cases hr:lk n ren2 with
  | none=>rw[hr]at hf;exact hf.elim
  | some fr=>exact⟨fr,rfl⟩
 have hfr:∀n x,lk n objs2=some x→n∈Ag ren∨lk n σ.objs=none:=fun n x hn=>by
  simp only[Eq,List.all_eq_true,Bool.or_eq_true]at g6
  rcases g6 _ (FD hn) with h|h
  ·exact .inl ((AZ _ _).1 h)
  ·exact .inr (by simpa using h)
 have hrest:∀n x,lk n (Ak (Ag ren) hs σ.objs)=some x→n∉Ag ren∧lk n objs2=none∧∃y,lk n σ.objs=some y∧x=y.fgt hs:=by
  intro n x hn
  rw[BN]at hn
  split at hn
  ·cases hn
  ·rename_i hnh
   simp only[Option.map_eq_some_iff]at hn
   obtain⟨y,hy,rfl⟩:=hn
   have hnh:n∉Ag ren:=fun h=>hnh ((AZ _ _).2 h)
   refine⟨hnh,?_,y,hy,rfl⟩
   cases hl:lk n objs2 with
   | none=>rfl
   | some z =>
    rcases hfr n z hl with h|h
    ·exact absurd h hnh
    ·rw[h]at hy;cases hy
 have hcase:∀n x,lk n σ2.objs=some x→lk n objs2=some x∨(lk n objs2=none∧lk n (Ak (Ag ren) hs σ.objs)=some x):=by
  intro n x hn
  rw[hlk2]at hn
  cases hl:lk n objs2 with
  | some z=>rw[hl]at hn;exact .inl hn
  | none=>rw[hl]at hn;exact .inr ⟨rfl,by simpa using hn⟩
 have hsrc2:∀n x b,lk n objs2=some x→bk (ρ2 n) b→∃m,lk n ren2=some (.nm m)∧GJ ⟨[],objs'⟩ m∧bk (ρ' m) b:=by
  intro n x b hn hb
  have hf:=Ck g3 hn
  obtain⟨fr,hr⟩:=hdom' n x hn
  cases fr with
  | nil=>rw[h2nil n hr]at hb;simp[bk,blk]at hb
  | nm m =>
   rw[hr]at hf
   rw[h2nm n m hr]at hb
   refine⟨m,hr,?_,hb⟩
   cases hn:lk m objs' with
   | none=>simp only[Fg,hn,Gx]at hf
   | some z=>exact⟨z,hn⟩
 have hρ2rest:∀n,lk n objs2=none→ρ2 n=ρ n:=fun n hn=>by
  apply h2no
  cases hl:lk n ren2 with
  | none=>rfl
  | some fr=>obtain⟨x,hx⟩:=hdom n fr hl;rw[hx]at hn;cases hn
 have hV2:KJ ren2 (vw w' O0c ⟨[],objs'⟩ ρ') (vw w' c.O0 σ2 ρ2):=by
  refine⟨rfl,fun b hb hb'=>?_,h2nm,h2nil,fun n fr hn=>?_⟩
  ·rcases hb' with h0|⟨n,⟨x,hn⟩,hnb⟩
   ·exact hb (.inl (.inl h0))
   ·rcases hcase n x hn with hn|⟨hno,hn⟩
    ·obtain⟨m,_,hm,hmb⟩:=hsrc2 n x b hn hnb
     exact hb (.inr ⟨m,hm,hmb⟩)
    ·obtain⟨hnh,_,y,hy,_⟩:=hrest n x hn
     rw[hρ2rest n hno]at hnb
     exact hb (.inl (.inr ⟨n,⟨y,hy⟩,hnh,hnb⟩))
  ·obtain⟨x,hx⟩:=hdom n fr hn
   exact⟨x,by rw[hlk2,hx];rfl⟩
 have hHblock:∀b,(∃m,GJ ⟨[],objs⟩ m∧bk (ρc m) b)→own c.O0 σ ρ b:=by
  rintro b ⟨m,hm,hb⟩
  obtain⟨n,_,hn,hnb⟩:=src m b hm hb
  exact .inr ⟨n,hn,hnb⟩
 have hKcO:∀b,b<w.heap.size→¬own c.O0 σ ρ b→Kc b:=fun b hlt hb=>⟨hlt,fun h=>hb (hHblock b h)⟩
 have hkeep:B8 ((vw w c.O0 σ ρ).buts hs) (vw w' c.O0 σ2 ρ2):=by
  have hL:∀n,GJ σ n→AW n hs=false→GJ σ2 n∧ρ2 n=ρ n:=by
   intro n hn hnhs
   by_cases hh:n∈Ag ren
   ·simp only[Hq,List.all_eq_true,Bool.or_eq_true]at g5
    rcases g5 n hh with h|h
    ·rw[hnhs]at h;cases h
    ·simp only[List.any_eq_true,Bool.and_eq_true]at h
     obtain⟨⟨m,fr⟩,hp,hst,hk1⟩:=h
     simp only at hst hk1
     unfold A13 at hk1
     split at hk1
     ·rename_i n' hlm
      simp only[Bool.and_eq_true,beq_iff_eq]at hk1
      obtain⟨rfl,hk2⟩:=hk1
      unfold A12 at hk2
      split at hk2
      ·rename_i m' hl2
       have:m'=m:=by simpa using hk2
       subst this
       obtain⟨x,hx⟩:=hdom _ _ hl2
       refine⟨⟨x,by rw[hlk2,hx];rfl⟩,?_⟩
       rw[h2nm _ _ hl2,hstay m' ((AZ _ _).1 hst)]
       exact hρc _ _ hlm
      ·cases hk2
     ·cases hk1
   ·obtain⟨x,hx⟩:=hn
    have hr:lk n (Ak (Ag ren) hs σ.objs)=some (x.fgt hs):=by
     rw[BN,if_neg (fun h=>hh ((AZ _ _).1 h)),hx];rfl
    obtain⟨_,hno,_⟩:=hrest n _ hr
    exact⟨⟨_,by rw[hlk2,hno,hr];rfl⟩,hρ2rest n hno⟩
  refine⟨fun b hlt hb hb'=>?_,fun n hn=>(hL n hn.1 hn.2).1,fun n hn=>(hL n hn.1 hn.2).2,fun b hlt hb=>hfrm.block b (hKcO b hlt hb)⟩
  have hlt:b<w.heap.size:=hlt
  have hb:¬own c.O0 σ ρ b:=hb
  rcases hb' with h0|⟨n,⟨x,hn⟩,hnb⟩
  ·exact hb (.inl h0)
  ·rcases hcase n x hn with hn|⟨hno,hn⟩
   ·obtain⟨m,_,hm,hmb⟩:=hsrc2 n x b hn hnb
    exact(hmem'.free m b hm hmb).1 (hKcO b hlt hb)
   ·obtain⟨hnh,_,y,hy,_⟩:=hrest n x hn
    rw[hρ2rest n hno]at hnb
    exact hb (.inr ⟨n,⟨y,hy⟩,hnb⟩)
 have hKK:∀b,c.K b→Kc b:=fun b hb=>⟨Nat.lt_of_lt_of_le (hc.K b hb) hsr.frm.size,fun⟨m,hm,hmb⟩=>by
  obtain⟨n,_,hn,hnb⟩:=src m b hm hmb
  exact(hsr.free n b hn hnb).1 hb⟩
 refine⟨ρ2,⟨hfrm.os.trans hsr.frm.os,hfrm.tape.trans hsr.frm.tape,hfrm.output.trans hsr.frm.output,Nat.le_trans hsr.frm.size hfrm.size,fun b hb=>(hfrm.block b (hKK b hb)).trans (hsr.frm.block b hb)⟩,by rw[KD];exact hsr.nt,by rw[Gr];exact hsr.defers,fun p hp=>?_,fun n x hn=>?_,fun n b hl hb=>?_,fun n n' b hl hl' hb hb'=>?_,fun s v hsv=>?_⟩
 ·obtain⟨q1,q2,q3⟩:=hsr.pin p hp
  have q4:AW p.1 hs=false:=by simpa using (List.all_eq_true.1 hpin) p hp
  have q5:=hkeep.ρ p.1 ⟨q1,q4⟩
  exact⟨hkeep.L p.1 ⟨q1,q4⟩,q5.trans q2,q3⟩
 ·rcases hcase n x hn with hn|⟨hno,hn⟩
  ·exact PA hV2 hmem'.obj (Ck g3 hn)
  ·obtain⟨hnh,_,y,hy,rfl⟩:=hrest n x hn
   rw[hρ2rest n hno]
   refine RJ hkeep (fun b hb=>?_) (hsr.objs n y hy)
   refine hfrm.block b ⟨(hsr.objs n y hy).block_lt hb,fun⟨m,hm,hmb⟩=>?_⟩
   obtain⟨n',hr',hn',hnb'⟩:=src m b hm hmb
   have:=hsr.dist n n' b ⟨y,hy⟩ hn' hb hnb'
   subst this
   exact hnh (hhand m n hr')
 ·obtain⟨x,hn⟩:=hl
  rcases hcase n x hn with hn|⟨hno,hn⟩
  ·obtain⟨m,_,hm,hmb⟩:=hsrc2 n x b hn hb
   have:=hmem'.free m b hm hmb
   exact⟨fun hK=>this.1 (hKK b hK),fun h0=>this.2 (.inl h0)⟩
  ·obtain⟨hnh,_,y,hy,rfl⟩:=hrest n x hn
   rw[hρ2rest n hno]at hb
   exact hsr.free n b ⟨y,hy⟩ hb
 ·obtain⟨x,hn⟩:=hl
  obtain⟨x',hn'⟩:=hl'
  rcases hcase n x hn with hn|⟨hno,hn⟩<;>rcases hcase n' x' hn' with hn'|⟨hno',hn'⟩
  ·obtain⟨m,hr,hm,hmb⟩:=hsrc2 n x b hn hb
   obtain⟨m',hr',hm',hmb'⟩:=hsrc2 n' x' b hn' hb'
   have:=hmem'.dist m m' b hm hm' hmb hmb'
   subst this
   exact RM g1 hr hr'
  ·exfalso
   obtain⟨m,hr,hm,hmb⟩:=hsrc2 n x b hn hb
   obtain⟨hnh,_,y,hy,rfl⟩:=hrest n' x' hn'
   rw[hρ2rest n' hno']at hb'
   exact(hmem'.free m b hm hmb).2 (.inr ⟨n',⟨y,hy⟩,hnh,hb'⟩)
  ·exfalso
   obtain⟨m,hr,hm,hmb⟩:=hsrc2 n' x' b hn' hb'
   obtain⟨hnh,_,y,hy,rfl⟩:=hrest n x hn
   rw[hρ2rest n hno]at hb
   exact(hmem'.free m b hm hmb).2 (.inr ⟨n,⟨y,hy⟩,hnh,hb⟩)
  ·obtain⟨_,_,y,hy,rfl⟩:=hrest n x hn
   obtain⟨_,_,y',hy',rfl⟩:=hrest n' x' hn'
   rw[hρ2rest n hno]at hb
   rw[hρ2rest n' hno']at hb'
   exact hsr.dist n n' b ⟨y,hy⟩ ⟨y',hy'⟩ hb hb'
 ·refine xS (c:=c) hsr.nt hd (LG hV2 g4 hav) (fun s v hv=>?_) hsv
  rw[Dd]at hv
  simp only[Option.map_eq_some_iff]at hv
  obtain⟨y,hy,rfl⟩:=hv
  exact(NV (hsr.env s y hy)).keeps hkeep
theorem Wq (hc:c.Ok) {o:Oper} {dst:Option Nat} {g:Operand} {xs:List Operand} {ts:Array TypeId} (ho:o.op=.call { callee:=.value g,args:=xs.toArray,argTypes:=ts }) (hdst:o.dst=dst)
  {f:FuncId} {capn:List Nat} (hg:Cl (Aq σ g)=some (f,capn)) {as:List AV} (has:Ha σ xs=some as)
  {A:List AV} {objs:List (Nat×Obj)} {stay:List Nat} {post:AV→List (Nat×Obj)→Prop} (hM:Ca c.P f A objs stay post)
  (ren:List (Nat×Bm)) (h1:Bv ren=true) (h2:B9 objs ren=true) (hA:BA σ ren (as++capn.map fun n=>AV.bp n [] 0) A) (hO:Ab σ.objs ren objs)
  (hs:List Nat) (hpin:(c.ds.pin.all fun p=>!AW p.1 hs)=true) {next:Act→World→Prop} {Q:Exit→Act→World→Prop} {a:Act} {w:World} (hsat:c.sat σ a w) (hd:∀d,dst=some d→d<c.nt)
  (hk:∀res objs',post res objs'→∃(ren2:List (Nat×Bm)) (res2:AV) (objs2:List (Nat×Obj)),Bv ren2=true∧B9 objs2 ren2=true∧Ab objs' ren2 objs2∧BX ren2 res res2 ∧
   Hq ren ren2 stay hs=true∧Eq (Ag ren) objs2 σ.objs=true∧∀a' w',c.sat (B1 σ (Ag ren) hs dst res2 objs2) a' w'→next a' w'):o.wpIn (FR c.r) 0 c.P a w next Q:=by
 obtain⟨ρ,hsr⟩:=hsat
 have hev:Ff (vw w c.O0 σ ρ) σ a.eval:=Di hsr.env
 obtain⟨⟨fn,hfn,hname,hbody⟩,hM⟩:=hM
 obtain⟨caps,hge,hcaps⟩:∃caps:List Value,a.eval g=.func (.func f) #[] caps.toArray∧IE (vw w c.O0 σ ρ) (capn.map fun n=>AV.bp n [] 0) caps:=by
  cases hgv:Aq σ g with
  | none=>rw[hgv]at hg;simp[Cl]at hg
  | some gv =>
   rw[hgv]at hg
   have hgr:=hev g gv hgv
   cases gv<;>simp only[Cl]at hg<;>try(cases hg;done)
   ·cases hg
    exact⟨[],hgr,rfl⟩
   ·rename_i f' ns
    cases hg
    refine⟨capn.map ρ,hgr.1,?_⟩
    have h0:∀l:List Nat,(∀n∈l,n∈capn)→IE (vw w c.O0 σ ρ) (l.map fun n=>AV.bp n [] 0) (l.map ρ):=by
     intro l
     induction l with
     | nil=>intro _;exact rfl
     | cons n r ih =>
      intro hl
      obtain⟨g1,b,g2⟩:=hgr.2 n (hl n (by simp))
      have g2:ρ n=_:=g2
      exact⟨ρ n,r.map ρ,rfl,⟨g1,b,g2,g2⟩,ih fun x hx=>hl x (by simp[hx])⟩
    exact h0 capn fun _ h=>h
 have hargs:=Wp hev has
 have happ:∀ {l r:List AV} {us vs:List Value},IE (vw w c.O0 σ ρ) l us→IE (vw w c.O0 σ ρ) r vs→IE (vw w c.O0 σ ρ) (l++r) (us++vs):=by
  intro l
  induction l with
  | nil=>intro r us vs hu hv;have hu:us=[]:=hu;subst hu;exact hv
  | cons x l ih =>
   intro r us vs hu hv
   obtain⟨v,us',rfl,g1,g2⟩:=hu
   exact⟨v,us'++vs,rfl,g1,ih g2 hv⟩
 have hall:=happ hargs hcaps
 have hrun:(execOp a.eval o).run c.P w=.ok (.enter f (xs.map a.eval++caps).toArray) w:=by
  have g1 : ¬ fn.name = "runtime.NumGoroutine" := by simpa using hname
  have g2:¬fn.body=none:=by intro e;simp[e]at hbody
  simp[execOp,ho,resolve,Deferred.ofValue,hge,invoke,callFunc,hfn,g1,g2]
 obtain⟨Kc,O0c,ρc,hK1,hO1,hmem,hav,_,hpost⟩:=PG hc hsr hall stay post ren h1 h2 hA hO hs hpin hd hk
 have hcall:=hM w Kc O0c ρc (xs.map a.eval++caps) hK1 hO1 hmem hav
 refine⟨fun _ _=>trivial,?_⟩
 rw[F5 _ _ _ (fun cl e=>by rw[ho]at e;cases e),hrun,Oper.uponIn_enter]
 refine⟨fun h=>(by simp[FR]at h),MU (hcall.mono fun e w' hh=>?_)⟩
 obtain⟨u,rfl,hh⟩:=hh
 rw[hdst]
 exact hpost u w' hh
theorem rV (hc:c.Ok) {ops:Array Oper} {rest:List Oper} {dst:Option Nat} {g:Operand} {xs:List Operand} {ts:Array TypeId} {ty:TypeId} {pos:String} {after:Array Edge}
  {f:FuncId} {capn:List Nat} (hg:Cl (Aq σ g)=some (f,capn)) {as:List AV} (has:Ha σ xs=some as)
  {A:List AV} {objs:List (Nat×Obj)} {stay:List Nat} {post:AV→List (Nat×Obj)→Prop} (hM:Ca c.P f A objs stay post)
  (ren:List (Nat×Bm)) (hs:List Nat) (h1:Bv ren=true) (h2:B9 objs ren=true) (hpin:(c.ds.pin.all fun p=>!AW p.1 hs)=true) (hA:BA σ ren (as++capn.map fun n=>AV.bp n [] 0) A) (hO:Ab σ.objs ren objs)
  (hk:∀res objs',post res objs'→∃(ren2:List (Nat×Bm)) (res2:AV) (objs2:List (Nat×Obj)),Bv ren2=true∧B9 objs2 ren2=true∧Ab objs' ren2 objs2∧BX ren2 res res2 ∧
   Hq ren ren2 stay hs=true∧Eq (Ag ren) objs2 σ.objs=true∧GK c R k ops rest (B1 σ (Ag ren) hs dst res2 objs2)) :
  GK c R k ops (⟨dst,.call ⟨.value g,xs.toArray,ts⟩,ty,pos,after,none⟩ :: rest) σ:=by
 intro hd hko a w hsat
 unfold wpListIn
 rw[if_pos (by simp[Region.wanted])]
 refine Wq hc (xs:=xs) (ts:=ts) rfl rfl hg has hM ren h1 h2 hA hO hs hpin hsat (Bd (hd _ (by simp))) fun res objs' hp=>?_
 obtain⟨ren2,res2,objs2,g1,g2,g3,g4,g5,g6,hE⟩:=hk res objs' hp
 exact⟨ren2,res2,objs2,g1,g2,g3,g4,g5,g6,fun a' w' hs'=>hE (fun o ho=>hd o (by simp[ho])) hko a' w' hs'⟩
end
end
/- Slots that are read no more are dropped behind each region. -/
section
open Go Go.RowKit
def Wr (s:Nat):List Nat→List Nat
 | []=>[]
 | k :: r=>if s=k then r else k :: Wr s r
def G7:List Nat→List (Nat×AV)→List (Nat×AV)
 | _,[]=>[]
 | [],_ :: _=>[]
 | k :: lv,(s,v) :: r=>if AW s (k :: lv)=true then (s,v) :: G7 (Wr s (k :: lv)) r else G7 (k :: lv) r
def DK (lv:List Nat):CZ→CZ
 | some (vc,σ)=>some (vc,⟨G7 lv σ.env,σ.objs⟩)
 | none=>none
theorem Uv {s t:Nat}:∀ {lv:List Nat},AW s lv=false→AW s (Wr t lv)=false
 | [],h=>h
 | k :: r,h=>by
  simp only[AW]at h
  split at h
  ·cases h
  ·rename_i hne
   simp only[Wr]
   split
   ·exact h
   ·simp only[AW,if_neg hne]
    exact Uv h
theorem IG {s:Nat}:∀ {env:List (Nat×AV)} {lv:List Nat},AW s lv=false→lk s (G7 lv env)=none
 | [],lv,_=>by cases lv<;>rfl
 | (j,v) :: r,[],_=>rfl
 | (j,v) :: r,k :: lv,h=>by
  simp only[G7]
  split
  ·rename_i hj
   simp only[lk]
   rw[if_neg (fun e=>by subst e;rw[h]at hj;cases hj)]
   exact IG (Uv h)
  ·exact IG h
theorem SI {s:Nat} {x:AV}:∀ {env:List (Nat×AV)} {lv:List Nat},lk s (G7 lv env)=some x→lk s env=some x
 | [],lv,h=>by cases lv<;>simp[G7,lk]at h
 | (j,v) :: r,[],h=>by simp[G7,lk]at h
 | (j,v) :: r,k :: lv,h=>by
  simp only[G7]at h
  split at h
  ·simp only[lk]at h ⊢
   split at h
   ·rename_i e;rw[if_pos e];exact h
   ·rename_i e;rw[if_neg e];exact SI h
  ·rename_i hj
   by_cases e:s=j
   ·subst e
    rw[IG (by simpa using hj)]at h
    cases h
   ·simp only[lk,if_neg e]
    exact SI h
theorem G8 {lv:List Nat} {r:CZ} {vc:Prop} {σ':St} (h:DK lv r=some (vc,σ')):∃σ1,r=some (vc,σ1)∧∀c:Cx,xM c σ1 σ':=by
 cases r with
 | none=>cases h
 | some p =>
  obtain⟨vc1,σ1⟩:=p
  simp only[DK]at h
  cases h
  exact⟨σ1,rfl,fun c a w hs=>RP (σ':=⟨G7 lv σ1.env,σ1.objs⟩) (fun s v hv=>SI hv) (fun _=>rfl) hs⟩
section
variable {c:Cx} {R:Exit→Act→World→Prop} {k:List DW} {σ σ':St}
theorem m6 (lv:List Nat) (hm:c.P.follows .mixedOrders=true) (hc:c.Ok) {id:Nat} {l:List Oper} (hchk:KL l l.length=true) {vc:Prop}
  (h:DK lv (Jw c.tb l false σ.objs [] l 0 [] [] σ)=some (vc,σ')) (hvc:vc) (hk:Ev c R (.out .normal) k σ'):Ev c R (.run (.region id l.toArray true)) k σ:=by
 obtain⟨σ1,h1,h2⟩:=G8 h
 exact rS hm hc hchk h1 hvc (hk.ent (h2 c))
theorem m7 (lv:List Nat) (m:Nat) (hm:c.P.follows .mixedOrders=true) (hc:c.Ok) {id:Nat} {l:List Oper} (hchk:KL l (l.take (l.length-m)).length=true) {vc:Prop}
  (h:DK lv (Jw c.tb l false σ.objs (l.drop (l.length-m)) (l.take (l.length-m)) 0 [] [] σ)=some (vc,σ')) (hvc:vc) (hk:Ev c R (.out .normal) k σ'):Ev c R (.run (.region id l.toArray true)) k σ:=by
 obtain⟨σ1,h1,h2⟩:=G8 h
 exact rT m hm hc hchk h1 hvc (hk.ent (h2 c))
theorem Yb (lv:List Nat) (hc:c.Ok) {id:Nat} {l:List Oper} (hchk:mV l l.length=true) {vc:Prop}
  (h:DK lv (Jw c.tb l true σ.objs [] l 0 [] [] σ)=some (vc,σ')) (hvc:vc) (hk:Ev c R (.out .normal) k σ'):Ev c R (.run (.region id l.toArray false)) k σ:=by
 obtain⟨σ1,h1,h2⟩:=G8 h
 exact bT hc hchk h1 hvc (hk.ent (h2 c))
theorem KQ (lv:List Nat) (hc:c.Ok) {id:Nat} {l:List Oper} (h0:(l.all fun o=>o.guard.isNone)=true) {vc:Prop} (h:DK lv (Bk c.tb l l σ)=some (vc,σ')) (hvc:vc) (hk:Ev c R (.out .normal) k σ') :
  Ev c R (.run (.region id l.toArray false)) k σ:=by
 obtain⟨σ1,h1,h2⟩:=G8 h
 exact bU hc h0 h1 hvc (hk.ent (h2 c))
theorem Nr (lv:List Nat) (hc:c.Ok) {ops:List Oper} {l:List Oper} {vc:Prop} (h:DK lv (Bk c.tb ops l σ)=some (vc,σ')) (hvc:vc) (hk:Ev c R (.out .normal) k σ'):GK c R k ops.toArray l σ:=by
 obtain⟨σ1,h1,h2⟩:=G8 h
 exact Wn hc (by simpa using h1) hvc (hk.ent (h2 c))
theorem rW (hc:c.Ok) {id:Nat} {l:List Oper} (n:Nat) (h0:(l.all fun o=>o.guard.isNone)=true) {vc:Prop} (h:Bk c.tb l (l.take n) σ=some (vc,σ')) (hvc:vc) (hk:GK c R k l.toArray (l.drop n) σ') :
  Ev c R (.run (.region id l.toArray false)) k σ:=by
 intro h1 h2 a w hs
 simp only[Ib,CE,List.all_eq_true]at h1
 exact wpIn_region_list (Nm hc n (by simpa using h) hvc hk (fun o ho=>h1 o ho) h2 a w hs)
theorem rZ (hm:c.P.follows .mixedOrders=true) (hc:c.Ok) {id:Nat} {l:List Oper} (n:Nat) (hchk:KL l (l.take n).length=true) {vc:Prop}
  (h:Jw c.tb l false σ.objs [] (l.take n) 0 [] [] σ=some (vc,σ')) (hvc:vc) (hk:GK c R k l.toArray (l.drop n) σ') :
  Ev c R (.run (.region id l.toArray true)) k σ:=YV hm hc n hchk h hvc hk
theorem EJ {ops:Array Oper} (h:Ev c R (.out .normal) k σ):GK c R k ops [] σ:=xR h
end
end
/- (Once the executor's equations were made here; Fw43 does it now.) -/
section
end
end Go.Proofs.YtmejfnhmgbhkmabGreat.Fw
