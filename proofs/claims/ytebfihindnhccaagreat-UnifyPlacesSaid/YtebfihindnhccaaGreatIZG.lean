/- Contracts over memory; the frame rule of a call. -/
/- Contracts with memory: what a call does to the objects that are handed over. -/
import Derived.Test.YtebfihindnhccaaGreatIZF
set_option linter.unusedVariables false
set_option linter.unusedSimpArgs false
namespace Go.Proofs.YtebfihindnhccaaGreat.Fw
section
open Go Go.RowKit
structure p6 (K O0:Nat→Prop) (objs:List (Nat×Obj)) (ρ:Nat→Value) (w:World):Prop where
 obj:∀n o,lk n objs=some o→A4 (vw w O0 ⟨[],objs⟩ ρ) o (ρ n)
 free:∀n b,GZ ⟨[],objs⟩ n→bk (ρ n) b→¬K b∧¬O0 b
 dist:∀n m b,GZ ⟨[],objs⟩ n→GZ ⟨[],objs⟩ m→bk (ρ n) b→bk (ρ m) b→n=m
def QQQ (V:Vw):List AV→List Value→Prop
 | [],vs=>vs=[]
 | x :: r,vs=>∃(v:Value) (l:List Value),vs=v :: l∧B5 V x v∧QQQ V r l
def OI (K O0:Nat→Prop) (stay:List Nat) (w:World) (ρ:Nat→Value) (post:AV→List (Nat×Obj)→Prop) (u:Value) (w':World):Prop :=
 ∃(res:AV) (objs':List (Nat×Obj)) (ρ':Nat→Value),post res objs'∧Frm K w w'∧p6 K O0 objs' ρ' w'∧B5 (vw w' O0 ⟨[],objs'⟩ ρ') res u∧∀n∈stay,ρ' n=ρ n
def B8 (P:Program) (f:FuncId) (args:List AV) (objs:List (Nat×Obj)) (stay:List Nat) (post:AV→List (Nat×Obj)→Prop):Prop :=
 (∃ fn : Func, P.funcs[f]? = some fn ∧ (fn.name == "runtime.NumGoroutine") = false ∧ fn.body.isNone = false) ∧
 ∀(w:World) (K O0:Nat→Prop) (ρ:Nat→Value) (vs:List Value),(∀b,K b→b<w.heap.size)→(∀b,O0 b→b<w.heap.size)→p6 K O0 objs ρ w→QQQ (vw w O0 ⟨[],objs⟩ ρ) args vs →
  Calls P f vs.toArray w fun e w'=>∃u,e=.returned u∧OI K O0 stay w ρ post u w'
/-! ### From the body -/
def BG:Nat→List AV→List (Nat×AV)
 | _,[]=>[]
 | s,x :: r=>(s,x) :: BG (s+1) r
def A4n:AV→Prop
 | .p t d=>t.ok d
 | _=>True
def SY:List AV→Prop
 | []=>True
 | x :: r=>A4n x∧SY r
def uY:Obj→Prop
 | .arr _ e xs=>(Ty.slice e).ok xs
 | .box _ _ fs=>SY fs
 | .mapo k v l=>∀x∈l,k.ok x.1∧v.ok x.2
 | .nest _ _ k e xs none=>(Ty.slice (.agg (.prod k (.slice e)))).ok xs
 | _=>True
def SZ:List (Nat×Obj)→Prop
 | []=>True
 | x :: r=>uY x.2∧SZ r
theorem A3q {V:Vw} {x:AV} {v:Value} (h:B5 V x v):A4n x:=by
 cases x<;>try trivial
 obtain⟨cs,hr,_⟩:=h
 exact HE hr
theorem Rf {V:Vw}:∀ {l:List AV} {vs:List Value},QQQ V l vs→SY l
 | [],_,_=>trivial
 | _ :: _,_,⟨_,_,_,h1,h2⟩=>⟨A3q h1,Rf h2⟩
theorem gQ {V:Vw}:∀ {l:List AV} {cs:List Value},DQ V l cs→SY l
 | [],_,_=>trivial
 | x :: _,_,⟨c1,c2,_,h1,h2⟩=>⟨by
   cases x<;>try trivial
   exact HE (h1:Bj _ _ _ _ _),gQ h2⟩
theorem gR {w:World} {O:Nat→Prop} {k v:Ty}:∀ {es:List MapEntry} {l:List (k.den×v.den)},Nj w O k v es l→∀x∈l,k.ok x.1∧v.ok x.2
 | [],[],_,x,hx=>by cases hx
 | [],_ :: _,h,_,_=>h.elim
 | _ :: _,[],h,_,_=>h.elim
 | e :: es,y :: l,⟨⟨_,h1,_⟩,⟨_,h2,_⟩,h3⟩,x,hx=>by
  rcases List.mem_cons.1 hx with rfl|hx
  ·exact⟨HE h1,HE h2⟩
  ·exact gR h3 x hx
theorem XF {V:Vw} {o:Obj} {loc:Value} (h:A4 V o loc):uY o:=by
 cases o with
 | arr et e xs =>
  obtain⟨hm,cells,_,hel⟩:=h
  refine⟨hm,fun x hx=>?_⟩
  obtain⟨i,hi,rfl⟩:=List.mem_iff_getElem.1 hx
  obtain⟨es,_,_,hr⟩:=hel i _ (List.getElem?_eq_getElem hi)
  exact HE hr
 | box et st fs=>obtain⟨_,b,cs,_,_,h2⟩:=h;exact gQ h2
 | mapo k v l=>obtain⟨b,es,cl,_,_,h2⟩:=h;exact gR h2
 | nest et iet k e xs hl =>
  cases hl with
  | some i=>trivial
  | none =>
   obtain⟨o,ins,cells,_,hN⟩:=h
   have hel:=Mp (O':=fun _=>False) (fun _ _ h=>h) hN (fun _ _ _ _ _ h=>h)
   refine⟨hN.max,fun x hx=>?_⟩
   obtain⟨i,hi,rfl⟩:=List.mem_iff_getElem.1 hx
   obtain⟨es,_,_,hr⟩:=hel i _ (List.getElem?_eq_getElem hi)
   exact HE hr
 | frame tm fs=>trivial
 | loop L=>trivial
 | dfr=>trivial
theorem Rg:∀ {l:List (Nat×Obj)},PI l=true→(∀n o,lk n l=some o→uY o)→SZ l
 | [],_,_=>trivial
 | (n,o) :: r,hk,h=>by
  simp only[PI,Bool.and_eq_true,List.all_eq_true,bne_iff_ne]at hk
  refine⟨h n o (by simp[lk]),Rg hk.2 fun m x hm=>h m x ?_⟩
  simp only[lk]
  rw[if_neg (fun e=>hk.1 _ (FT hm) e)]
  exact hm
theorem gS:∀(l:List AV) (vs:List Value) (k:Nat) (V:Vw),QQQ V l vs→∀s v,lk s (BG k l)=some v→k≤s∧∃u,vs[s-k]?=some u∧B5 V v u
 | [],vs,k,V,h,s,v,hs=>by simp[BG,lk]at hs
 | x :: l,vs,k,V,h,s,v,hs=>by
  obtain⟨u,r,rfl,h1,h2⟩:=h
  simp only[BG,lk]at hs
  split at hs
  ·rename_i e
   cases hs
   subst e
   exact⟨Nat.le_refl _,u,by simp,h1⟩
  ·obtain⟨h3,u',h4,h5⟩:=gS l r (k+1) V h2 s v hs
   refine⟨by omega,u',?_,h5⟩
   rw[show s-k=(s-(k+1))+1 by omega]
   simpa using h4
theorem Hy {V:Vw}:∀ {l:List AV} {vs:List Value},QQQ V l vs→vs.length=l.length
 | [],vs,h=>by have h:vs=[]:=h;subst h;rfl
 | _ :: _,_,⟨_,_,rfl,_,h⟩=>by simp[Hy h]
def cm (P:Program) (tb:Tb) (w0:World) (K O0:Nat→Prop) (nt:Nat) (pin:List (Nat×Value)):Cx:={ P:=P,tb:=tb,w0:=w0,K:=K,O0:=O0,nt:=nt,ds:={ pin:=pin } }
theorem Y9 {P:Program} {tb:Tb} {w0:World} {K O0:Nat→Prop} {nt:Nat} {pin:List (Nat×Value)}:(cm P tb w0 K O0 nt pin).tb=tb:=rfl
def VN (objs:List (Nat×Obj)) (n:Nat):Bool :=
 match lk n objs with
 | some (.arr _ _ _)=>GF n
 | some (.nest _ _ _ _ _ _)=>GF n
 | some _=>true
 | none=>false
theorem Sa {P:Program} {tb:Tb} {w0:World} {K O0:Nat→Prop} {nt:Nat} {args:List AV} {objs:List (Nat×Obj)} {stay:List Nat} {ρ:Nat→Value} {vs:List Value} (hm:p6 K O0 objs ρ w0) (hv:QQQ (vw w0 O0 ⟨[],objs⟩ ρ) args vs) (hst:stay.all (VN objs)=true) (hnt:vs.length≤nt) :
  (cm P tb w0 K O0 nt (stay.map fun n=>(n,ρ n))).sat ⟨BG 0 args,objs⟩ { tmps:=vs.toArray++Array.replicate (nt-vs.toArray.size) undef,defers:=[] } w0:=by
 refine⟨ρ,⟨rfl,rfl,rfl,Nat.le_refl _,fun _ _=>rfl⟩,by simp[cm];omega,rfl,fun p hp=>?_,hm.obj,hm.free,hm.dist,fun s v hs=>?_⟩
 ·obtain⟨n,hn,rfl⟩:=List.mem_map.1 hp
  have:=(List.all_eq_true.1 hst) n hn
  unfold VN at this
  cases ho:lk n objs with
  | none=>rw[ho]at this;cases this
  | some o =>
   rw[ho]at this
   refine⟨⟨o,ho⟩,rfl,?_⟩
   have hob:=hm.obj n o ho
   cases o with
   | arr et e xs=>exact .inr this
   | nest et iet k e xs hl=>exact .inr this
   | box et st fs=>obtain⟨_,b,cs,he,_⟩:=hob;rw[he];exact .inl rfl
   | mapo k v l=>obtain⟨b,es,cl,he,_⟩:=hob;rw[he];exact .inl rfl
   | frame tm fs=>obtain⟨he,_⟩:=hob;rw[he];exact .inl rfl
   | loop L=>obtain⟨b,he,_⟩:=hob;rw[he];exact .inl rfl
   | dfr=>obtain⟨b,he,_⟩:=hob;rw[he];exact .inl rfl
 ·obtain⟨_,u,h1,h2⟩:=gS args vs 0 _ hv s v hs
  have h1:vs[s]?=some u:=by simpa using h1
  have hlt:s<vs.length:=(List.getElem?_eq_some_iff.1 h1).1
  have hget:(vs.toArray++Array.replicate (nt-vs.toArray.size) undef).getD s undef=u:=by
   have:vs[s]=u:=by rw[List.getElem?_eq_getElem hlt]at h1;injection h1
   simp[Array.getElem?_append,hlt,this]
  rw[hget]
  exact h2
def A4o (P:Program) (fn:Func) (w0:World) (K O0:Nat→Prop) (stay:List Nat) (ρ0:Nat→Value) (post:AV→List (Nat×Obj)→Prop):Exit→Act→World→Prop :=
 bodyPost P fn fun e w'=>∃u,e=.returned u∧OI K O0 stay w0 ρ0 post u w'
theorem CQ {P:Program} {tb:Tb} {f:FuncId} {fn:Func} {cd:Code} {nt:Nat} {args:List AV} {objs:List (Nat×Obj)} {stay:List Nat} {post:AV→List (Nat×Obj)→Prop}
  (hfn : P.funcs[f]? = some fn) (hname : (fn.name == "runtime.NumGoroutine") = false) (hbody : fn.body = some cd) (hnt : fn.ntmps = nt) (hlen : args.length ≤ nt)
  (hcode:Bz nt cd=true) (hst:stay.all (VN objs)=true) (hkeys:PI objs=true) (hT:Dp P tb) (hF:MY P tb)
  (h:∀(w0:World) (K O0:Nat→Prop) (ρ0:Nat→Value),(cm P tb w0 K O0 nt (stay.map fun n=>(n,ρ0 n))).Ok→SY args→SZ objs →
   Ev (cm P tb w0 K O0 nt (stay.map fun n=>(n,ρ0 n))) (A4o P fn w0 K O0 stay ρ0 post) (.run cd) [] ⟨BG 0 args,objs⟩):B8 P f args objs stay post:=by
 refine⟨⟨fn,hfn,hname,by simp[hbody]⟩,fun w K O0 ρ vs hK hO hm hv=>?_⟩
 refine calls_of_wp hfn hbody ((wpIn_wide (n:=0)).1 ?_)
 have hvl:=Hy hv
 rw[hnt]
 exact h w K O0 ρ ⟨hK,hO,hT,hF⟩ (Rf hv) (Rg hkeys fun n o ho=>XF (hm.obj n o ho)) hcode rfl _ _ (Sa hm hv hst (by omega))
def p7 (tb:Tb) (σ:St) (rv:ResultVar):AV→Prop
 | .p t d=>IM σ t (Iq tb σ rv)=some d
 | x=>Iq tb σ rv=some x
def PP (tb:Tb) (σ:St):List ResultVar→List AV→Prop
 | [],[]=>True
 | rv :: rvs,x :: l=>p7 tb σ rv x∧PP tb σ rvs l
 | _,_=>False
def VO:AV→Bool
 | .ag _=>false
 | .tup _=>false
 | _=>true
def VP (tb:Tb) (σ:St):List ResultVar→AV→Prop
 | [],x=>x=.raw (.tuple #[])
 | [rv],x=>p7 tb σ rv x
 | rvs,.tup l=>l.all VO=true∧PP tb σ rvs l
 | _,_=>False
section
variable {P:Program} {tb:Tb} {w0:World} {K O0:Nat→Prop} {nt:Nat} {ds:Fp} {σ:St} {ρ:Nat→Value} {a:Act} {w:World}
theorem gT (hT:Dp P tb) (hs:Bq w0 K O0 nt ds σ ρ a w) {rv:ResultVar} {x:AV} (h:p7 tb σ rv x):∃u,(It a.tmps rv).run P w=.ok u w∧B5 (vw w O0 σ ρ) x u:=by
 by_cases hp:∃t d,x=.p t d
 ·obtain⟨t,d,rfl⟩:=hp
  simp only[p7]at h
  cases hr:Iq tb σ rv with
  | none=>rw[hr]at h;simp[IM]at h
  | some v =>
   rw[hr]at h
   simp only[IM]at h
   obtain⟨u,h1,h2⟩:=Ra hT hs hr
   exact⟨u,h1,MV (V:=vw w O0 σ ρ) (O':=own O0 σ ρ) (fun b hb hb'=>hb hb') (fun h=>by cases h) hs.objs h h2⟩
 ·have h:Iq tb σ rv=some x:=by
   cases x<;>first|exact h|exact absurd ⟨_,_,rfl⟩ hp
  exact Ra hT hs h
theorem A4p {V:Vw} {x:AV} {v:Value} (hn:VO x=true) (h:B5 V x v):R7 V x v:=by
 cases x<;>first|(simp[VO]at hn;done)|exact h
theorem VQ (hT:Dp P tb) (hs:Bq w0 K O0 nt ds σ ρ a w):∀ {rvs:List ResultVar} {l:List AV},l.all VO=true→PP tb σ rvs l →
  ∃us:List Value,(rvs.mapM (It a.tmps)).run P w=.ok us w∧us.length=l.length∧Io (vw w O0 σ ρ) l us
 | [],[],_,_=>⟨[],by simp,rfl,rfl⟩
 | [],_ :: _,_,h=>h.elim
 | _ :: _,[],_,h=>h.elim
 | rv :: rvs,x :: l,hn,h=>by
  simp only[List.all_cons,Bool.and_eq_true]at hn
  obtain⟨u,h1,h2⟩:=gT hT hs h.1
  obtain⟨us,h3,h4,h5⟩:=VQ hT hs hn.2 h.2
  refine⟨u :: us,?_,by simp[h4],u,us,rfl,A4p hn.1 h2,h5⟩
  rw[List.mapM_cons]
  simp only[Sem.run_bind,h1,Result.andThen_ok,h3,Sem.run_pure]
theorem Sb {tb:Tb} {σ:St}:∀ {rvs:List ResultVar} {l:List AV},PP tb σ rvs l→rvs.length=l.length
 | [],[],_=>rfl
 | [],_ :: _,h=>h.elim
 | _ :: _,[],h=>h.elim
 | _ :: _,_ :: _,h=>by simp[Sb h.2]
theorem ZA (hT:Dp P tb) (hs:Bq w0 K O0 nt ds σ ρ a w) {fn:Func} {x:AV} (h:VP tb σ fn.results.toList x):∃u,(results fn a.tmps).run P w=.ok u w∧B5 (vw w O0 σ ρ) x u:=by
 have key:∀us:List Value,(fn.results.toList.mapM (It a.tmps)).run P w=.ok us w→(results fn a.tmps).run P w=.ok (if h:us.toArray.size=1 then us.toArray[0] else .tuple us.toArray) w:=by
  intro us h1
  rw[Mt]
  have hm:(fn.results.mapM (It a.tmps)).run P w=.ok us.toArray w:=by
   rw[Array.mapM_eq_mapM_toList]
   simp only[Sem.run_map,h1,Result.andThen_ok]
  simp only[Sem.run_bind,hm,Result.andThen_ok,Sem.run_pure]
 generalize fn.results.toList=rvs at h key
 unfold VP at h
 split at h
 ·subst h
  exact⟨_,key [] (by simp),rfl⟩
 ·rename_i rv
  obtain⟨u,h1,h2⟩:=gT hT hs h
  exact⟨_,key [u] (by simp[h1]),h2⟩
 ·rename_i l hne1 hne2
  obtain⟨us,h1,h2,h3⟩:=VQ hT hs h.1 h.2
  have h4:=Sb h.2
  refine⟨_,key us h1,?_⟩
  have:¬us.toArray.size=1:=by
   intro e
   have e:us.length=1:=by simpa using e
   rw[h2,←h4]at e
   obtain⟨z,hz⟩:=List.length_eq_one_iff.1 e
   exact hne2 z hz
  rw[dif_neg this]
  exact⟨us,rfl,h3⟩
 ·exact h.elim
end
theorem BE {P:Program} {tb:Tb} {w0:World} {K O0:Nat→Prop} {nt:Nat} {stay:List Nat} {ρ0:Nat→Value} {fn:Func} {post:AV→List (Nat×Obj)→Prop} {σ:St} {e:Exit} (hc:(cm P tb w0 K O0 nt (stay.map fun n=>(n,ρ0 n))).Ok)
  (rs:List ResultVar) (hr:fn.results.toList=rs) (he:e=.ret∨e=.normal) (res:AV) (h:VP tb σ rs res) (hp:post res σ.objs) :
  Ev (cm P tb w0 K O0 nt (stay.map fun n=>(n,ρ0 n))) (A4o P fn w0 K O0 stay ρ0 post) (.out e) [] σ:=by
 intro _ _ a w hs
 obtain⟨ρ,hs⟩:=hs
 obtain⟨u,h1,h2⟩:=ZA hc.T hs (by rw[hr];exact h)
 have hpost:OI K O0 stay w0 ρ0 post u w:=by
  refine⟨res,σ.objs,ρ,hp,hs.frm,⟨hs.objs,hs.free,hs.dist⟩,h2,fun n hn=>?_⟩
  exact(hs.pin (n,ρ0 n) (List.mem_map.2 ⟨n,hn,rfl⟩)).2.1
 rcases he with rfl|rfl
 ·exact⟨hs.defers,u,h1,u,rfl,hpost⟩
 ·exact⟨hs.defers,u,h1,u,rfl,hpost⟩
end
/- A call by a contract with memory. -/
section
open Go Go.RowKit
/-! ### The call -/
def Ct:Option AV→Option (FuncId×List Nat)
 | some (.fn f)=>some (f,[])
 | some (.clo f ns)=>some (f,ns)
 | _=>none
def Hk (σ:St):List Operand→Option (List AV)
 | []=>some []
 | x :: r=>match Av σ x,Hk σ r with
  | some v,some vs=>some (v :: vs)
  | _,_=>none
def GM (σ:St) (ren:List (Nat×Br)) (x:AV):AV→Prop
 | .p t d=>Ml false σ t x=some d
 | y=>BD ren x y
def BF (σ:St) (ren:List (Nat×Br)):List AV→List AV→Prop
 | [],[]=>True
 | x :: l,y :: r=>GM σ ren x y∧BF σ ren l r
 | _,_=>False
def Aj:List (Nat×Br)→List Nat
 | []=>[]
 | (_,.nm n) :: r=>n :: Aj r
 | (_,.nil) :: r=>Aj r
def A2R (m:Nat):Option Br→Bool
 | some (.nm m')=>m'==m
 | _=>false
def A2S (n:Nat) (f:Option Br) (m:Nat):Option Br→Bool
 | some (.nm n')=>n'==n&&A2R m f
 | _=>false
def Hz (ren ren2:List (Nat×Br)) (stay hs:List Nat):Bool:=(Aj ren).all fun n=>Aa n hs||ren.any fun p=>Aa p.1 stay&&A2S n (lk n ren2) p.1 (lk p.1 ren)
def Ez (hd:List Nat) (objs2 objs:List (Nat×Obj)):Bool:=objs2.all fun p=>Aa p.1 hd||(lk p.1 objs).isNone
def Je (dst:Option Nat) (v:AV) (env:List (Nat×AV)):List (Nat×AV) :=
 match dst with
 | some d=>(d,v) :: env
 | none=>env
def B9 (σ:St) (hd hs:List Nat) (dst:Option Nat) (res:AV) (objs2:List (Nat×Obj)):St:=⟨Je dst res (B7 hs σ.env),objs2++Au hd hs σ.objs⟩
theorem Mx {n:Nat}:∀ {l:List (Nat×Br)},n∈Aj l↔∃m,(m,Br.nm n)∈l
 | []=>by simp[Aj]
 | (m,.nm k) :: r=>by
  simp only[Aj,List.mem_cons,Mx (l:=r),Prod.mk.injEq,Br.nm.injEq]
  constructor
  ·rintro (rfl|⟨j,hj⟩)
   ·exact⟨m,.inl ⟨rfl,rfl⟩⟩
   ·exact⟨j,.inr hj⟩
  ·rintro⟨j,(⟨_,rfl⟩|hj)⟩
   ·exact .inl rfl
   ·exact .inr ⟨j,hj⟩
 | (m,.nil) :: r=>by
  simp only[Aj,List.mem_cons,Mx (l:=r),Prod.mk.injEq]
  constructor
  ·rintro⟨j,hj⟩;exact⟨j,.inr hj⟩
  ·rintro⟨j,(⟨_,h⟩|hj)⟩
   ·cases h
   ·exact⟨j,hj⟩
theorem XG {V:Vw} {σ:St} {ev:Operand→Value} (hev:Hj V σ ev):∀ {xs:List Operand} {vs:List AV},Hk σ xs=some vs→QQQ V vs (xs.map ev)
 | [],vs,h=>by simp only[Hk]at h;cases h;exact(rfl:_=_)
 | x :: r,vs,h=>by
  simp only[Hk]at h
  split at h
  ·rename_i v l h1 h2
   cases h
   exact⟨ev x,r.map ev,rfl,hev x v h1,XG hev h2⟩
  ·cases h
section
variable {V V':Vw} {ren:List (Nat×Br)} {σ:St}
theorem Sc (hV:MN ren V V') (hO:∀b,¬V.O b→¬V'.O b) (hobj:∀n o,lk n σ.objs=some o→A4 V o (V.ρ n)):∀ {l r:List AV} {vs:List Value},BF σ ren l r→QQQ V l vs→QQQ V' r vs
 | [],[],vs,_,h=>h
 | [],_ :: _,_,hm,_=>hm.elim
 | _ :: _,[],_,hm,_=>hm.elim
 | x :: l,y :: r,vs,hm,h=>by
  obtain⟨v,l',rfl,h1,h2⟩:=h
  refine⟨v,l',rfl,?_,Sc hV hO hobj hm.2 h2⟩
  have hm1:=hm.1
  by_cases hp:∃t d,y=.p t d
  ·obtain⟨t,d,rfl⟩:=hp
   have hm1:Ml false σ t x=some d:=hm1
   have:=MV (V:=V) (O':=V'.O) hO (fun h=>by cases h) hobj hm1 h1
   show Bk V'.w V'.O t v d
   rw[hV.w]
   exact this
  ·have hm1:BD ren x y:=by
    cases y<;>first|exact hm1|exact absurd ⟨_,_,rfl⟩ hp
   exact Ln hV hm1 h1
end
section
variable {c:Cx} {R:Exit→Act→World→Prop} {k:List D0} {σ:St}
theorem A0i {c:Cx} {a:Act} {dst:Option Nat} {u:Value} {s:Nat} {y:AV} {V:Vw} {env:List (Nat×AV)} {res:AV} (hsz:a.tmps.size=c.nt) (hd:∀d,dst=some d→d<c.nt) (hres:B5 V res u) (henv:∀s v,lk s env=some v→B5 V v (a.tmps.getD s undef))
  (h:lk s (Je dst res env)=some y):B5 V y ((a.put dst u).tmps.getD s undef):=by
 cases dst with
 | none=>exact henv s y h
 | some d =>
  rw[Lg a d u s (by rw[hsz];exact hd d rfl)]
  simp only[Je,lk]at h
  split at h
  ·rename_i e;cases h;rw[if_pos e];exact hres
  ·rename_i e;rw[if_neg e];exact henv s y h
theorem PQ (hc:c.Ok) {dst:Option Nat} {ρ:Nat→Value} {a:Act} {w:World} (hsr:Bq c.w0 c.K c.O0 c.nt c.ds σ ρ a w) {as:List AV} {vs:List Value} (hall:QQQ (vw w c.O0 σ ρ) as vs)
  {A:List AV} {objs:List (Nat×Obj)} (stay:List Nat) (post:AV→List (Nat×Obj)→Prop)
  (ren:List (Nat×Br)) (h1:Bv ren=true) (h2:CG objs ren=true) (hA:BF σ ren as A) (hO:Ae σ.objs ren objs)
  (hs:List Nat) (hpin:(c.ds.pin.all fun p=>!Aa p.1 hs)=true) {next:Act→World→Prop} (hd:∀d,dst=some d→d<c.nt)
  (hk:∀res objs',post res objs'→∃(ren2:List (Nat×Br)) (res2:AV) (objs2:List (Nat×Obj)),Bv ren2=true∧CG objs2 ren2=true∧Ae objs' ren2 objs2∧BD ren2 res res2 ∧
   Hz ren ren2 stay hs=true∧Ez (Aj ren) objs2 σ.objs=true∧∀a' w',c.sat (B9 σ (Aj ren) hs dst res2 objs2) a' w'→next a' w') :
  ∃(Kc O0c:Nat→Prop) (ρc:Nat→Value),(∀b,Kc b→b<w.heap.size)∧(∀b,O0c b→b<w.heap.size)∧p6 Kc O0c objs ρc w∧QQQ (vw w O0c ⟨[],objs⟩ ρc) A vs∧(∀m n,lk m ren=some (.nm n)→ρc m=ρ n) ∧
   ∀u w',OI Kc O0c stay w ρc post u w'→next (a.put dst u) w':=by
 let ρc:Nat→Value:=fun m=>match lk m ren with|some (.nm n)=>ρ n|_=>.slice none 0 0
 have hρc:∀m n,lk m ren=some (.nm n)→ρc m=ρ n:=fun m n hm=>by simp[ρc,hm]
 have hρnil:∀m,lk m ren=some .nil→ρc m=.slice none 0 0:=fun m hm=>by simp[ρc,hm]
 let O0c:Nat→Prop:=fun b=>c.O0 b∨∃n,GZ σ n∧n∉Aj ren∧bk (ρ n) b
 let Kc:Nat→Prop:=fun b=>b<w.heap.size∧¬ ∃m,GZ ⟨[],objs⟩ m∧bk (ρc m) b
 have src:∀m b,GZ ⟨[],objs⟩ m→bk (ρc m) b→∃n,lk m ren=some (.nm n)∧GZ σ n∧bk (ρ n) b:=by
  rintro m b ⟨o',hm⟩ hb
  have hf:=Cs hO hm
  cases hr:lk m ren with
  | none=>rw[hr]at hf;exact hf.elim
  | some fr =>
   cases fr with
   | nil=>rw[hρnil m hr]at hb;simp[bk,blk]at hb
   | nm n =>
    rw[hr]at hf
    rw[hρc m n hr]at hb
    refine⟨n,rfl,?_,hb⟩
    cases hn:lk n σ.objs with
    | none=>simp only[F2,hn,HF]at hf
    | some x=>exact⟨x,hn⟩
 have hlL:∀m fr,lk m ren=some fr→GZ ⟨[],objs⟩ m:=fun m fr hm=>by
  simp only[CG,List.all_eq_true]at h2
  exact Option.isSome_iff_exists.1 (h2 _ (FT hm))
 have hhand:∀m n,lk m ren=some (.nm n)→n∈Aj ren:=fun m n hm=>Mx.2 ⟨m,FT hm⟩
 have hVO:∀b,¬own c.O0 σ ρ b→¬own O0c ⟨[],objs⟩ ρc b:=by
  intro b hb hb'
  rcases hb' with (h0|⟨n,hn,_,hnb⟩)|⟨m,hm,hmb⟩
  ·exact hb (.inl h0)
  ·exact hb (.inr ⟨n,hn,hnb⟩)
  ·obtain⟨n,_,hn,hnb⟩:=src m b hm hmb
   exact hb (.inr ⟨n,hn,hnb⟩)
 have hV:MN ren (vw w c.O0 σ ρ) (vw w O0c ⟨[],objs⟩ ρc):=⟨rfl,hVO,hρc,hρnil,hlL⟩
 have hmem:p6 Kc O0c objs ρc w:=by
  refine⟨fun m o' hm=>PJ hV hsr.objs (Cs hO hm),fun m b hm hb=>⟨fun hK=>hK.2 ⟨m,hm,hb⟩,fun h0=>?_⟩,fun m m' b hm hm' hb hb'=>?_⟩
  ·obtain⟨n,hr,hn,hnb⟩:=src m b hm hb
   rcases h0 with h0|⟨n',hn',hnh,hnb'⟩
   ·exact(hsr.free n b hn hnb).2 h0
   ·have:=hsr.dist n n' b hn hn' hnb hnb'
    subst this
    exact hnh (hhand m n hr)
  ·obtain⟨n,hr,hn,hnb⟩:=src m b hm hb
   obtain⟨n',hr',hn',hnb'⟩:=src m' b hm' hb'
   have:=hsr.dist n n' b hn hn' hnb hnb'
   subst this
   exact Rb h1 hr hr'
 have hO0c:∀b,O0c b→b<w.heap.size:=by
  rintro b (h0|⟨n,⟨o',hn⟩,_,hnb⟩)
  ·exact Nat.lt_of_lt_of_le (hc.O b h0) hsr.frm.size
  ·exact(hsr.objs n o' hn).block_lt hnb
 refine⟨Kc,O0c,ρc,fun b hb=>hb.1,hO0c,hmem,Sc hV hVO hsr.objs hA hall,hρc,?_⟩
 rintro u w' ⟨res,objs',ρ',hpost,hfrm,hmem',hav,hstay⟩
 obtain⟨ren2,res2,objs2,g1,g2,g3,g4,g5,g6,hnext⟩:=hk res objs' hpost
 refine hnext _ _ ?_
 let ρ2:Nat→Value:=fun n=>match lk n ren2 with|some (.nm m)=>ρ' m|some .nil=>.slice none 0 0|none=>ρ n
 have h2nm:∀n m,lk n ren2=some (.nm m)→ρ2 n=ρ' m:=fun n m hn=>by simp[ρ2,hn]
 have h2nil:∀n,lk n ren2=some .nil→ρ2 n=.slice none 0 0:=fun n hn=>by simp[ρ2,hn]
 have h2no:∀n,lk n ren2=none→ρ2 n=ρ n:=fun n hn=>by simp[ρ2,hn]
 let σ2:=B9 σ (Aj ren) hs dst res2 objs2
 have hobjs2:σ2.objs=objs2++Au (Aj ren) hs σ.objs:=rfl
 have hlk2:∀n,lk n σ2.objs=(lk n objs2).or (lk n (Au (Aj ren) hs σ.objs)):=fun n=>by rw[hobjs2,Ax]
 have hdom:∀n fr,lk n ren2=some fr→∃x,lk n objs2=some x:=fun n fr hn=>by
  simp only[CG,List.all_eq_true]at g2
  exact Option.isSome_iff_exists.1 (g2 _ (FT hn))
 have hdom':∀n x,lk n objs2=some x→∃fr,lk n ren2=some fr:=fun n x hn=>by
  have hf:=Cs g3 hn
  cases hr:lk n ren2 with
  | none=>rw[hr]at hf;exact hf.elim
  | some fr=>exact⟨fr,rfl⟩
 have hfr:∀n x,lk n objs2=some x→n∈Aj ren∨lk n σ.objs=none:=fun n x hn=>by
  simp only[Ez,List.all_eq_true,Bool.or_eq_true]at g6
  rcases g6 _ (FT hn) with h|h
  ·exact .inl ((Ag _ _).1 h)
  ·exact .inr (by simpa using h)
 have hrest:∀n x,lk n (Au (Aj ren) hs σ.objs)=some x→n∉Aj ren∧lk n objs2=none∧∃y,lk n σ.objs=some y∧x=y.fgt hs:=by
  intro n x hn
  rw[Bp]at hn
  split at hn
  ·cases hn
  ·rename_i hnh
   simp only[Option.map_eq_some_iff]at hn
   obtain⟨y,hy,rfl⟩:=hn
   have hnh:n∉Aj ren:=fun h=>hnh ((Ag _ _).2 h)
   refine⟨hnh,?_,y,hy,rfl⟩
   cases hl:lk n objs2 with
   | none=>rfl
   | some z =>
    rcases hfr n z hl with h|h
    ·exact absurd h hnh
    ·rw[h]at hy;cases hy
 have hcase:∀n x,lk n σ2.objs=some x→lk n objs2=some x∨(lk n objs2=none∧lk n (Au (Aj ren) hs σ.objs)=some x):=by
  intro n x hn
  rw[hlk2]at hn
  cases hl:lk n objs2 with
  | some z=>rw[hl]at hn;exact .inl hn
  | none=>rw[hl]at hn;exact .inr ⟨rfl,by simpa using hn⟩
 have hsrc2:∀n x b,lk n objs2=some x→bk (ρ2 n) b→∃m,lk n ren2=some (.nm m)∧GZ ⟨[],objs'⟩ m∧bk (ρ' m) b:=by
  intro n x b hn hb
  have hf:=Cs g3 hn
  obtain⟨fr,hr⟩:=hdom' n x hn
  cases fr with
  | nil=>rw[h2nil n hr]at hb;simp[bk,blk]at hb
  | nm m =>
   rw[hr]at hf
   rw[h2nm n m hr]at hb
   refine⟨m,hr,?_,hb⟩
   cases hn:lk m objs' with
   | none=>simp only[F2,hn,HF]at hf
   | some z=>exact⟨z,hn⟩
 have hρ2rest:∀n,lk n objs2=none→ρ2 n=ρ n:=fun n hn=>by
  apply h2no
  cases hl:lk n ren2 with
  | none=>rfl
  | some fr=>obtain⟨x,hx⟩:=hdom n fr hl;rw[hx]at hn;cases hn
 have hV2:MN ren2 (vw w' O0c ⟨[],objs'⟩ ρ') (vw w' c.O0 σ2 ρ2):=by
  refine⟨rfl,fun b hb hb'=>?_,h2nm,h2nil,fun n fr hn=>?_⟩
  ·rcases hb' with h0|⟨n,⟨x,hn⟩,hnb⟩
   ·exact hb (.inl (.inl h0))
   ·rcases hcase n x hn with hn|⟨hno,hn⟩
    ·obtain⟨m,_,hm,hmb⟩:=hsrc2 n x b hn hnb
     exact hb (.inr ⟨m,hm,hmb⟩)
    ·obtain⟨hnh,_,y,hy,_⟩:=hrest n x hn
     rw[hρ2rest n hno]at hnb
     exact hb (.inl (.inr ⟨n,⟨y,hy⟩,hnh,hnb⟩))
  ·obtain⟨x,hx⟩:=hdom n fr hn
   exact⟨x,by rw[hlk2,hx];rfl⟩
 have hHblock:∀b,(∃m,GZ ⟨[],objs⟩ m∧bk (ρc m) b)→own c.O0 σ ρ b:=by
  rintro b ⟨m,hm,hb⟩
  obtain⟨n,_,hn,hnb⟩:=src m b hm hb
  exact .inr ⟨n,hn,hnb⟩
 have hKcO:∀b,b<w.heap.size→¬own c.O0 σ ρ b→Kc b:=fun b hlt hb=>⟨hlt,fun h=>hb (hHblock b h)⟩
 have hkeep:Ck ((vw w c.O0 σ ρ).buts hs) (vw w' c.O0 σ2 ρ2):=by
  have hL:∀n,GZ σ n→Aa n hs=false→GZ σ2 n∧ρ2 n=ρ n:=by
   intro n hn hnhs
   by_cases hh:n∈Aj ren
   ·simp only[Hz,List.all_eq_true,Bool.or_eq_true]at g5
    rcases g5 n hh with h|h
    ·rw[hnhs]at h;cases h
    ·simp only[List.any_eq_true,Bool.and_eq_true]at h
     obtain⟨⟨m,fr⟩,hp,hst,hk1⟩:=h
     simp only at hst hk1
     unfold A2S at hk1
     split at hk1
     ·rename_i n' hlm
      simp only[Bool.and_eq_true,beq_iff_eq]at hk1
      obtain⟨rfl,hk2⟩:=hk1
      unfold A2R at hk2
      split at hk2
      ·rename_i m' hl2
       have:m'=m:=by simpa using hk2
       subst this
       obtain⟨x,hx⟩:=hdom _ _ hl2
       refine⟨⟨x,by rw[hlk2,hx];rfl⟩,?_⟩
       rw[h2nm _ _ hl2,hstay m' ((Ag _ _).1 hst)]
       exact hρc _ _ hlm
      ·cases hk2
     ·cases hk1
   ·obtain⟨x,hx⟩:=hn
    have hr:lk n (Au (Aj ren) hs σ.objs)=some (x.fgt hs):=by
     rw[Bp,if_neg (fun h=>hh ((Ag _ _).1 h)),hx];rfl
    obtain⟨_,hno,_⟩:=hrest n _ hr
    exact⟨⟨_,by rw[hlk2,hno,hr];rfl⟩,hρ2rest n hno⟩
  refine⟨fun b hlt hb hb'=>?_,fun n hn=>(hL n hn.1 hn.2).1,fun n hn=>(hL n hn.1 hn.2).2,fun b hlt hb=>hfrm.block b (hKcO b hlt hb)⟩
  have hlt:b<w.heap.size:=hlt
  have hb:¬own c.O0 σ ρ b:=hb
  rcases hb' with h0|⟨n,⟨x,hn⟩,hnb⟩
  ·exact hb (.inl h0)
  ·rcases hcase n x hn with hn|⟨hno,hn⟩
   ·obtain⟨m,_,hm,hmb⟩:=hsrc2 n x b hn hnb
    exact(hmem'.free m b hm hmb).1 (hKcO b hlt hb)
   ·obtain⟨hnh,_,y,hy,_⟩:=hrest n x hn
    rw[hρ2rest n hno]at hnb
    exact hb (.inr ⟨n,⟨y,hy⟩,hnb⟩)
 have hKK:∀b,c.K b→Kc b:=fun b hb=>⟨Nat.lt_of_lt_of_le (hc.K b hb) hsr.frm.size,fun⟨m,hm,hmb⟩=>by
  obtain⟨n,_,hn,hnb⟩:=src m b hm hmb
  exact(hsr.free n b hn hnb).1 hb⟩
 refine⟨ρ2,⟨hfrm.os.trans hsr.frm.os,hfrm.tape.trans hsr.frm.tape,hfrm.output.trans hsr.frm.output,Nat.le_trans hsr.frm.size hfrm.size,fun b hb=>(hfrm.block b (hKK b hb)).trans (hsr.frm.block b hb)⟩,by rw[Nk];exact hsr.nt,by rw[JU];exact hsr.defers,fun p hp=>?_,fun n x hn=>?_,fun n b hl hb=>?_,fun n n' b hl hl' hb hb'=>?_,fun s v hsv=>?_⟩
 ·obtain⟨q1,q2,q3⟩:=hsr.pin p hp
  have q4:Aa p.1 hs=false:=by simpa using (List.all_eq_true.1 hpin) p hp
  have q5:=hkeep.ρ p.1 ⟨q1,q4⟩
  exact⟨hkeep.L p.1 ⟨q1,q4⟩,q5.trans q2,q3⟩
 ·rcases hcase n x hn with hn|⟨hno,hn⟩
  ·exact PJ hV2 hmem'.obj (Cs g3 hn)
  ·obtain⟨hnh,_,y,hy,rfl⟩:=hrest n x hn
   rw[hρ2rest n hno]
   refine W9 hkeep (fun b hb=>?_) (hsr.objs n y hy)
   refine hfrm.block b ⟨(hsr.objs n y hy).block_lt hb,fun⟨m,hm,hmb⟩=>?_⟩
   obtain⟨n',hr',hn',hnb'⟩:=src m b hm hmb
   have:=hsr.dist n n' b ⟨y,hy⟩ hn' hb hnb'
   subst this
   exact hnh (hhand m n hr')
 ·obtain⟨x,hn⟩:=hl
  rcases hcase n x hn with hn|⟨hno,hn⟩
  ·obtain⟨m,_,hm,hmb⟩:=hsrc2 n x b hn hb
   have:=hmem'.free m b hm hmb
   exact⟨fun hK=>this.1 (hKK b hK),fun h0=>this.2 (.inl h0)⟩
  ·obtain⟨hnh,_,y,hy,rfl⟩:=hrest n x hn
   rw[hρ2rest n hno]at hb
   exact hsr.free n b ⟨y,hy⟩ hb
 ·obtain⟨x,hn⟩:=hl
  obtain⟨x',hn'⟩:=hl'
  rcases hcase n x hn with hn|⟨hno,hn⟩<;>rcases hcase n' x' hn' with hn'|⟨hno',hn'⟩
  ·obtain⟨m,hr,hm,hmb⟩:=hsrc2 n x b hn hb
   obtain⟨m',hr',hm',hmb'⟩:=hsrc2 n' x' b hn' hb'
   have:=hmem'.dist m m' b hm hm' hmb hmb'
   subst this
   exact Rb g1 hr hr'
  ·exfalso
   obtain⟨m,hr,hm,hmb⟩:=hsrc2 n x b hn hb
   obtain⟨hnh,_,y,hy,rfl⟩:=hrest n' x' hn'
   rw[hρ2rest n' hno']at hb'
   exact(hmem'.free m b hm hmb).2 (.inr ⟨n',⟨y,hy⟩,hnh,hb'⟩)
  ·exfalso
   obtain⟨m,hr,hm,hmb⟩:=hsrc2 n' x' b hn' hb'
   obtain⟨hnh,_,y,hy,rfl⟩:=hrest n x hn
   rw[hρ2rest n hno]at hb
   exact(hmem'.free m b hm hmb).2 (.inr ⟨n,⟨y,hy⟩,hnh,hb⟩)
  ·obtain⟨_,_,y,hy,rfl⟩:=hrest n x hn
   obtain⟨_,_,y',hy',rfl⟩:=hrest n' x' hn'
   rw[hρ2rest n hno]at hb
   rw[hρ2rest n' hno']at hb'
   exact hsr.dist n n' b ⟨y,hy⟩ ⟨y',hy'⟩ hb hb'
 ·refine A0i (c:=c) hsr.nt hd (Ln hV2 g4 hav) (fun s v hv=>?_) hsv
  rw[EW]at hv
  simp only[Option.map_eq_some_iff]at hv
  obtain⟨y,hy,rfl⟩:=hv
  exact(RW (hsr.env s y hy)).keeps hkeep
theorem XH (hc:c.Ok) {o:Oper} {dst:Option Nat} {g:Operand} {xs:List Operand} {ts:Array TypeId} (ho:o.op=.call { callee:=.value g,args:=xs.toArray,argTypes:=ts }) (hdst:o.dst=dst)
  {f:FuncId} {capn:List Nat} (hg:Ct (Av σ g)=some (f,capn)) {as:List AV} (has:Hk σ xs=some as)
  {A:List AV} {objs:List (Nat×Obj)} {stay:List Nat} {post:AV→List (Nat×Obj)→Prop} (hM:B8 c.P f A objs stay post)
  (ren:List (Nat×Br)) (h1:Bv ren=true) (h2:CG objs ren=true) (hA:BF σ ren (as++capn.map fun n=>AV.bp n [] 0) A) (hO:Ae σ.objs ren objs)
  (hs:List Nat) (hpin:(c.ds.pin.all fun p=>!Aa p.1 hs)=true) {next:Act→World→Prop} {Q:Exit→Act→World→Prop} {a:Act} {w:World} (hsat:c.sat σ a w) (hd:∀d,dst=some d→d<c.nt)
  (hk:∀res objs',post res objs'→∃(ren2:List (Nat×Br)) (res2:AV) (objs2:List (Nat×Obj)),Bv ren2=true∧CG objs2 ren2=true∧Ae objs' ren2 objs2∧BD ren2 res res2 ∧
   Hz ren ren2 stay hs=true∧Ez (Aj ren) objs2 σ.objs=true∧∀a' w',c.sat (B9 σ (Aj ren) hs dst res2 objs2) a' w'→next a' w'):o.wpIn (FR c.r) 0 c.P a w next Q:=by
 obtain⟨ρ,hsr⟩:=hsat
 have hev:Hj (vw w c.O0 σ ρ) σ a.eval:=F1 hsr.env
 obtain⟨⟨fn,hfn,hname,hbody⟩,hM⟩:=hM
 obtain⟨caps,hge,hcaps⟩:∃caps:List Value,a.eval g=.func (.func f) #[] caps.toArray∧QQQ (vw w c.O0 σ ρ) (capn.map fun n=>AV.bp n [] 0) caps:=by
  cases hgv:Av σ g with
  | none=>rw[hgv]at hg;simp[Ct]at hg
  | some gv =>
   rw[hgv]at hg
   have hgr:=hev g gv hgv
   cases gv<;>simp only[Ct]at hg<;>try(cases hg;done)
   ·cases hg
    exact⟨[],hgr,rfl⟩
   ·rename_i f' ns
    cases hg
    refine⟨capn.map ρ,hgr.1,?_⟩
    have h0:∀l:List Nat,(∀n∈l,n∈capn)→QQQ (vw w c.O0 σ ρ) (l.map fun n=>AV.bp n [] 0) (l.map ρ):=by
     intro l
     induction l with
     | nil=>intro _;exact rfl
     | cons n r ih =>
      intro hl
      obtain⟨g1,b,g2⟩:=hgr.2 n (hl n (by simp))
      have g2:ρ n=_:=g2
      exact⟨ρ n,r.map ρ,rfl,⟨g1,b,g2,g2⟩,ih fun x hx=>hl x (by simp[hx])⟩
    exact h0 capn fun _ h=>h
 have hargs:=XG hev has
 have happ:∀ {l r:List AV} {us vs:List Value},QQQ (vw w c.O0 σ ρ) l us→QQQ (vw w c.O0 σ ρ) r vs→QQQ (vw w c.O0 σ ρ) (l++r) (us++vs):=by
  intro l
  induction l with
  | nil=>intro r us vs hu hv;have hu:us=[]:=hu;subst hu;exact hv
  | cons x l ih =>
   intro r us vs hu hv
   obtain⟨v,us',rfl,g1,g2⟩:=hu
   exact⟨v,us'++vs,rfl,g1,ih g2 hv⟩
 have hall:=happ hargs hcaps
 have hrun:(execOp a.eval o).run c.P w=.ok (.enter f (xs.map a.eval++caps).toArray) w:=by
  have g1 : ¬ fn.name = "runtime.NumGoroutine" := by simpa using hname
  have g2:¬fn.body=none:=by intro e;simp[e]at hbody
  simp[execOp,ho,resolve,Deferred.ofValue,hge,invoke,callFunc,hfn,g1,g2]
 obtain⟨Kc,O0c,ρc,hK1,hO1,hmem,hav,_,hpost⟩:=PQ hc hsr hall stay post ren h1 h2 hA hO hs hpin hd hk
 have hcall:=hM w Kc O0c ρc (xs.map a.eval++caps) hK1 hO1 hmem hav
 refine⟨fun _ _=>trivial,?_⟩
 rw[GJ _ _ _ (fun cl e=>by rw[ho]at e;cases e),hrun,Oper.uponIn_enter]
 refine⟨fun h=>(by simp[FR]at h),Ms (hcall.mono fun e w' hh=>?_)⟩
 obtain⟨u,rfl,hh⟩:=hh
 rw[hdst]
 exact hpost u w' hh
theorem uZ (hc:c.Ok) {ops:Array Oper} {rest:List Oper} {dst:Option Nat} {g:Operand} {xs:List Operand} {ts:Array TypeId} {ty:TypeId} {pos:String} {after:Array Edge}
  {f:FuncId} {capn:List Nat} (hg:Ct (Av σ g)=some (f,capn)) {as:List AV} (has:Hk σ xs=some as)
  {A:List AV} {objs:List (Nat×Obj)} {stay:List Nat} {post:AV→List (Nat×Obj)→Prop} (hM:B8 c.P f A objs stay post)
  (ren:List (Nat×Br)) (hs:List Nat) (h1:Bv ren=true) (h2:CG objs ren=true) (hpin:(c.ds.pin.all fun p=>!Aa p.1 hs)=true) (hA:BF σ ren (as++capn.map fun n=>AV.bp n [] 0) A) (hO:Ae σ.objs ren objs)
  (hk:∀res objs',post res objs'→∃(ren2:List (Nat×Br)) (res2:AV) (objs2:List (Nat×Obj)),Bv ren2=true∧CG objs2 ren2=true∧Ae objs' ren2 objs2∧BD ren2 res res2 ∧
   Hz ren ren2 stay hs=true∧Ez (Aj ren) objs2 σ.objs=true∧NY c R k ops rest (B9 σ (Aj ren) hs dst res2 objs2)) :
  NY c R k ops (⟨dst,.call ⟨.value g,xs.toArray,ts⟩,ty,pos,after,none⟩ :: rest) σ:=by
 intro hd hko a w hsat
 unfold wpListIn
 rw[if_pos (by simp[Region.wanted])]
 refine XH hc (xs:=xs) (ts:=ts) rfl rfl hg has hM ren h1 h2 hA hO hs hpin hsat (Cb (hd _ (by simp))) fun res objs' hp=>?_
 obtain⟨ren2,res2,objs2,g1,g2,g3,g4,g5,g6,hE⟩:=hk res objs' hp
 exact⟨ren2,res2,objs2,g1,g2,g3,g4,g5,g6,fun a' w' hs'=>hE (fun o ho=>hd o (by simp[ho])) hko a' w' hs'⟩
end
end
/- Slots that are read no more are dropped behind each region. -/
section
open Go Go.RowKit
def XI (s:Nat):List Nat→List Nat
 | []=>[]
 | k :: r=>if s=k then r else k :: XI s r
def HJ:List Nat→List (Nat×AV)→List (Nat×AV)
 | _,[]=>[]
 | [],_ :: _=>[]
 | k :: lv,(s,v) :: r=>if Aa s (k :: lv)=true then (s,v) :: HJ (XI s (k :: lv)) r else HJ (k :: lv) r
def Db (lv:List Nat):Cj→Cj
 | some (vc,σ)=>some (vc,⟨HJ lv σ.env,σ.objs⟩)
 | none=>none
theorem VR {s t:Nat}:∀ {lv:List Nat},Aa s lv=false→Aa s (XI t lv)=false
 | [],h=>h
 | k :: r,h=>by
  simp only[Aa]at h
  split at h
  ·cases h
  ·rename_i hne
   simp only[XI]
   split
   ·exact h
   ·simp only[Aa,if_neg hne]
    exact VR h
theorem IP {s:Nat}:∀ {env:List (Nat×AV)} {lv:List Nat},Aa s lv=false→lk s (HJ lv env)=none
 | [],lv,_=>by cases lv<;>rfl
 | (j,v) :: r,[],_=>rfl
 | (j,v) :: r,k :: lv,h=>by
  simp only[HJ]
  split
  ·rename_i hj
   simp only[lk]
   rw[if_neg (fun e=>by subst e;rw[h]at hj;cases hj)]
   exact IP (VR h)
  ·exact IP h
theorem Sd {s:Nat} {x:AV}:∀ {env:List (Nat×AV)} {lv:List Nat},lk s (HJ lv env)=some x→lk s env=some x
 | [],lv,h=>by cases lv<;>simp[HJ,lk]at h
 | (j,v) :: r,[],h=>by simp[HJ,lk]at h
 | (j,v) :: r,k :: lv,h=>by
  simp only[HJ]at h
  split at h
  ·simp only[lk]at h ⊢
   split at h
   ·rename_i e;rw[if_pos e];exact h
   ·rename_i e;rw[if_neg e];exact Sd h
  ·rename_i hj
   by_cases e:s=j
   ·subst e
    rw[IP (by simpa using hj)]at h
    cases h
   ·simp only[lk,if_neg e]
    exact Sd h
theorem HK {lv:List Nat} {r:Cj} {vc:Prop} {σ':St} (h:Db lv r=some (vc,σ')):∃σ1,r=some (vc,σ1)∧∀c:Cx,Ent c σ1 σ':=by
 cases r with
 | none=>cases h
 | some p =>
  obtain⟨vc1,σ1⟩:=p
  simp only[Db]at h
  cases h
  exact⟨σ1,rfl,fun c a w hs=>Rd (σ':=⟨HJ lv σ1.env,σ1.objs⟩) (fun s v hv=>Sd hv) (fun _=>rfl) hs⟩
section
variable {c:Cx} {R:Exit→Act→World→Prop} {k:List D0} {σ σ':St}
theorem p8 (lv:List Nat) (hm:c.P.follows .mixedOrders=true) (hc:c.Ok) {id:Nat} {l:List Oper} (hchk:OA l l.length=true) {vc:Prop}
  (h:Db lv (Kl c.tb l false σ.objs [] l 0 [] [] σ)=some (vc,σ')) (hvc:vc) (hk:Ev c R (.out .normal) k σ'):Ev c R (.run (.region id l.toArray true)) k σ:=by
 obtain⟨σ1,h1,h2⟩:=HK h
 exact uW hm hc hchk h1 hvc (hk.ent (h2 c))
theorem p9 (lv:List Nat) (m:Nat) (hm:c.P.follows .mixedOrders=true) (hc:c.Ok) {id:Nat} {l:List Oper} (hchk:OA l (l.take (l.length-m)).length=true) {vc:Prop}
  (h:Db lv (Kl c.tb l false σ.objs (l.drop (l.length-m)) (l.take (l.length-m)) 0 [] [] σ)=some (vc,σ')) (hvc:vc) (hk:Ev c R (.out .normal) k σ'):Ev c R (.run (.region id l.toArray true)) k σ:=by
 obtain⟨σ1,h1,h2⟩:=HK h
 exact uX m hm hc hchk h1 hvc (hk.ent (h2 c))
theorem ZB (lv:List Nat) (hc:c.Ok) {id:Nat} {l:List Oper} (hchk:pY l l.length=true) {vc:Prop}
  (h:Db lv (Kl c.tb l true σ.objs [] l 0 [] [] σ)=some (vc,σ')) (hvc:vc) (hk:Ev c R (.out .normal) k σ'):Ev c R (.run (.region id l.toArray false)) k σ:=by
 obtain⟨σ1,h1,h2⟩:=HK h
 exact dA hc hchk h1 hvc (hk.ent (h2 c))
theorem Ko (lv:List Nat) (hc:c.Ok) {id:Nat} {l:List Oper} (h0:(l.all fun o=>o.guard.isNone)=true) {vc:Prop} (h:Db lv (Bi c.tb l l σ)=some (vc,σ')) (hvc:vc) (hk:Ev c R (.out .normal) k σ') :
  Ev c R (.run (.region id l.toArray false)) k σ:=by
 obtain⟨σ1,h1,h2⟩:=HK h
 exact dB hc h0 h1 hvc (hk.ent (h2 c))
theorem GN (lv:List Nat) (hc:c.Ok) {ops:List Oper} {l:List Oper} {vc:Prop} (h:Db lv (Bi c.tb ops l σ)=some (vc,σ')) (hvc:vc) (hk:Ev c R (.out .normal) k σ'):NY c R k ops.toArray l σ:=by
 obtain⟨σ1,h1,h2⟩:=HK h
 exact XE hc (by simpa using h1) hvc (hk.ent (h2 c))
theorem u3 (hc:c.Ok) {id:Nat} {l:List Oper} (n:Nat) (h0:(l.all fun o=>o.guard.isNone)=true) {vc:Prop} (h:Bi c.tb l (l.take n) σ=some (vc,σ')) (hvc:vc) (hk:NY c R k l.toArray (l.drop n) σ') :
  Ev c R (.run (.region id l.toArray false)) k σ:=by
 intro h1 h2 a w hs
 simp only[Hv,Bz,List.all_eq_true]at h1
 exact wpIn_region_list (Re hc n (by simpa using h) hvc hk (fun o ho=>h1 o ho) h2 a w hs)
theorem Dc {ops:Array Oper} (h:Ev c R (.out .normal) k σ):NY c R k ops [] σ:=A0h h
end
end
/- (Once the executor's equations were made here; Fw43 does it now.) -/
section
end
end Go.Proofs.YtebfihindnhccaaGreat.Fw
