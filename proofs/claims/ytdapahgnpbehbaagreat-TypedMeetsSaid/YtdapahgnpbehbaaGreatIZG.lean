/- Contracts over memory; the frame rule of a call. -/
import Derived.Test.YtdapahgnpbehbaaGreatIZF
set_option linter.unusedVariables false
set_option linter.unusedSimpArgs false
namespace Go.Proofs.YtdapahgnpbehbaaGreat.Fw
section
open Go Go.RowKit
structure kT (K O0:Nat→Prop) (objs:List (Nat×Obj)) (ρ:Nat→Value) (w:World):Prop where
 obj:∀n o,lk n objs=some o→A3 (vw w O0 ⟨[],objs⟩ ρ) o (ρ n)
 free:∀n b,Gn ⟨[],objs⟩ n→bk (ρ n) b→¬K b∧¬O0 b
 dist:∀n m b,Gn ⟨[],objs⟩ n→Gn ⟨[],objs⟩ m→bk (ρ n) b→bk (ρ m) b→n=m
def I1 (V:Vw):List AV→List Value→Prop
 | [],a=>a=[]
 | x :: r,a=>∃(v:Value) (l:List Value),a=v :: l∧B0 V x v∧I1 V r l
def Pd (K O0:Nat→Prop) (stay:List Nat) (w:World) (ρ:Nat→Value) (post:AV→List (Nat×Obj)→Prop) (u:Value) (w':World):Prop :=
 ∃(res:AV) (a:List (Nat×Obj)) (ρ':Nat→Value),post res a∧Frm K w w'∧kT K O0 a ρ' w'∧B0 (vw w' O0 ⟨[],a⟩ ρ') res u∧∀n∈stay,ρ' n=ρ n
def BB (P:Program) (f:FuncId) (args:List AV) (objs:List (Nat×Obj)) (stay:List Nat) (post:AV→List (Nat×Obj)→Prop):Prop :=
 (∃ fn : Func, P.funcs[f]? = some fn ∧ (fn.name == "runtime.NumGoroutine") = false ∧ fn.body.isNone = false) ∧
 ∀(w:World) (K O0:Nat→Prop) (ρ:Nat→Value) (a:List Value),(∀b,K b→b<w.heap.size)→(∀b,O0 b→b<w.heap.size)→kT K O0 objs ρ w→I1 (vw w O0 ⟨[],objs⟩ ρ) args a →
  Calls P f a.toArray w fun e w'=>∃u,e=.returned u∧Pd K O0 stay w ρ post u w'
def Ak:Nat→List AV→List (Nat×AV)
 | _,[]=>[]
 | s,x :: r=>(s,x) :: Ak (s+1) r
def A63:AV→Prop
 | .p t d=>t.ok d
 | _=>True
def Pe:List AV→Prop
 | []=>True
 | x :: r=>A63 x∧Pe r
def xF:Obj→Prop
 | .arr _ e xs=>(Ty.slice e).ok xs
 | .box _ _ fs=>Pe fs
 | .mapo k v l=>∀x∈l,k.ok x.1∧v.ok x.2
 | .nest _ _ k e xs none=>(Ty.slice (.agg (.prod k (.slice e)))).ok xs
 | _=>True
def OJ:List (Nat×Obj)→Prop
 | []=>True
 | x :: r=>xF x.2∧OJ r
theorem A4V {V:Vw} {x:AV} {v:Value} (h:B0 V x v):A63 x:=by
 cases x<;>try trivial
 obtain⟨cs,a,_⟩:=h;exact IL a
theorem S2 {V:Vw}:∀ {l:List AV} {b:List Value},I1 V l b→Pe l
 | [],_,_=>trivial
 | _ :: _,_,⟨_,_,_,h1,a⟩=>⟨A4V h1,S2 a⟩
theorem o9 {V:Vw}:∀ {l:List AV} {cs:List Value},DX V l cs→Pe l
 | [],_,_=>trivial
 | x :: _,_,⟨c1,c2,_,h1,a⟩=>⟨by
   cases x<;>try trivial
   exact IL (h1:Bo _ _ _ _ _),o9 a⟩
theorem pA {w:World} {O:Nat→Prop} {k v:Ty}:∀ {b:List MapEntry} {l:List (k.den×v.den)},J8 w O k v b l→∀x∈l,k.ok x.1∧v.ok x.2
 | [],[],_,x,a=>by cases a
 | [],_ :: _,h,_,_=>h.elim
 | _ :: _,[],h,_,_=>h.elim
 | e :: b,y :: l,⟨⟨_,h1,_⟩,⟨_,c,_⟩,d⟩,x,a=>by
  rcases By.1 a with rfl|a
  ·exact⟨IL h1,IL c⟩
  ·exact pA d x a
theorem Yc {V:Vw} {o:Obj} {loc:Value} (h:A3 V o loc):xF o:=by
 cases o with
 | arr et e xs =>
  obtain⟨n,cells,_,c⟩:=h;refine⟨n,fun x f=>?_⟩;obtain⟨i,hi,rfl⟩:=AAg.1 f;obtain⟨g,_,_,d⟩:=c i _ (An hi);exact IL d
 | box et st fs=>obtain⟨_,b,cs,_,_,a⟩:=h;exact o9 a
 | mapo k v l=>obtain⟨b,g,cl,_,_,a,_⟩:=h;exact pA a
 | nest et q k e xs m =>
  cases m with
  | some i=>trivial
  | none =>
   obtain⟨o,ins,cells,_,j⟩:=h;have c:=OA (O':=fun _=>False) (fun _ _ h=>h) j (fun _ _ _ _ _ h=>h);refine⟨j.max,fun x f=>?_⟩;obtain⟨i,hi,rfl⟩:=AAg.1 f;obtain⟨g,_,_,d⟩:=c i _ (An hi);exact IL d
 | frame w fs=>trivial
 | loop L=>trivial
 | itr r u s t p=>trivial
 | dfr=>trivial
theorem S3:∀ {l:List (Nat×Obj)},L1 l=true→(∀n o,lk n l=some o→xF o)→OJ l
 | [],_,_=>trivial
 | (n,o) :: r,hk,h=>by
  simp only[L1,AT,GO,ABY]at hk;refine⟨h n o (by simp[lk]),S3 hk.2 fun m x a=>h m x ?_⟩;simp only[lk];rw[As (fun e=>hk.1 _ (F2 a) e)];exact a
theorem pB:∀(l:List AV) (a:List Value) (k:Nat) (V:Vw),I1 V l a→∀s v,lk s (Ak k l)=some v→k≤s∧∃u,a[s-k]?=some u∧B0 V v u
 | [],a,k,V,h,s,v,hs=>by simp[Ak,lk]at hs
 | x :: l,a,k,V,h,s,v,hs=>by
  obtain⟨u,r,rfl,h1,b⟩:=h;simp only[Ak,lk]at hs;split at hs
  ·rename_i e;cases hs;subst e;exact⟨No _,u,by simp,h1⟩
  ·obtain⟨g,f,c,d⟩:=pB l r (k+1) V b s v hs;refine⟨by omega,f,?_,d⟩;rw[show s-k=(s-(k+1))+1 by omega];simpa using c
theorem JG {V:Vw}:∀ {l:List AV} {a:List Value},I1 V l a→a.length=l.length
 | [],a,h=>by have h:a=[]:=h;subst h;rfl
 | _ :: _,_,⟨_,_,rfl,_,h⟩=>by simp[JG h]
def cm (P:Program) (tb:Tb) (w0:World) (K O0:Nat→Prop) (nt:Nat) (pin:List (Nat×Value)):Cx:={ P:=P,tb:=tb,w0:=w0,K:=K,O0:=O0,nt:=nt,ds:={ pin:=pin } }
theorem Wu {P:Program} {tb:Tb} {w0:World} {K O0:Nat→Prop} {nt:Nat} {pin:List (Nat×Value)}:(cm P tb w0 K O0 nt pin).tb=tb:=rfl
def SA (objs:List (Nat×Obj)) (n:Nat):Bool :=
 match lk n objs with
 | some (.arr _ _ _)=>GS n
 | some (.nest _ _ _ _ _ _)=>GS n
 | some _=>true
 | none=>false
theorem Tt {P:Program} {tb:Tb} {w0:World} {K O0:Nat→Prop} {nt:Nat} {args:List AV} {objs:List (Nat×Obj)} {stay:List Nat} {ρ:Nat→Value} {c:List Value} (f:kT K O0 objs ρ w0) (q:I1 (vw w0 O0 ⟨[],objs⟩ ρ) args c) (m:stay.all (SA objs)=true) (w:c.length≤nt) :
  (cm P tb w0 K O0 nt (stay.map fun n=>(n,ρ n))).sat ⟨Ak 0 args,objs⟩ { tmps:=c.toArray++Array.replicate (nt-c.toArray.size) undef,defers:=[] } w0:=by
 refine⟨ρ,⟨rfl,rfl,rfl,No _,fun _ _=>rfl⟩,by simp[cm];omega,rfl,fun p hp=>?_,f.obj,f.free,f.dist,fun s v hs=>?_⟩
 ·obtain⟨n,hn,rfl⟩:=IS.1 hp;have:=(GO.1 m) n hn;unfold SA at this;cases g:lk n objs with
  | none=>rw[g]at this;cases this
  | some o =>
   rw[g]at this;refine⟨⟨o,g⟩,rfl,?_⟩;have d:=f.obj n o g;cases o with
   | arr et e xs=>exact .inr this
   | nest et y k e xs t=>exact .inr this
   | box et st fs=>obtain⟨_,b,cs,a,_⟩:=d;rw[a];exact .inl rfl
   | mapo k v l=>obtain⟨b,r,cl,a,_⟩:=d;rw[a];exact .inl rfl
   | frame D fs=>obtain⟨a,_⟩:=d;rw[a];exact .inl rfl
   | loop L=>obtain⟨b,a,_⟩:=d;rw[a];exact .inl rfl
   | itr z C A B x=>obtain⟨b,a,_⟩:=d;rw[a];exact .inl rfl
   | dfr=>obtain⟨b,a,_⟩:=d;rw[a];exact .inl rfl
 ·obtain⟨_,u,h1,i⟩:=pB args c 0 _ q s v hs;have h1:c[s]?=some u:=by simpa using h1
  have h:s<c.length:=(Ro.1 h1).1;have j:(c.toArray++Array.replicate (nt-c.toArray.size) undef).getD s undef=u:=by
   have:c[s]=u:=by rw[An h]at h1;injection h1
   simp[Array.getElem?_append,h,this]
  rw[j];exact i
def A2U (P:Program) (fn:Func) (w0:World) (K O0:Nat→Prop) (stay:List Nat) (ρ0:Nat→Value) (post:AV→List (Nat×Obj)→Prop):Exit→Act→World→Prop :=
 bodyPost P fn fun e w'=>∃u,e=.returned u∧Pd K O0 stay w0 ρ0 post u w'
theorem A4W {P:Program} {tb:Tb} {f:FuncId} {fn:Func} {cd:Code} {nt:Nat} {args:List AV} {objs:List (Nat×Obj)} {stay:List Nat} {post:AV→List (Nat×Obj)→Prop}
  (c : P.funcs[f]? = some fn) (k : (fn.name == "runtime.NumGoroutine") = false) (b : fn.body = some cd) (l : fn.ntmps = nt) (q : args.length ≤ nt)
  (i:Bh nt cd=true) (p:stay.all (SA objs)=true) (j:L1 objs=true) (hT:DF P tb) (hF:I8 P tb)
  (h:∀(w0:World) (K O0:Nat→Prop) (ρ0:Nat→Value),(cm P tb w0 K O0 nt (stay.map fun n=>(n,ρ0 n))).Ok→Pe args→OJ objs →
   Ev (cm P tb w0 K O0 nt (stay.map fun n=>(n,ρ0 n))) (A2U P fn w0 K O0 stay ρ0 post) (.run cd) [] ⟨Ak 0 args,objs⟩):BB P f args objs stay post:=by
 refine⟨⟨fn,c,k,by simp[b]⟩,fun w K O0 ρ s e g d a=>?_⟩;refine calls_of_wp c b ((wpIn_wide (n:=0)).1 ?_);have r:=JG a;rw[l];exact h w K O0 ρ ⟨e,g,hT,hF⟩ (S2 a) (S3 j fun n o m=>Yc (d.obj n o m)) i rfl _ _ (Tt d a p (by omega))
def sS (tb:Tb) (σ:St) (rv:ResultVar):AV→Prop
 | .p t d=>Jn σ t (IK tb σ rv)=some d
 | x=>IK tb σ rv=some x
def Q2 (tb:Tb) (σ:St):List ResultVar→List AV→Prop
 | [],[]=>True
 | rv :: a,x :: l=>sS tb σ rv x∧Q2 tb σ a l
 | _,_=>False
def Wv:AV→Bool
 | .tup _=>false
 | _=>true
def Tu (tb:Tb) (σ:St):List ResultVar→AV→Prop
 | [],x=>x=.raw (.tuple #[])
 | [rv],x=>sS tb σ rv x
 | a,.tup l=>l.all Wv=true∧Q2 tb σ a l
 | _,_=>False
section
variable {P:Program} {tb:Tb} {w0:World} {K O0:Nat→Prop} {nt:Nat} {ds:Fp} {σ:St} {ρ:Nat→Value} {a:Act} {w:World}
theorem pC (hT:DF P tb) (hs:Bm w0 K O0 nt ds σ ρ a w) {rv:ResultVar} {x:AV} (h:sS tb σ rv x):∃u,(KD a.tmps rv).run P w=.ok u w∧B0 (vw w O0 σ ρ) x u:=by
 by_cases hp:∃t d,x=.p t d
 ·obtain⟨t,d,rfl⟩:=hp;simp only[sS]at h;cases c:IK tb σ rv with
  | none=>rw[c]at h;simp[Jn]at h
  | some v =>
   rw[c]at h;simp only[Jn]at h;obtain⟨u,h1,e⟩:=Sx hT hs c;exact⟨u,h1,KA (V:=vw w O0 σ ρ) (O':=own O0 σ ρ) (fun b f g=>f g) (fun h=>by cases h) hs.objs h e⟩
 ·have h:IK tb σ rv=some x:=by
   cases x<;>first|exact h|exact absurd ⟨_,_,rfl⟩ hp
  exact Sx hT hs h
theorem A64 {V:Vw} {x:AV} {v:Value} (hn:Wv x=true) (h:B0 V x v):Rr V x v:=by
 cases x<;>first|(simp[Wv]at hn;done)|exact h
theorem Ww (hT:DF P tb) (hs:Bm w0 K O0 nt ds σ ρ a w):∀ {c:List ResultVar} {l:List AV},l.all Wv=true→Q2 tb σ c l →
  ∃b:List Value,(c.mapM (KD a.tmps)).run P w=.ok b w∧b.length=l.length∧J7 (vw w O0 σ ρ) l b
 | [],[],_,_=>⟨[],by simp,rfl,rfl⟩
 | [],_ :: _,_,h=>h.elim
 | _ :: _,[],_,h=>h.elim
 | rv :: c,x :: l,hn,h=>by
  simp only[AB4,AT]at hn;obtain⟨u,h1,d⟩:=pC hT hs h.1;obtain⟨b,e,f,g⟩:=Ww hT hs hn.2 h.2;refine⟨u :: b,?_,by simp[f],u,b,rfl,A64 hn.1 d,g⟩;rw[List.mapM_cons];simp only[AAK,h1,AAb,e,AB9]
theorem Tv {tb:Tb} {σ:St}:∀ {a:List ResultVar} {l:List AV},Q2 tb σ a l→a.length=l.length
 | [],[],_=>rfl
 | [],_ :: _,h=>h.elim
 | _ :: _,[],h=>h.elim
 | _ :: _,_ :: _,h=>by simp[Tv h.2]
theorem aH (hT:DF P tb) (hs:Bm w0 K O0 nt ds σ ρ a w) {fn:Func} {x:AV} (h:Tu tb σ fn.results.toList x):∃u,(results fn a.tmps).run P w=.ok u w∧B0 (vw w O0 σ ρ) x u:=by
 have key:∀b:List Value,(fn.results.toList.mapM (KD a.tmps)).run P w=.ok b w→(results fn a.tmps).run P w=.ok (if h:b.toArray.size=1 then b.toArray[0] else .tuple b.toArray) w:=by
  intro b h1;rw[OD];have g:(fn.results.mapM (KD a.tmps)).run P w=.ok b.toArray w:=by
   rw[ABt];simp only[Sem.run_map,h1,AAb]
  simp only[AAK,g,AAb,AB9]
 generalize fn.results.toList=m at h key;unfold Tu at h;split at h
 ·subst h;exact⟨_,key [] (by simp),rfl⟩
 ·rename_i rv;obtain⟨u,h1,c⟩:=pC hT hs h;exact⟨_,key [u] (by simp[h1]),c⟩
 ·rename_i l k i;obtain⟨b,h1,c,d⟩:=Ww hT hs h.1 h.2;have f:=Tv h.2;refine⟨_,key b h1,?_⟩;have:¬b.toArray.size=1:=by
   intro e;have e:b.length=1:=by simpa using e
   rw[c,←f]at e;obtain⟨z,j⟩:=AAV.1 e;exact i z j
  rw[dif_neg this];exact⟨b,rfl,d⟩
 ·exact h.elim
end
theorem A2V {P:Program} {tb:Tb} {w0:World} {K O0:Nat→Prop} {nt:Nat} {stay:List Nat} {ρ0:Nat→Value} {fn:Func} {post:AV→List (Nat×Obj)→Prop} {σ:St} {e:Exit} (f:(cm P tb w0 K O0 nt (stay.map fun n=>(n,ρ0 n))).Ok)
  (c:List ResultVar) (i:fn.results.toList=c) (g:e=.ret∨e=.normal) (res:AV) (h:Tu tb σ c res) (hp:post res σ.objs) :
  Ev (cm P tb w0 K O0 nt (stay.map fun n=>(n,ρ0 n))) (A2U P fn w0 K O0 stay ρ0 post) (.out e) [] σ:=by
 intro _ _ a w hs;obtain⟨ρ,hs⟩:=hs;obtain⟨u,h1,d⟩:=aH f.T hs (by rw[i];exact h);have b:Pd K O0 stay w0 ρ0 post u w:=by
  refine⟨res,σ.objs,ρ,hp,hs.frm,⟨hs.objs,hs.free,hs.dist⟩,d,fun n hn=>?_⟩;exact(hs.pin (n,ρ0 n) (IS.2 ⟨n,hn,rfl⟩)).2.1
 rcases g with rfl|rfl
 ·exact⟨hs.defers,u,h1,u,rfl,b⟩
 ·exact⟨hs.defers,u,h1,u,rfl,b⟩
end
section
open Go Go.RowKit
def Cp:Option AV→Option (FuncId×List Nat)
 | some (.fn f)=>some (f,[])
 | some (.clo f ns)=>some (f,ns)
 | _=>none
def IP (σ:St):List Operand→Option (List AV)
 | []=>some []
 | x :: r=>match Ah σ x,IP σ r with
  | some v,some a=>some (v :: a)
  | _,_=>none
def F5 (σ:St) (ren:List (Nat×Bw)) (x:AV):AV→Prop
 | .p t d=>Kk false σ t x=some d
 | y=>Bc ren x y
def BH (σ:St) (ren:List (Nat×Bw)):List AV→List AV→Prop
 | [],[]=>True
 | x :: l,y :: r=>F5 σ ren x y∧BH σ ren l r
 | _,_=>False
def Ag:List (Nat×Bw)→List Nat
 | []=>[]
 | (_,.nm n) :: r=>n :: Ag r
 | (_,.nil) :: r=>Ag r
def A4c (m:Nat):Option Bw→Bool
 | some (.nm a)=>a==m
 | _=>false
def A4d (n:Nat) (f:Option Bw) (m:Nat):Option Bw→Bool
 | some (.nm a)=>a==n&&A4c m f
 | _=>false
def JH (ren a:List (Nat×Bw)) (stay hs:List Nat):Bool:=(Ag ren).all fun n=>AW n hs||ren.any fun p=>AW p.1 stay&&A4d n (lk n a) p.1 (lk p.1 ren)
def FU (a:List Nat) (b objs:List (Nat×Obj)):Bool:=b.all fun p=>AW p.1 a||(lk p.1 objs).isNone
def Jp (dst:Option Nat) (v:AV) (env:List (Nat×AV)):List (Nat×AV) :=
 match dst with
 | some d=>(d,v) :: env
 | none=>env
def CE (σ:St) (a hs:List Nat) (dst:Option Nat) (res:AV) (b:List (Nat×Obj)):St:=⟨Jp dst res (BT hs σ.env),b++Af a hs σ.objs⟩
theorem OK {n:Nat}:∀ {l:List (Nat×Bw)},n∈Ag l↔∃m,(m,Bw.nm n)∈l
 | []=>by simp[Ag]
 | (m,.nm k) :: r=>by
  simp only[Ag,By,OK (l:=r),ACz,Bw.nm.injEq];constructor
  ·rintro (rfl|⟨j,a⟩)
   ·exact⟨m,.inl ⟨rfl,rfl⟩⟩
   ·exact⟨j,.inr a⟩
  ·rintro⟨j,(⟨_,rfl⟩|a)⟩
   ·exact .inl rfl
   ·exact .inr ⟨j,a⟩
 | (m,.nil) :: r=>by
  simp only[Ag,By,OK (l:=r),ACz];constructor
  ·rintro⟨j,a⟩;exact⟨j,.inr a⟩
  ·rintro⟨j,(⟨_,h⟩|a)⟩
   ·cases h
   ·exact⟨j,a⟩
theorem Yd {V:Vw} {σ:St} {ev:Operand→Value} (b:GH V σ ev):∀ {xs:List Operand} {a:List AV},IP σ xs=some a→I1 V a (xs.map ev)
 | [],a,h=>by simp only[IP]at h;cases h;exact(rfl:_=_)
 | x :: r,a,h=>by
  simp only[IP]at h;split at h
  ·rename_i v l h1 c;cases h;exact⟨ev x,r.map ev,rfl,b x v h1,Yd b c⟩
  ·cases h
section
variable {V V':Vw} {ren:List (Nat×Bw)} {σ:St}
theorem Tw (f:L2 ren V V') (g:∀b,¬V.O b→¬V'.O b) (i:∀n o,lk n σ.objs=some o→A3 V o (V.ρ n)):∀ {l r:List AV} {e:List Value},BH σ ren l r→I1 V l e→I1 V' r e
 | [],[],e,_,h=>h
 | [],_ :: _,_,a,_=>a.elim
 | _ :: _,[],_,a,_=>a.elim
 | x :: l,y :: r,e,a,h=>by
  obtain⟨v,l',rfl,h1,j⟩:=h;refine⟨v,l',rfl,?_,Tw f g i a.2 j⟩;have c:=a.1;by_cases hp:∃t d,y=.p t d
  ·obtain⟨t,d,rfl⟩:=hp;have c:Kk false σ t x=some d:=c;have:=KA (V:=V) (O':=V'.O) g (fun h=>by cases h) i c h1;show BX V'.w V'.O t v d;rw[f.w];exact this
  ·have c:Bc ren x y:=by
    cases y<;>first|exact c|exact absurd ⟨_,_,rfl⟩ hp
   exact Mw f c h1
end
section
variable {c:Cx} {R:Exit→Act→World→Prop} {k:List Df} {σ:St}
theorem pD {c:Cx} {a:Act} {dst:Option Nat} {u:Value} {s:Nat} {y:AV} {V:Vw} {env:List (Nat×AV)} {res:AV} (i:a.tmps.size=c.nt) (f:∀d,dst=some d→d<c.nt) (g:B0 V res u) (b:∀s v,lk s env=some v→B0 V v (a.tmps.getD s undef))
  (h:lk s (Jp dst res env)=some y):B0 V y ((a.put dst u).tmps.getD s undef):=by
 cases dst with
 | none=>exact b s y h
 | some d =>
  rw[Ks a d u s (by rw[i];exact f d rfl)];simp only[Jp,lk]at h;split at h
  ·rename_i e;cases h;rw[At e];exact g
  ·rename_i e;rw[As e];exact b s y h
theorem Q3 (bd:c.Ok) {dst:Option Nat} {ρ:Nat→Value} {a:Act} {w:World} (g:Bm c.w0 c.K c.O0 c.nt c.ds σ ρ a w) {as:List AV} {bm:List Value} (bt:I1 (vw w c.O0 σ ρ) as bm)
  {A:List AV} {objs:List (Nat×Obj)} (stay:List Nat) (post:AV→List (Nat×Obj)→Prop)
  (ren:List (Nat×Bw)) (h1:B8 ren=true) (au:CS objs ren=true) (bq:BH σ ren as A) (az:Ab σ.objs ren objs)
  (hs:List Nat) (ch:(c.ds.pin.all fun p=>!AW p.1 hs)=true) {next:Act→World→Prop} (bv:∀d,dst=some d→d<c.nt)
  (hk:∀res S,post res S→∃(t:List (Nat×Bw)) (ag:AV) (l:List (Nat×Obj)),B8 t=true∧CS l t=true∧Ab S t l∧Bc t res ag ∧
   JH ren t stay hs=true∧FU (Ag ren) l σ.objs=true∧∀ao w',c.sat (CE σ (Ag ren) hs dst ag l) ao w'→next ao w') :
  ∃(M G:Nat→Prop) (B:Nat→Value),(∀b,M b→b<w.heap.size)∧(∀b,G b→b<w.heap.size)∧kT M G objs B w∧I1 (vw w G ⟨[],objs⟩ B) A bm∧(∀m n,lk m ren=some (.nm n)→B m=ρ n) ∧
   ∀u w',Pd M G stay w B post u w'→next (a.put dst u) w':=by
 let B:Nat→Value:=fun m=>match lk m ren with|some (.nm n)=>ρ n|_=>.slice none 0 0
 have af:∀m n,lk m ren=some (.nm n)→B m=ρ n:=fun m n f=>by simp[B,f]
 have bi:∀m,lk m ren=some .nil→B m=.slice none 0 0:=fun m f=>by simp[B,f]
 let G:Nat→Prop:=fun b=>c.O0 b∨∃n,Gn σ n∧n∉Ag ren∧bk (ρ n) b
 let M:Nat→Prop:=fun b=>b<w.heap.size∧¬ ∃m,Gn ⟨[],objs⟩ m∧bk (B m) b
 have T:∀m b,Gn ⟨[],objs⟩ m→bk (B m) b→∃n,lk m ren=some (.nm n)∧Gn σ n∧bk (ρ n) b:=by
  rintro m b ⟨an,f⟩ e;have hf:=DP az f;cases j:lk m ren with
  | none=>rw[j]at hf;exact hf.elim
  | some fr =>
   cases fr with
   | nil=>rw[bi m j]at e;simp[bk,blk]at e
   | nm n =>
    rw[j]at hf;rw[af m n j]at e;refine⟨n,rfl,?_,e⟩;cases hn:lk n σ.objs with
    | none=>simp only[F4,hn,HJ]at hf
    | some x=>exact⟨x,hn⟩
 have ca:∀m fr,lk m ren=some fr→Gn ⟨[],objs⟩ m:=fun m fr f=>by
  simp only[CS,GO]at au;exact ABa.1 (au _ (F2 f))
 have be:∀m n,lk m ren=some (.nm n)→n∈Ag ren:=fun m n f=>OK.2 ⟨m,F2 f⟩;have bc:∀b,¬own c.O0 σ ρ b→¬own G ⟨[],objs⟩ B b:=by
  intro b e C;rcases C with (h0|⟨n,hn,_,i⟩)|⟨m,f,o⟩
  ·exact e (.inl h0)
  ·exact e (.inr ⟨n,hn,i⟩)
  ·obtain⟨n,_,hn,i⟩:=T m b f o;exact e (.inr ⟨n,hn,i⟩)
 have ba:L2 ren (vw w c.O0 σ ρ) (vw w G ⟨[],objs⟩ B):=⟨rfl,bc,af,bi,ca⟩;have cd:kT M G objs B w:=by
  refine⟨fun m an f=>Qx ba g.objs (DP az f),fun m b f e=>⟨fun aj=>aj.2 ⟨m,f,e⟩,fun h0=>?_⟩,fun m X b f al e C=>?_⟩
  ·obtain⟨n,j,hn,i⟩:=T m b f e;rcases h0 with h0|⟨r,D,q,Y⟩
   ·exact(g.free n b hn i).2 h0
   ·have:=g.dist n r b hn D i Y;subst this;exact q (be m n j)
  ·obtain⟨n,j,hn,i⟩:=T m b f e;obtain⟨r,Z,D,Y⟩:=T X b al C;have:=g.dist n r b hn D i Y;subst this;exact Sy h1 j Z
 have bs:∀b,G b→b<w.heap.size:=by
  rintro b (h0|⟨n,⟨an,hn⟩,_,i⟩)
  ·exact AAy (bd.O b h0) g.frm.size
  ·exact(g.objs n an hn).block_lt i
 refine⟨M,G,B,fun b e=>e.1,bs,cd,Tw ba bc g.objs bq bt,af,?_⟩;rintro u w' ⟨res,S,ρ',ci,N,W,bu,cj⟩;obtain⟨t,ag,l,bn,ap,ah,bo,aq,ar,ce⟩:=hk res S ci;refine ce _ _ ?_
 let F:Nat→Value:=fun n=>match lk n t with|some (.nm m)=>ρ' m|some .nil=>.slice none 0 0|none=>ρ n
 have ai:∀n m,lk n t=some (.nm m)→F n=ρ' m:=fun n m hn=>by simp[F,hn]
 have av:∀n,lk n t=some .nil→F n=.slice none 0 0:=fun n hn=>by simp[F,hn]
 have bp:∀n,lk n t=none→F n=ρ n:=fun n hn=>by simp[F,hn]
 let σ2:=CE σ (Ag ren) hs dst ag l
 have cg:σ2.objs=l++Af (Ag ren) hs σ.objs:=rfl;have ae:∀n,lk n σ2.objs=(lk n l).or (lk n (Af (Ag ren) hs σ.objs)):=fun n=>by rw[cg,A0]
 have ak:∀n fr,lk n t=some fr→∃x,lk n l=some x:=fun n fr hn=>by
  simp only[CS,GO]at ap;exact ABa.1 (ap _ (F2 hn))
 have bw:∀n x,lk n l=some x→∃fr,lk n t=some fr:=fun n x hn=>by
  have hf:=DP ah hn;cases j:lk n t with
  | none=>rw[j]at hf;exact hf.elim
  | some fr=>exact⟨fr,rfl⟩
 have bx:∀n x,lk n l=some x→n∈Ag ren∨lk n σ.objs=none:=fun n x hn=>by
  simp only[FU,GO,iS]at ar;rcases ar _ (F2 hn) with h|h
  ·exact .inl ((AY _ _).1 h)
  ·exact .inr (by simpa using h)
 have I:∀n x,lk n (Af (Ag ren) hs σ.objs)=some x→n∉Ag ren∧lk n l=none∧∃y,lk n σ.objs=some y∧x=y.fgt hs:=by
  intro n x hn;rw[BR]at hn;split at hn
  ·cases hn
  ·rename_i q;simp only[NO]at hn;obtain⟨y,k,rfl⟩:=hn;have q:n∉Ag ren:=fun h=>q ((AY _ _).2 h);refine⟨q,?_,y,k,rfl⟩;cases H:lk n l with
   | none=>rfl
   | some z =>
    rcases bx n z H with h|h
    ·exact absurd h q
    ·rw[h]at k;cases k
 have U:∀n x,lk n σ2.objs=some x→lk n l=some x∨(lk n l=none∧lk n (Af (Ag ren) hs σ.objs)=some x):=by
  intro n x hn;rw[ae]at hn;cases H:lk n l with
  | some z=>rw[H]at hn;exact .inl hn
  | none=>rw[H]at hn;exact .inr ⟨rfl,by simpa using hn⟩
 have Q:∀n x b,lk n l=some x→bk (F n) b→∃m,lk n t=some (.nm m)∧Gn ⟨[],S⟩ m∧bk (ρ' m) b:=by
  intro n x b hn e;have hf:=DP ah hn;obtain⟨fr,j⟩:=bw n x hn;cases fr with
  | nil=>rw[av n j]at e;simp[bk,blk]at e
  | nm m =>
   rw[j]at hf;rw[ai n m j]at e;refine⟨m,j,?_,e⟩;cases hn:lk m S with
   | none=>simp only[F4,hn,HJ]at hf
   | some z=>exact⟨z,hn⟩
 have J:∀n,lk n l=none→F n=ρ n:=fun n hn=>by
  apply bp;cases H:lk n t with
  | none=>rfl
  | some fr=>obtain⟨x,R⟩:=ak n fr H;rw[R]at hn;cases hn
 have bb:L2 t (vw w' G ⟨[],S⟩ ρ') (vw w' c.O0 σ2 F):=by
  refine⟨rfl,fun b e C=>?_,ai,av,fun n fr hn=>?_⟩
  ·rcases C with h0|⟨n,⟨x,hn⟩,i⟩
   ·exact e (.inl (.inl h0))
   ·rcases U n x hn with hn|⟨E,hn⟩
    ·obtain⟨m,_,f,o⟩:=Q n x b hn i;exact e (.inr ⟨m,f,o⟩)
    ·obtain⟨q,_,y,k,_⟩:=I n x hn;rw[J n E]at i;exact e (.inl (.inr ⟨n,⟨y,k⟩,q,i⟩))
  ·obtain⟨x,R⟩:=ak n fr hn;exact⟨x,by rw[ae,R];rfl⟩
 have br:∀b,(∃m,Gn ⟨[],objs⟩ m∧bk (B m) b)→own c.O0 σ ρ b:=by
  rintro b ⟨m,f,e⟩;obtain⟨n,_,hn,i⟩:=T m b f e;exact .inr ⟨n,hn,i⟩
 have ax:∀b,b<w.heap.size→¬own c.O0 σ ρ b→M b:=fun b P e=>⟨P,fun h=>e (br b h)⟩;have ad:CR ((vw w c.O0 σ ρ).buts hs) (vw w' c.O0 σ2 F):=by
  have ay:∀n,Gn σ n→AW n hs=false→Gn σ2 n∧F n=ρ n:=by
   intro n hn cf;by_cases hh:n∈Ag ren
   ·simp only[JH,GO,iS]at aq;rcases aq n hh with h|h
    ·rw[cf]at h;cases h
    ·simp only[TO,AT]at h;obtain⟨⟨m,fr⟩,hp,bh,V⟩:=h;simp only at bh V;unfold A4d at V;split at V
     ·rename_i r cb;simp only[AT,tO]at V;obtain⟨rfl,ab⟩:=V;unfold A4c at ab;split at ab
      ·rename_i X bf;have:X=m:=by simpa using ab
       subst this;obtain⟨x,R⟩:=ak _ _ bf;refine⟨⟨x,by rw[ae,R];rfl⟩,?_⟩;rw[ai _ _ bf,cj X ((AY _ _).1 bh)];exact af _ _ cb
      ·cases ab
     ·cases V
   ·obtain⟨x,R⟩:=hn;have j:lk n (Af (Ag ren) hs σ.objs)=some (x.fgt hs):=by
     rw[BR,As (fun h=>hh ((AY _ _).1 h)),R];rfl
    obtain⟨_,E,_⟩:=I n _ j;exact⟨⟨_,by rw[ae,E,j];rfl⟩,J n E⟩
  refine⟨fun b P e C=>?_,fun n hn=>(ay n hn.1 hn.2).1,fun n hn=>(ay n hn.1 hn.2).2,fun b P e=>N.block b (ax b P e)⟩;have P:b<w.heap.size:=P;have e:¬own c.O0 σ ρ b:=e;rcases C with h0|⟨n,⟨x,hn⟩,i⟩
  ·exact e (.inl h0)
  ·rcases U n x hn with hn|⟨E,hn⟩
   ·obtain⟨m,_,f,o⟩:=Q n x b hn i;exact(W.free m b f o).1 (ax b P e)
   ·obtain⟨q,_,y,k,_⟩:=I n x hn;rw[J n E]at i;exact e (.inr ⟨n,⟨y,k⟩,i⟩)
 have aw:∀b,c.K b→M b:=fun b e=>⟨AAy (bd.K b e) g.frm.size,fun⟨m,f,o⟩=>by
  obtain⟨n,_,hn,i⟩:=T m b f o;exact(g.free n b hn i).1 e⟩
 refine⟨F,⟨N.os.trans g.frm.os,N.tape.trans g.frm.tape,N.output.trans g.frm.output,aT g.frm.size N.size,fun b e=>(N.block b (aw b e)).trans (g.frm.block b e)⟩,by rw[J9];exact g.nt,by rw[GW];exact g.defers,fun p hp=>?_,fun n x hn=>?_,fun n b H e=>?_,fun n r b H bz e C=>?_,fun s v ck=>?_⟩
 ·obtain⟨bj,cm,cn⟩:=g.pin p hp;have bl:AW p.1 hs=false:=by simpa using (GO.1 ch) p hp
  have co:=ad.ρ p.1 ⟨bj,bl⟩;exact⟨ad.L p.1 ⟨bj,bl⟩,co.trans cm,cn⟩
 ·rcases U n x hn with hn|⟨E,hn⟩
  ·exact Qx bb W.obj (DP ah hn)
  ·obtain⟨q,_,y,k,rfl⟩:=I n x hn;rw[J n E];refine Su ad (fun b e=>?_) (g.objs n y k);refine N.block b ⟨(g.objs n y k).block_lt e,fun⟨m,f,o⟩=>?_⟩;obtain⟨r,Z,D,Y⟩:=T m b f o;have:=g.dist n r b ⟨y,k⟩ D e Y;subst this;exact q (be m n Z)
 ·obtain⟨x,hn⟩:=H;rcases U n x hn with hn|⟨E,hn⟩
  ·obtain⟨m,_,f,o⟩:=Q n x b hn e;have:=W.free m b f o;exact⟨fun aj=>this.1 (aw b aj),fun h0=>this.2 (.inl h0)⟩
  ·obtain⟨q,_,y,k,rfl⟩:=I n x hn;rw[J n E]at e;exact g.free n b ⟨y,k⟩ e
 ·obtain⟨x,hn⟩:=H;obtain⟨aa,D⟩:=bz;rcases U n x hn with hn|⟨E,hn⟩<;>rcases U r aa D with D|⟨bg,D⟩
  ·obtain⟨m,j,f,o⟩:=Q n x b hn e;obtain⟨X,Z,al,cc⟩:=Q r aa b D C;have:=W.dist m X b f al o cc;subst this;exact Sy bn j Z
  ·exfalso;obtain⟨m,j,f,o⟩:=Q n x b hn e;obtain⟨q,_,y,k,rfl⟩:=I r aa D;rw[J r bg]at C;exact(W.free m b f o).2 (.inr ⟨r,⟨y,k⟩,q,C⟩)
  ·exfalso;obtain⟨m,j,f,o⟩:=Q r aa b D C;obtain⟨q,_,y,k,rfl⟩:=I n x hn;rw[J n E]at e;exact(W.free m b f o).2 (.inr ⟨n,⟨y,k⟩,q,e⟩)
  ·obtain⟨_,_,y,k,rfl⟩:=I n x hn;obtain⟨_,_,cp,cl,rfl⟩:=I r aa D;rw[J n E]at e;rw[J r bg]at C;exact g.dist n r b ⟨y,k⟩ ⟨cp,cl⟩ e C
 ·refine pD (c:=c) g.nt bv (Mw bb bo bu) (fun s v am=>?_) ck;rw[DK]at am;simp only[NO]at am;obtain⟨y,k,rfl⟩:=am;exact(PQ (g.env s y k)).keeps ad
theorem Ye (ae:c.Ok) {o:Oper} {dst:Option Nat} {g:Operand} {xs:List Operand} {ts:Array TypeId} (K:o.op=.call { callee:=.value g,args:=xs.toArray,argTypes:=ts }) (ai:o.dst=dst)
  {f:FuncId} {k:List Nat} (j:Cp (Ah σ g)=some (f,k)) {as:List AV} (aa:IP σ xs=some as)
  {A:List AV} {objs:List (Nat×Obj)} {stay:List Nat} {post:AV→List (Nat×Obj)→Prop} (B:BB c.P f A objs stay post)
  (ren:List (Nat×Bw)) (h1:B8 ren=true) (S:CS objs ren=true) (T:BH σ ren (as++k.map fun n=>AV.bp n [] 0) A) (V:Ab σ.objs ren objs)
  (hs:List Nat) (an:(c.ds.pin.all fun p=>!AW p.1 hs)=true) {next:Act→World→Prop} {Q:Exit→Act→World→Prop} {a:Act} {w:World} (aq:c.sat σ a w) (ah:∀d,dst=some d→d<c.nt)
  (hk:∀res M,post res M→∃(s:List (Nat×Bw)) (N:AV) (z:List (Nat×Obj)),B8 s=true∧CS z s=true∧Ab M s z∧Bc s res N ∧
   JH ren s stay hs=true∧FU (Ag ren) z σ.objs=true∧∀G w',c.sat (CE σ (Ag ren) hs dst N z) G w'→next G w'):o.wpIn (FR c.r) 0 c.P a w next Q:=by
 obtain⟨ρ,L⟩:=aq;have I:GH (vw w c.O0 σ ρ) σ a.eval:=Du L.env;obtain⟨⟨fn,aj,am,ad⟩,B⟩:=B;obtain⟨m,ak,ag⟩:∃m:List Value,a.eval g=.func (.func f) #[] m.toArray∧I1 (vw w c.O0 σ ρ) (k.map fun n=>AV.bp n [] 0) m:=by
  cases D:Ah σ g with
  | none=>rw[D]at j;simp[Cp]at j
  | some H =>
   rw[D]at j;have C:=I g H D;cases H<;>simp only[Cp]at j<;>try(cases j;done)
   ·cases j;exact⟨[],C,rfl⟩
   ·rename_i aw ns;cases j;refine⟨k.map ρ,C.1,?_⟩;have h0:∀l:List Nat,(∀n∈l,n∈k)→I1 (vw w c.O0 σ ρ) (l.map fun n=>AV.bp n [] 0) (l.map ρ):=by
     intro l;induction l with
     | nil=>intro _;exact rfl
     | cons n r F =>
      intro J;obtain⟨q,b,i⟩:=C.2 n (J n (by simp));have i:ρ n=_:=i;exact⟨ρ n,r.map ρ,rfl,⟨q,b,i,i⟩,F fun x ar=>J x (by simp[ar])⟩
    exact h0 k fun _ h=>h
 have Z:=Yd I aa;have Y:∀ {l r:List AV} {t y:List Value},I1 (vw w c.O0 σ ρ) l t→I1 (vw w c.O0 σ ρ) r y→I1 (vw w c.O0 σ ρ) (l++r) (t++y):=by
  intro l;induction l with
  | nil=>intro r t y hu E;have hu:t=[]:=hu;subst hu;exact E
  | cons x l F =>
   intro r t y hu E;obtain⟨v,au,rfl,q,i⟩:=hu;exact⟨v,au++y,rfl,q,F i E⟩
 have X:=Y Z ag;have ap:(execOp a.eval o).run c.P w=.ok (.enter f (xs.map a.eval++m).toArray) w:=by
  have q : ¬ fn.name = "runtime.NumGoroutine" := by simpa using am
  have i:¬fn.body=none:=by intro e;simp[e]at ad
  simp[execOp,K,resolve,Deferred.ofValue,ak,invoke,callFunc,aj,q,i]
 obtain⟨O,R,av,U,W,al,ab,_,ao⟩:=Q3 ae L X stay post ren h1 S T V hs an ah hk;have af:=B w O R av (xs.map a.eval++m) U W al ab;refine⟨fun _ _=>trivial,?_⟩;rw[Fe _ _ _ (fun cl e=>by rw[K]at e;cases e),ap,ACy];refine⟨fun h=>(by simp[FR]at h),Kw (af.mono fun e w' hh=>?_)⟩;obtain⟨u,rfl,hh⟩:=hh;rw[ai];exact ao u w' hh
theorem xG (D:c.Ok) {ops:Array Oper} {rest:List Oper} {dst:Option Nat} {g:Operand} {xs:List Operand} {ts:Array TypeId} {ty:TypeId} {pos:String} {after:Array Edge}
  {f:FuncId} {i:List Nat} (E:Cp (Ah σ g)=some (f,i)) {as:List AV} (C:IP σ xs=some as)
  {A:List AV} {objs:List (Nat×Obj)} {stay:List Nat} {post:AV→List (Nat×Obj)→Prop} (z:BB c.P f A objs stay post)
  (ren:List (Nat×Bw)) (hs:List Nat) (h1:B8 ren=true) (v:CS objs ren=true) (H:(c.ds.pin.all fun p=>!AW p.1 hs)=true) (x:BH σ ren (as++i.map fun n=>AV.bp n [] 0) A) (B:Ab σ.objs ren objs)
  (hk:∀res e,post res e→∃(b:List (Nat×Bw)) (h:AV) (d:List (Nat×Obj)),B8 b=true∧CS d b=true∧Ab e b d∧Bc b res h ∧
   JH ren b stay hs=true∧FU (Ag ren) d σ.objs=true∧HY c R k ops rest (CE σ (Ag ren) hs dst h d)) :
  HY c R k ops (⟨dst,.call ⟨.value g,xs.toArray,ts⟩,ty,pos,after,none⟩ :: rest) σ:=by
 intro j F a w J;unfold wpListIn;rw[At (by simp[Region.wanted])];refine Ye D (xs:=xs) (ts:=ts) rfl rfl E C z ren h1 v x B hs H J (Bb (j _ (by simp))) fun res e hp=>?_;obtain⟨b,h,d,m,q,r,s,t,u,y⟩:=hk res e hp;exact⟨b,h,d,m,q,r,s,t,u,fun l w' I=>y (fun o G=>j o (by simp[G])) F l w' I⟩
end
end
section
open Go Go.RowKit
def WK (s:Nat):List Nat→List Nat
 | []=>[]
 | k :: r=>if s=k then r else k :: WK s r
def HZ:List Nat→List (Nat×AV)→List (Nat×AV)
 | _,[]=>[]
 | [],_ :: _=>[]
 | k :: a,(s,v) :: r=>if AW s (k :: a)=true then (s,v) :: HZ (WK s (k :: a)) r else HZ (k :: a) r
def DZ (a:List Nat):DC→DC
 | some (vc,σ)=>some (vc,⟨HZ a σ.env,σ.objs⟩)
 | none=>none
theorem Wx {s t:Nat}:∀ {a:List Nat},AW s a=false→AW s (WK t a)=false
 | [],h=>h
 | k :: r,h=>by
  simp only[AW]at h;split at h
  ·cases h
  ·rename_i b;simp only[WK];split
   ·exact h
   ·simp only[AW,As b];exact Wx h
theorem Jq {s:Nat}:∀ {env:List (Nat×AV)} {a:List Nat},AW s a=false→lk s (HZ a env)=none
 | [],a,_=>by cases a<;>rfl
 | (j,v) :: r,[],_=>rfl
 | (j,v) :: r,k :: a,h=>by
  simp only[HZ];split
  ·rename_i b;simp only[lk];rw[As (fun e=>by subst e;rw[h]at b;cases b)];exact Jq (Wx h)
  ·exact Jq h
theorem Tx {s:Nat} {x:AV}:∀ {env:List (Nat×AV)} {a:List Nat},lk s (HZ a env)=some x→lk s env=some x
 | [],a,h=>by cases a<;>simp[HZ,lk]at h
 | (j,v) :: r,[],h=>by simp[HZ,lk]at h
 | (j,v) :: r,k :: a,h=>by
  simp only[HZ]at h;split at h
  ·simp only[lk]at h ⊢;split at h
   ·rename_i e;rw[At e];exact h
   ·rename_i e;rw[As e];exact Tx h
  ·rename_i b;by_cases e:s=j
   ·subst e;rw[Jq (by simpa using b)]at h;cases h
   ·simp only[lk,As e];exact Tx h
theorem IQ {d:List Nat} {r:DC} {vc:Prop} {σ':St} (h:DZ d r=some (vc,σ')):∃b,r=some (vc,b)∧∀c:Cx,Ent c b σ':=by
 cases r with
 | none=>cases h
 | some p =>
  obtain⟨f,b⟩:=p;simp only[DZ]at h;cases h;exact⟨b,rfl,fun c a w hs=>S0 (σ':=⟨HZ d b.env,b.objs⟩) (fun s v e=>Tx e) (fun _=>rfl) hs⟩
section
variable {c:Cx} {R:Exit→Act→World→Prop} {k:List Df} {σ σ':St}
theorem Wy (g:List Nat) (e:c.P.follows .mixedOrders=true) (b:c.Ok) {id:Nat} {l:List Oper} (d:Lb l l.length=true) {vc:Prop}
  (h:DZ g (K4 c.tb l false σ.objs [] l 0 [] [] σ)=some (vc,σ')) (f:vc) (hk:Ev c R (.out .normal) k σ'):Ev c R (.run (.region id l.toArray true)) k σ:=by
 obtain⟨i,h1,a⟩:=IQ h;exact xD e b d h1 f (hk.ent (a c))
theorem sT (g:List Nat) (m:Nat) (e:c.P.follows .mixedOrders=true) (b:c.Ok) {id:Nat} {l:List Oper} (d:Lb l (l.take (l.length-m)).length=true) {vc:Prop}
  (h:DZ g (K4 c.tb l false σ.objs (l.drop (l.length-m)) (l.take (l.length-m)) 0 [] [] σ)=some (vc,σ')) (f:vc) (hk:Ev c R (.out .normal) k σ'):Ev c R (.run (.region id l.toArray true)) k σ:=by
 obtain⟨i,h1,a⟩:=IQ h;exact xE m e b d h1 f (hk.ent (a c))
theorem aI (f:List Nat) (b:c.Ok) {id:Nat} {l:List Oper} (d:sO l l.length=true) {vc:Prop}
  (h:DZ f (K4 c.tb l true σ.objs [] l 0 [] [] σ)=some (vc,σ')) (e:vc) (hk:Ev c R (.out .normal) k σ'):Ev c R (.run (.region id l.toArray false)) k σ:=by
 obtain⟨g,h1,a⟩:=IQ h;exact kR b d h1 e (hk.ent (a c))
theorem MA (e:List Nat) (b:c.Ok) {id:Nat} {l:List Oper} (h0:(l.all fun o=>o.guard.isNone)=true) {vc:Prop} (h:DZ e (Bp c.tb l l σ)=some (vc,σ')) (d:vc) (hk:Ev c R (.out .normal) k σ') :
  Ev c R (.run (.region id l.toArray false)) k σ:=by
 obtain⟨f,h1,a⟩:=IQ h;exact kS b h0 h1 d (hk.ent (a c))
theorem IR (e:List Nat) (b:c.Ok) {ops:List Oper} {l:List Oper} {vc:Prop} (h:DZ e (Bp c.tb ops l σ)=some (vc,σ')) (d:vc) (hk:Ev c R (.out .normal) k σ'):HY c R k ops.toArray l σ:=by
 obtain⟨f,h1,a⟩:=IQ h;exact Yb b (by simpa using h1) d (hk.ent (a c))
theorem xH (d:c.Ok) {id:Nat} {l:List Oper} (n:Nat) (h0:(l.all fun o=>o.guard.isNone)=true) {vc:Prop} (h:Bp c.tb l (l.take n) σ=some (vc,σ')) (f:vc) (hk:HY c R k l.toArray (l.drop n) σ') :
  Ev c R (.run (.region id l.toArray false)) k σ:=by
 intro h1 b a w hs;simp only[II,Bh,GO]at h1;exact AC9 (S1 d n (by simpa using h) f hk (fun o e=>h1 o e) b a w hs)
theorem xI (d:c.P.follows .mixedOrders=true) (a:c.Ok) {id:Nat} {l:List Oper} (n:Nat) (b:Lb l (l.take n).length=true) {vc:Prop}
  (h:K4 c.tb l false σ.objs [] (l.take n) 0 [] [] σ=some (vc,σ')) (e:vc) (hk:HY c R k l.toArray (l.drop n) σ') :
  Ev c R (.run (.region id l.toArray true)) k σ:=aF d a n b h e hk
theorem CM {ops:Array Oper} (h:Ev c R (.out .normal) k σ):HY c R k ops [] σ:=A2T h
end
end
end Go.Proofs.YtdapahgnpbehbaaGreat.Fw
