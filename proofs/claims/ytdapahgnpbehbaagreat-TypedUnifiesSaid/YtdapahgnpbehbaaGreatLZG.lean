/- Contracts over memory; the frame rule of a call. -/
import Derived.Test.YtdapahgnpbehbaaGreatLZF
set_option linter.unusedVariables false
set_option linter.unusedSimpArgs false
namespace Go.Proofs.YtdapahgnpbehbaaGreat.Fw
section
open Go Go.RowKit
structure l9 (K O0:Nat→Prop) (objs:List (Nat×Obj)) (ρ:Nat→Value) (w:World):Prop where
 obj:∀n o,lk n objs=some o→A2 (vw w O0 ⟨[],objs⟩ ρ) o (ρ n)
 free:∀n b,Gt ⟨[],objs⟩ n→bk (ρ n) b→¬K b∧¬O0 b
 dist:∀n m b,Gt ⟨[],objs⟩ n→Gt ⟨[],objs⟩ m→bk (ρ n) b→bk (ρ m) b→n=m
def JE (V:Vw):List AV→List Value→Prop
 | [],a=>a=[]
 | x :: r,a=>∃(v:Value) (l:List Value),a=v :: l∧B1 V x v∧JE V r l
def Pj (K O0:Nat→Prop) (stay:List Nat) (w:World) (ρ:Nat→Value) (post:AV→List (Nat×Obj)→Prop) (u:Value) (w':World):Prop :=
 ∃(res:AV) (a:List (Nat×Obj)) (ρ':Nat→Value),post res a∧Frm K w w'∧l9 K O0 a ρ' w'∧B1 (vw w' O0 ⟨[],a⟩ ρ') res u∧∀n∈stay,ρ' n=ρ n
def BA (P:Program) (f:FuncId) (args:List AV) (objs:List (Nat×Obj)) (stay:List Nat) (post:AV→List (Nat×Obj)→Prop):Prop :=
 (∃ fn : Func, P.funcs[f]? = some fn ∧ (fn.name == "runtime.NumGoroutine") = false ∧ fn.body.isNone = false) ∧
 ∀(w:World) (K O0:Nat→Prop) (ρ:Nat→Value) (a:List Value),(∀b,K b→b<w.heap.size)→(∀b,O0 b→b<w.heap.size)→l9 K O0 objs ρ w→JE (vw w O0 ⟨[],objs⟩ ρ) args a →
  Calls P f a.toArray w fun e w'=>∃u,e=.returned u∧Pj K O0 stay w ρ post u w'
def Ah:Nat→List AV→List (Nat×AV)
 | _,[]=>[]
 | s,x :: r=>(s,x) :: Ah (s+1) r
def A7x:AV→Prop
 | .p t d=>t.ok d
 | _=>True
def Pk:List AV→Prop
 | []=>True
 | x :: r=>A7x x∧Pk r
def zH:Obj→Prop
 | .arr _ e xs=>(Ty.slice e).ok xs
 | .box _ _ fs=>Pk fs
 | .mapo k v l=>∀x∈l,k.ok x.1∧v.ok x.2
 | .nest _ _ k e xs none=>(Ty.slice (.agg (.prod k (.slice e)))).ok xs
 | _=>True
def OP:List (Nat×Obj)→Prop
 | []=>True
 | x :: r=>zH x.2∧OP r
theorem A6w {V:Vw} {x:AV} {v:Value} (h:B1 V x v):A7x x:=by
 cases x<;>try trivial
 obtain⟨cs,a,_⟩:=h;exact IU a
theorem S6 {V:Vw}:∀ {l:List AV} {b:List Value},JE V l b→Pk l
 | [],_,_=>trivial
 | _ :: _,_,⟨_,_,_,h1,a⟩=>⟨A6w h1,S6 a⟩
theorem qM {V:Vw}:∀ {l:List AV} {cs:List Value},Db V l cs→Pk l
 | [],_,_=>trivial
 | x :: _,_,⟨c1,c2,_,h1,a⟩=>⟨by
   cases x<;>try trivial
   exact IU (h1:Bq _ _ _ _ _),qM a⟩
theorem qN {w:World} {O:Nat→Prop} {k v:Ty}:∀ {b:List MapEntry} {l:List (k.den×v.den)},KK w O k v b l→∀x∈l,k.ok x.1∧v.ok x.2
 | [],[],_,x,a=>by cases a
 | [],_ :: _,h,_,_=>h.elim
 | _ :: _,[],h,_,_=>h.elim
 | e :: b,y :: l,⟨⟨_,h1,_⟩,⟨_,c,_⟩,d⟩,x,a=>by
  rcases By.1 a with rfl|a
  ·exact⟨IU h1,IU c⟩
  ·exact qN d x a
theorem Y2 {V:Vw} {o:Obj} {loc:Value} (h:A2 V o loc):zH o:=by
 cases o with
 | arr et e xs =>
  obtain⟨n,cells,_,c⟩:=h;refine⟨n,fun x f=>?_⟩;obtain⟨i,hi,rfl⟩:=AA6.1 f;obtain⟨g,_,_,d⟩:=c i _ (AT hi);exact IU d
 | box et st fs=>obtain⟨_,b,cs,_,_,a⟩:=h;exact qM a
 | mapo k v l=>obtain⟨b,g,cl,_,_,a,_⟩:=h;exact qN a
 | nest et q k e xs m =>
  cases m with
  | some i=>trivial
  | none =>
   obtain⟨o,ins,cells,_,j⟩:=h;have c:=OG (O':=fun _=>False) (fun _ _ h=>h) j (fun _ _ _ _ _ h=>h);refine⟨j.max,fun x f=>?_⟩;obtain⟨i,hi,rfl⟩:=AA6.1 f;obtain⟨g,_,_,d⟩:=c i _ (AT hi);exact IU d
 | frame w fs=>trivial
 | loop L=>trivial
 | itr r u s t p=>trivial
 | dfr=>trivial
theorem S7:∀ {l:List (Nat×Obj)},MJ l=true→(∀n o,lk n l=some o→zH o)→OP l
 | [],_,_=>trivial
 | (n,o) :: r,hk,h=>by
  simp only[MJ,As,IN,ACr]at hk;refine⟨h n o (by simp[lk]),S7 hk.2 fun m x a=>h m x ?_⟩;simp only[lk];rw[At (fun e=>hk.1 _ (F8 a) e)];exact a
theorem qO:∀(l:List AV) (a:List Value) (k:Nat) (V:Vw),JE V l a→∀s v,lk s (Ah k l)=some v→k≤s∧∃u,a[s-k]?=some u∧B1 V v u
 | [],a,k,V,h,s,v,hs=>by simp[Ah,lk]at hs
 | x :: l,a,k,V,h,s,v,hs=>by
  obtain⟨u,r,rfl,h1,b⟩:=h;simp only[Ah,lk]at hs;split at hs
  ·grind
  ·obtain⟨c,f,d,e⟩:=qO l r (k+1) V b s v hs;grind
theorem JU {V:Vw}:∀ {l:List AV} {a:List Value},JE V l a→a.length=l.length
 | [],a,h=>by have h:a=[]:=h;subst h;rfl
 | _ :: _,_,⟨_,_,rfl,_,h⟩=>by simp[JU h]
def cm (P:Program) (tb:Tb) (w0:World) (K O0:Nat→Prop) (nt:Nat) (pin:List (Nat×Value)):Cx:={ P:=P,tb:=tb,w0:=w0,K:=K,O0:=O0,nt:=nt,ds:={ pin:=pin } }
theorem XK {P:Program} {tb:Tb} {w0:World} {K O0:Nat→Prop} {nt:Nat} {pin:List (Nat×Value)}:(cm P tb w0 K O0 nt pin).tb=tb:=rfl
def SE (objs:List (Nat×Obj)) (n:Nat):Bool :=
 match lk n objs with
 | some (.arr _ _ _)=>GX n
 | some (.nest _ _ _ _ _ _)=>GX n
 | some _=>true
 | none=>false
theorem UD {P:Program} {tb:Tb} {w0:World} {K O0:Nat→Prop} {nt:Nat} {args:List AV} {objs:List (Nat×Obj)} {stay:List Nat} {ρ:Nat→Value} {c:List Value} (f:l9 K O0 objs ρ w0) (q:JE (vw w0 O0 ⟨[],objs⟩ ρ) args c) (m:stay.all (SE objs)=true) (w:c.length≤nt) :
  (cm P tb w0 K O0 nt (stay.map fun n=>(n,ρ n))).sat ⟨Ah 0 args,objs⟩ { tmps:=c.toArray++Array.replicate (nt-c.toArray.size) undef,defers:=[] } w0:=by
 refine⟨ρ,⟨rfl,rfl,rfl,Is _,fun _ _=>rfl⟩,by simp[cm];omega,rfl,fun p hp=>?_,f.obj,f.free,f.dist,fun s v hs=>?_⟩
 ·obtain⟨n,hn,rfl⟩:=GO.1 hp;have:=(IN.1 m) n hn;unfold SE at this;cases g:lk n objs with
  | none=>rw[g]at this;cases this
  | some o =>
   rw[g]at this;refine⟨⟨o,g⟩,rfl,?_⟩;have d:=f.obj n o g;cases o with
   | arr et e xs=>exact .inr this
   | nest et y k e xs t=>exact .inr this
   | box et st fs=>obtain⟨_,b,cs,a,_⟩:=d;rw[a];exact .inl rfl
   | mapo k v l=>obtain⟨b,r,cl,a,_⟩:=d;rw[a];exact .inl rfl
   | frame D fs=>obtain⟨a,_⟩:=d;rw[a];exact .inl rfl
   | loop L=>obtain⟨b,a,_⟩:=d;rw[a];exact .inl rfl
   | itr z C A B x=>obtain⟨b,a,_⟩:=d;rw[a];exact .inl rfl
   | dfr=>obtain⟨b,a,_⟩:=d;rw[a];exact .inl rfl
 ·obtain⟨_,u,h1,i⟩:=qO args c 0 _ q s v hs;have h1:c[s]?=some u:=by simpa using h1
  have h:s<c.length:=(aT.1 h1).1;have j:(c.toArray++Array.replicate (nt-c.toArray.size) undef).getD s undef=u:=by
   have:c[s]=u:=by rw[AT h]at h1;injection h1
   simp[Array.getElem?_append,h,this]
  rw[j];exact i
def A4k (P:Program) (fn:Func) (w0:World) (K O0:Nat→Prop) (stay:List Nat) (ρ0:Nat→Value) (post:AV→List (Nat×Obj)→Prop):Exit→Act→World→Prop :=
 bodyPost P fn fun e w'=>∃u,e=.returned u∧Pj K O0 stay w0 ρ0 post u w'
theorem A6x {P:Program} {tb:Tb} {f:FuncId} {fn:Func} {cd:Code} {nt:Nat} {args:List AV} {objs:List (Nat×Obj)} {stay:List Nat} {post:AV→List (Nat×Obj)→Prop}
  (c : P.funcs[f]? = some fn) (k : (fn.name == "runtime.NumGoroutine") = false) (b : fn.body = some cd) (l : fn.ntmps = nt) (q : args.length ≤ nt)
  (i:Bv nt cd=true) (p:stay.all (SE objs)=true) (j:MJ objs=true) (hT:DL P tb) (hF:JM P tb)
  (h:∀(w0:World) (K O0:Nat→Prop) (ρ0:Nat→Value),(cm P tb w0 K O0 nt (stay.map fun n=>(n,ρ0 n))).Ok→Pk args→OP objs →
   Ev (cm P tb w0 K O0 nt (stay.map fun n=>(n,ρ0 n))) (A4k P fn w0 K O0 stay ρ0 post) (.run cd) [] ⟨Ah 0 args,objs⟩):BA P f args objs stay post:=by
 refine⟨⟨fn,c,k,by simp[b]⟩,fun w K O0 ρ s e g d a=>?_⟩;refine calls_of_wp c b ((wpIn_wide (n:=0)).1 ?_);have r:=JU a;rw[l];exact h w K O0 ρ ⟨e,g,hT,hF⟩ (S6 a) (S7 j fun n o m=>Y2 (d.obj n o m)) i rfl _ _ (UD d a p (by omega))
def uK (tb:Tb) (σ:St) (rv:ResultVar):AV→Prop
 | .p t d=>Jx σ t (Hv tb σ rv)=some d
 | x=>Hv tb σ rv=some x
def Q5 (tb:Tb) (σ:St):List ResultVar→List AV→Prop
 | [],[]=>True
 | rv :: a,x :: l=>uK tb σ rv x∧Q5 tb σ a l
 | _,_=>False
def XL:AV→Bool
 | .tup _=>false
 | _=>true
def UE (tb:Tb) (σ:St):List ResultVar→AV→Prop
 | [],x=>x=.raw (.tuple #[])
 | [rv],x=>uK tb σ rv x
 | a,.tup l=>l.all XL=true∧Q5 tb σ a l
 | _,_=>False
section
variable {P:Program} {tb:Tb} {w0:World} {K O0:Nat→Prop} {nt:Nat} {ds:Fp} {σ:St} {ρ:Nat→Value} {a:Act} {w:World}
theorem qP (hT:DL P tb) (hs:Bn w0 K O0 nt ds σ ρ a w) {rv:ResultVar} {x:AV} (h:uK tb σ rv x):∃u,(KP a.tmps rv).run P w=.ok u w∧B1 (vw w O0 σ ρ) x u:=by
 by_cases hp:∃t d,x=.p t d
 ·obtain⟨t,d,rfl⟩:=hp;simp only[uK]at h;cases c:Hv tb σ rv with
  | none=>rw[c]at h;simp[Jx]at h
  | some v =>
   rw[c]at h;simp only[Jx]at h;obtain⟨u,h1,e⟩:=S1 hT hs c;exact⟨u,h1,KM (V:=vw w O0 σ ρ) (O':=own O0 σ ρ) (fun b f g=>f g) (fun h=>by cases h) hs.objs h e⟩
 ·have h:Hv tb σ rv=some x:=by
   cases x<;>first|exact h|exact absurd ⟨_,_,rfl⟩ hp
  exact S1 hT hs h
theorem A7y {V:Vw} {x:AV} {v:Value} (hn:XL x=true) (h:B1 V x v):Rx V x v:=by
 cases x<;>first|(simp[XL]at hn;done)|exact h
theorem XM (hT:DL P tb) (hs:Bn w0 K O0 nt ds σ ρ a w):∀ {c:List ResultVar} {l:List AV},l.all XL=true→Q5 tb σ c l →
  ∃b:List Value,(c.mapM (KP a.tmps)).run P w=.ok b w∧b.length=l.length∧KJ (vw w O0 σ ρ) l b
 | [],[],_,_=>⟨[],by simp,rfl,rfl⟩
 | [],_ :: _,_,h=>h.elim
 | _ :: _,[],_,h=>h.elim
 | rv :: c,x :: l,hn,h=>by
  simp only[ABh,As]at hn;obtain⟨u,h1,d⟩:=qP hT hs h.1;obtain⟨b,g,e,f⟩:=XM hT hs hn.2 h.2;refine⟨u :: b,?_,by simp[e],u,b,rfl,A7y hn.1 d,f⟩
  simp_all
theorem UF {tb:Tb} {σ:St}:∀ {a:List ResultVar} {l:List AV},Q5 tb σ a l→a.length=l.length
 | [],[],_=>rfl
 | [],_ :: _,h=>h.elim
 | _ :: _,[],h=>h.elim
 | _ :: _,_ :: _,h=>by simp[UF h.2]
theorem bK (hT:DL P tb) (hs:Bn w0 K O0 nt ds σ ρ a w) {fn:Func} {x:AV} (h:UE tb σ fn.results.toList x):∃u,(results fn a.tmps).run P w=.ok u w∧B1 (vw w O0 σ ρ) x u:=by
 have key:∀b:List Value,(fn.results.toList.mapM (KP a.tmps)).run P w=.ok b w→(results fn a.tmps).run P w=.ok (if h:b.toArray.size=1 then b.toArray[0] else .tuple b.toArray) w:=by
  intro b h1;rw[OJ];have g:(fn.results.mapM (KP a.tmps)).run P w=.ok b.toArray w:=by
   rw[ABG];simp only[Sem.run_map,h1,AAA]
  simp only[AB2,g,AAA,ABC]
 generalize fn.results.toList=m at h key;unfold UE at h;split at h
 ·subst h;exact⟨_,key [] (by simp),rfl⟩
 ·rename_i rv;obtain⟨u,h1,c⟩:=qP hT hs h;exact⟨_,key [u] (by simp[h1]),c⟩
 ·rename_i l k i;obtain⟨b,h1,c,d⟩:=XM hT hs h.1 h.2;have f:=UF h.2;refine⟨_,key b h1,?_⟩;have:¬b.toArray.size=1:=by
   intro e;have e:b.length=1:=by simpa using e
   rw[c,←f]at e;obtain⟨z,j⟩:=AB4.1 e;exact i z j
  rw[dif_neg this];exact⟨b,rfl,d⟩
 ·exact h.elim
end
theorem A4l {P:Program} {tb:Tb} {w0:World} {K O0:Nat→Prop} {nt:Nat} {stay:List Nat} {ρ0:Nat→Value} {fn:Func} {post:AV→List (Nat×Obj)→Prop} {σ:St} {e:Exit} (f:(cm P tb w0 K O0 nt (stay.map fun n=>(n,ρ0 n))).Ok)
  (c:List ResultVar) (i:fn.results.toList=c) (g:e=.ret∨e=.normal) (res:AV) (h:UE tb σ c res) (hp:post res σ.objs) :
  Ev (cm P tb w0 K O0 nt (stay.map fun n=>(n,ρ0 n))) (A4k P fn w0 K O0 stay ρ0 post) (.out e) [] σ:=by
 intro _ _ a w hs;obtain⟨ρ,hs⟩:=hs;obtain⟨u,h1,d⟩:=bK f.T hs (by rw[i];exact h);have b:Pj K O0 stay w0 ρ0 post u w:=by
  refine⟨res,σ.objs,ρ,hp,hs.frm,⟨hs.objs,hs.free,hs.dist⟩,d,fun n hn=>?_⟩;exact(hs.pin (n,ρ0 n) (GO.2 ⟨n,hn,rfl⟩)).2.1
 rcases g with rfl|rfl
 ·exact⟨hs.defers,u,h1,u,rfl,b⟩
 ·exact⟨hs.defers,u,h1,u,rfl,b⟩
end
section
open Go Go.RowKit
def Cu:Option AV→Option (FuncId×List Nat)
 | some (.fn f)=>some (f,[])
 | some (.clo f ns)=>some (f,ns)
 | _=>none
def IW (σ:St):List Operand→Option (List AV)
 | []=>some []
 | x :: r=>match Aj σ x,IW σ r with
  | some v,some a=>some (v :: a)
  | _,_=>none
def GB (σ:St) (ren:List (Nat×Bw)) (x:AV):AV→Prop
 | .p t d=>Kv false σ t x=some d
 | y=>Bg ren x y
def BH (σ:St) (ren:List (Nat×Bw)):List AV→List AV→Prop
 | [],[]=>True
 | x :: l,y :: r=>GB σ ren x y∧BH σ ren l r
 | _,_=>False
def Ai:List (Nat×Bw)→List Nat
 | []=>[]
 | (_,.nm n) :: r=>n :: Ai r
 | (_,.nil) :: r=>Ai r
def A5O (m:Nat):Option Bw→Bool
 | some (.nm a)=>a==m
 | _=>false
def A5P (n:Nat) (f:Option Bw) (m:Nat):Option Bw→Bool
 | some (.nm a)=>a==n&&A5O m f
 | _=>false
def JV (ren a:List (Nat×Bw)) (stay hs:List Nat):Bool:=(Ai ren).all fun n=>AY n hs||ren.any fun p=>AY p.1 stay&&A5P n (lk n a) p.1 (lk p.1 ren)
def Fb (a:List Nat) (b objs:List (Nat×Obj)):Bool:=b.all fun p=>AY p.1 a||(lk p.1 objs).isNone
def Jz (dst:Option Nat) (v:AV) (env:List (Nat×AV)):List (Nat×AV) :=
 match dst with
 | some d=>(d,v) :: env
 | none=>env
def CK (σ:St) (a hs:List Nat) (dst:Option Nat) (res:AV) (b:List (Nat×Obj)):St:=⟨Jz dst res (BV hs σ.env),b++Af a hs σ.objs⟩
theorem OQ {n:Nat}:∀ {l:List (Nat×Bw)},n∈Ai l↔∃m,(m,Bw.nm n)∈l
 | []=>by simp[Ai]
 | (m,.nm k) :: r=>by
  simp only[Ai,By,OQ (l:=r),ACI,Bw.nm.injEq];grind
 | (m,.nil) :: r=>by
  simp only[Ai,By,OQ (l:=r),ACI];grind
theorem Y3 {V:Vw} {σ:St} {ev:Operand→Value} (b:GK V σ ev):∀ {xs:List Operand} {a:List AV},IW σ xs=some a→JE V a (xs.map ev)
 | [],a,h=>by simp only[IW]at h;cases h;exact(rfl:_=_)
 | x :: r,a,h=>by
  simp only[IW]at h;split at h
  ·rename_i v l h1 c;cases h;exact⟨ev x,r.map ev,rfl,b x v h1,Y3 b c⟩
  ·cases h
section
variable {V V':Vw} {ren:List (Nat×Bw)} {σ:St}
theorem UG (f:MK ren V V') (g:∀b,¬V.O b→¬V'.O b) (i:∀n o,lk n σ.objs=some o→A2 V o (V.ρ n)):∀ {l r:List AV} {e:List Value},BH σ ren l r→JE V l e→JE V' r e
 | [],[],e,_,h=>h
 | [],_ :: _,_,a,_=>a.elim
 | _ :: _,[],_,a,_=>a.elim
 | x :: l,y :: r,e,a,h=>by
  obtain⟨v,l',rfl,h1,j⟩:=h;refine⟨v,l',rfl,?_,UG f g i a.2 j⟩;have c:=a.1;by_cases hp:∃t d,y=.p t d
  ·obtain⟨t,d,rfl⟩:=hp;have c:Kv false σ t x=some d:=c;have:=KM (V:=V) (O':=V'.O) g (fun h=>by cases h) i c h1;show Bb V'.w V'.O t v d;rw[f.w];exact this
  ·have c:Bg ren x y:=by
    cases y<;>first|exact c|exact absurd ⟨_,_,rfl⟩ hp
   exact M6 f c h1
end
section
variable {c:Cx} {R:Exit→Act→World→Prop} {k:List Dp} {σ:St}
theorem qQ {c:Cx} {a:Act} {dst:Option Nat} {u:Value} {s:Nat} {y:AV} {V:Vw} {env:List (Nat×AV)} {res:AV} (f:a.tmps.size=c.nt) (b:∀d,dst=some d→d<c.nt) (g:B1 V res u) (e:∀s v,lk s env=some v→B1 V v (a.tmps.getD s undef))
  (h:lk s (Jz dst res env)=some y):B1 V y ((a.put dst u).tmps.getD s undef):=by
 cases dst with
 | none=>exact e s y h
 | some d =>
  rw[K4 a d u s (by rw[f];exact b d rfl)];simp only[Jz,lk]at h;split at h
  ·grind
  ·grind
theorem Q6 (az:c.Ok) {dst:Option Nat} {ρ:Nat→Value} {a:Act} {w:World} (g:Bn c.w0 c.K c.O0 c.nt c.ds σ ρ a w) {as:List AV} {bi:List Value} (bq:JE (vw w c.O0 σ ρ) as bi)
  {A:List AV} {objs:List (Nat×Obj)} (stay:List Nat) (post:AV→List (Nat×Obj)→Prop)
  (ren:List (Nat×Bw)) (h1:B2 ren=true) (ap:CO objs ren=true) (bl:BH σ ren as A) (av:Aa σ.objs ren objs)
  (hs:List Nat) (ce:(c.ds.pin.all fun p=>!AY p.1 hs)=true) {next:Act→World→Prop} (bs:∀d,dst=some d→d<c.nt)
  (hk:∀res Q,post res Q→∃(t:List (Nat×Bw)) (ae:AV) (o:List (Nat×Obj)),B2 t=true∧CO o t=true∧Aa Q t o∧Bg t res ae ∧
   JV ren t stay hs=true∧Fb (Ai ren) o σ.objs=true∧∀al w',c.sat (CK σ (Ai ren) hs dst ae o) al w'→next al w') :
  ∃(J G:Nat→Prop) (r:Nat→Value),(∀b,J b→b<w.heap.size)∧(∀b,G b→b<w.heap.size)∧l9 J G objs r w∧JE (vw w G ⟨[],objs⟩ r) A bi∧(∀m n,lk m ren=some (.nm n)→r m=ρ n) ∧
   ∀u w',Pj J G stay w r post u w'→next (a.put dst u) w':=by
 let r:Nat→Value:=fun m=>match lk m ren with|some (.nm n)=>ρ n|_=>.slice none 0 0
 have ad:∀m n,lk m ren=some (.nm n)→r m=ρ n:=fun m n f=>by simp[r,f]
 have bf:∀m,lk m ren=some .nil→r m=.slice none 0 0:=fun m f=>by simp[r,f]
 let G:Nat→Prop:=fun b=>c.O0 b∨∃n,Gt σ n∧n∉Ai ren∧bk (ρ n) b
 let J:Nat→Prop:=fun b=>b<w.heap.size∧¬ ∃m,Gt ⟨[],objs⟩ m∧bk (r m) b
 have R:∀m b,Gt ⟨[],objs⟩ m→bk (r m) b→∃n,lk m ren=some (.nm n)∧Gt σ n∧bk (ρ n) b:=by
  rintro m b ⟨ak,f⟩ e;have hf:=DU av f;cases k:lk m ren with
  | none=>rw[k]at hf;exact hf.elim
  | some fr =>
   cases fr with
   | nil=>rw[bf m k]at e;simp[bk,blk]at e
   | nm n =>
    rw[k]at hf;rw[ad m n k]at e;refine⟨n,rfl,?_,e⟩;cases hn:lk n σ.objs with
    | none=>simp only[GA,hn,HO]at hf
    | some x=>exact⟨x,hn⟩
 have bw:∀m fr,lk m ren=some fr→Gt ⟨[],objs⟩ m:=fun m fr f=>by
  simp only[CO,IN]at ap;exact ABp.1 (ap _ (F8 f))
 have cp:∀m n,lk m ren=some (.nm n)→n∈Ai ren:=fun m n f=>OQ.2 ⟨m,F8 f⟩;have ay:∀b,¬own c.O0 σ ρ b→¬own G ⟨[],objs⟩ r b:=by
  intro b e B;rcases B with (h0|⟨n,hn,_,i⟩)|⟨m,f,l⟩
  ·exact e (.inl h0)
  ·exact e (.inr ⟨n,hn,i⟩)
  ·obtain⟨n,_,hn,i⟩:=R m b f l;exact e (.inr ⟨n,hn,i⟩)
 have aw:MK ren (vw w c.O0 σ ρ) (vw w G ⟨[],objs⟩ r):=⟨rfl,ay,ad,bf,bw⟩;have ca:l9 J G objs r w:=by
  refine⟨fun m ak f=>Q0 aw g.objs (DU av f),fun m b f e=>⟨fun bn=>bn.2 ⟨m,f,e⟩,fun h0=>?_⟩,fun m V b f ai e B=>?_⟩
  ·obtain⟨n,k,hn,i⟩:=R m b f e;rcases h0 with h0|⟨q,D,C,X⟩
   ·exact(g.free n b hn i).2 h0
   ·have:=g.dist n q b hn D i X;grind
  ·obtain⟨n,k,hn,i⟩:=R m b f e;obtain⟨q,bd,D,X⟩:=R V b ai B;have:=g.dist n q b hn D i X;grind [S2]
 have bp:∀b,G b→b<w.heap.size:=by
  rintro b (h0|⟨n,⟨ak,hn⟩,_,i⟩)
  ·exact AAJ (az.O b h0) g.frm.size
  ·exact(g.objs n ak hn).block_lt i
 refine⟨J,G,r,fun b e=>e.1,bp,ca,UG aw ay g.objs bl bq,ad,?_⟩;rintro u w' ⟨res,Q,ρ',cf,M,U,br,cg⟩;obtain⟨t,ae,o,cn,am,af,bj,an,ao,cb⟩:=hk res Q cf;refine cb _ _ ?_
 let F:Nat→Value:=fun n=>match lk n t with|some (.nm m)=>ρ' m|some .nil=>.slice none 0 0|none=>ρ n
 have ag:∀n m,lk n t=some (.nm m)→F n=ρ' m:=fun n m hn=>by simp[F,hn]
 have aq:∀n,lk n t=some .nil→F n=.slice none 0 0:=fun n hn=>by simp[F,hn]
 have co:∀n,lk n t=none→F n=ρ n:=fun n hn=>by simp[F,hn]
 let σ2:=CK σ (Ai ren) hs dst ae o
 have cd:σ2.objs=o++Af (Ai ren) hs σ.objs:=rfl;have ah:∀n,lk n σ2.objs=(lk n o).or (lk n (Af (Ai ren) hs σ.objs)):=fun n=>by rw[cd,A1]
 have ba:∀n fr,lk n t=some fr→∃x,lk n o=some x:=fun n fr hn=>by
  simp only[CO,IN]at am;exact ABp.1 (am _ (F8 hn))
 have bt:∀n x,lk n o=some x→∃fr,lk n t=some fr:=fun n x hn=>by
  have hf:=DU af hn;cases k:lk n t with
  | none=>rw[k]at hf;exact hf.elim
  | some fr=>exact⟨fr,rfl⟩
 have bu:∀n x,lk n o=some x→n∈Ai ren∨lk n σ.objs=none:=fun n x hn=>by
  simp only[Fb,IN,AAi]at ao;rcases ao _ (F8 hn) with h|h
  ·exact .inl ((AZ _ _).1 h)
  ·exact .inr (by simpa using h)
 have H:∀n x,lk n (Af (Ai ren) hs σ.objs)=some x→n∉Ai ren∧lk n o=none∧∃y,lk n σ.objs=some y∧x=y.fgt hs:=by
  intro n x hn;rw[BS]at hn;split at hn
  ·cases hn
  ·rename_i C;simp only[No]at hn;obtain⟨y,j,rfl⟩:=hn;have C:n∉Ai ren:=fun h=>C ((AZ _ _).2 h);refine⟨C,?_,y,j,rfl⟩;cases W:lk n o with
   | none=>rfl
   | some z =>
    rcases bu n z W with h|h
    ·exact absurd h C
    ·rw[h]at j;cases j
 have S:∀n x,lk n σ2.objs=some x→lk n o=some x∨(lk n o=none∧lk n (Af (Ai ren) hs σ.objs)=some x):=by simp_all
 have P:∀n x b,lk n o=some x→bk (F n) b→∃m,lk n t=some (.nm m)∧Gt ⟨[],Q⟩ m∧bk (ρ' m) b:=by
  intro n x b hn e;have hf:=DU af hn;obtain⟨fr,k⟩:=bt n x hn;cases fr with
  | nil=>rw[aq n k]at e;simp[bk,blk]at e
  | nm m =>
   rw[k]at hf;rw[ag n m k]at e;refine⟨m,k,?_,e⟩;cases hn:lk m Q with
   | none=>simp only[GA,hn,HO]at hf
   | some z=>exact⟨z,hn⟩
 have I:∀n,lk n o=none→F n=ρ n:=fun n hn=>by grind
 have ax:MK t (vw w' G ⟨[],Q⟩ ρ') (vw w' c.O0 σ2 F):=by
  refine⟨rfl,fun b e B=>?_,ag,aq,fun n fr hn=>?_⟩
  ·rcases B with h0|⟨n,⟨x,hn⟩,i⟩
   ·exact e (.inl (.inl h0))
   ·rcases S n x hn with hn|⟨E,hn⟩
    ·obtain⟨m,_,f,l⟩:=P n x b hn i;exact e (.inr ⟨m,f,l⟩)
    ·obtain⟨C,_,y,j,_⟩:=H n x hn;rw[I n E]at i;exact e (.inl (.inr ⟨n,⟨y,j⟩,C,i⟩))
  ·obtain⟨x,ab⟩:=ba n fr hn;exact⟨x,by rw[ah,ab];rfl⟩
 have bm:∀b,(∃m,Gt ⟨[],objs⟩ m∧bk (r m) b)→own c.O0 σ ρ b:=by
  rintro b ⟨m,f,e⟩;obtain⟨n,_,hn,i⟩:=R m b f e;exact .inr ⟨n,hn,i⟩
 have ar:∀b,b<w.heap.size→¬own c.O0 σ ρ b→J b:=fun b N e=>⟨N,fun h=>e (bm b h)⟩;have aa:CW ((vw w c.O0 σ ρ).buts hs) (vw w' c.O0 σ2 F):=by
  have au:∀n,Gt σ n→AY n hs=false→Gt σ2 n∧F n=ρ n:=by
   intro n hn cc;by_cases hh:n∈Ai ren
   ·simp only[JV,IN,AAi]at an;rcases an n hh with h|h
    ·rw[cc]at h;cases h
    ·simp only[gO,As]at h;obtain⟨⟨m,fr⟩,hp,be,T⟩:=h;simp only at be T;unfold A5P at T;split at T
     ·rename_i q bx;simp only[As,AAq]at T;obtain⟨rfl,Z⟩:=T;unfold A5O at Z;split at Z
      ·rename_i V bb;have:V=m:=by simpa using Z
       subst this;obtain⟨x,ab⟩:=ba _ _ bb;refine⟨⟨x,by rw[ah,ab];rfl⟩,?_⟩;rw[ag _ _ bb,cg V ((AZ _ _).1 be)];exact ad _ _ bx
      ·cases Z
     ·cases T
   ·obtain⟨x,ab⟩:=hn;have k:lk n (Af (Ai ren) hs σ.objs)=some (x.fgt hs):=by grind [BS,AZ]
    obtain⟨_,E,_⟩:=H n _ k;exact⟨⟨_,by rw[ah,E,k];rfl⟩,I n E⟩
  refine⟨fun b N e B=>?_,fun n hn=>(au n hn.1 hn.2).1,fun n hn=>(au n hn.1 hn.2).2,fun b N e=>M.block b (ar b N e)⟩;have N:b<w.heap.size:=N;have e:¬own c.O0 σ ρ b:=e;rcases B with h0|⟨n,⟨x,hn⟩,i⟩
  ·exact e (.inl h0)
  ·rcases S n x hn with hn|⟨E,hn⟩
   ·obtain⟨m,_,f,l⟩:=P n x b hn i;exact(U.free m b f l).1 (ar b N e)
   ·obtain⟨C,_,y,j,_⟩:=H n x hn;rw[I n E]at i;exact e (.inr ⟨n,⟨y,j⟩,i⟩)
 have bo:∀b,c.K b→J b:=fun b e=>⟨AAJ (az.K b e) g.frm.size,fun⟨m,f,l⟩=>by
  obtain⟨n,_,hn,i⟩:=R m b f l;exact(g.free n b hn i).1 e⟩
 refine⟨F,⟨M.os.trans g.frm.os,M.tape.trans g.frm.tape,M.output.trans g.frm.output,TO g.frm.size M.size,fun b e=>(M.block b (bo b e)).trans (g.frm.block b e)⟩,by rw[KL];exact g.nt,by rw[Gb];exact g.defers,fun p hp=>?_,fun n x hn=>?_,fun n b W e=>?_,fun n q b W bv e B=>?_,fun s v ch=>?_⟩
 ·obtain⟨bg,cj,ck⟩:=g.pin p hp;have bh:AY p.1 hs=false:=by simpa using (IN.1 ce) p hp
  have cl:=aa.ρ p.1 ⟨bg,bh⟩;exact⟨aa.L p.1 ⟨bg,bh⟩,cl.trans cj,ck⟩
 ·rcases S n x hn with hn|⟨E,hn⟩
  ·exact Q0 ax U.obj (DU af hn)
  ·obtain⟨C,_,y,j,rfl⟩:=H n x hn;rw[I n E];refine Sz aa (fun b e=>?_) (g.objs n y j);refine M.block b ⟨(g.objs n y j).block_lt e,fun⟨m,f,l⟩=>?_⟩;obtain⟨q,bd,D,X⟩:=R m b f l;have:=g.dist n q b ⟨y,j⟩ D e X;grind
 ·obtain⟨x,hn⟩:=W;rcases S n x hn with hn|⟨E,hn⟩
  ·obtain⟨m,_,f,l⟩:=P n x b hn e;have:=U.free m b f l;grind
  ·obtain⟨C,_,y,j,rfl⟩:=H n x hn;rw[I n E]at e;exact g.free n b ⟨y,j⟩ e
 ·obtain⟨x,hn⟩:=W;obtain⟨Y,D⟩:=bv;rcases S n x hn with hn|⟨E,hn⟩<;>rcases S q Y D with D|⟨bc,D⟩
  ·obtain⟨m,k,f,l⟩:=P n x b hn e;obtain⟨V,bd,ai,bz⟩:=P q Y b D B;have:=U.dist m V b f ai l bz;grind [S2]
  ·exfalso;obtain⟨m,k,f,l⟩:=P n x b hn e;obtain⟨C,_,y,j,rfl⟩:=H q Y D;rw[I q bc]at B;exact(U.free m b f l).2 (.inr ⟨q,⟨y,j⟩,C,B⟩)
  ·exfalso;obtain⟨m,k,f,l⟩:=P q Y b D B;obtain⟨C,_,y,j,rfl⟩:=H n x hn;rw[I n E]at e;exact(U.free m b f l).2 (.inr ⟨n,⟨y,j⟩,C,e⟩)
  ·obtain⟨_,_,y,j,rfl⟩:=H n x hn;obtain⟨_,_,cm,ci,rfl⟩:=H q Y D;rw[I n E]at e;rw[I q bc]at B;exact g.dist n q b ⟨y,j⟩ ⟨cm,ci⟩ e B
 ·refine qQ (c:=c) g.nt bs (M6 ax bj br) (fun s v aj=>?_) ch;rw[DQ]at aj;simp only[No]at aj;obtain⟨y,j,rfl⟩:=aj;exact(PY (g.env s y j)).keeps aa
theorem Y4 (ae:c.Ok) {o:Oper} {dst:Option Nat} {g:Operand} {xs:List Operand} {ts:Array TypeId} (K:o.op=.call { callee:=.value g,args:=xs.toArray,argTypes:=ts }) (ai:o.dst=dst)
  {f:FuncId} {k:List Nat} (j:Cu (Aj σ g)=some (f,k)) {as:List AV} (aa:IW σ xs=some as)
  {A:List AV} {objs:List (Nat×Obj)} {stay:List Nat} {post:AV→List (Nat×Obj)→Prop} (B:BA c.P f A objs stay post)
  (ren:List (Nat×Bw)) (h1:B2 ren=true) (S:CO objs ren=true) (T:BH σ ren (as++k.map fun n=>AV.bp n [] 0) A) (V:Aa σ.objs ren objs)
  (hs:List Nat) (an:(c.ds.pin.all fun p=>!AY p.1 hs)=true) {next:Act→World→Prop} {Q:Exit→Act→World→Prop} {a:Act} {w:World} (aq:c.sat σ a w) (ah:∀d,dst=some d→d<c.nt)
  (hk:∀res M,post res M→∃(s:List (Nat×Bw)) (N:AV) (z:List (Nat×Obj)),B2 s=true∧CO z s=true∧Aa M s z∧Bg s res N ∧
   JV ren s stay hs=true∧Fb (Ai ren) z σ.objs=true∧∀G w',c.sat (CK σ (Ai ren) hs dst N z) G w'→next G w'):o.wpIn (FR c.r) 0 c.P a w next Q:=by
 obtain⟨ρ,L⟩:=aq;have I:GK (vw w c.O0 σ ρ) σ a.eval:=D5 L.env;obtain⟨⟨fn,aj,am,ad⟩,B⟩:=B;obtain⟨m,ak,ag⟩:∃m:List Value,a.eval g=.func (.func f) #[] m.toArray∧JE (vw w c.O0 σ ρ) (k.map fun n=>AV.bp n [] 0) m:=by
  cases D:Aj σ g with
  | none=>rw[D]at j;simp[Cu]at j
  | some H =>
   rw[D]at j;have C:=I g H D;cases H<;>simp only[Cu]at j<;>try(cases j;done)
   ·cases j;exact⟨[],C,rfl⟩
   ·rename_i aw ns;cases j;refine⟨k.map ρ,C.1,?_⟩;have h0:∀l:List Nat,(∀n∈l,n∈k)→JE (vw w c.O0 σ ρ) (l.map fun n=>AV.bp n [] 0) (l.map ρ):=by
     intro l;induction l with
     | nil=>intro _;exact rfl
     | cons n r F =>
      intro J;obtain⟨q,b,i⟩:=C.2 n (J n (by simp));have i:ρ n=_:=i;exact⟨ρ n,r.map ρ,rfl,⟨q,b,i,i⟩,F fun x ar=>J x (by simp[ar])⟩
    exact h0 k fun _ h=>h
 have Z:=Y3 I aa;have Y:∀ {l r:List AV} {t y:List Value},JE (vw w c.O0 σ ρ) l t→JE (vw w c.O0 σ ρ) r y→JE (vw w c.O0 σ ρ) (l++r) (t++y):=by
  intro l;induction l with
  | nil=>intro r t y hu E;have hu:t=[]:=hu;subst hu;exact E
  | cons x l F =>
   intro r t y hu E;obtain⟨v,au,rfl,q,i⟩:=hu;exact⟨v,au++y,rfl,q,F i E⟩
 have X:=Y Z ag;have ap:(execOp a.eval o).run c.P w=.ok (.enter f (xs.map a.eval++m).toArray) w:=by
  have q : ¬ fn.name = "runtime.NumGoroutine" := by simpa using am
  have i:¬fn.body=none:=by intro e;simp[e]at ad
  simp[execOp,K,resolve,Deferred.ofValue,ak,invoke,callFunc,aj,q,i]
 obtain⟨O,R,av,U,W,al,ab,_,ao⟩:=Q6 ae L X stay post ren h1 S T V hs an ah hk;have af:=B w O R av (xs.map a.eval++m) U W al ab;refine⟨fun _ _=>trivial,?_⟩;rw[Fk _ _ _ (fun cl e=>by rw[K]at e;cases e),ap,ACH];refine⟨fun h=>(by simp[FR]at h),K8 (af.mono fun e w' hh=>?_)⟩;obtain⟨u,rfl,hh⟩:=hh;rw[ai];exact ao u w' hh
theorem zI (D:c.Ok) {ops:Array Oper} {rest:List Oper} {dst:Option Nat} {g:Operand} {xs:List Operand} {ts:Array TypeId} {ty:TypeId} {pos:String} {after:Array Edge}
  {f:FuncId} {i:List Nat} (E:Cu (Aj σ g)=some (f,i)) {as:List AV} (C:IW σ xs=some as)
  {A:List AV} {objs:List (Nat×Obj)} {stay:List Nat} {post:AV→List (Nat×Obj)→Prop} (z:BA c.P f A objs stay post)
  (ren:List (Nat×Bw)) (hs:List Nat) (h1:B2 ren=true) (v:CO objs ren=true) (H:(c.ds.pin.all fun p=>!AY p.1 hs)=true) (x:BH σ ren (as++i.map fun n=>AV.bp n [] 0) A) (B:Aa σ.objs ren objs)
  (hk:∀res e,post res e→∃(b:List (Nat×Bw)) (h:AV) (d:List (Nat×Obj)),B2 b=true∧CO d b=true∧Aa e b d∧Bg b res h ∧
   JV ren b stay hs=true∧Fb (Ai ren) d σ.objs=true∧Hh c R k ops rest (CK σ (Ai ren) hs dst h d)) :
  Hh c R k ops (⟨dst,.call ⟨.value g,xs.toArray,ts⟩,ty,pos,after,none⟩ :: rest) σ:=by
 intro j F a w J;unfold wpListIn;rw[BY (by simp[Region.wanted])];refine Y4 D (xs:=xs) (ts:=ts) rfl rfl E C z ren h1 v x B hs H J (Be (j _ (by simp))) fun res e hp=>?_;obtain⟨b,h,d,m,q,r,s,t,u,y⟩:=hk res e hp;exact⟨b,h,d,m,q,r,s,t,u,fun l w' I=>y (fun o G=>j o (by simp[G])) F l w' I⟩
end
end
section
open Go Go.RowKit
def We (s:Nat):List Nat→List Nat
 | []=>[]
 | k :: r=>if s=k then r else k :: We s r
def Hi:List Nat→List (Nat×AV)→List (Nat×AV)
 | _,[]=>[]
 | [],_ :: _=>[]
 | k :: a,(s,v) :: r=>if AY s (k :: a)=true then (s,v) :: Hi (We s (k :: a)) r else Hi (k :: a) r
def De (a:List Nat):DI→DI
 | some (vc,σ)=>some (vc,⟨Hi a σ.env,σ.objs⟩)
 | none=>none
theorem XN {s t:Nat}:∀ {a:List Nat},AY s a=false→AY s (We t a)=false
 | [],h=>h
 | k :: r,h=>by
  simp only[AY]at h;split at h
  ·cases h
  ·rename_i b;simp only[We];split
   ·exact h
   ·simp only[AY,At b];exact XN h
theorem J0 {s:Nat}:∀ {env:List (Nat×AV)} {a:List Nat},AY s a=false→lk s (Hi a env)=none
 | [],a,_=>by cases a<;>rfl
 | (j,v) :: r,[],_=>rfl
 | (j,v) :: r,k :: a,h=>by
  simp only[Hi];split
  ·rename_i b;simp only[lk];rw[At (fun e=>by subst e;rw[h]at b;cases b)];exact J0 (XN h)
  ·exact J0 h
theorem UH {s:Nat} {x:AV}:∀ {env:List (Nat×AV)} {a:List Nat},lk s (Hi a env)=some x→lk s env=some x
 | [],a,h=>by cases a<;>simp[Hi,lk]at h
 | (j,v) :: r,[],h=>by simp[Hi,lk]at h
 | (j,v) :: r,k :: a,h=>by
  simp only[Hi]at h;split at h
  ·simp only[lk]at h ⊢;split at h
   ·grind
   ·rename_i e;rw[At e];exact UH h
  ·rename_i b;by_cases e:s=j
   ·grind [J0]
   ·simp only[lk,At e];exact UH h
theorem IX {d:List Nat} {r:DI} {vc:Prop} {σ':St} (h:De d r=some (vc,σ')):∃b,r=some (vc,b)∧∀c:Cx,y6 c b σ':=by
 cases r with
 | none=>cases h
 | some p =>
  obtain⟨f,b⟩:=p;simp only[De]at h;cases h;exact⟨b,rfl,fun c a w hs=>S4 (σ':=⟨Hi d b.env,b.objs⟩) (fun s v e=>UH e) (fun _=>rfl) hs⟩
section
variable {c:Cx} {R:Exit→Act→World→Prop} {k:List Dp} {σ σ':St}
theorem XO (g:List Nat) (e:c.P.follows .mixedOrders=true) (b:c.Ok) {id:Nat} {l:List Oper} (d:Lp l l.length=true) {vc:Prop}
  (h:De g (Lr c.tb l false σ.objs [] l 0 [] [] σ)=some (vc,σ')) (f:vc) (hk:Ev c R (.out .normal) k σ'):Ev c R (.run (.region id l.toArray true)) k σ:=by
 obtain⟨i,h1,a⟩:=IX h;exact zF e b d h1 f (hk.ent (a c))
theorem uL (g:List Nat) (m:Nat) (e:c.P.follows .mixedOrders=true) (b:c.Ok) {id:Nat} {l:List Oper} (d:Lp l (l.take (l.length-m)).length=true) {vc:Prop}
  (h:De g (Lr c.tb l false σ.objs (l.drop (l.length-m)) (l.take (l.length-m)) 0 [] [] σ)=some (vc,σ')) (f:vc) (hk:Ev c R (.out .normal) k σ'):Ev c R (.run (.region id l.toArray true)) k σ:=by
 obtain⟨i,h1,a⟩:=IX h;exact zG m e b d h1 f (hk.ent (a c))
theorem bL (f:List Nat) (b:c.Ok) {id:Nat} {l:List Oper} (d:uG l l.length=true) {vc:Prop}
  (h:De f (Lr c.tb l true σ.objs [] l 0 [] [] σ)=some (vc,σ')) (e:vc) (hk:Ev c R (.out .normal) k σ'):Ev c R (.run (.region id l.toArray false)) k σ:=by
 obtain⟨g,h1,a⟩:=IX h;exact l7 b d h1 e (hk.ent (a c))
theorem MS (e:List Nat) (b:c.Ok) {id:Nat} {l:List Oper} (h0:(l.all fun o=>o.guard.isNone)=true) {vc:Prop} (h:De e (Br c.tb l l σ)=some (vc,σ')) (d:vc) (hk:Ev c R (.out .normal) k σ') :
  Ev c R (.run (.region id l.toArray false)) k σ:=by
 obtain⟨f,h1,a⟩:=IX h;exact l8 b h0 h1 d (hk.ent (a c))
theorem IY (e:List Nat) (b:c.Ok) {ops:List Oper} {l:List Oper} {vc:Prop} (h:De e (Br c.tb ops l σ)=some (vc,σ')) (d:vc) (hk:Ev c R (.out .normal) k σ'):Hh c R k ops.toArray l σ:=by
 obtain⟨f,h1,a⟩:=IX h;exact Y0 b (by simpa using h1) d (hk.ent (a c))
theorem zJ (d:c.Ok) {id:Nat} {l:List Oper} (n:Nat) (h0:(l.all fun o=>o.guard.isNone)=true) {vc:Prop} (h:Br c.tb l (l.take n) σ=some (vc,σ')) (f:vc) (hk:Hh c R k l.toArray (l.drop n) σ') :
  Ev c R (.run (.region id l.toArray false)) k σ:=by
 intro h1 b a w hs;simp only[JP,Bv,IN]at h1;exact ACm (S5 d n (by simpa using h) f hk (fun o e=>h1 o e) b a w hs)
theorem zK (d:c.P.follows .mixedOrders=true) (a:c.Ok) {id:Nat} {l:List Oper} (n:Nat) (b:Lp l (l.take n).length=true) {vc:Prop}
  (h:Lr c.tb l false σ.objs [] (l.take n) 0 [] [] σ=some (vc,σ')) (e:vc) (hk:Hh c R k l.toArray (l.drop n) σ') :
  Ev c R (.run (.region id l.toArray true)) k σ:=bI d a n b h e hk
theorem CS {ops:Array Oper} (h:Ev c R (.out .normal) k σ):Hh c R k ops [] σ:=A4j h
end
end
end Go.Proofs.YtdapahgnpbehbaaGreat.Fw
