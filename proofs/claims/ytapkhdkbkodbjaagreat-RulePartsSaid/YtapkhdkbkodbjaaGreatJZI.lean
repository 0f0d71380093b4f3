/- Range over a function; scopes; several steps in one. -/
import Derived.Test.YtapkhdkbkodbjaaGreatJZH
import Derived.RangeFuncFrom
import Derived.Scope
import Derived.Laws.IdiomRangeMap
import Derived.Laws.StructEq
set_option linter.unusedVariables false
set_option linter.unusedSimpArgs false
namespace Go.Proofs.YtapkhdkbkodbjaaGreat.Fw
section
open Go Go.RowKit
theorem gH {V:Vw} {f:FuncId} {ns:List Nat} {v:Value} (h:B7 V (.clo f ns) v):v=.func (.func f) #[] (ns.map V.ρ).toArray/\Jd V (ns.map λn=>AV.bp n [] 0) (ns.map V.ρ):=by
 refine⟨h.1,?_⟩;have h0:∀l:List Nat,(∀n∈l,n∈ns)->Jd V (l.map λn=>AV.bp n [] 0) (l.map V.ρ):=by
  intro l;induction l with
  | nil=>intro _;exact rfl
  | cons n r g =>
   intro c;obtain⟨d,b,a⟩:=h.2 n (c n (by simp));exact⟨V.ρ n,r.map V.ρ,rfl,⟨d,b,a,a⟩,g λx e=>c x (by simp[e])⟩
 exact h0 ns λ_ h=>h
def Y6 (P:Program) (yn:Nat) (A:List AV) (objs:List (Nat×Obj)) (stay:List Nat) (post:AV->List (Nat×Obj)->Prop):Prop :=
 ∀(w:World) (K O0:Nat->Prop) (ρ:Nat->Value) (a:List Value) (b:Nat),(∀b,K b->b<w.heap.size)->(∀b,O0 b->b<w.heap.size)->zD K O0 objs ρ w->Jd (vw w O0 ⟨[],objs⟩ ρ) A a ->
  ρ yn=.pointer (some ⟨b,0,none⟩)->YieldAt (FR none) 0 P b a.toArray w λe w'=>∃u,e=.returned u/\MK K O0 stay w ρ post u w'
section
variable {c:Cx} {R:Exit->Act->World->Prop} {k:List DZ} {σ:St}
def bZ (n:Nat):Option AV->Bool
 | some (.yl m)=>m==n
 | _=>false
theorem A2g (N:c.Ok) (Y:c.r=none) {o:Oper} {dst:Option Nat} {g:Operand} {xs:List Operand} {ts:Array TypeId} (t:o.op=.call { callee:=.value g,args:=xs.toArray,argTypes:=ts }) (R:o.dst=dst)
  {n yn:Nat} (f:bZ n (Ak σ g)=true) {as:List AV} (L:Ii σ xs=some as)
  {A:List AV} {objs:List (Nat×Obj)} {stay:List Nat} {post:AV->List (Nat×Obj)->Prop} (H:Y6 c.P yn A objs stay post)
  (ren:List (Nat×B5)) (ad:lk yn ren=some (.nm n)) (h1:CD ren=true) (C:CT objs ren=true) (F:BS σ ren as A) (I:Ag σ.objs ren objs)
  (hs:List Nat) (W:(c.ds.pin.all λp=>!Ac p.1 hs)=true) {next:Act->World->Prop} {Q:Exit->Act->World->Prop} {a:Act} {w:World} (aa:c.sat σ a w) (O:∀d,dst=some d->d<c.nt)
  (hk:∀res x,post res x->∃(i:List (Nat×B5)) (y:AV) (j:List (Nat×Obj)),CD i=true/\CT j i=true/\Ag x i j/\Br i res y /\
   I9 ren i stay hs=true/\FY (Am ren) j σ.objs=true/\∀l w',c.sat (CU σ (Am ren) hs dst y j) l w'->next l w'):o.wpIn (FR c.r) 0 c.P a w next Q:=by
 obtain⟨ρ,v⟩:=aa;have s:GZ (vw w c.O0 σ ρ) σ a.eval:=Et v.env;obtain⟨b,ae,S⟩:∃b:Nat,ρ n=.pointer (some ⟨b,0,none⟩)/\a.eval g=.func (.yield b) #[] #[]:=by
  cases k:Ak σ g with
  | none=>rw[k]at f;simp[bZ]at f
  | some q =>
   rw[k]at f;have T:=s g q k;cases q<;>simp only[bZ]at f<;>try(cases f;done)
   rename_i m;have U:m=n:=by simpa using f
   subst U;obtain⟨_,b,D,E⟩:=T;exact⟨b,D,E⟩
 obtain⟨z,B,ag,G,J,V,M,af,X⟩:=Rq N v (bM s L) stay post ren h1 C F I hs W O hk;obtain⟨fn,tmps,assign,body,ab,K⟩:=H w z B ag (xs.map a.eval) b G J V M ((af _ _ ad).trans ae);have Z:(execOp a.eval o).run c.P w=.ok (.round b fn tmps assign body) w:=by
  simp[execOp,t,resolve,Deferred.ofValue,S,invoke];simpa using ab
 refine⟨λ_ _=>trivial,?_⟩;rw[Gv _ _ _ (λcl e=>by rw[t]at e;cases e),Z,Oper.uponIn_round];refine⟨λh=>(by simp[FR]at h),?_⟩;rw[Y];refine K.mono λe w' hh=>?_;obtain⟨u,rfl,hh⟩:=hh;rw[R];exact X u w' hh
theorem zN (C:c.Ok) (H:c.r=none) {ops:Array Oper} {rest:List Oper} {dst:Option Nat} {g:Operand} {xs:List Operand} {ts:Array TypeId} {ty:TypeId} {pos:String} {after:Array Edge}
  {n yn:Nat} (D:bZ n (Ak σ g)=true) {as:List AV} (B:Ii σ xs=some as)
  {A:List AV} {objs:List (Nat×Obj)} {stay:List Nat} {post:AV->List (Nat×Obj)->Prop} (y:Y6 c.P yn A objs stay post)
  (ren:List (Nat×B5)) (hs:List Nat) (K:lk yn ren=some (.nm n)) (h1:CD ren=true) (u:CT objs ren=true) (G:(c.ds.pin.all λp=>!Ac p.1 hs)=true) (v:BS σ ren as A) (z:Ag σ.objs ren objs)
  (hk:∀res e,post res e->∃(b:List (Nat×B5)) (f:AV) (d:List (Nat×Obj)),CD b=true/\CT d b=true/\Ag e b d/\Br b res f /\
   I9 ren b stay hs=true/\FY (Am ren) d σ.objs=true/\Ih c R k ops rest (CU σ (Am ren) hs dst f d)) :
  Ih c R k ops (⟨dst,.call ⟨.value g,xs.toArray,ts⟩,ty,pos,after,none⟩ :: rest) σ:=by
 intro h E a w J;unfold wpListIn;rw[BY (by simp[Region.wanted])];refine A2g C H (xs:=xs) (ts:=ts) rfl rfl D B y ren K h1 u v z hs G J (Bx (h _ (by simp))) λres e hp=>?_;obtain⟨b,f,d,j,l,m,q,s,t,x⟩:=hk res e hp;exact⟨b,f,d,j,l,m,q,s,t,λi w' I=>x (λo F=>h o (by simp[F])) E i w' I⟩
end
def HK:List Nat->List AV->List (Nat×AV)->List (Nat×AV)
 | p :: a,x :: xs,e=>HK a xs ((p,x) :: e)
 | _,_,e=>e
def cY (P:Program) (tb:Tb) (w0:World) (K O0:Nat->Prop) (nt l:Nat) (pin:List (Nat×Value)):Cx:={ P:=P,tb:=tb,w0:=w0,K:=K,O0:=O0,nt:=nt,ds:={ pin:=pin },r:=some l }
theorem qE {P:Program} {tb:Tb} {w0:World} {K O0:Nat->Prop} {nt l:Nat} {pin:List (Nat×Value)}:(cY P tb w0 K O0 nt l pin).tb=tb:=rfl
def mF (P:Program) (l:Nat) (w0:World) (K O0:Nat->Prop) (stay:List Nat) (ρ0:Nat->Value) (post:AV->List (Nat×Obj)->Prop):Exit->Act->World->Prop :=
 roundPost P l λe w'=>∃u,e=.returned u/\MK K O0 stay w0 ρ0 post u w'
theorem qF {V:Vw}:∀(b:List Nat) (A:List AV) (c:List Value) (e:List (Nat×AV)) (a:Array Value),Jd V A c->(∀p∈b,p<a.size)->A.length=b.length->(∀s x,lk s e=some x->B7 V x (a.getD s undef)) ->
  (∀s x,lk s (HK b A e)=some x->B7 V x (((b.zip c).foldl (λt (p,v)=>t.setIfInBounds p v) a).getD s undef))/\((b.zip c).foldl (λt (p,v)=>t.setIfInBounds p v) a).size=a.size
 | [],_,_,e,a,_,_,_,h=>by simpa[HK] using h
 | p :: b,[],_,e,a,_,_,d,_=>by simp at d
 | p :: b,x :: A,c,e,a,⟨v,r,k,h1,g⟩,hp,d,h=>by
  subst k;simp only[AFe,OR,HK];have l:=qF b A r ((p,x) :: e) (a.setIfInBounds p v) g (λq j=>by simpa using hp q (by simp[j])) (by simpa using d) (λs y hs=>by
   have f:=Kg { tmps:=a,defers:=[] } p v s (hp p (by simp));have f:(a.setIfInBounds p v).getD s undef=if s=p then v else a.getD s undef:=f
   rw[f];simp only[lk]at hs;split at hs
   ·grind
   ·rename_i i;rw[An i];exact h s y hs)
  grind
section
variable {P:Program} {tb:Tb} {w0:World} {K O0:Nat->Prop} {nt l:Nat} {stay:List Nat} {ρ0:Nat->Value} {post:AV->List (Nat×Obj)->Prop} {σ:St} {pin:List (Nat×Value)}
theorem QM {c:Cx} (i:c.Ok) {σ:St} {a:Act} {w:World} {ρ:Nat->Value} (hs:Bv c.w0 c.K c.O0 c.nt c.ds σ ρ a w) {yn b:Nat} {L:Go.Loop} (h:lk yn σ.objs=some (.loop L)) (d:ρ yn=.pointer (some ⟨b,0,none⟩)) (e:Go.Loop) :
  w.heap[b]?=some (.loop L)/\Bv c.w0 c.K c.O0 c.nt c.ds ⟨σ.env,upd yn (.loop e) σ.objs⟩ ρ a (w.putObj b (.loop e)):=by
 obtain⟨b',h1,f⟩:=hs.objs yn _ h;rw[d]at h1;injection h1 with h1
 injection h1 with h1
 injection h1 with h1
 subst h1;have j:b<w.heap.size:=CQ f;refine⟨f,hs.upd i.K h (g:=b) (by rw[d];rfl) (grownBy_putObj' w b _) ?_⟩;exact⟨b,d,World.putObj_heap_same j⟩
theorem Rw (f:(cY P tb w0 K O0 nt l pin).Ok) {yn:Nat} {L:Go.Loop} (g:lk yn σ.objs=some (.loop L)) (h:pin=stay.map λn=>(n,ρ0 n)) (i:yn∈stay) (e:ρ0 yn=.pointer (some ⟨l,0,none⟩))
  (hp:post (.p .bool true) (upd yn (.loop { L with state:=.ready,pending:=none }) σ.objs)) :
  Ev (cY P tb w0 K O0 nt l pin) (mF P l w0 K O0 stay ρ0 post) (.out .normal) [] σ:=by
 intro _ _ a w hs;obtain⟨ρ,hs⟩:=hs;have c:∀n∈stay,ρ n=ρ0 n:=λn hn=>(hs.pin (n,ρ0 n) (by rw[show (cY P tb w0 K O0 nt l pin).ds.pin=pin from rfl,h];exact IF.2 ⟨n,hn,rfl⟩)).2.1;obtain⟨d,b⟩:=QM f hs g ((c _ i).trans e) { L with state:=.ready,pending:=none };refine⟨_,_,run_endRound none d,.bool true,rfl,.p .bool true,_,ρ,hp,b.frm,⟨b.objs,b.free,b.dist⟩,⟨_,rfl,rfl⟩,c⟩
theorem Y7 (f:(cY P tb w0 K O0 nt l pin).Ok) {yn:Nat} {L:Go.Loop} (g:lk yn σ.objs=some (.loop L)) (h:pin=stay.map λn=>(n,ρ0 n)) (i:yn∈stay) (e:ρ0 yn=.pointer (some ⟨l,0,none⟩))
  (hp:post (.p .bool false) (upd yn (.loop { L with state:=.done,pending:=some .ret }) σ.objs)) :
  Ev (cY P tb w0 K O0 nt l pin) (mF P l w0 K O0 stay ρ0 post) (.out .ret) [] σ:=by
 intro _ _ a w hs;obtain⟨ρ,hs⟩:=hs;have c:∀n∈stay,ρ n=ρ0 n:=λn hn=>(hs.pin (n,ρ0 n) (by rw[show (cY P tb w0 K O0 nt l pin).ds.pin=pin from rfl,h];exact IF.2 ⟨n,hn,rfl⟩)).2.1;obtain⟨d,b⟩:=QM f hs g ((c _ i).trans e) { L with state:=.done,pending:=some .ret };refine⟨_,_,run_endRound (some .ret) d,.bool false,rfl,.p .bool false,_,ρ,hp,b.frm,⟨b.objs,b.free,b.dist⟩,⟨_,rfl,rfl⟩,c⟩
def AAz (c:Cx) (R:Exit->Act->World->Prop) (yn:Nat) (L:Go.Loop) (a:Code) (σ:St):Prop :=
 lk yn σ.objs=some (.loop L)/\Ev c R (.run a) [] ⟨σ.env,upd yn (.loop { L with state:=.busy }) σ.objs⟩
theorem gI {yn fr:Nat} {A:List AV} {objs:List (Nat×Obj)} {L:Go.Loop} {d:List Nat} {r s:Code} {fs:List (Nat×AV)} {g:Array Value}
  (z:lk yn objs=some (.loop L)) (hf:lk fr objs=some (.frame g fs)) (h1:L.state=.ready) (I:L.params=d.toArray) (J:L.assign=r) (M:L.body=s) (aj:L.tmps=g) (E:g.size=nt)
  (B:A.length=d.length) (Y:(d.all λp=>decide (p<nt))=true) (af:yn∈stay) (ab:stay.all (S4 objs)=true) (W:MB objs=true) (S:Bz nt r=true) (T:Bz nt s=true) (hT:DH P tb) (hF:Iv P tb)
  (h:∀(w0:World) (K O0:Nat->Prop) (ρ0:Nat->Value) (l:Nat),(cY P tb w0 K O0 nt l (stay.map λn=>(n,ρ0 n))).Ok->QI A->Oj objs->ρ0 yn=.pointer (some ⟨l,0,none⟩) ->
   Ev (cY P tb w0 K O0 nt l (stay.map λn=>(n,ρ0 n))) (λ_ _ _=>False) (.run r) [.inv (AAz (cY P tb w0 K O0 nt l (stay.map λn=>(n,ρ0 n))) (mF P l w0 K O0 stay ρ0 post) yn L s)] ⟨HK d A fs,objs⟩) :
  Y6 P yn A objs stay post:=by
 intro w K O0 ρ q b O Q f x u;have ae:=I8 x;obtain⟨b',c,hh⟩:=f.obj yn _ z;rw[u]at c;injection c with c
 injection c with c
 injection c with c
 subst c;have Z:=run_yield (P:=P) (args:=q.toArray) hh (by rw[I];simp[ae,B]);refine⟨_,_,_,_,Z,roundIn_of_wpIn trivial ?_⟩;have y:(cY P tb w K O0 nt b (stay.map λn=>(n,ρ n))).Ok:=⟨O,Q,hT,hF⟩;have U:=f.obj fr _ hf;have C:=qF (V:=vw w O0 ⟨[],objs⟩ ρ) d A q fs g x (λp hp=>by have:=(Is.1 Y) p hp;rw[E];simpa using this) B U.2;have ad:(L.params.zip q.toArray).foldl (λt (p,v)=>t.setIfInBounds p v) L.tmps=(d.zip q).foldl (λt (p,v)=>t.setIfInBounds p v) g:=by grind
 rw[J,M,ad];have aa:(cY P tb w K O0 nt b (stay.map λn=>(n,ρ n))).sat ⟨HK d A fs,objs⟩ { tmps:=(d.zip q).foldl (λt (p,v)=>t.setIfInBounds p v) g,defers:=[] } w:=by
  refine⟨ρ,⟨rfl,rfl,rfl,NO _,λ_ _=>rfl⟩,by rw[C.2];exact E,rfl,λp hp=>?_,f.obj,f.free,f.dist,C.1⟩;obtain⟨n,hn,rfl⟩:=IF.1 hp;have:=(Is.1 ab) n hn;unfold S4 at this;cases i:lk n objs with
  | none=>rw[i]at this;cases this
  | some o =>
   rw[i]at this;refine⟨⟨o,i⟩,rfl,?_⟩;have j:=f.obj n o i;cases o with
   | arr et e xs=>exact .inr this
   | nest et al k e xs z=>exact .inr this
   | box et st fs=>obtain⟨_,b,cs,a,_⟩:=j;rw[a];exact .inl rfl
   | mapo k v l=>obtain⟨b,ai,cl,a,_⟩:=j;rw[a];exact .inl rfl
   | frame g fs=>obtain⟨a,_⟩:=j;rw[a];exact .inl rfl
   | loop L=>obtain⟨b,a,_⟩:=j;rw[a];exact .inl rfl
   | itr am ap an ao ak=>obtain⟨b,a,_⟩:=j;rw[a];exact .inl rfl
   | dfr=>obtain⟨b,a,_⟩:=j;rw[a];exact .inl rfl
 have N:=h w K O0 ρ b y (Ug x) (Uh W λn o i=>bL (f.obj n o i)) u (by simpa[Ht,cY] using S) rfl _ _ aa;refine AFz (F:=FR (some b)) N ?_;intro e ah w' m;cases e with
 | normal =>
  obtain⟨σ',⟨ρ',D⟩,X,R⟩:=m;have ag:ρ' yn=.pointer (some ⟨b,0,none⟩):=(D.pin (yn,ρ yn) (IF.2 ⟨yn,af,rfl⟩)).2.1.trans u;obtain⟨G,H⟩:=QM y D X ag { L with state:=.busy };exact⟨_,run_beginRound G h1,R (by simpa[Ht,cY] using T) rfl _ _ ⟨ρ',H⟩⟩
 | exit id=>exact m.elim
 | goto t=>exact m.elim
 | ret=>exact m.elim
 | panic ch=>exact m.elim
 | outgrown=>exact m.elim
end
end
section
open Go Go.RowKit
def Cx.marked (c:Cx) (dn b:Nat):Cx:={ c with ds:={ ds:=⟨.collected b,#[]⟩ :: c.ds.ds,pin:=(dn,.pointer (some ⟨b,0,none⟩)) :: c.ds.pin } }
def Cx.marked2 (c:Cx) (yn dn b:Nat):Cx:={ c with ds:={ ds:=⟨.collected b,#[]⟩ :: c.ds.ds,pin:=(yn,.pointer (some ⟨b+1,0,none⟩)) :: (dn,.pointer (some ⟨b,0,none⟩)) :: c.ds.pin } }
theorem mG {c:Cx} {yn dn b:Nat} (h:c.Ok):(c.marked2 yn dn b).Ok:=⟨h.K,h.O,h.T,h.F⟩
theorem NN {c:Cx} {dn b:Nat}:(c.marked dn b).tb=c.tb:=rfl
theorem NP {c:Cx} {dn b:Nat} (h:c.Ok):(c.marked dn b).Ok:=⟨h.K,h.O,h.T,h.F⟩
theorem zO (ren:List (Nat×B5)) (x:AV):Br ren x .top:=by grind [Br,Hx,D6]
def gJ:List DZ->Bool
 | []=>true
 | .inv _ :: _=>false
 | _ :: k=>gJ k
theorem Oq {c:Cx} {R:Exit->Act->World->Prop} {dn b:Nat}:∀ {k:List DZ},gJ k=true->VY (c.marked dn b) R k=VY c R k
 | [],_=>by funext e a w;simp[VY]
 | .inv _ :: _,h=>by simp[gJ]at h
 | .seq y :: k,h=>by
  have d:=Oq (c:=c) (R:=R) (dn:=dn) (b:=b) (k:=k) h;funext e a w;cases e<;>simp only[VY,d]<;>rfl
 | .blk id :: k,h=>by
  have d:=Oq (c:=c) (R:=R) (dn:=dn) (b:=b) (k:=k) h;funext e a w;cases e<;>simp only[VY,d]
def BV (σ:St) (yn dn fr:Nat) (L:Go.Loop) (a:Array Value):St:=⟨σ.env,(yn,.loop L) :: (dn,.dfr) :: (fr,.frame a σ.env) :: σ.objs⟩
section
variable {c:Cx} {R:Exit->Act->World->Prop} {k:List DZ} {σ:St}
theorem zP (q:c.Ok) {a:Act} {w:World} {ρ:Nat->Value} (hs:Bv c.w0 c.K c.O0 c.nt c.ds σ ρ a w) {yn dn fr:Nat} (r:yn≠dn) (D:yn≠fr) (E:dn≠fr) (F:lk yn σ.objs=none) (G:lk dn σ.objs=none) (H:lk fr σ.objs=none) (L:Go.Loop) :
  ∃e,Bv c.w0 c.K c.O0 c.nt (c.marked2 yn dn w.heap.size).ds (BV σ yn dn fr L a.tmps) e { a with defers:=[{ target:=.collected w.heap.size,args:=#[] }]++a.defers } ((w.alloc (.deferred (some []))).alloc (.loop L))/\e yn=.pointer (some ⟨w.heap.size+1,0,none⟩):=by
 let e:Nat->Value:=λm=>if m=yn then .pointer (some ⟨w.heap.size+1,0,none⟩) else if m=dn then .pointer (some ⟨w.heap.size,0,none⟩) else if m=fr then .pointer none else ρ m
 have j:e yn=.pointer (some ⟨w.heap.size+1,0,none⟩):=by simp[e]
 have k:e dn=.pointer (some ⟨w.heap.size,0,none⟩):=by simp[e,Ne.symm r]
 have y:e fr=.pointer none:=by simp[e,Ne.symm D,Ne.symm E]
 obtain⟨f,i⟩:∃f,(w.alloc (.deferred (some []))).alloc (.loop L)=f:=⟨_,rfl⟩;have A:f.heap[w.heap.size+1]?=some (.loop L):=by
  rw[<-i];have:=World.alloc_heap_new (w.alloc (.deferred (some []))) (.loop L);rwa [World.size_alloc]at this
 have z:f.heap[w.heap.size]?=some (.deferred (some [])):=by
  rw[<-i];exact(Below.heap_alloc _ _ _ (by simp)).trans (World.alloc_heap_new w _)
 have l:Below w.heap.size w f:=by
  rw[<-i];exact((Below.refl _ w).alloc (NO _) _).alloc (by simp) _
 rw[i];have t:Bi [(yn,Obj.loop L),(dn,.dfr),(fr,.frame a.tmps σ.env)] σ=true:=by simp[Bi,F,G,H]
 have v:∀n,lk n [(yn,Obj.loop L),(dn,Obj.dfr),(fr,.frame a.tmps σ.env)]=none->e n=ρ n:=λn hn=>by grind [lk]
 have u:∀n o b,lk n [(yn,Obj.loop L),(dn,Obj.dfr),(fr,.frame a.tmps σ.env)]=some o->bk (e n) b->w.heap.size<=b:=λn o b hn B=>by grind [lk,bk,blk]
 have I:=Ho (O0:=c.O0) (ρ:=ρ) (ρ':=e) t l v u;have J:QS w c.O0 σ ρ .top [(yn,Obj.loop L),(dn,.dfr),(fr,.frame a.tmps σ.env)] undef e f:=by
  refine⟨l,v,trivial,λn o hn=>?_,u,λn m o Q b hn P B N=>?_⟩
  ·simp only[lk]at hn;split at hn
   ·rename_i g;cases hn;subst g;exact⟨_,j,A⟩
   ·split at hn
    ·rename_i g;cases hn;subst g;exact⟨_,k,z⟩
    ·split at hn
     ·rename_i g;cases hn;subst g;exact⟨y,λs x M=>(hs.env s x M).keeps I⟩
     ·cases hn
  ·grind [lk,bk,blk]
 have h:=hs.add q.K q.O (dst:=none) (λd C=>by cases C) t J;refine⟨e,⟨h.frm,h.nt,?_,λp hp=>?_,h.objs,h.free,h.dist,h.env⟩,j⟩
 ·show _=_ :: c.ds.ds;rw[<-hs.defers];rfl
 ·rcases DO.1 hp with rfl|hp
  ·exact⟨⟨.loop L,by simp[BV,lk]⟩,j,.inl rfl⟩
  rcases DO.1 hp with rfl|hp
  ·exact⟨⟨.dfr,by simp[BV,lk,Ne.symm r]⟩,k,.inl rfl⟩
  ·exact h.pin p hp
def EvJ (c:Cx) (R:Exit->Act->World->Prop) (k:List DZ) (σ:St):Option Code->Prop
 | none=>Ev c R (.out .normal) k σ
 | some a=>match a with
  | .ret=>Ev c R (.out .ret) k σ
  | .exit id=>Ev c R (.out (.exit id)) k σ
  | _=>False
def ADL (c:Cx) (R:Exit->Act->World->Prop) (k:List DZ) (a:Act) (w:World):Option Code->Prop
 | none=>VY c R k .normal a w
 | some cd=>cd.wpIn (FR c.r) 0 c.P (VY c R k) a w
theorem A5t {dn b:Nat} (g:gJ k=true) (e:DC c.nt k=true) {p:Option Code} (d:EvJ (c.marked dn b) R k σ p) {a:Act} {w:World} (hs:(c.marked dn b).sat σ a w) :
  ADL c R k a w p:=by
 have f:=Oq (c:=c) (R:=R) (dn:=dn) (b:=b) g;cases p with
 | none =>
  have:=d rfl e _ _ hs;show VY c R k .normal a w;rw[<-f];exact this
 | some cd =>
  cases cd<;>try exact d.elim
  ·have:=d rfl e _ _ hs;refine wpIn_exit ?_;rw[<-f];exact this
  ·have:=d rfl e _ _ hs;refine wpIn_ret ?_;rw[<-f];exact this
theorem gK (T:c.Ok) (bl:c.r=none) (bf:gJ k=true) {g:Operand} {N:Array Tmp} {G H:Code} {s:FuncId} {m:List Nat} (J:Ak σ g=some (.clo s m))
  (yn dn fr:Nat) (D:(yn != dn&&yn != fr&&dn != fr)=true) (ba:lk yn σ.objs=none) (bb:lk dn σ.objs=none) (bc:lk fr σ.objs=none)
  (am:∀(L:Go.Loop) (z:Array Value),L.state=.ready->L.pending=none->L.tmps=z->L.params=N->L.assign=G->L.body=H->z.size=c.nt ->
   ∃(A:List AV) (objs:List (Nat×Obj)) (stay:List Nat) (post:AV->List (Nat×Obj)->Prop) (ren:List (Nat×B5)) (hs:List Nat),BJ c.P s A objs stay post /\
    CD ren=true/\CT objs ren=true/\BS (BV σ yn dn fr L z) ren (.yl yn :: m.map λn=>AV.bp n [] 0) A/\Ag (BV σ yn dn fr L z).objs ren objs /\
    (((yn,undef) :: (dn,undef) :: c.ds.pin).all λp=>!Ac p.1 hs)=true /\
    ∀res y,post res y->∃(j:List (Nat×B5)) (i:List (Nat×Obj)) (l:Go.Loop),CD j=true/\CT i j=true/\Ag y j i/\I9 ren j stay hs=true/\FY (Am ren) i (BV σ yn dn fr L z).objs=true /\
     lk yn i=some (.loop l)/\(l.state == .busy)=false /\
     ∀b,EvJ (c.marked dn b) R k ⟨(CU (BV σ yn dn fr L z) (Am ren) hs none .top i).env,upd yn (.loop { l with state:=.exhausted }) (CU (BV σ yn dn fr L z) (Am ren) hs none .top i).objs⟩ l.pending) :
  Ev c R (.run (.rangeFunc g N G H)) k σ:=by
 intro h1 ak a w bn;obtain⟨ρ,hs⟩:=bn;have az:GZ (vw w c.O0 σ ρ) σ a.eval:=Et hs.env;obtain⟨bd,_⟩:=gH (az g _ J);simp only[AT,AEM,ne_eq]at D;obtain⟨⟨av,aw⟩,ax⟩:=D;refine wpIn_rangeFunc (F:=FR c.r) ?_;intro fn _;have bm:(FR c.r).round=none:=by rw[bl];rfl
 rw[bm];obtain⟨L,x⟩:∃L:Go.Loop,L={ state:=.ready,pending:=none,fn,tmps:=a.tmps,params:=N,assign:=G,body:=H,defers:=w.heap.size }:=⟨_,rfl⟩;obtain⟨Y,M,bq⟩:=zP T hs av aw ax ba bb bc L;obtain⟨A,objs,stay,post,ren,B,I,ae,af,ag,ah,ai,aj⟩:=am L a.tmps (by rw[x]) (by rw[x]) (by rw[x]) (by rw[x]) (by rw[x]) (by rw[x]) hs.nt;obtain⟨⟨O,au,bi,ap⟩,I⟩:=I;obtain⟨o,S⟩:∃o,(w.alloc (.deferred (some []))).alloc (.loop L)=o:=⟨_,rfl⟩;rw[S]at M;have U:(c.marked2 yn dn w.heap.size).Ok:=mG T;have ar:Jd (vw o c.O0 (BV σ yn dn fr L a.tmps) Y) (.yl yn :: m.map λn=>AV.bp n [] 0) (.func (.yield (w.heap.size+1)) #[] #[] :: m.map ρ):=by
  refine⟨_,_,rfl,⟨⟨_,by simp[BV,lk];rfl⟩,_,bq,rfl⟩,?_⟩;have cb:=gH (V:=vw o c.O0 (BV σ yn dn fr L a.tmps) Y) (f:=s) (ns:=m) (v:=a.eval g) (by
   have:=Et M.env;have bj:Ak (BV σ yn dn fr L a.tmps) g=some (.clo s m):=by
    cases g with
    | tmp t=>exact J
    | _=>exact J
   have Q:=this g _ bj;have ay:({ a with defers:=[{ target:=.collected w.heap.size,args:=#[] }]++a.defers }:Act).eval g=a.eval g:=by cases g<;>rfl
   rw[ay]at Q;exact Q)
  grind [vw]
 have bg:∀res y,post res y->∃(j:List (Nat×B5)) (X:AV) (i:List (Nat×Obj)),CD j=true/\CT i j=true/\Ag y j i/\Br j res X /\
   I9 ren j stay B=true/\FY (Am ren) i (BV σ yn dn fr L a.tmps).objs=true/\∀C w',(c.marked2 yn dn w.heap.size).sat (CU (BV σ yn dn fr L a.tmps) (Am ren) B none X i) C w' ->
    rangePost (FR c.r) 0 c.P (w.heap.size+1) (VY c R k) C (.returned undef) w':=by
  intro res y hp;obtain⟨j,i,l,bs,bt,bu,bv,bw,cc,W,bx⟩:=aj res y hp;refine⟨j,.top,i,bs,bt,bu,zO j res,bv,bw,λC w' E=>?_⟩;obtain⟨ρ',E⟩:=E;have br:lk yn (CU (BV σ yn dn fr L a.tmps) (Am ren) B none .top i).objs=some (.loop l):=by grind [CU,A5]
  have hyp:=(E.pin (yn,.pointer (some ⟨w.heap.size+1,0,none⟩)) (by simp[Cx.marked2])).2.1;obtain⟨bz,q⟩:=QM U E br hyp { l with state:=.exhausted };refine⟨_,_,run_endLoop bz (by intro e;rw[e]at W;cases W),?_⟩;have bo:(c.marked dn w.heap.size).sat ⟨(CU (BV σ yn dn fr L a.tmps) (Am ren) B none .top i).env,upd yn (.loop { l with state:=.exhausted }) (CU (BV σ yn dn fr L a.tmps) (Am ren) B none .top i).objs⟩ C (w'.putObj (w.heap.size+1) (.loop { l with state:=.exhausted })) :=
   ⟨ρ',q.frm,q.nt,q.defers,λp hp=>q.pin p (OF _ hp),q.objs,q.free,q.dist,q.env⟩
  have K:=A5t bf ak (bx w.heap.size) bo;revert K;generalize l.pending=p;intro K;cases p<;>exact K
 obtain⟨Z,aa,ca,al,an,bh,ao,_,bk⟩:=Rq U M ar stay post ren ae af ag ah B (by simpa[Cx.marked2] using ai) (dst:=none) (λd D=>by cases D) bg;have aq:=I o Z aa ca _ al an bh ao;refine⟨w.heap.size+1,[{ target:=.collected w.heap.size,args:=#[] }],o,{ target:=.fn (.func s) (m.map ρ).toArray,args:=#[.func (.yield (w.heap.size+1)) #[] #[]] },o,s,
  (.func (.yield (w.heap.size+1)) #[] #[] :: m.map ρ).toArray,o,?_,?_,λ_ _=>trivial,?_,λh=>by simp[FR]at h,?_⟩
 ·rw[<-S,x];exact run_enterLoop_outer _ _ _ _ _
 ·have be:a.eval g=.func (.func s) #[] (m.map ρ).toArray:=bd;simp only[resolve,be];simp[go_sem]
 ·have ab : ¬ O.name = "runtime.NumGoroutine" := by simpa using bi
  have ad:¬O.body=none:=by intro e;simp[e]at ap
  simp[invoke,callFunc,au,ab,ad]
 ·refine Ob (aq.mono λe w' hh=>?_);obtain⟨u,rfl,hh⟩:=hh;exact bk u w' hh
theorem A2h (O:c.Ok) {a:Act} {w:World} {ρ:Nat->Value} (hs:Bv c.w0 c.K c.O0 c.nt c.ds σ ρ a w) {dn b:Nat} (j:lk dn σ.objs=some .dfr) (i:ρ dn=.pointer (some ⟨b,0,none⟩)) (X:_root_.Go.Obj) (pin:List (Nat×Value)) (G:∀p∈pin,p∈c.ds.pin/\p.1≠dn) :
  w.heap[b]?=some (.deferred (some []))/\Bv c.w0 c.K c.O0 c.nt { ds:=c.ds.ds,pin:=pin } ⟨Bu [dn] σ.env,Ao [dn] [dn] σ.objs⟩ ρ a (w.putObj b X):=by
 obtain⟨b',h1,h⟩:=hs.objs dn _ j;rw[i]at h1;injection h1 with h1
 injection h1 with h1
 injection h1 with h1
 subst h1;have P:b<w.heap.size:=CQ h;refine⟨h,?_⟩;have A:own c.O0 σ ρ b:=.inr ⟨dn,⟨_,j⟩,by rw[i];exact .inl rfl⟩;have f:∀n,HH ⟨Bu [dn] σ.env,Ao [dn] [dn] σ.objs⟩ n->HH σ n/\n≠dn:=by
  rintro n ⟨o,hn⟩;have hn:lk n (Ao [dn] [dn] σ.objs)=some o:=hn;rw[Bj]at hn;split at hn
  ·cases hn
  ·rename_i r;simp only[If]at hn;obtain⟨y,d,_⟩:=hn;exact⟨⟨y,d⟩,λe=>r (by subst e;simp[Ac])⟩
 have l:∀k,k≠b->(w.putObj b X).heap[k]?=w.heap[k]?:=λk hk=>World.putObj_heap_other hk;have q:Cb ((vw w c.O0 σ ρ).buts [dn]) (vw (w.putObj b X) c.O0 ⟨Bu [dn] σ.env,Ao [dn] [dn] σ.objs⟩ ρ):=by
  refine⟨λk _ hk B=>?_,λn hn=>?_,λ_ _=>rfl,λk _ hk=>l k (λe=>?_)⟩
  ·rcases B with h0|⟨n,hn,E⟩
   ·exact hk (.inl h0)
   ·exact hk (.inr ⟨n,(f n hn).1,E⟩)
  ·obtain⟨⟨o,F⟩,D⟩:=hn;exact⟨_,by show lk n (Ao [dn] [dn] σ.objs)=_;rw[Bj,An (by rw[D];simp),F];rfl⟩
  ·subst e;exact hk A
 refine⟨⟨hs.frm.os,hs.frm.tape,hs.frm.output,by simpa using hs.frm.size,λk hk=>?_⟩,hs.nt,hs.defers,λp hp=>?_,λn x hn=>?_,λn k C hk=>hs.free n k (f n C).1 hk,λn m k h1 h u z=>hs.dist n m k (f n h1).1 (f m h).1 u z,λs v t=>?_⟩
 ·refine(l k λe=>?_).trans (hs.frm.block k hk);subst e;exact(hs.free dn k ⟨_,j⟩ (by rw[i];exact .inl rfl)).1 hk
 ·obtain⟨H,I⟩:=G p hp;obtain⟨J,M,N⟩:=hs.pin p H;exact⟨q.L p.1 ⟨J,by simp[Ac,I]⟩,M,N⟩
 ·have g:lk n (Ao [dn] [dn] σ.objs)=some x:=hn;have r:=(f n ⟨x,hn⟩).2;rw[Bj]at g;split at g
  ·cases g
  ·simp only[If]at g;obtain⟨y,d,rfl⟩:=g;refine Ua q (λk hk=>l k λe=>?_) (hs.objs n y d);subst e;exact r (hs.dist n dn k ⟨y,d⟩ ⟨_,j⟩ hk (by rw[i];exact .inl rfl))
 ·rw[EO]at t;simp only[If]at t;obtain⟨y,d,rfl⟩:=t;exact(Ps (hs.env s y d)).keeps q
end
def qG (P:Program) (fn:Func) (w0:World) (K O0:Nat->Prop) (stay:List Nat) (ρ0:Nat->Value) (post:AV->List (Nat×Obj)->Prop):Exit->Act->World->Prop :=
 bodyPostM (FR none) 0 P fn λe w'=>∃u,e=.returned u/\MK K O0 stay w0 ρ0 post u w'
theorem A5u {P:Program} {tb:Tb} {f:FuncId} {fn:Func} {cd:Code} {nt:Nat} {args:List AV} {objs:List (Nat×Obj)} {stay:List Nat} {post:AV->List (Nat×Obj)->Prop}
  (c : P.funcs[f]? = some fn) (k : (fn.name == "runtime.NumGoroutine") = false) (b : fn.body = some cd) (l : fn.ntmps = nt) (q : args.length <= nt)
  (i:Bz nt cd=true) (p:stay.all (S4 objs)=true) (j:MB objs=true) (hT:DH P tb) (hF:Iv P tb)
  (h:∀(w0:World) (K O0:Nat->Prop) (ρ0:Nat->Value),(cm P tb w0 K O0 nt (stay.map λn=>(n,ρ0 n))).Ok->QI args->Oj objs ->
   Ev (cm P tb w0 K O0 nt (stay.map λn=>(n,ρ0 n))) (qG P fn w0 K O0 stay ρ0 post) (.run cd) [] ⟨Ar 0 args,objs⟩):BJ P f args objs stay post:=by
 refine⟨⟨fn,c,k,by simp[b]⟩,λw K O0 ρ s e g d a=>?_⟩;refine callsIn_wide.1 (callsIn_of_wp_marks (F:=FR none) (n:=0) c b trivial ?_ rfl);have r:=I8 a;rw[l];exact h w K O0 ρ ⟨e,g,hT,hF⟩ (Ug a) (Uh j λn o m=>bL (d.obj n o m)) i rfl _ _ (Vi d a p (by omega))
theorem QN {P:Program} {tb:Tb} {w0:World} {K O0:Nat->Prop} {nt:Nat} {stay:List Nat} {ρ0:Nat->Value} {fn:Func} {post:AV->List (Nat×Obj)->Prop} {σ:St} {e:Exit} {dn b:Nat} (d:((cm P tb w0 K O0 nt (stay.map λn=>(n,ρ0 n))).marked dn b).Ok)
  (g:List ResultVar) (s:fn.results.toList=g) (o:e=.ret\/e=.normal) (q:lk dn σ.objs=some .dfr) (f:Ac dn stay=false) (res:AV) (h:S5 tb ⟨Bu [dn] σ.env,Ao [dn] [dn] σ.objs⟩ g res) (hp:post res (Ao [dn] [dn] σ.objs)) :
  Ev ((cm P tb w0 K O0 nt (stay.map λn=>(n,ρ0 n))).marked dn b) (qG P fn w0 K O0 stay ρ0 post) (.out e) [] σ:=by
 intro _ _ a w hs;obtain⟨ρ,hs⟩:=hs;have l:=(hs.pin (dn,.pointer (some ⟨b,0,none⟩)) (by simp[Cx.marked])).2.1;obtain⟨h1,i⟩:=A2h d hs q l (.deferred none) (stay.map λn=>(n,ρ0 n)) (λp hp=>⟨OF _ hp,λe=>by
  obtain⟨n,hn,rfl⟩:=IF.1 hp;have e:n=dn:=e;subst e;rw[(Af _ _).2 hn]at f;cases f⟩)
 have c:Bv w0 K O0 nt { ds:=[⟨.collected b,#[]⟩],pin:=stay.map λn=>(n,ρ0 n) } ⟨Bu [dn] σ.env,Ao [dn] [dn] σ.objs⟩ ρ a (w.putObj b (.deferred none)):=i;obtain⟨u,j,k⟩:=Vk d.T c (fn:=fn) (by rw[s];exact h);have r:MK K O0 stay w0 ρ0 post u (w.putObj b (.deferred none)):=by
  refine⟨res,_,ρ,hp,c.frm,⟨c.objs,c.free,c.dist⟩,k,λn hn=>?_⟩;exact(c.pin (n,ρ0 n) (IF.2 ⟨n,hn,rfl⟩)).2.1
 have m:a.defers=[⟨.collected b,#[]⟩]:=hs.defers;have key:LeavesInM (FR none) 0 P fn a.tmps (λe w'=>∃u,e=.returned u/\MK K O0 stay w0 ρ0 post u w') a.defers .returning w:=by
  rw[m];exact⟨by simp,.inl ⟨b,_,rfl,run_takeDeferred h1,u,j,u,rfl,r⟩⟩
 rcases o with rfl|rfl
 ·exact key
 ·exact key
end
section
open Go Go.RowKit
section
variable {c:Cx} {R:Exit->Act->World->Prop} {k:List DZ} {σ σ':St}
theorem rP (a:c.Ok) {id:Nat} {l:List Oper} {vc:Prop} (b:vc) (hk:Ev c R (.out .normal) k σ') (h0:(l.all λo=>o.guard.isNone)=true:=by rfl)
  (h:Dr c.tb.live (B1 c.tb l l σ)=some (vc,σ'):=by simp only[go_sem,Nat.reduceEqDiff,reduceCtorEq,Nat.reduceAdd,Nat.reduceSub,Nat.reduceMul,Nat.reduceLeDiff,Nat.reduceLT,Int.reduceLE,Int.reduceToNat,Int.reduceNeg,↓reduceIte];rfl):Ev c R (.run (.region id l.toArray false)) k σ:=ML _ a h0 h b hk
theorem rT (m:Nat) (a:c.Ok) {id:Nat} {l:List Oper} {vc:Prop} (d:vc) (hk:Ev c R (.out .normal) k σ') (h0:LY l (l.take (l.length-m)).length=true:=by kernel_rfl) (b:c.P.follows .mixedOrders=true:=by exact drawsAny)
  (h:Dr c.tb.live (Lo c.tb l false σ.objs (l.drop (l.length-m)) (l.take (l.length-m)) 0 [] [] σ)=some (vc,σ'):=by simp only[AAa,ADT,ADf,YJ,go_sem,Nat.reduceEqDiff,reduceCtorEq,Nat.reduceAdd,Nat.reduceSub,Nat.reduceMul,Nat.reduceLeDiff,Nat.reduceLT,Int.reduceLE,Int.reduceToNat,Int.reduceNeg,↓reduceIte];rfl):Ev c R (.run (.region id l.toArray true)) k σ:=Yy _ m b a h0 h d hk
theorem rC {o:Operand} {x y:Code} {b:Bool} {p q:Prop} (d:p->Ev c R (.run x) k σ) (hf:q->Ev c R (.run y) k σ) (h:Ak σ o=some (.p .bool b):=by simp only[go_sem,Nat.reduceEqDiff,reduceCtorEq,Nat.reduceAdd,Nat.reduceSub,Nat.reduceMul,Nat.reduceLeDiff,Nat.reduceLT,Int.reduceLE,Int.reduceToNat,Int.reduceNeg,↓reduceIte];rfl)
  (hp:(b=true)=p:=by first|(simp only[Fe,On,AT,UU,Bool.and_eq_false_imp,iF,UB,ADQ,YD,ADC,AEM,Bool.not_eq_eq_eq_not,Bool.not_true,Bool.not_false,AAb,oR,ne_eq];rfl)|rfl) (a:(b=false)=q:=by first|(simp only[Fe,On,AT,UU,Bool.and_eq_false_imp,iF,UB,ADQ,YD,ADC,AEM,Bool.not_eq_eq_eq_not,Bool.not_true,Bool.not_false,AAb,oR,ne_eq];rfl)|rfl):Ev c R (.run (.cond o x y)) k σ :=
 Dp h (λe=>d (hp▸e)) (λe=>hf (a▸e))
theorem rL (a:c.Ok) {ops:List Oper} {l:List Oper} {vc:Prop} (b:vc) (hk:Ev c R (.out .normal) k σ') (h:Dr c.tb.live (B1 c.tb ops l σ)=some (vc,σ'):=by simp only[go_sem,Nat.reduceEqDiff,reduceCtorEq,Nat.reduceAdd,Nat.reduceSub,Nat.reduceMul,Nat.reduceLeDiff,Nat.reduceLT,Int.reduceLE,Int.reduceToNat,Int.reduceNeg,↓reduceIte];rfl):Ih c R k ops.toArray l σ:=H8 _ a h b hk
theorem rN (n:Nat) (a:c.Ok) {ops:List Oper} {l:List Oper} {vc:Prop} (b:vc) (hk:Ih c R k ops.toArray (l.drop n) σ') (h:B1 c.tb ops (l.take n) σ=some (vc,σ'):=by simp only[AAa,ADf,go_sem,Nat.reduceEqDiff,reduceCtorEq,Nat.reduceAdd,Nat.reduceSub,Nat.reduceMul,Nat.reduceLeDiff,Nat.reduceLT,Int.reduceLE,Int.reduceToNat,Int.reduceNeg,↓reduceIte];rfl):Ih c R k ops.toArray l σ:=QF a n (by simpa using h) b hk
theorem cP (n:Nat) (a:c.Ok) {id:Nat} {l:List Oper} {vc:Prop} (b:vc) (hk:Ih c R k l.toArray (l.drop n) σ') (h0:(l.all λo=>o.guard.isNone)=true:=by rfl) (h:B1 c.tb l (l.take n) σ=some (vc,σ'):=by simp only[AAa,ADf,go_sem,Nat.reduceEqDiff,reduceCtorEq,Nat.reduceAdd,Nat.reduceSub,Nat.reduceMul,Nat.reduceLeDiff,Nat.reduceLT,Int.reduceLE,Int.reduceToNat,Int.reduceNeg,↓reduceIte];rfl) :
  Ev c R (.run (.region id l.toArray false)) k σ:=A21 a n h0 h b hk
theorem cD (n:Nat) (a:c.Ok) {id:Nat} {l:List Oper} {vc:Prop} (e:vc) (hk:Ih c R k l.toArray (l.drop n) σ') (b:LY l (l.take n).length=true:=by kernel_rfl) (d:c.P.follows .mixedOrders=true:=by exact drawsAny)
  (h:Lo c.tb l false σ.objs [] (l.take n) 0 [] [] σ=some (vc,σ'):=by simp only[AAa,ADf,go_sem,Nat.reduceEqDiff,reduceCtorEq,Nat.reduceAdd,Nat.reduceSub,Nat.reduceMul,Nat.reduceLeDiff,Nat.reduceLT,Int.reduceLE,Int.reduceToNat,Int.reduceNeg,↓reduceIte];rfl):Ev c R (.run (.region id l.toArray true)) k σ:=A22 d a n b h e hk
theorem rM (q:c.Ok) {ops:Array Oper} {rest:List Oper} {dst:Option Nat} {g:Operand} {xs:List Operand} {ts:Array TypeId} {ty:TypeId} {pos:String} {after:Array Edge}
  {f:FuncId} {d:List Nat} {as:List AV} {A:List AV} {objs:List (Nat×Obj)} {stay:List Nat} {post:AV->List (Nat×Obj)->Prop} (l:BJ c.P f A objs stay post)
  (ren:List (Nat×B5)) (hs:List Nat) (j:BS σ ren (as++d.map λn=>AV.bp n [] 0) A) (m:Ag σ.objs ren objs)
  (hk:∀res e,post res e->∃(a:List (Nat×B5)) (h:AV) (b:List (Nat×Obj)),CD a=true/\CT b a=true/\Ag e a b/\Br a res h /\
   I9 ren a stay hs=true/\FY (Am ren) b σ.objs=true/\Ih c R k ops rest (CU σ (Am ren) hs dst h b))
  (r:DR (Ak σ g)=some (f,d):=by simp only[go_sem,Nat.reduceEqDiff,reduceCtorEq,Nat.reduceAdd,Nat.reduceSub,Nat.reduceMul,Nat.reduceLeDiff,Nat.reduceLT,Int.reduceLE,Int.reduceToNat,Int.reduceNeg,↓reduceIte];rfl) (o:Ii σ xs=some as:=by simp only[go_sem,Nat.reduceEqDiff,reduceCtorEq,Nat.reduceAdd,Nat.reduceSub,Nat.reduceMul,Nat.reduceLeDiff,Nat.reduceLT,Int.reduceLE,Int.reduceToNat,Int.reduceNeg,↓reduceIte];rfl)
  (h1:CD ren=true:=by rfl) (i:CT objs ren=true:=by rfl) (s:(c.ds.pin.all λp=>!Ac p.1 hs)=true:=by rfl) :
  Ih c R k ops (⟨dst,.call ⟨.value g,xs.toArray,ts⟩,ty,pos,after,none⟩ :: rest) σ:=A20 q r o l ren hs h1 i s j m hk
theorem rY (n yn:Nat) (m:c.Ok) {ops:Array Oper} {rest:List Oper} {dst:Option Nat} {g:Operand} {xs:List Operand} {ts:Array TypeId} {ty:TypeId} {pos:String} {after:Array Edge}
  {as:List AV} {A:List AV} {objs:List (Nat×Obj)} {stay:List Nat} {post:AV->List (Nat×Obj)->Prop} (i:Y6 c.P yn A objs stay post)
  (ren:List (Nat×B5)) (hs:List Nat) (h:BS σ ren as A) (j:Ag σ.objs ren objs)
  (hk:∀res d,post res d->∃(a:List (Nat×B5)) (e:AV) (b:List (Nat×Obj)),CD a=true/\CT b a=true/\Ag d a b/\Br a res e /\
   I9 ren a stay hs=true/\FY (Am ren) b σ.objs=true/\Ih c R k ops rest (CU σ (Am ren) hs dst e b))
  (s:c.r=none:=by rfl) (o:bZ n (Ak σ g)=true:=by simp only[go_sem,Nat.reduceEqDiff,reduceCtorEq,Nat.reduceAdd,Nat.reduceSub,Nat.reduceMul,Nat.reduceLeDiff,Nat.reduceLT,Int.reduceLE,Int.reduceToNat,Int.reduceNeg,↓reduceIte]) (l:Ii σ xs=some as:=by simp only[go_sem,Nat.reduceEqDiff,reduceCtorEq,Nat.reduceAdd,Nat.reduceSub,Nat.reduceMul,Nat.reduceLeDiff,Nat.reduceLT,Int.reduceLE,Int.reduceToNat,Int.reduceNeg,↓reduceIte];rfl)
  (t:lk yn ren=some (.nm n):=by rfl) (h1:CD ren=true:=by rfl) (f:CT objs ren=true:=by rfl) (q:(c.ds.pin.all λp=>!Ac p.1 hs)=true:=by rfl) :
  Ih c R k ops (⟨dst,.call ⟨.value g,xs.toArray,ts⟩,ty,pos,after,none⟩ :: rest) σ:=zN m s o l i ren hs t h1 f q h j hk
end
end
section
open Go Go.RowKit
section
variable {P:Program} {b:Frame} {a:Act} {k:List Item} {cs:List Frame} {w:World}
end
section
variable {c:Cx} {R:Exit->Act->World->Prop} {k:List DZ} {σ:St}
end
end
section
open Go Go.RowKit
def qH:pW->List DZ->Option (pW×List DZ)
 | .run (.seq x y),k=>some (.run x,.seq y :: k)
 | .run .skip,k=>some (.out .normal,k)
 | .run .ret,k=>some (.out .ret,k)
 | .run (.exit id),k=>some (.out (.exit id),k)
 | .run (.block id b),k=>some (.run b,.blk id :: k)
 | .out .normal,.seq y :: k=>some (.run y,k)
 | .out .normal,.blk _ :: k=>some (.out .normal,k)
 | .out (.exit id),.seq _ :: k=>some (.out (.exit id),k)
 | .out (.exit a),.blk id :: k=>if a=id then some (.out .normal,k) else some (.out (.exit a),k)
 | .out (.exit id),.inv _ :: k=>some (.out (.exit id),k)
 | .out .ret,.seq _ :: k=>some (.out .ret,k)
 | .out .ret,.blk _ :: k=>some (.out .ret,k)
 | .out .ret,.inv _ :: k=>some (.out .ret,k)
 | _,_=>none
def Vz:Nat->pW->List DZ->pW×List DZ
 | 0,n,k=>(n,k)
 | m+1,n,k=>match qH n k with
  | some (b,a)=>Vz m b a
  | none=>(n,k)
def qI (n:pW) (k:List DZ):Option (pW×List DZ):=match qH n k with
 | some (b,a)=>some (Vz 200 b a)
 | none=>none
section
variable {c:Cx} {R:Exit->Act->World->Prop} {σ:St}
theorem gL {n b:pW} {k a:List DZ} (e:qH n k=some (b,a)) (h:Ev c R b a σ):Ev c R n k σ:=by
 unfold qH at e;split at e<;>first
  | (cases e;done)
  | (split at e<;>(cases e;first|(rename_i d;rw[d];exact lV h)|exact lW (by assumption) h))
  | (cases e;first|exact A92 h|exact pX h|exact A93 h|exact A5k h|exact A1N h|exact Hu h|exact lO h|exact fR h|exact fS h|exact lN h|exact lQ h|exact lS h)
theorem Y8:∀(m:Nat) {n:pW} {k:List DZ},Ev c R (Vz m n k).1 (Vz m n k).2 σ->Ev c R n k σ
 | 0,_,_,h=>h
 | m+1,n,k,h=>by
  unfold Vz at h;split at h
  ·rename_i b a e;exact gL e (Y8 m h)
  ·exact h
theorem eS {n b:pW} {k a:List DZ} (e:qI n k=some (b,a)) (h:Ev c R b a σ):Ev c R n k σ:=by grind [qI,gL,Y8]
end
inductive RX (c:Cx) (lv:List Nat) (σ:St) (vc:Prop) (σ':St):Array Oper->Bool->Prop
 | p {l:List Oper} (h0:(l.all λo=>o.guard.isNone)=true) (h:Dr lv (B1 c.tb l l σ)=some (vc,σ')):RX c lv σ vc σ' l.toArray false
 | a {l:List Oper} (h0:y9 l l.length=true) (h:Dr lv (Lo c.tb l true σ.objs [] l 0 [] [] σ)=some (vc,σ')):RX c lv σ vc σ' l.toArray false
 | d {l:List Oper} (h0:LY l l.length=true) (hm:c.P.follows .mixedOrders=true) (h:Dr lv (Lo c.tb l false σ.objs [] l 0 [] [] σ)=some (vc,σ')):RX c lv σ vc σ' l.toArray true
 | t {l:List Oper} (m:Nat) (h0:LY l (l.take (l.length-m)).length=true) (hm:c.P.follows .mixedOrders=true) (h:Dr lv (Lo c.tb l false σ.objs (l.drop (l.length-m)) (l.take (l.length-m)) 0 [] [] σ)=some (vc,σ')):RX c lv σ vc σ' l.toArray true
theorem AAA {c:Cx} {R:Exit->Act->World->Prop} {k:List DZ} {σ σ':St} {b:List Nat} (e:c.Ok) {id:Nat} {ops:Array Oper} {i:Bool} {vc:Prop} (f:vc) (hk:Ev c R (.out .normal) k σ') (h:RX c b σ vc σ' ops i):Ev c R (.run (.region id ops i)) k σ:=by
 cases h with
 | p h0 h=>exact ML b e h0 h f hk
 | a h0 h=>exact f7 b e h0 h f hk
 | d h0 g h=>exact zF b g e h0 h f hk
 | t m h0 g h=>exact Yy b m g e h0 h f hk
theorem rX {c:Cx} {R:Exit->Act->World->Prop} {k:List DZ} {σ σ':St} (e:c.Ok) {id:Nat} {ops:Array Oper} {b:Bool} {vc:Prop} (f:vc) (hk:Ev c R (.out .normal) k σ')
  (h:RX c c.tb.live σ vc σ' ops b:=by
   first
   | exact .p rfl (by simp only[go_sem,Nat.reduceEqDiff,reduceCtorEq,Nat.reduceAdd,Nat.reduceSub,Nat.reduceMul,Nat.reduceLeDiff,Nat.reduceLT,Int.reduceLE,Int.reduceToNat,Int.reduceNeg,↓reduceIte];rfl)
   | exact .a (by kernel_rfl) (by simp only[go_sem,Nat.reduceEqDiff,reduceCtorEq,Nat.reduceAdd,Nat.reduceSub,Nat.reduceMul,Nat.reduceLeDiff,Nat.reduceLT,Int.reduceLE,Int.reduceToNat,Int.reduceNeg,↓reduceIte];rfl)
   | exact .d (by kernel_rfl) (by exact drawsAny) (by simp only[go_sem,Nat.reduceEqDiff,reduceCtorEq,Nat.reduceAdd,Nat.reduceSub,Nat.reduceMul,Nat.reduceLeDiff,Nat.reduceLT,Int.reduceLE,Int.reduceToNat,Int.reduceNeg,↓reduceIte];rfl)
   | exact .t 1 (by kernel_rfl) (by exact drawsAny) (by simp only[AAa,ADT,ADf,YJ,go_sem,Nat.reduceEqDiff,reduceCtorEq,Nat.reduceAdd,Nat.reduceSub,Nat.reduceMul,Nat.reduceLeDiff,Nat.reduceLT,Int.reduceLE,Int.reduceToNat,Int.reduceNeg,↓reduceIte];rfl)
   | exact .t 2 (by kernel_rfl) (by exact drawsAny) (by simp only[AAa,ADT,ADf,YJ,go_sem,Nat.reduceEqDiff,reduceCtorEq,Nat.reduceAdd,Nat.reduceSub,Nat.reduceMul,Nat.reduceLeDiff,Nat.reduceLT,Int.reduceLE,Int.reduceToNat,Int.reduceNeg,↓reduceIte];rfl)
   | exact .t 3 (by kernel_rfl) (by exact drawsAny) (by simp only[AAa,ADT,ADf,YJ,go_sem,Nat.reduceEqDiff,reduceCtorEq,Nat.reduceAdd,Nat.reduceSub,Nat.reduceMul,Nat.reduceLeDiff,Nat.reduceLT,Int.reduceLE,Int.reduceToNat,Int.reduceNeg,↓reduceIte];rfl)):Ev c R (.run (.region id ops b)) k σ:=AAA e f hk h
theorem eN {p:Prop} (h:p:=by simp only[go_sem,Nat.reduceEqDiff,reduceCtorEq,Nat.reduceAdd,Nat.reduceSub,Nat.reduceMul,Nat.reduceLeDiff,Nat.reduceLT,Int.reduceLE,Int.reduceToNat,Int.reduceNeg,↓reduceIte]<;>fail):p:=h
theorem eM {p q:Prop} (a:q) (h:p=q:=by simp only[go_sem,Nat.reduceEqDiff,reduceCtorEq,Nat.reduceAdd,Nat.reduceSub,Nat.reduceMul,Nat.reduceLeDiff,Nat.reduceLT,Int.reduceLE,Int.reduceToNat,Int.reduceNeg,↓reduceIte];rfl):p:=h▸a
theorem eR {p:Prop} (h:p:=by simp only[Nz,LV,Jb,Kl,ND,Jc,Hv,go_sem,Nat.reduceEqDiff,reduceCtorEq,Nat.reduceAdd,Nat.reduceSub,Nat.reduceMul,Nat.reduceLeDiff,Nat.reduceLT,Int.reduceLE,Int.reduceToNat,Int.reduceNeg,↓reduceIte]<;>fail):p:=h
theorem YM {p q:Prop} (a:q) (h:p=q:=by simp only[Nz,LV,Jb,Kl,ND,Jc,Hv,go_sem,Nat.reduceEqDiff,reduceCtorEq,Nat.reduceAdd,Nat.reduceSub,Nat.reduceMul,Nat.reduceLeDiff,Nat.reduceLT,Int.reduceLE,Int.reduceToNat,Int.reduceNeg,↓reduceIte];rfl):p:=h▸a
theorem eV {p:Prop} (h:p:=by (try dsimp only[Ty.den]at *)<;>(repeat'(first|apply And.intro|intro _))<;>omega):p:=h
end
section
open Go Go.RowKit
section
variable {c:Cx} {R:Exit->Act->World->Prop} {k:List DZ} {σ σ':St}
theorem A2i (d:c.Ok) {id:Nat} {l:List Oper} (n:Nat) {vc:Prop} (h:B1 c.tb l (l.take n) σ=some (vc,σ')) (f:vc) (hk:Ih c R k l.toArray (l.drop n) σ') :
  Ev c R (.run (.region id l.toArray false)) k σ:=by
 intro h1 b a w hs;simp only[Ht,Bz,Is]at h1;exact AEJ (QF d n (by simpa using h) f hk (λo e=>h1 o e) b a w hs)
theorem zQ (F:c.Ok) {ops:Array Oper} {rest:List Oper} {dst:Option Nat} {g:Operand} {xs:List Operand} {ts:Array TypeId} {ty:TypeId} {pos:String} {after:Array Edge} {i:Option (Nat×Bool)}
  (H:E2 ops.toList σ i=some true)
  {f:FuncId} {j:List Nat} (G:DR (Ak σ g)=some (f,j)) {as:List AV} (E:Ii σ xs=some as)
  {A:List AV} {objs:List (Nat×Obj)} {stay:List Nat} {post:AV->List (Nat×Obj)->Prop} (C:BJ c.P f A objs stay post)
  (ren:List (Nat×B5)) (hs:List Nat) (h1:CD ren=true) (y:CT objs ren=true) (K:(c.ds.pin.all λp=>!Ac p.1 hs)=true) (z:BS σ ren (as++j.map λn=>AV.bp n [] 0) A) (D:Ag σ.objs ren objs)
  (hk:∀res e,post res e->∃(b:List (Nat×B5)) (h:AV) (d:List (Nat×Obj)),CD b=true/\CT d b=true/\Ag e b d/\Br b res h /\
   I9 ren b stay hs=true/\FY (Am ren) d σ.objs=true/\Ih c R k ops rest (CU σ (Am ren) hs dst h d)) :
  Ih c R k ops (⟨dst,.call ⟨.value g,xs.toArray,ts⟩,ty,pos,after,i⟩ :: rest) σ:=by
 intro l I a w m;unfold wpListIn;rw[BY (HY (o:=⟨dst,.call ⟨.value g,xs.toArray,ts⟩,ty,pos,after,i⟩) m H)];refine bO F (xs:=xs) (ts:=ts) rfl rfl G E C ren h1 y z D hs K m (Bx (l _ (by simp))) λres e hp=>?_;obtain⟨b,h,d,r,s,t,u,v,x,B⟩:=hk res e hp;exact⟨b,h,d,r,s,t,u,v,x,λq w' L=>B (λo J=>l o (by simp[J])) I q w' L⟩
end
end
section
open Go Go.RowKit
section
variable {c:Cx} {ops:List Oper} {Kf:St->Prop} {τ:St} {ens:EN} {vc:Prop}
theorem NQ {A D:List Nat} {l:Nat} {b:List (List Nat×Nat)} {o:Oper} {d:St} {a:EN} (j:vc) (e:bS c o d a (λm=>Mix c ops Kf b D a m)) (h:l9 c.tb ops τ.objs (A++qs b D) [] τ.env=some (vc,ens):=by simp only[go_sem,Nat.reduceEqDiff,reduceCtorEq,Nat.reduceAdd,Nat.reduceSub,Nat.reduceMul,Nat.reduceLeDiff,Nat.reduceLT,Int.reduceLE,Int.reduceToNat,Int.reduceNeg,↓reduceIte];rfl) (g:Rr ens τ.objs=true:=by rfl) (i:ops[l]?=some o:=by rfl)
  (k:MM (ens.take A.length) τ=d:=by simp only[go_sem,Nat.reduceEqDiff,reduceCtorEq,Nat.reduceAdd,Nat.reduceSub,Nat.reduceMul,Nat.reduceLeDiff,Nat.reduceLT,Int.reduceLE,Int.reduceToNat,Int.reduceNeg,↓reduceIte];rfl) (f:ens.drop A.length=a:=by simp only[go_sem,Nat.reduceEqDiff,reduceCtorEq,Nat.reduceAdd,Nat.reduceSub,Nat.reduceMul,Nat.reduceLeDiff,Nat.reduceLT,Int.reduceLE,Int.reduceToNat,Int.reduceNeg,↓reduceIte];rfl):Mix c ops Kf ((A,l) :: b) D ens τ:=A2f h j g i k f e
theorem S8 {R:Exit->Act->World->Prop} {k:List DZ} {σ':St} (d:c.Ok) {D:List Nat} {l:List Oper} {a:Prop} (f:vc) (g:a) (hk:Ev c R (.out .normal) k σ') (h:l9 c.tb ops τ.objs D [] τ.env=some (vc,ens):=by simp only[go_sem,Nat.reduceEqDiff,reduceCtorEq,Nat.reduceAdd,Nat.reduceSub,Nat.reduceMul,Nat.reduceLeDiff,Nat.reduceLT,Int.reduceLE,Int.reduceToNat,Int.reduceNeg,↓reduceIte];rfl) (e:Rr ens τ.objs=true:=by rfl)
  (b:Dr c.tb.live (B1 c.tb ops l (MM ens τ))=some (a,σ'):=by simp only[go_sem,Nat.reduceEqDiff,reduceCtorEq,Nat.reduceAdd,Nat.reduceSub,Nat.reduceMul,Nat.reduceLeDiff,Nat.reduceLT,Int.reduceLE,Int.reduceToNat,Int.reduceNeg,↓reduceIte];rfl):Mix c ops (fun τ=>Ih c R k ops.toArray l τ) [] D ens τ:=A2e h f e (H8 _ d b g hk)
end
section
variable {c:Cx} {o:Oper} {σ:St} {ens:EN} {N:St->Prop} {R:Exit->Act->World->Prop} {k:List DZ} {σ':St}
theorem PY (b:c.Ok) {τ:St} {vc:Prop} (ns:List Nat) (i:vc) (a:N τ) (h:GQ c.tb o σ=some (vc,τ):=by simp only[go_sem,Nat.reduceEqDiff,reduceCtorEq,Nat.reduceAdd,Nat.reduceSub,Nat.reduceMul,Nat.reduceLeDiff,Nat.reduceLT,Int.reduceLE,Int.reduceToNat,Int.reduceNeg,↓reduceIte];rfl) (f:tn σ o.op=ns:=by simp only[go_sem,Nat.reduceEqDiff,reduceCtorEq,Nat.reduceAdd,Nat.reduceSub,Nat.reduceMul,Nat.reduceLeDiff,Nat.reduceLT,Int.reduceLE,Int.reduceToNat,Int.reduceNeg,↓reduceIte]) (g:Kt o ens=true:=by rfl) (hn:Jf ns σ.objs ens=true:=by rfl) (e:QK τ.objs ens=true:=by rfl)
  (hf:J6 ns ens=ens:=by simp only[go_sem,Nat.reduceEqDiff,reduceCtorEq,Nat.reduceAdd,Nat.reduceSub,Nat.reduceMul,Nat.reduceLeDiff,Nat.reduceLT,Int.reduceLE,Int.reduceToNat,Int.reduceNeg,↓reduceIte]) (d:Hs c.nt o=true:=by rfl):bS c o σ ens N:=zL b ns h f g hn e hf d i a
theorem mxC (o:c.Ok) {dst:Option Nat} {g:Operand} {xs:List Operand} {ts:Array TypeId} {ty:TypeId} {pos:String} {after:Array Edge} {f:FuncId} {d:List Nat} {as:List AV}
  {A:List AV} {objs:List (Nat×Obj)} {stay:List Nat} {post:AV->List (Nat×Obj)->Prop} (k:BJ c.P f A objs stay post) (ren:List (Nat×B5)) (hs:List Nat)
  (j:BS σ ren (as++d.map λn=>AV.bp n [] 0) A) (l:Ag σ.objs ren objs)
  (hk:∀res e,post res e->∃(b:List (Nat×B5)) (h:AV) (a:List (Nat×Obj)),CD b=true/\CT a b=true/\Ag e b a/\Br b res h /\
   I9 ren b stay hs=true/\FY (Am ren) a σ.objs=true/\QK a ens=true/\N (CU σ (Am ren) hs dst h a))
  (r:DR (Ak σ g)=some (f,d):=by simp only[go_sem,Nat.reduceEqDiff,reduceCtorEq,Nat.reduceAdd,Nat.reduceSub,Nat.reduceMul,Nat.reduceLeDiff,Nat.reduceLT,Int.reduceLE,Int.reduceToNat,Int.reduceNeg,↓reduceIte];rfl) (m:Ii σ xs=some as:=by simp only[go_sem,Nat.reduceEqDiff,reduceCtorEq,Nat.reduceAdd,Nat.reduceSub,Nat.reduceMul,Nat.reduceLeDiff,Nat.reduceLT,Int.reduceLE,Int.reduceToNat,Int.reduceNeg,↓reduceIte];rfl) (h1:CD ren=true:=by rfl) (i:CT objs ren=true:=by rfl) (s:(c.ds.pin.all λp=>!Ac p.1 hs)=true:=by rfl)
  (t:Kt ⟨dst,.call ⟨.value g,xs.toArray,ts⟩,ty,pos,after,none⟩ ens=true:=by rfl) (hn:Jf (Am ren) σ.objs ens=true:=by rfl) (hf:J6 hs ens=ens:=by simp only[go_sem,Nat.reduceEqDiff,reduceCtorEq,Nat.reduceAdd,Nat.reduceSub,Nat.reduceMul,Nat.reduceLeDiff,Nat.reduceLT,Int.reduceLE,Int.reduceToNat,Int.reduceNeg,↓reduceIte]) (q:Hs c.nt ⟨dst,.call ⟨.value g,xs.toArray,ts⟩,ty,pos,after,none⟩=true:=by rfl) :
  bS c ⟨dst,.call ⟨.value g,xs.toArray,ts⟩,ty,pos,after,none⟩ σ ens N:=zM o r m k ren hs h1 i s t hn hf q j l hk
theorem evP (a:c.Ok) {id:Nat} {l:List Oper} (n:Nat) {vc:Prop} (b:vc) (hk:Ih c R k l.toArray (l.drop n) σ') (h:B1 c.tb l (l.take n) σ=some (vc,σ'):=by simp only[AAa,ADf,go_sem,Nat.reduceEqDiff,reduceCtorEq,Nat.reduceAdd,Nat.reduceSub,Nat.reduceMul,Nat.reduceLeDiff,Nat.reduceLT,Int.reduceLE,Int.reduceToNat,Int.reduceNeg,↓reduceIte];rfl):Ev c R (.run (.region id l.toArray false)) k σ:=A2i a n h b hk
theorem clG (r:c.Ok) {ops:Array Oper} {rest:List Oper} {dst:Option Nat} {g:Operand} {xs:List Operand} {ts:Array TypeId} {ty:TypeId} {pos:String} {after:Array Edge} {e:Option (Nat×Bool)} {f:FuncId} {d:List Nat} {as:List AV}
  {A:List AV} {objs:List (Nat×Obj)} {stay:List Nat} {post:AV->List (Nat×Obj)->Prop} (m:BJ c.P f A objs stay post) (ren:List (Nat×B5)) (hs:List Nat) (l:BS σ ren (as++d.map λn=>AV.bp n [] 0) A) (o:Ag σ.objs ren objs)
  (hk:∀res h,post res h->∃(a:List (Nat×B5)) (i:AV) (b:List (Nat×Obj)),CD a=true/\CT b a=true/\Ag h a b/\Br a res i /\
   I9 ren a stay hs=true/\FY (Am ren) b σ.objs=true/\Ih c R k ops rest (CU σ (Am ren) hs dst i b))
  (t:E2 ops.toList σ e=some true:=by simp only[go_sem,Nat.reduceEqDiff,reduceCtorEq,Nat.reduceAdd,Nat.reduceSub,Nat.reduceMul,Nat.reduceLeDiff,Nat.reduceLT,Int.reduceLE,Int.reduceToNat,Int.reduceNeg,↓reduceIte]) (s:DR (Ak σ g)=some (f,d):=by simp only[go_sem,Nat.reduceEqDiff,reduceCtorEq,Nat.reduceAdd,Nat.reduceSub,Nat.reduceMul,Nat.reduceLeDiff,Nat.reduceLT,Int.reduceLE,Int.reduceToNat,Int.reduceNeg,↓reduceIte];rfl) (q:Ii σ xs=some as:=by simp only[go_sem,Nat.reduceEqDiff,reduceCtorEq,Nat.reduceAdd,Nat.reduceSub,Nat.reduceMul,Nat.reduceLeDiff,Nat.reduceLT,Int.reduceLE,Int.reduceToNat,Int.reduceNeg,↓reduceIte];rfl) (h1:CD ren=true:=by rfl) (j:CT objs ren=true:=by rfl) (u:(c.ds.pin.all λp=>!Ac p.1 hs)=true:=by rfl) :
  Ih c R k ops (⟨dst,.call ⟨.value g,xs.toArray,ts⟩,ty,pos,after,e⟩ :: rest) σ:=zQ r t s q m ren hs h1 j u l o hk
theorem FP (l:List Nat) {n:pW} {a:St} (hk:Ev c R n k a) (h:Ct l σ=a:=by simp only[go_sem,Nat.reduceEqDiff,reduceCtorEq,Nat.reduceAdd,Nat.reduceSub,Nat.reduceMul,Nat.reduceLeDiff,Nat.reduceLT,Int.reduceLE,Int.reduceToNat,Int.reduceNeg,↓reduceIte];rfl):Ev c R n k σ:=Ev.ent hk (p6 l h λ_ _ h=>h)
theorem AAB (l:List Nat) {a:St} (b:Ent c a σ') (h:Ct l σ=a:=by simp only[go_sem,Nat.reduceEqDiff,reduceCtorEq,Nat.reduceAdd,Nat.reduceSub,Nat.reduceMul,Nat.reduceLeDiff,Nat.reduceLT,Int.reduceLE,Int.reduceToNat,Int.reduceNeg,↓reduceIte];rfl):Ent c σ σ':=p6 l h b
end
theorem eW {c:Cx} {σ σ':St} (ren:List (Nat×B5)) (h1:CD ren=true:=by rfl) (a:CT σ'.objs ren=true:=by rfl) (d:Ag σ.objs ren σ'.objs:=by exact eN) (b:FN σ.env ren σ'.env:=by exact eN) (hp:A94 c.ds.pin ren=true:=by rfl):Ent c σ σ':=AC ren h1 a d b hp
theorem eT {p:Prop} (h:p:=by simp only[S5,zE,Rp,Yv,Jb,Kl,Jc,go_sem,Nat.reduceEqDiff,reduceCtorEq,Nat.reduceAdd,Nat.reduceSub,Nat.reduceMul,Nat.reduceLeDiff,Nat.reduceLT,Int.reduceLE,Int.reduceToNat,Int.reduceNeg,↓reduceIte]<;>fail):p:=h
section
variable {P:Program} {ty:List (Nat×TI)} {fs:List (Nat×Aa)} {nt:Nat} {f:FuncId} {fn:Func} {cd:Code}
theorem qJ (a b:List Nat) (ne:List (Nat×TypeId)) {sp:Aa} (e:P.funcs[f]?=some fn) (j:fn.ntmps=nt) (hF:Iv P ⟨ty,fs,b,ne,a⟩)
  (h:∀(w0:World) (O0:Nat->Prop) (ds:KR sp.ins),(cx P ⟨ty,fs,b,ne,a⟩ w0 O0 nt).Ok->oks sp.ins ds->sp.pre ds->Ev (cx P ⟨ty,fs,b,ne,a⟩ w0 O0 nt) (VZ P fn w0 O0 (sp.out ds)) (.run cd) [] ⟨AL 0 sp.ins ds,[]⟩)
  (c : fn.body = some cd := by rfl) (hT : DH P ⟨ty, fs, b, ne, a⟩ := by exact tyTab_ok _ _ _ _) (i : (fn.name == "runtime.NumGoroutine") = false := by kernel_rfl) (g : sp.ins.length <= nt := by decide) (d : Bz nt cd = true := by kernel_rfl) : Ab P f sp := A8p e i c j g d hT hF h
theorem fK (a:List Nat) {sp:Aa} (d:P.funcs[f]?=some fn) (i:fn.ntmps=nt) (hF:Iv P ⟨ty,fs,[],[],a⟩)
  (h:∀(w0:World) (O0:Nat->Prop) (ds:KR sp.ins),(cx P ⟨ty,fs,[],[],a⟩ w0 O0 nt).Ok->oks sp.ins ds->sp.pre ds->Ev (cx P ⟨ty,fs,[],[],a⟩ w0 O0 nt) (VZ P fn w0 O0 (sp.out ds)) (.run cd) [] ⟨AL 0 sp.ins ds,[]⟩)
  (b : fn.body = some cd := by rfl) (hT : DH P ⟨ty, fs, [], [], a⟩ := by exact tyTab_ok _ _ _ _) (g : (fn.name == "runtime.NumGoroutine") = false := by kernel_rfl) (e : sp.ins.length <= nt := by decide) (c : Bz nt cd = true := by kernel_rfl) : Ab P f sp := A8p d g b i e c hT hF h
variable {args:List AV} {objs:List (Nat×Obj)} {stay:List Nat} {post:AV->List (Nat×Obj)->Prop}
theorem Kv (a b:List Nat) (ne:List (Nat×TypeId)) (e:P.funcs[f]?=some fn) (k:fn.ntmps=nt) (hF:Iv P ⟨ty,fs,b,ne,a⟩)
  (h:∀(w0:World) (K O0:Nat->Prop) (ρ0:Nat->Value),(cm P ⟨ty,fs,b,ne,a⟩ w0 K O0 nt (stay.map λn=>(n,ρ0 n))).Ok->QI args->Oj objs ->
   Ev (cm P ⟨ty,fs,b,ne,a⟩ w0 K O0 nt (stay.map λn=>(n,ρ0 n))) (A5o P fn w0 K O0 stay ρ0 post) (.run cd) [] ⟨Ar 0 args,objs⟩)
  (c : fn.body = some cd := by rfl) (hT : DH P ⟨ty, fs, b, ne, a⟩ := by exact tyTab_ok _ _ _ _) (j : (fn.name == "runtime.NumGoroutine") = false := by kernel_rfl) (i : args.length <= nt := by simp only [OS, ADw]; omega) (d : Bz nt cd = true := by kernel_rfl) (l : stay.all (S4 objs) = true := by rfl) (g : MB objs = true := by rfl) : BJ P f args objs stay post := A9b e j c k i d l g hT hF h
theorem fKR (a b:List Nat) (ne:List (Nat×TypeId)) (e:P.funcs[f]?=some fn) (k:fn.ntmps=nt) (hF:Iv P ⟨ty,fs,b,ne,a⟩)
  (h:∀(w0:World) (K O0:Nat->Prop) (ρ0:Nat->Value),(cm P ⟨ty,fs,b,ne,a⟩ w0 K O0 nt (stay.map λn=>(n,ρ0 n))).Ok->QI args->Oj objs ->
   Ev (cm P ⟨ty,fs,b,ne,a⟩ w0 K O0 nt (stay.map λn=>(n,ρ0 n))) (qG P fn w0 K O0 stay ρ0 post) (.run cd) [] ⟨Ar 0 args,objs⟩)
  (c : fn.body = some cd := by rfl) (hT : DH P ⟨ty, fs, b, ne, a⟩ := by exact tyTab_ok _ _ _ _) (j : (fn.name == "runtime.NumGoroutine") = false := by kernel_rfl) (i : args.length <= nt := by simp only [OS, ADw]; omega) (d : Bz nt cd = true := by kernel_rfl) (l : stay.all (S4 objs) = true := by rfl) (g : MB objs = true := by rfl) : BJ P f args objs stay post := A5u e j c k i d l g hT hF h
end
theorem fI {P:Program} {tb:Tb} {w0:World} {O0:Nat->Prop} {nt:Nat} (c:(cx P tb w0 O0 nt).Ok) {fn:Func} {a:List RV} {σ:St} {e:Exit} (b:List ResultVar) (h:Nz tb σ b a:=by exact eR) (g:fn.results.toList=b:=by rfl) (f:e=.ret\/e=.normal:=by exact .inl rfl) (hp:∀r∈a,∃t d,r=.p t d:=by simp) :
  Ev (cx P tb w0 O0 nt) (VZ P fn w0 O0 a) (.out e) [] σ:=A99 c b g f hp h
theorem fM {P:Program} {tb:Tb} {w0:World} {K O0:Nat->Prop} {nt:Nat} {stay:List Nat} {ρ0:Nat->Value} {fn:Func} {post:AV->List (Nat×Obj)->Prop} {σ:St} {e:Exit} (b:(cm P tb w0 K O0 nt (stay.map λn=>(n,ρ0 n))).Ok)
  (a:List ResultVar) (res:AV) (h:S5 tb σ a res) (hp:post res σ.objs) (d:fn.results.toList=a:=by rfl) (c:e=.ret\/e=.normal:=by first|exact .inl rfl|exact .inr rfl) :
  Ev (cm P tb w0 K O0 nt (stay.map λn=>(n,ρ0 n))) (A5o P fn w0 K O0 stay ρ0 post) (.out e) [] σ:=A5p b a d c res h hp
end
section
open Go Go.RowKit
structure V0 (X σ:St) (n:Nat):Prop where
 env:∀s v,lk s X.env=some v->v.trn n []=v
 arr:∀m o,lk m X.objs=some o->MO o=true
 new:∀m o,lk m X.objs=some o->lk m σ.objs=none
 nm:∀m o,lk m X.objs=some o->m≠n
section
variable {σ σ' X:St} {n:Nat}
theorem V0.obs (b:Nn σ σ' X) (ha:V0 X σ n):eH σ σ':=by
 intro m o hn;rw[b.objs];cases a:lk m X.objs with
 | none=>exact hn
 | some c=>rw[ha.new m c a]at hn;cases hn
theorem ADN (b:Nn σ σ' X) (ha:V0 X σ n) {en:List (Nat×AV)} {new:List (Nat×Obj)} (c:∀s v,lk s en=some v->lk s X.env=none) (e:∀m o,lk m new=some o->lk m X.objs=none) :
  Nn ⟨en++EY n [] σ.env,new++Ck n [] σ.objs⟩ ⟨en++EY n [] σ'.env,new++Ck n [] σ'.objs⟩ X:=by
 refine⟨λs=>?_,λm=>?_⟩
 ·simp only[A5];cases hs:lk s en with
  | some v=>rw[c s v hs];rfl
  | none =>
   rw[Fl,Fl,b.env];cases a:lk s X.env with
   | none=>rfl
   | some w=>simp[ha.env s w a]
 ·simp only[A5];cases d:lk m new with
  | some o=>rw[e m o d];rfl
  | none =>
   rw[DY,DY,b.objs];cases a:lk m X.objs with
   | none=>rfl
   | some w =>
    rw[An λh=>ha.nm m w a (by simpa using (Af _ _).1 h)];exact ADx some (Y5 (ha.arr m w a))
def gM (σ:St):Op->Option Nat
 | .call c=>match c.callee,c.args.toList,c.argTypes.toList with
  | .builtin .append,[x,_],[_,_]=>(match Ak σ x with|some (.nin n _ _ _)=>some n|_=>none)
  | _,_,_=>none
 | _=>none
theorem A5v {tb:Tb} {op:Op} {d:Option Nat} {vc:Prop} {τ:St} (j:Nn σ σ' X) (ha:V0 X σ n) (r:mD σ σ' op.operands.toList) (a:gM σ op=some n) (G:∀t,d=some t->lk t X.env=none) (E:∀n,(∃u,lk n τ.objs=some u)->lk n X.objs=none) (h:Fh tb σ d op=some (vc,τ)) :
  (∃B,Fh tb σ' d op=some (vc,B)/\Nn τ B X)/\(∀k,aq tb σ' k op=none)/\(∀k,aq tb σ k op=none)/\CP σ op=[]/\CP σ' op=[]:=by
 have p:=ha.obs j;cases op<;>try(cases a;done)
 rename_i cl;obtain⟨callee,⟨args⟩,⟨argTypes⟩⟩:=cl;simp only[gM]at a;split at a
 ·rename_i x y t u;cases f:Ak σ x with
  | none=>rw[f]at a;cases a
  | some xv =>
   rw[f]at a;cases xv<;>try(cases a;done)
   rename_i Q e i len;cases a;have z:Ak σ' x=Ak σ x:=r x (by simp[Op.operands,Call.operands]);have N:Ak σ' y=Ak σ y:=r y (by simp[Op.operands,Call.operands]);refine⟨?_,λk=>by simp[aq,DB,DM,Cl,z,f],λk=>by simp[aq,DB,DM,Cl,f],rfl,rfl⟩;simp only[Fh,DP,Dm,f]at h;simp only[Fh,DP,Dm,DN,z,f,N];cases A:Ak σ y with
   | none=>rw[A]at h;unfold DN at h;cases h
   | some v =>
    rw[A]at h;simp only[DN]at h;split at h
    ·rename_i b;have H:=G b rfl;simp only;split at h
     ·rename_i M;rw[BY M];unfold Nw at h ⊢;split at h
      ·rename_i O R el b2 L;try rw[L]
       try simp only
       split at h
       ·rename_i J;rw[BY J];unfold Pf at h ⊢;split at h
        ·rename_i ti et P k c xs h1 K;try rw[h1]
         try rw[p _ _ K]
         try simp only
         split at h
         ·rename_i F;rw[BY F];unfold Ly at h ⊢;split at h
          ·rename_i ys C;rw[ME p C];try simp only
           split at h
           ·rename_i m;have l:lk b X.objs=none:=by
             refine E b ?_;cases h;exact⟨_,by simp only[lk,AD1];rfl⟩
            have I:(lk b σ'.objs).isNone=true/\ys.isEmpty=false:=⟨by rw[j.objs,l];exact m.1,m.2⟩;rw[BY I];cases h;refine⟨_,rfl,ADN (en:=[(b,_)]) (new:=[(b,_),(n,_)]) j ha (λs v h=>?_) (λq o g=>?_)⟩
            ·simp only[lk]at h;split at h
             ·rename_i c;rw[c];exact H
             ·cases h
            ·simp only[lk]at g;split at g
             ·rename_i c;rw[c];exact l
             ·split at g
              ·rename_i c;rw[c];cases D:lk n X.objs with
               | none=>rfl
               | some w=>exact absurd rfl (ha.nm n w D)
              ·cases g
           ·cases h
          ·cases h
         ·cases h
        ·cases h
       ·cases h
      ·cases h
     ·cases h
    ·cases h
 ·cases a
end
def S9 (n:Nat):EN->EN
 | []=>[]
 | (d,v,obs) :: r=>(d,v.trn n [],obs) :: S9 n r
theorem WA {n:Nat}:∀ {ens:EN},S9 n ens=ens->∀e∈ens,e.2.1.trn n []=e.2.1
 | [],_,e,a=>by cases a
 | (d,v,obs) :: r,h,e,a=>by
  simp only[S9,AEj,AF8,and_true,true_and]at h;rcases DO.1 a with rfl|a
  ·exact h.1
  ·exact WA h.2 e a
section
variable {c:Cx} {o:Oper} {σ:St} {ens:EN} {N:St->Prop}
theorem A2j (H:c.Ok) {τ:St} {vc:Prop} (n:Nat) (h:GQ c.tb o σ=some (vc,τ)) (b:gM σ o.op=some n) (y:Kt o ens=true) (hn:Jf [n] σ.objs ens=true) (J:QK τ.objs ens=true) (hf:S9 n ens=ens) (I:Hs c.nt o=true) (M:vc) (D:N τ):bS c o σ ens N:=by
 intro X σ' z g a w next Q hs hk
 have ha:V0 X σ n:=by
  refine⟨λs v hs=>?_,λm o l=>?_,λm o l=>?_,λm o l=>?_⟩
  ·obtain⟨obs,i⟩:=g.env s v hs;exact WA hf _ i
  all_goals
   obtain⟨e,k,hp⟩:=g.objs m o l;have:=Fs hn e k _ hp
  ·exact this.2.2
  ·exact this.1
  ·grind
 have F:∀t∈Gx o.op,lk t X.env=none:=λt p=>by
  cases f:lk t X.env with
  | none=>rfl
  | some v=>obtain⟨obs,i⟩:=g.env t v f;exact absurd p (Eu y _ i).1
 have E:∀t,o.dst=some t->lk t X.env=none:=λt p=>by
  cases f:lk t X.env with
  | none=>rfl
  | some v=>obtain⟨obs,i⟩:=g.env t v f;exact absurd p (Eu y _ i).2
 have G:∀n,(∃u,lk n τ.objs=some u)->lk n X.objs=none:=λn hu=>by
  cases f:lk n X.objs with
  | none=>rfl
  | some v =>
   obtain⟨e,k,hp⟩:=g.objs n v f;obtain⟨u,hu⟩:=hu;rw[Ku J e k _ hp]at hu;cases hu
 have K:=Ui z F;have key:∃d,GQ c.tb o σ'=some (vc,d)/\Nn τ d X:=by
  have q:CP σ o.op=[]/\CP σ' o.op=[]:=by
   obtain⟨dst,op,ty,pos,after,B⟩:=o;simp only at b ⊢;cases op<;>first|exact⟨rfl,rfl⟩|cases b
  unfold GQ Pi at h ⊢;rw[q.1]at h;rw[q.2];simp only[Ct]at h ⊢;cases x:aq c.tb σ (o.dst.getD 0) o.op with
  | some r =>
   obtain⟨dst,op,ty,pos,after,B⟩:=o;simp only at b x;exfalso;cases op<;>try(cases b;done)
   rename_i cl;obtain⟨callee,⟨args⟩,⟨argTypes⟩⟩:=cl;simp only[gM]at b;split at b
   ·grind [Ak,aq,DB,DM,Cl]
   ·cases b
  | none =>
   rw[x]at h;simp only[LS]at h;obtain⟨⟨d,h1,j⟩,C,_⟩:=A5v z ha K b E G h;rw[C];simp only[LS];exact⟨d,h1,j⟩
 obtain⟨d,h1,j⟩:=key;exact Px H hs h1 M (Bx I) λA w' L=>hk τ D A w' d j L
theorem mxN (b:c.Ok) {τ:St} {vc:Prop} (n:Nat) (i:vc) (a:N τ) (h:GQ c.tb o σ=some (vc,τ):=by simp only[go_sem,Nat.reduceEqDiff,reduceCtorEq,Nat.reduceAdd,Nat.reduceSub,Nat.reduceMul,Nat.reduceLeDiff,Nat.reduceLT,Int.reduceLE,Int.reduceToNat,Int.reduceNeg,↓reduceIte];rfl) (f:gM σ o.op=some n:=by simp only[go_sem,Nat.reduceEqDiff,reduceCtorEq,Nat.reduceAdd,Nat.reduceSub,Nat.reduceMul,Nat.reduceLeDiff,Nat.reduceLT,Int.reduceLE,Int.reduceToNat,Int.reduceNeg,↓reduceIte]) (g:Kt o ens=true:=by rfl) (hn:Jf [n] σ.objs ens=true:=by rfl) (e:QK τ.objs ens=true:=by rfl)
  (hf:S9 n ens=ens:=by simp only[go_sem,Nat.reduceEqDiff,reduceCtorEq,Nat.reduceAdd,Nat.reduceSub,Nat.reduceMul,Nat.reduceLeDiff,Nat.reduceLT,Int.reduceLE,Int.reduceToNat,Int.reduceNeg,↓reduceIte]) (d:Hs c.nt o=true:=by rfl):bS c o σ ens N:=A2j b n h f g hn e hf d i a
end
end
section
open Go Go.RowKit
section
variable {P:Program} {tb:Tb} {w0:World} {K O0:Nat->Prop} {nt:Nat} {ds:Fp} {σ:St} {ρ:Nat->Value} {a:Act} {w:World}
theorem Bv.swapP (h:Bv w0 K O0 nt ds σ ρ a w) (G:∀b,K b->b<w0.heap.size) (aa:∀b,O0 b->b<w0.heap.size) {T:Nat->Prop} (hT:∀n,T n->∃o,lk n σ.objs=some o) (H:∀p∈ds.pin,¬T p.1)
  {new:List (Nat×Obj)} {σ':St} {ρ':Nat->Value} {w':World} {dst:Option Nat} {u:Value}
  (V:w'.os=w.os) (Y:w'.tape=w.tape) (W:w'.output=w.output) (X:w.heap.size<=w'.heap.size)
  (M:∀b,b<w.heap.size->(∀n,T n->¬bk (ρ n) b)->w'.heap[b]?=w.heap[b]?)
  (q:∀n o,lk n σ'.objs=some o->lk n new=none->¬T n/\∃d,lk n σ.objs=some d)
  (N:∀n o,lk n σ.objs=some o->¬T n->lk n new=none/\∃d,lk n σ'.objs=some d)
  (j:∀n,lk n new=none->ρ' n=ρ n)
  (B:∀n o b,lk n new=some o->bk (ρ' n) b->(∃m,T m/\bk (ρ m) b)\/w.heap.size<=b)
  (I:∀n m o r b,lk n new=some o->lk m new=some r->bk (ρ' n) b->bk (ρ' m) b->n=m)
  (U:∀n o,lk n σ'.objs=some o->A8 (vw w' O0 σ' ρ') o (ρ' n))
  (J:∀s v,lk s σ'.env=some v->B7 (vw w' O0 σ' ρ') v ((a.put dst u).tmps.getD s undef)) :
  Bv w0 K O0 nt ds σ' ρ' (a.put dst u) w':=by
 have ab:∀m,T m->∀b,bk (ρ m) b->b<w.heap.size:=λm c b i=>by
  obtain⟨o,f⟩:=hT m c;exact(h.objs m o f).block_lt i
 have y:∀m,T m->∀b,bk (ρ m) b->¬K b/\¬O0 b:=λm c b i=>by
  obtain⟨o,f⟩:=hT m c;exact h.free m b ⟨o,f⟩ i
 refine⟨⟨V.trans h.frm.os,Y.trans h.frm.tape,W.trans h.frm.output,UD h.frm.size X,λk hk=>?_⟩,by rw[L5];exact h.nt,by rw[Hq];exact h.defers,λp hp=>?_,U,?_,?_,J⟩
 ·exact(M k (AA8 (G k hk) h.frm.size) λn hn i=>(y n hn k i).1 hk).trans (h.frm.block k hk)
 ·obtain⟨⟨o,h1⟩,g,F⟩:=h.pin p hp;have P:¬T p.1:=H p hp;obtain⟨D,E⟩:=N p.1 o h1 P;exact⟨E,(j _ D).trans g,F⟩
 ·intro n b x i;obtain⟨o,f⟩:=x;cases hn:lk n new with
  | none =>
   obtain⟨_,d,h1⟩:=q n o f hn;rw[j n hn]at i;exact h.free n b ⟨d,h1⟩ i
  | some e =>
   rcases B n e b hn i with ⟨m,c,t⟩|L
   ·exact y m c b t
   ·have:=h.frm.size;grind
 ·have key:∀n m o e b,lk n σ'.objs=some o->lk n new=none->lk m new=some e->bk (ρ' n) b->bk (ρ' m) b->False:=by
   intro n m o e b f hn c h1 g;obtain⟨Q,d,l⟩:=q n o f hn;rw[j n hn]at h1;rcases B m e b c g with ⟨C,z,t⟩|L
   ·obtain⟨Z,S⟩:=hT C z;have:=h.dist n C b ⟨d,l⟩ ⟨Z,S⟩ h1 t;exact Q (this▸z)
   ·have ad:b<w.heap.size:=(h.objs n d l).block_lt h1;omega
  intro n m b x O h1 g;obtain⟨o,f⟩:=x;obtain⟨r,A⟩:=O;cases hn:lk n new with
  | none =>
   cases c:lk m new with
   | none =>
    obtain⟨_,d,l⟩:=q n o f hn;obtain⟨_,e,R⟩:=q m r A c;rw[j n hn]at h1;rw[j m c]at g;exact h.dist n m b ⟨d,l⟩ ⟨e,R⟩ h1 g
   | some e=>exact(key n m o e b f hn c h1 g).elim
  | some d =>
   cases c:lk m new with
   | none=>exact(key m n r d b A c hn g h1).elim
   | some e=>exact I n m d e b hn c h1 g
theorem Bv.swap1P (h:Bv w0 K O0 nt ds σ ρ a w) (W:∀b,K b->b<w0.heap.size) (C:∀b,O0 b->b<w0.heap.size) {tl:List Nat} (hT:∀n,n∈tl->∃o,lk n σ.objs=some o) (X:∀p∈ds.pin,¬p.1∈tl)
  {e:Nat} (ar:e∈tl\/lk e σ.objs=none) {l:Obj} {loc:Value} {w':World}
  (ag:w'.os=w.os) (ak:w'.tape=w.tape) (ah:w'.output=w.output) (ai:w.heap.size<=w'.heap.size)
  (F:∀b,b<w.heap.size->(∀n,n∈tl->¬bk (ρ n) b)->w'.heap[b]?=w.heap[b]?)
  (ad:∀b,bk loc b->(∃m,m∈tl/\bk (ρ m) b)\/w.heap.size<=b)
  (af:∀V':Vw,V'.w=w'->Cb ⟨w,own O0 σ ρ,λ_=>False,ρ⟩ V'->(∀b m,m∈tl->bk (ρ m) b->¬bk loc b->¬V'.O b)->A8 V' l loc)
  {d:Nat} (aa:d<nt) {v:AV} {u:Value} (Z:∀V':Vw,V'.L e->V'.ρ e=loc->B7 V' v u) :
  Bv w0 K O0 nt ds ⟨(d,v) :: Bu tl σ.env,(e,l) :: Ao tl tl σ.objs⟩ (Ei ρ e loc) (a.put (some d) u) w':=by
 let S:St:=⟨(d,v) :: Bu tl σ.env,(e,l) :: Ao tl tl σ.objs⟩
 have D:∀m o,lk m S.objs=some o->(m=e/\o=l)\/(m≠e/\m∉tl/\∃c,lk m σ.objs=some c/\o=c.fgt tl):=by
  intro m o f;simp only[S,lk]at f;split at f
  ·grind
  ·rename_i ao;rw[Bj]at f;split at f
   ·cases f
   ·rename_i ap;simp only[If]at f;grind [Af]
 have Y:∀m,m≠e->m∉tl->∀c,lk m σ.objs=some c->lk m S.objs=some (c.fgt tl):=by grind [lk,Bj,Af]
 have M:∀m,m∉tl->(∃o,lk m σ.objs=some o)->m≠e:=by grind
 have A:Ei ρ e loc e=loc:=Bn _ _ _;have r:∀m,m≠e->Ei ρ e loc m=ρ m:=λm h1=>by simp[Ei,h1]
 generalize Ei ρ e loc=ρ' at A r;have N:∀b,b<w.heap.size->¬own O0 σ ρ b->¬own O0 S ρ' b:=by
  intro b k q am;rcases am with h0|⟨m,⟨o,ae⟩,z⟩
  ·exact q (.inl h0)
  ·rcases D m o ae with ⟨rfl,_⟩|⟨h1,i,c,g,_⟩
   ·rw[A]at z;rcases ad b z with ⟨t,aj,H⟩|H
    ·obtain⟨c,j⟩:=hT t aj;exact q (.inr ⟨t,⟨c,j⟩,H⟩)
    ·omega
   ·rw[r m h1]at z;exact q (.inr ⟨m,⟨c,g⟩,z⟩)
 have J:∀b,b<w.heap.size->¬own O0 σ ρ b->w'.heap[b]?=w.heap[b]?:=λb k q=>F b k λn hn E=>by
  obtain⟨c,j⟩:=hT n hn;exact q (.inr ⟨n,⟨c,j⟩,E⟩)
 have ab:Cb ⟨w,own O0 σ ρ,λ_=>False,ρ⟩ (vw w' O0 S ρ'):=⟨N,λ_ h=>h.elim,λ_ h=>h.elim,J⟩;have hk:Cb ((vw w O0 σ ρ).buts tl) (vw w' O0 S ρ'):=by
  refine⟨N,λm f=>?_,λm f=>?_,J⟩
  ·obtain⟨⟨c,h1⟩,i⟩:=f;have g:m∉tl:=λh=>by rw[(Af _ _).2 h]at i;cases i
   exact⟨_,Y m (M m g ⟨c,h1⟩) g c h1⟩
  ·obtain⟨⟨c,h1⟩,i⟩:=f;have g:m∉tl:=λh=>by rw[(Af _ _).2 h]at i;cases i
   exact r m (M m g ⟨c,h1⟩)
 refine h.swapP W C (T:=λm=>m∈tl) hT X (new:=[(e,l)]) ag ak ah ai F ?_ ?_ ?_ ?_ ?_ ?_ ?_
 ·grind [lk]
 ·grind [lk]
 ·grind [lk]
 ·grind [lk]
 ·grind [lk]
 ·intro m o f;rcases D m o f with ⟨rfl,rfl⟩|⟨h1,i,c,g,rfl⟩
  ·rw[A];refine af _ rfl ab λb m f k aq C=>?_;obtain⟨P,j⟩:=hT m f;rcases C with h0|⟨G,⟨an,V⟩,I⟩
   ·exact(h.free m b ⟨P,j⟩ k).2 h0
   ·rcases D G an V with ⟨rfl,_⟩|⟨Q,R,c,U,_⟩
    ·grind
    ·rw[r G Q]at I;exact R ((h.dist G m b ⟨_,U⟩ ⟨_,j⟩ I k)▸f)
  ·rw[r m h1];refine Ua hk (λb k=>F b ((h.objs m c g).block_lt k) λn hn E=>?_) (h.objs m c g);obtain⟨P,j⟩:=hT n hn;exact i ((h.dist m n b ⟨_,g⟩ ⟨_,j⟩ k E)▸hn)
 ·intro s x hs;rw[Kg a d u s (by rw[h.nt];exact aa)];simp only[S,lk]at hs;split at hs
  ·rename_i B;cases hs;rw[BY B];exact Z _ ⟨l,by simp[S,lk]⟩ A
  ·rename_i B;rw[An B];rw[EO]at hs;simp only[If]at hs;obtain⟨y,al,rfl⟩:=hs;exact(Ps (h.env s y al)).keeps hk
end
section
variable {c:Cx} {R:Exit->Act->World->Prop} {k:List DZ} {σ:St}
end
end
section
open Go Go.RowKit
section
variable {c:Cx} {R:Exit->Act->World->Prop} {k:List DZ} {σ σ':St}
end
theorem CY {p:Prop} (h:p:=by first|exact trivial|((try dsimp only[Ty.den])<;>(repeat'(first|apply And.intro|intro _))<;>omega)|((try dsimp only[Ty.den]at *)<;>(repeat'(first|apply And.intro|intro _))<;>omega)):p:=h
end
section
open Go Go.RowKit
section
variable {c:Cx} {R:Exit->Act->World->Prop} {k:List DZ} {σ σ':St}
theorem A2k (q:c.Ok) {d m len:Nat} {t:TypeId} {x:Operand} {ty:TypeId} {pos:String} {after:Array Edge} {f e:Ty} {offs:List (Nat×Nat)} {el H:TypeId} {W:Nat} {U:AV} {C:f.den} {xs:List e.den}
  (ap:lk t c.tb.ty=some ⟨.slice (.agg (.prod f (.slice e))),offs,el,W⟩) (ar:Ak σ x=some (.ag [U,.sr m e 0 len])) (aa:Eh false σ f U=some C) (A:lk m σ.objs=some (.arr H e xs)) (aj:len=xs.length)
  (ba:(c.ds.pin.all λp=>!Ac p.1 [m])=true) (ai:lk d σ.objs=none) (bc:f.size+1<=16777216)
  {a:Act} {w:World} {next:Act->World->Prop} {Q:Exit->Act->World->Prop} (an:c.sat σ a w) (ae:d<c.nt)
  (hk:∀I w',c.sat ⟨(d,.sr d (.agg (.prod f (.slice e))) 0 1) :: Bu [m] σ.env,(d,.nest el H f e [(C,xs)] none) :: Ao [m] [m] σ.objs⟩ I w'->next I w') :
  (⟨some d,.buildSlice t 1 #[(0,x)],ty,pos,after,none⟩:Oper).wpIn (FR c.r) 0 c.P a w next Q:=by
 obtain⟨ρ,y⟩:=an;have af:GZ (vw w c.O0 σ ρ) σ a.eval:=Et y.env;obtain⟨hu,hs,te,ao,aq⟩:=CM (q.T _ _ ap) q.T;obtain⟨z,au,be⟩:=L7 (q.T _ _ ao) w;obtain⟨cs,ad,ab⟩:=af x _ ar;obtain⟨c1,c2,rfl,h1,D⟩:=ab;obtain⟨aw,X,rfl,Z,E⟩:=D;have E:X=[]:=E;subst E;obtain⟨S,rfl,_,ax,l⟩:=Z;have hom:=y.objs m _ A;have l:DG (plc (ρ m)) e.size 0 len S:=l;rw[Pj hom,aj]at l;have al:OV (vw w c.O0 σ ρ) H e xs (ρ m):=hom;obtain⟨ay,bf,av,bg⟩:=hom;have l:S=ρ m:=Ix av l;subst l;have B:=eQ (O':=own c.O0 σ ρ) (λ_ h=>h) (λh=>by cases h) y.objs aa h1;have B:B0 w (own c.O0 σ ρ) f c1 C:=B;have G:=B.length;have bb:te.ty.size=f.size+1:=by rw[aq];rfl
 have hs:=hs w;rw[show (Ty.agg (.prod f (.slice e))).size=f.size+1 from rfl]at hs;have L:(a.eval x).cells.toList=c1++[ρ m]:=by rw[ad];simp[Value.cells]
 have am:Instr.fill (λi=>some (i*(f.size+1),f.size+1)) ((Array.range (1*(f.size+1))).map (λi=>z.cells[i % z.cells.size]!)) [(0,a.eval x)]=some (c1++[ρ m]).toArray:=by
  have M:(a.eval x).cells.size=f.size+1:=by rw[<-AEL,L];simp[G]
  rw[Pm (by rw[M]) (by rw[M];simp)];rw[L];simp only[Instr.fill,AFb,A3,ADf,AE0,ADK];rw[List.drop_of_length_le (by simp[G]),UO]
 have s:=UX (w:=w) (et:=el) (sz:=f.size+1) (n:=1) (cells:=(c1++[ρ m]).toArray) (by simp[G]) (by simp[AP]);have s:(w.alloc (.cells (c1++[ρ m]).toArray el)).ownsRow 0 el (f.size+1) (.slice (some ⟨w.heap.size,0,none⟩) 1 1) 1 (c1++[ρ m]):=⟨s.1,s.2.imp (λh=>h) λ⟨g,cap,Y,e,_,r⟩=>⟨g,cap,Y,e,IS _,r⟩⟩;have ah:(Instr.buildSlice t 1 #[(0,a.eval x)]).run c.P w=.ok (.slice (some ⟨w.heap.size,0,none⟩) 1 1) (w.alloc (.cells (c1++[ρ m]).toArray el)):=by
  have ak:¬(1*(f.size+1) > 16777216):=by omega
  have h0:¬(1*(f.size+1)=0):=by omega
  simp only[Instr.buildSlice,ADA,UH hu,aS,hs,An ak,An h0,au,AEr,am,newRow];rfl
 have R:∀b,bk (ρ m) b->b<w.heap.size:=λb k=>(y.objs m _ A).block_lt k;refine Av (u:=.slice (some ⟨w.heap.size,0,none⟩) 1 1) (w':=w.alloc (.cells (c1++[ρ m]).toArray el)) (by simp[execOp,ah]) (hk _ _ ⟨Ei ρ d (.tuple (.slice (some ⟨w.heap.size,0,none⟩) 1 1 :: [ρ m]).toArray),?_⟩);refine y.swap1P q.K q.O (tl:=[m]) (w':=w.alloc (.cells (c1++[ρ m]).toArray el)) (u:=.slice (some ⟨w.heap.size,0,none⟩) 1 1) (loc:=.tuple (.slice (some ⟨w.heap.size,0,none⟩) 1 1 :: [ρ m]).toArray) (by simpa using ⟨_,A⟩) (λp hp A=>?_) (.inr ai) rfl rfl rfl ?_ ?_ ?_ ?_ ae ?_
 ·grind [Af]
 ·simp_all
 ·intro b2 o _;exact heap_alloc_old w _ o
 ·intro b2 o;rcases A9.1 o with k|⟨i,u,hi,k⟩
  ·grind [blk]
  ·have:u=ρ m:=by
    rcases i with _|i
    ·simpa using hi.symm
    ·simp at hi
   subst this;exact .inl ⟨m,by simp,.inl k⟩
 ·intro V' J F az;refine⟨_,[ρ m],c1++[ρ m],.inl rfl,by simp[AP],rfl,by rw[J];exact s,λi bh u hi hu=>?_,λi j b u v hi N hu bd=>?_,λi b u hi k o=>?_⟩
  ·rcases i with _|i
   ·simp only[AE1,tO]at hi hu;subst hi hu;exact⟨c1,ρ m,λj z N=>by simpa using N,B.mono F.O F.heap,.inr ⟨rfl,.inl rfl,OV.keeps (V:=⟨w,own c.O0 σ ρ,λ_=>False,ρ⟩) F (λb k=>by rw[J];exact heap_alloc_old w _ (R b (.inl k))) al⟩⟩
   ·simp at hi
  ·grind
  ·rcases i with _|i
   ·simp only[AE1,tO]at hi;subst hi;have:=R b (.inl k);simp[blk]at o;omega
   ·simp at hi
 ·intro V' h1 D;refine⟨h1,?_⟩;rw[D];exact Fi s
theorem zR (q:c.Ok) {ops:Array Oper} {rest:List Oper} {d m len:Nat} {t:TypeId} {x:Operand} {ty:TypeId} {pos:String} {after:Array Edge} {b e:Ty} {offs:List (Nat×Nat)} {el i:TypeId} {l:Nat} {j:AV} {f:b.den} {xs:List e.den}
  (C:lk t c.tb.ty=some ⟨.slice (.agg (.prod b (.slice e))),offs,el,l⟩) (D:Ak σ x=some (.ag [j,.sr m e 0 len])) (n:Eh false σ b j=some f) (v:lk m σ.objs=some (.arr i e xs)) (u:len=xs.length)
  (z:(c.ds.pin.all λp=>!Ac p.1 [m])=true) (r:lk d σ.objs=none) (B:b.size+1<=16777216)
  (hk:Ih c R k ops rest ⟨(d,.sr d (.agg (.prod b (.slice e))) 0 1) :: Bu [m] σ.env,(d,.nest el i b e [(f,xs)] none) :: Ao [m] [m] σ.objs⟩) :
  Ih c R k ops (⟨some d,.buildSlice t 1 #[(0,x)],ty,pos,after,none⟩ :: rest) σ:=by
 intro g s a w A;unfold wpListIn;rw[BY (by simp[Region.wanted])];exact A2k q C D n v u z r B A (Bx (g _ ADM) d rfl) λE w' h=>hk (λo y=>g o (by simp[y])) s _ _ h
def mH (a b:Ty) (k:a.den):List (a.den×b.den)->List (a.den×b.den)
 | []=>[]
 | x :: r=>if Hj a k x.1=true then r else x :: mH a b k r
theorem ADO (l:c.Ok) {ops:Array Oper} {rest:List Oper} {d m len:Nat} {t:TypeId} {x:Operand} {ty:TypeId} {pos:String} {after:Array Edge} {a e:Ty} {offs:List (Nat×Nat)} {el f:TypeId} {i:Nat} {g:AV} {b:a.den} {xs:List e.den} {h:St}
  (o:len=xs.length) (hk:Ih c R k ops rest h) (v:Ak σ x=some (.ag [g,.sr m e 0 len]):=by simp only[go_sem,Nat.reduceEqDiff,reduceCtorEq,Nat.reduceAdd,Nat.reduceSub,Nat.reduceMul,Nat.reduceLeDiff,Nat.reduceLT,Int.reduceLE,Int.reduceToNat,Int.reduceNeg,↓reduceIte];rfl) (u:lk t c.tb.ty=some ⟨.slice (.agg (.prod a (.slice e))),offs,el,i⟩:=by rfl) (j:Eh false σ a g=some b:=by simp only[go_sem,Nat.reduceEqDiff,reduceCtorEq,Nat.reduceAdd,Nat.reduceSub,Nat.reduceMul,Nat.reduceLeDiff,Nat.reduceLT,Int.reduceLE,Int.reduceToNat,Int.reduceNeg,↓reduceIte];rfl) (q:lk m σ.objs=some (.arr f e xs):=by simp only[go_sem,Nat.reduceEqDiff,reduceCtorEq,Nat.reduceAdd,Nat.reduceSub,Nat.reduceMul,Nat.reduceLeDiff,Nat.reduceLT,Int.reduceLE,Int.reduceToNat,Int.reduceNeg,↓reduceIte];rfl)
  (r:(c.ds.pin.all λp=>!Ac p.1 [m])=true:=by rfl) (n:lk d σ.objs=none:=by simp only[go_sem,Nat.reduceEqDiff,reduceCtorEq,Nat.reduceAdd,Nat.reduceSub,Nat.reduceMul,Nat.reduceLeDiff,Nat.reduceLT,Int.reduceLE,Int.reduceToNat,Int.reduceNeg,↓reduceIte]) (s:a.size+1<=16777216:=by decide)
  (w:⟨(d,.sr d (.agg (.prod a (.slice e))) 0 1) :: Bu [m] σ.env,(d,.nest el f a e [(b,xs)] none) :: Ao [m] [m] σ.objs⟩=h:=by simp only[go_sem,Nat.reduceEqDiff,reduceCtorEq,Nat.reduceAdd,Nat.reduceSub,Nat.reduceMul,Nat.reduceLeDiff,Nat.reduceLT,Int.reduceLE,Int.reduceToNat,Int.reduceNeg,↓reduceIte];rfl) :
  Ih c R k ops (⟨some d,.buildSlice t 1 #[(0,x)],ty,pos,after,none⟩ :: rest) σ:=zR l u v j q o r n s (w▸hk)
end
end
section
open Go Go.RowKit
section
variable {c:Cx} {R:Exit->Act->World->Prop} {k:List DZ} {σ σ':St}
theorem mI (m:c.Ok) {ops:Array Oper} {rest:List Oper} {d:Nat} {t Q:TypeId} {x y:Operand} {ty:TypeId} {pos:String} {after:Array Edge} {i j:IntKind} {offs:List (Nat×Nat)} {z:Nat} {xv s:AV} {b f:Int×Int}
  (L:lk t c.tb.ty=some ⟨.agg (.prod (.int i) (.int j)),offs,0,z⟩) (M:Ak σ x=some xv) (N:Ak σ y=some s) (D:LQ false σ (.agg (.prod (.int i) (.int j))) xv=some b) (E:LQ false σ (.agg (.prod (.int i) (.int j))) s=some f)
  (hk:Ih c R k ops rest ⟨(d,.p .bool (b.1==f.1&&b.2==f.2)) :: σ.env,σ.objs⟩) :
  Ih c R k ops (⟨some d,.binOp .eql t x y Q,ty,pos,after,none⟩ :: rest) σ:=by
 intro q G a w J;unfold wpListIn;rw[BY (by simp[Region.wanted])];obtain⟨ρ,l⟩:=J;have r:GZ (vw w c.O0 σ ρ) σ a.eval:=Et l.env;have X:d<c.nt:=Bx (q _ ADM) d rfl;have hp:M8 c.P t i j:=(m.T _ _ L).1.1.2.2;have h1:=Iu (V:=vw w c.O0 σ ρ) (O':=own c.O0 σ ρ) (λ_ h=>h) (λh=>by cases h) l.objs D (r x _ M);have g:=Iu (V:=vw w c.O0 σ ρ) (O':=own c.O0 σ ρ) (λ_ h=>h) (λh=>by cases h) l.objs E (r y _ N);have h1:a.eval x=.agg #[.int i b.1,.int j b.2]:=Fk h1;have g:a.eval y=.agg #[.int i f.1,.int j f.2]:=Fk g;have I:(binOp .eql t (a.eval x) (a.eval y)).run c.P w=.ok (.bool (b.1==f.1&&b.2==f.2)) w:=by
  rw[h1,g];have:=VX hp w b.1 b.2 f.1 f.2;simp only[binOp];simp[this]
 have F:(eqGuard .eql t x y (a.eval x) (a.eval y)).run c.P w=.ok () w:=by
  obtain⟨U,W,hu,-,-,⟨A,B⟩,-⟩:=hp;rw[h1,g];refine run_eqGuard_agg (P:=c.P) w .eql t x y _ _ ?_;have C:∃n,c.P.depth=n+2:=⟨_,rfl⟩;obtain⟨n,hn⟩:=C;rw[hn];simp[Program.eqGuardType,hu,A,B]
 refine Av (u:=.bool (b.1==f.1&&b.2==f.2)) (w':=w) (by simp[execOp,F,I]) (hk (λo H=>q o (by simp[H])) G _ _ ⟨ρ,?_⟩);refine l.add m.K m.O (dst:=some d) (λS e=>by injection e with e;omega) (v:=.p .bool (b.1==f.1&&b.2==f.2)) (obs:=[]) (ρ':=ρ) rfl (QS.still ?_);exact⟨[.bool (b.1==f.1&&b.2==f.2)],rfl,rfl⟩
theorem ADP (g:c.Ok) {ops:Array Oper} {rest:List Oper} {d:Nat} {t q:TypeId} {x y:Operand} {ty:TypeId} {pos:String} {after:Array Edge} {i j:IntKind} {offs:List (Nat×Nat)} {f:Nat} {xv e:AV} {a b:Int×Int}
  (hk:Ih c R k ops rest ⟨(d,.p .bool (a.1==b.1&&a.2==b.2)) :: σ.env,σ.objs⟩) (m:lk t c.tb.ty=some ⟨.agg (.prod (.int i) (.int j)),offs,0,f⟩:=by rfl) (n:Ak σ x=some xv:=by simp only[go_sem,Nat.reduceEqDiff,reduceCtorEq,Nat.reduceAdd,Nat.reduceSub,Nat.reduceMul,Nat.reduceLeDiff,Nat.reduceLT,Int.reduceLE,Int.reduceToNat,Int.reduceNeg,↓reduceIte];rfl) (o:Ak σ y=some e:=by simp only[go_sem,Nat.reduceEqDiff,reduceCtorEq,Nat.reduceAdd,Nat.reduceSub,Nat.reduceMul,Nat.reduceLeDiff,Nat.reduceLT,Int.reduceLE,Int.reduceToNat,Int.reduceNeg,↓reduceIte];rfl)
  (h:LQ false σ (.agg (.prod (.int i) (.int j))) xv=some a:=by simp only[go_sem,Nat.reduceEqDiff,reduceCtorEq,Nat.reduceAdd,Nat.reduceSub,Nat.reduceMul,Nat.reduceLeDiff,Nat.reduceLT,Int.reduceLE,Int.reduceToNat,Int.reduceNeg,↓reduceIte];rfl) (l:LQ false σ (.agg (.prod (.int i) (.int j))) e=some b:=by simp only[go_sem,Nat.reduceEqDiff,reduceCtorEq,Nat.reduceAdd,Nat.reduceSub,Nat.reduceMul,Nat.reduceLeDiff,Nat.reduceLT,Int.reduceLE,Int.reduceToNat,Int.reduceNeg,↓reduceIte];rfl) :
  Ih c R k ops (⟨some d,.binOp .eql t x y q,ty,pos,after,none⟩ :: rest) σ:=mI g m n o h l hk
end
end
section
open Go Go.RowKit
section
variable {c:Cx} {σ:St} {ens:EN} {N:St->Prop}
end
end
section
open Go Go.RowKit
section
variable {c:Cx} {R:Exit->Act->World->Prop} {k:List DZ} {σ:St}
end
end
section
open Go Go.RowKit
def siB (P:Program) (b:IntKind) (id:TypeId):Option TypeDesc->Bool
 | some (.struct ⟨[a, c]⟩) => (a.name != "_") && (c.name != "_") && a.offset == 0 && c.offset == 1 && (match P.underlying a.type with | some .string => true | _ => false) && isI b (P.underlying c.type) && P.stoodInHeld id == false && !(P.eqGuardType P.depth id)
 | _=>false
theorem A2l {P:Program} {b:IntKind} {id:TypeId} (h:siB P b id (P.underlying id)=true) (w:World) (i k:ByteArray) (j l:Int) :
  (binOp .eql id (.agg #[.string i,.int b j]) (.agg #[.string k,.int b l])).run P w=.ok (.bool (AY i k&&(j==l))) w/\∀x y:Operand,∀u v:Array Value,(eqGuard .eql id x y (.agg u) (.agg v)).run P w=.ok () w:=by
 unfold siB at h;split at h
 ·rename_i a f hu;simp only[AT,YD,AEM,UB]at h;obtain⟨⟨⟨⟨⟨⟨⟨h1,p⟩,q⟩,r⟩,d⟩,g⟩,s⟩,t⟩:=h;have d:P.underlying a.type=some .string:=by
   split at d
   ·assumption
   ·cases d
  have g:=VO g;have m:P.fieldsOf id=#[a,f]:=by simp[Program.fieldsOf,hu]
  refine⟨?_,λx y u v=>run_eqGuard_agg (P:=P) w .eql id x y u v t⟩;have z:P.plainKey a.type=true:=by simp[Program.plainKey,d]
  have A:P.plainKey f.type=true:=by simp[Program.plainKey,g]
  have B:∀x y:ByteArray,(Op.equalIn 9999 a.type (.string x) (.string y)).run P w=.ok (x.toList==y.toList) w:=λx y=>run_equalIn_string w 9998 _ x y d;have n:∀x y:Int,(Op.equalIn 9999 f.type (.int b x) (.int b y)).run P w=.ok (x==y) w:=λx y=>L9 g 9998 x y;have e:(Op.equalIn 10000 id (.agg #[.string i,.int b j]) (.agg #[.string k,.int b l])).run P w=_:=run_equalIn_struct (P:=P) w 9999 id _ _ (by rw[m];exact hu) s;rw[run_eql_struct,e,m];have p0:=λ(u v:Value)=>AEI (P:=P) w z (xs:=#[u,v]) (off:=a.offset) (v:=u) (by rw[q];rfl);have o:=λ(u v:Value)=>AEI (P:=P) w A (xs:=#[u,v]) (off:=f.offset) (v:=v) (by rw[r];rfl);unfold AY;simp only[Op.eqFields,h1,p,ne_eq,not_false_eq_true,AD1,ADA,p0,o,aS,B,n];by_cases c:i.toList=k.toList
  ·by_cases c2:j=l<;>simp[c,c2,AFq,ADA,o,n,Op.eqFields]
  ·simp[c,AFq]
 ·cases h
theorem qK {w:World} {O:Nat->Prop} {b:IntKind} {v:Value} {d:(Ty.agg (.prod .str (.int b))).den} (h:Bl w O (.agg (.prod .str (.int b))) v d):v=.agg #[.string d.1,.int b d.2]:=by
 obtain⟨cs,⟨c1,c2,rfl,⟨rfl,_⟩,⟨rfl,_⟩⟩,rfl⟩:=h;rfl
section
variable {c:Cx} {R:Exit->Act->World->Prop} {k:List DZ} {σ σ':St}
theorem ADR (m:c.Ok) {ops:Array Oper} {rest:List Oper} {d:Nat} {t G:TypeId} {x y:Operand} {ty:TypeId} {pos:String} {after:Array Edge} {j:IntKind} {xv s:AV} {b f:ByteArray×Int}
  (hp:siB c.P j t (c.P.underlying t)=true) (hk:Ih c R k ops rest ⟨(d,.p .bool (AY b.1 f.1&&b.2==f.2)) :: σ.env,σ.objs⟩) (E:Ak σ x=some xv:=by simp only[go_sem,Nat.reduceEqDiff,reduceCtorEq,Nat.reduceAdd,Nat.reduceSub,Nat.reduceMul,Nat.reduceLeDiff,Nat.reduceLT,Int.reduceLE,Int.reduceToNat,Int.reduceNeg,↓reduceIte];rfl) (F:Ak σ y=some s:=by simp only[go_sem,Nat.reduceEqDiff,reduceCtorEq,Nat.reduceAdd,Nat.reduceSub,Nat.reduceMul,Nat.reduceLeDiff,Nat.reduceLT,Int.reduceLE,Int.reduceToNat,Int.reduceNeg,↓reduceIte];rfl)
  (z:LQ false σ (.agg (.prod .str (.int j))) xv=some b:=by simp only[go_sem,Nat.reduceEqDiff,reduceCtorEq,Nat.reduceAdd,Nat.reduceSub,Nat.reduceMul,Nat.reduceLeDiff,Nat.reduceLT,Int.reduceLE,Int.reduceToNat,Int.reduceNeg,↓reduceIte];rfl) (A:LQ false σ (.agg (.prod .str (.int j))) s=some f:=by simp only[go_sem,Nat.reduceEqDiff,reduceCtorEq,Nat.reduceAdd,Nat.reduceSub,Nat.reduceMul,Nat.reduceLeDiff,Nat.reduceLT,Int.reduceLE,Int.reduceToNat,Int.reduceNeg,↓reduceIte];rfl) :
  Ih c R k ops (⟨some d,.binOp .eql t x y G,ty,pos,after,none⟩ :: rest) σ:=by
 intro n B a w D;unfold wpListIn;rw[BY (by simp[Region.wanted])];obtain⟨ρ,i⟩:=D;have q:GZ (vw w c.O0 σ ρ) σ a.eval:=Et i.env;have I:d<c.nt:=Bx (n _ ADM) d rfl;have h1:=Iu (V:=vw w c.O0 σ ρ) (O':=own c.O0 σ ρ) (λ_ h=>h) (λh=>by cases h) i.objs z (q x _ E);have l:=Iu (V:=vw w c.O0 σ ρ) (O':=own c.O0 σ ρ) (λ_ h=>h) (λh=>by cases h) i.objs A (q y _ F);have h1:a.eval x=.agg #[.string b.1,.int j b.2]:=qK h1;have l:a.eval y=.agg #[.string f.1,.int j f.2]:=qK l;obtain⟨r,g⟩:=A2l hp w b.1 f.1 b.2 f.2;have g:=g x y #[.string b.1,.int j b.2] #[.string f.1,.int j f.2];rw[<-h1,<-l]at r g;refine Av (u:=.bool (AY b.1 f.1&&b.2==f.2)) (w':=w) (by simp[execOp,g,r]) (hk (λo C=>n o (by simp[C])) B _ _ ⟨ρ,?_⟩);refine i.add m.K m.O (dst:=some d) (λH e=>by injection e with e;omega) (v:=.p .bool (AY b.1 f.1&&b.2==f.2)) (obs:=[]) (ρ':=ρ) rfl (QS.still ?_);exact⟨[.bool (AY b.1 f.1&&b.2==f.2)],rfl,rfl⟩
end
end
section
open Go Go.RowKit
theorem zS {P:Program} {tb:Tb} {w0:World} {K O0:Nat->Prop} {nt:Nat} {stay:List Nat} {ρ0:Nat->Value} {fn:Func} {post:AV->List (Nat×Obj)->Prop} {σ:St} {e:Exit} (d:(cm P tb w0 K O0 nt (stay.map λn=>(n,ρ0 n))).Ok)
  (b:List ResultVar) (j:fn.results.toList=b) (g:e=.ret\/e=.normal) (res:AV) (h:S5 tb σ b res) (hp:post res σ.objs) :
  Ev (cm P tb w0 K O0 nt (stay.map λn=>(n,ρ0 n))) (qG P fn w0 K O0 stay ρ0 post) (.out e) [] σ:=by
 intro _ _ a w hs;obtain⟨ρ,hs⟩:=hs;obtain⟨u,h1,c⟩:=Vk d.T hs (by rw[j];exact h);have i:MK K O0 stay w0 ρ0 post u w:=by
  refine⟨res,σ.objs,ρ,hp,hs.frm,⟨hs.objs,hs.free,hs.dist⟩,c,λn hn=>?_⟩;exact(hs.pin (n,ρ0 n) (IF.2 ⟨n,hn,rfl⟩)).2.1
 have f:a.defers=[]:=hs.defers;have key:LeavesInM (FR none) 0 P fn a.tmps (λe w'=>∃u,e=.returned u/\MK K O0 stay w0 ρ0 post u w') a.defers .returning w:=by
  rw[f];exact⟨u,h1,u,rfl,i⟩
 rcases g with rfl|rfl
 ·exact key
 ·exact key
section
variable {c:Cx} {R:Exit->Act->World->Prop} {k:List DZ} {σ σ':St}
theorem cG (n:Nat) (d:c.Ok) {id:Nat} {l:List Oper} {vc:Prop} (f:vc) (hk:Ih c R k l.toArray (l.drop n) σ') (h:B1 c.tb l (l.take n) σ=some (vc,σ'):=by simp only[AAa,ADf,go_sem,Nat.reduceEqDiff,reduceCtorEq,Nat.reduceAdd,Nat.reduceSub,Nat.reduceMul,Nat.reduceLeDiff,Nat.reduceLT,Int.reduceLE,Int.reduceToNat,Int.reduceNeg,↓reduceIte];rfl) :
  Ev c R (.run (.region id l.toArray false)) k σ:=by
 intro h1 b a w hs;simp only[Ht,Bz,Is]at h1;exact AEJ (QF d n (by simpa using h) f hk (λo e=>h1 o e) b a w hs)
end
end
end Go.Proofs.YtapkhdkbkodbjaaGreat.Fw
