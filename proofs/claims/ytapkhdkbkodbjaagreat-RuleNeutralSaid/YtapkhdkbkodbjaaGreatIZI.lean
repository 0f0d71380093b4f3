/- Range over a function; scopes; several steps in one. -/
import Derived.Test.YtapkhdkbkodbjaaGreatIZH
import Derived.RangeFuncFrom
import Derived.Scope
import Derived.Laws.IdiomRangeMap
import Derived.Laws.StructEq
set_option linter.unusedVariables false
set_option linter.unusedSimpArgs false
namespace Go.Proofs.YtapkhdkbkodbjaaGreat.Fw
section
open Go Go.RowKit
theorem gJ {V:Vw} {f:FuncId} {ns:List Nat} {v:Value} (h:B8 V (.clo f ns) v):v=.func (.func f) #[] (ns.map V.ρ).toArray/\Jb V (ns.map λn=>AV.bp n [] 0) (ns.map V.ρ):=by
 refine⟨h.1,?_⟩;have h0:∀l:List Nat,(∀n∈l,n∈ns)->Jb V (l.map λn=>AV.bp n [] 0) (l.map V.ρ):=by
  intro l;induction l with
  | nil=>intro _;exact rfl
  | cons n r g =>
   intro c;obtain⟨d,b,a⟩:=h.2 n (c n (by simp));exact⟨V.ρ n,r.map V.ρ,rfl,⟨d,b,a,a⟩,g λx e=>c x (by simp[e])⟩
 exact h0 ns λ_ h=>h
def Y6 (P:Program) (yn:Nat) (A:List AV) (objs:List (Nat×Obj)) (stay:List Nat) (post:AV->List (Nat×Obj)->Prop):Prop :=
 ∀(w:World) (K O0:Nat->Prop) (ρ:Nat->Value) (a:List Value) (b:Nat),(∀b,K b->b<w.heap.size)->(∀b,O0 b->b<w.heap.size)->zM K O0 objs ρ w->Jb (vw w O0 ⟨[],objs⟩ ρ) A a ->
  ρ yn=.pointer (some ⟨b,0,none⟩)->YieldAt (FR none) 0 P b a.toArray w λe w'=>∃u,e=.returned u/\MC K O0 stay w ρ post u w'
section
variable {c:Cx} {R:Exit->Act->World->Prop} {k:List DW} {σ:St}
def b6 (n:Nat):Option AV->Bool
 | some (.yl m)=>m==n
 | _=>false
theorem A2t (N:c.Ok) (Y:c.r=none) {o:Oper} {dst:Option Nat} {g:Operand} {xs:List Operand} {ts:Array TypeId} (t:o.op=.call { callee:=.value g,args:=xs.toArray,argTypes:=ts }) (R:o.dst=dst)
  {n yn:Nat} (f:b6 n (Am σ g)=true) {as:List AV} (L:Ig σ xs=some as)
  {A:List AV} {objs:List (Nat×Obj)} {stay:List Nat} {post:AV->List (Nat×Obj)->Prop} (H:Y6 c.P yn A objs stay post)
  (ren:List (Nat×B1)) (ad:lk yn ren=some (.nm n)) (h1:CB ren=true) (C:CT objs ren=true) (F:BS σ ren as A) (I:Af σ.objs ren objs)
  (hs:List Nat) (W:(c.ds.pin.all λp=>!Ac p.1 hs)=true) {next:Act->World->Prop} {Q:Exit->Act->World->Prop} {a:Act} {w:World} (aa:c.sat σ a w) (O:∀d,dst=some d->d<c.nt)
  (hk:∀res x,post res x->∃(i:List (Nat×B1)) (y:AV) (j:List (Nat×Obj)),CB i=true/\CT j i=true/\Af x i j/\Bp i res y /\
   I0 ren i stay hs=true/\FX (Ai ren) j σ.objs=true/\∀l w',c.sat (CU σ (Ai ren) hs dst y j) l w'->next l w'):o.wpIn (FR c.r) 0 c.P a w next Q:=by
 obtain⟨ρ,v⟩:=aa;have s:Gq (vw w c.O0 σ ρ) σ a.eval:=FE v.env;obtain⟨b,ae,S⟩:∃b:Nat,ρ n=.pointer (some ⟨b,0,none⟩)/\a.eval g=.func (.yield b) #[] #[]:=by
  cases k:Am σ g with
  | none=>rw[k]at f;simp[b6]at f
  | some q =>
   rw[k]at f;have T:=s g q k;cases q<;>simp only[b6]at f<;>try(cases f;done)
   rename_i m;have U:m=n:=by simpa using f
   subst U;obtain⟨_,b,D,E⟩:=T;exact⟨b,D,E⟩
 obtain⟨z,B,ag,G,J,V,M,af,X⟩:=SF N v (bQ s L) stay post ren h1 C F I hs W O hk;obtain⟨fn,tmps,assign,body,ab,K⟩:=H w z B ag (xs.map a.eval) b G J V M ((af _ _ ad).trans ae);have Z:(execOp a.eval o).run c.P w=.ok (.round b fn tmps assign body) w:=by
  simp[execOp,t,resolve,Deferred.ofValue,S,invoke];simpa using ab
 refine⟨λ_ _=>trivial,?_⟩;rw[Gr _ _ _ (λcl e=>by rw[t]at e;cases e),Z,Oper.uponIn_round];refine⟨λh=>(by simp[FR]at h),?_⟩;rw[Y];refine K.mono λe w' hh=>?_;obtain⟨u,rfl,hh⟩:=hh;rw[R];exact X u w' hh
theorem zY (C:c.Ok) (H:c.r=none) {ops:Array Oper} {rest:List Oper} {dst:Option Nat} {g:Operand} {xs:List Operand} {ts:Array TypeId} {ty:TypeId} {pos:String} {after:Array Edge}
  {n yn:Nat} (D:b6 n (Am σ g)=true) {as:List AV} (B:Ig σ xs=some as)
  {A:List AV} {objs:List (Nat×Obj)} {stay:List Nat} {post:AV->List (Nat×Obj)->Prop} (y:Y6 c.P yn A objs stay post)
  (ren:List (Nat×B1)) (hs:List Nat) (K:lk yn ren=some (.nm n)) (h1:CB ren=true) (u:CT objs ren=true) (G:(c.ds.pin.all λp=>!Ac p.1 hs)=true) (v:BS σ ren as A) (z:Af σ.objs ren objs)
  (hk:∀res e,post res e->∃(b:List (Nat×B1)) (f:AV) (d:List (Nat×Obj)),CB b=true/\CT d b=true/\Af e b d/\Bp b res f /\
   I0 ren b stay hs=true/\FX (Ai ren) d σ.objs=true/\Jx c R k ops rest (CU σ (Ai ren) hs dst f d)) :
  Jx c R k ops (⟨dst,.call ⟨.value g,xs.toArray,ts⟩,ty,pos,after,none⟩ :: rest) σ:=by
 intro h E a w J;unfold wpListIn;rw[BY (by simp[Region.wanted])];refine A2t C H (xs:=xs) (ts:=ts) rfl rfl D B y ren K h1 u v z hs G J (CL (h _ (by simp))) λres e hp=>?_;obtain⟨b,f,d,j,l,m,q,s,t,x⟩:=hk res e hp;exact⟨b,f,d,j,l,m,q,s,t,λi w' I=>x (λo F=>h o (by simp[F])) E i w' I⟩
end
def HJ:List Nat->List AV->List (Nat×AV)->List (Nat×AV)
 | p :: a,x :: xs,e=>HJ a xs ((p,x) :: e)
 | _,_,e=>e
def cY (P:Program) (tb:Tb) (w0:World) (K O0:Nat->Prop) (nt l:Nat) (pin:List (Nat×Value)):Cx:={ P:=P,tb:=tb,w0:=w0,K:=K,O0:=O0,nt:=nt,ds:={ pin:=pin },r:=some l }
theorem qK {P:Program} {tb:Tb} {w0:World} {K O0:Nat->Prop} {nt l:Nat} {pin:List (Nat×Value)}:(cY P tb w0 K O0 nt l pin).tb=tb:=rfl
def mH (P:Program) (l:Nat) (w0:World) (K O0:Nat->Prop) (stay:List Nat) (ρ0:Nat->Value) (post:AV->List (Nat×Obj)->Prop):Exit->Act->World->Prop :=
 roundPost P l λe w'=>∃u,e=.returned u/\MC K O0 stay w0 ρ0 post u w'
theorem qL {V:Vw}:∀(b:List Nat) (A:List AV) (c:List Value) (e:List (Nat×AV)) (a:Array Value),Jb V A c->(∀p∈b,p<a.size)->A.length=b.length->(∀s x,lk s e=some x->B8 V x (a.getD s undef)) ->
  (∀s x,lk s (HJ b A e)=some x->B8 V x (((b.zip c).foldl (λt (p,v)=>t.setIfInBounds p v) a).getD s undef))/\((b.zip c).foldl (λt (p,v)=>t.setIfInBounds p v) a).size=a.size
 | [],_,_,e,a,_,_,_,h=>by simpa[HJ] using h
 | p :: b,[],_,e,a,_,_,d,_=>by simp at d
 | p :: b,x :: A,c,e,a,⟨v,r,k,h1,g⟩,hp,d,h=>by
  subst k;simp only[AFd,ON,HJ];have l:=qL b A r ((p,x) :: e) (a.setIfInBounds p v) g (λq j=>by simpa using hp q (by simp[j])) (by simpa using d) (λs y hs=>by
   have f:=Mx { tmps:=a,defers:=[] } p v s (hp p (by simp));have f:(a.setIfInBounds p v).getD s undef=if s=p then v else a.getD s undef:=f
   rw[f];simp only[lk]at hs;split at hs
   ·grind
   ·rename_i i;rw[An i];exact h s y hs)
  grind
section
variable {P:Program} {tb:Tb} {w0:World} {K O0:Nat->Prop} {nt l:Nat} {stay:List Nat} {ρ0:Nat->Value} {post:AV->List (Nat×Obj)->Prop} {σ:St} {pin:List (Nat×Value)}
theorem QL {c:Cx} (i:c.Ok) {σ:St} {a:Act} {w:World} {ρ:Nat->Value} (hs:CD c.w0 c.K c.O0 c.nt c.ds σ ρ a w) {yn b:Nat} {L:Go.Loop} (h:lk yn σ.objs=some (.loop L)) (d:ρ yn=.pointer (some ⟨b,0,none⟩)) (e:Go.Loop) :
  w.heap[b]?=some (.loop L)/\CD c.w0 c.K c.O0 c.nt c.ds ⟨σ.env,upd yn (.loop e) σ.objs⟩ ρ a (w.putObj b (.loop e)):=by
 obtain⟨b',h1,f⟩:=hs.objs yn _ h;rw[d]at h1;injection h1 with h1
 injection h1 with h1
 injection h1 with h1
 subst h1;have j:b<w.heap.size:=CO f;refine⟨f,hs.upd i.K h (g:=b) (by rw[d];rfl) (grownBy_putObj' w b _) ?_⟩;exact⟨b,d,World.putObj_heap_same j⟩
theorem SK (f:(cY P tb w0 K O0 nt l pin).Ok) {yn:Nat} {L:Go.Loop} (g:lk yn σ.objs=some (.loop L)) (h:pin=stay.map λn=>(n,ρ0 n)) (i:yn∈stay) (e:ρ0 yn=.pointer (some ⟨l,0,none⟩))
  (hp:post (.p .bool true) (upd yn (.loop { L with state:=.ready,pending:=none }) σ.objs)) :
  Ev (cY P tb w0 K O0 nt l pin) (mH P l w0 K O0 stay ρ0 post) (.out .normal) [] σ:=by
 intro _ _ a w hs;obtain⟨ρ,hs⟩:=hs;have c:∀n∈stay,ρ n=ρ0 n:=λn hn=>(hs.pin (n,ρ0 n) (by rw[show (cY P tb w0 K O0 nt l pin).ds.pin=pin from rfl,h];exact GO.2 ⟨n,hn,rfl⟩)).2.1;obtain⟨d,b⟩:=QL f hs g ((c _ i).trans e) { L with state:=.ready,pending:=none };refine⟨_,_,run_endRound none d,.bool true,rfl,.p .bool true,_,ρ,hp,b.frm,⟨b.objs,b.free,b.dist⟩,⟨_,rfl,rfl⟩,c⟩
theorem Y7 (f:(cY P tb w0 K O0 nt l pin).Ok) {yn:Nat} {L:Go.Loop} (g:lk yn σ.objs=some (.loop L)) (h:pin=stay.map λn=>(n,ρ0 n)) (i:yn∈stay) (e:ρ0 yn=.pointer (some ⟨l,0,none⟩))
  (hp:post (.p .bool false) (upd yn (.loop { L with state:=.done,pending:=some .ret }) σ.objs)) :
  Ev (cY P tb w0 K O0 nt l pin) (mH P l w0 K O0 stay ρ0 post) (.out .ret) [] σ:=by
 intro _ _ a w hs;obtain⟨ρ,hs⟩:=hs;have c:∀n∈stay,ρ n=ρ0 n:=λn hn=>(hs.pin (n,ρ0 n) (by rw[show (cY P tb w0 K O0 nt l pin).ds.pin=pin from rfl,h];exact GO.2 ⟨n,hn,rfl⟩)).2.1;obtain⟨d,b⟩:=QL f hs g ((c _ i).trans e) { L with state:=.done,pending:=some .ret };refine⟨_,_,run_endRound (some .ret) d,.bool false,rfl,.p .bool false,_,ρ,hp,b.frm,⟨b.objs,b.free,b.dist⟩,⟨_,rfl,rfl⟩,c⟩
def AAE (c:Cx) (R:Exit->Act->World->Prop) (yn:Nat) (L:Go.Loop) (a:Code) (σ:St):Prop :=
 lk yn σ.objs=some (.loop L)/\Ev c R (.run a) [] ⟨σ.env,upd yn (.loop { L with state:=.busy }) σ.objs⟩
theorem gK {yn fr:Nat} {A:List AV} {objs:List (Nat×Obj)} {L:Go.Loop} {d:List Nat} {r s:Code} {fs:List (Nat×AV)} {g:Array Value}
  (z:lk yn objs=some (.loop L)) (hf:lk fr objs=some (.frame g fs)) (h1:L.state=.ready) (I:L.params=d.toArray) (J:L.assign=r) (M:L.body=s) (aj:L.tmps=g) (E:g.size=nt)
  (B:A.length=d.length) (Y:(d.all λp=>decide (p<nt))=true) (af:yn∈stay) (ab:stay.all (Ti objs)=true) (W:L5 objs=true) (S:Bt nt r=true) (T:Bt nt s=true) (hT:DD P tb) (hF:Iu P tb)
  (h:∀(w0:World) (K O0:Nat->Prop) (ρ0:Nat->Value) (l:Nat),(cY P tb w0 K O0 nt l (stay.map λn=>(n,ρ0 n))).Ok->QI A->Oe objs->ρ0 yn=.pointer (some ⟨l,0,none⟩) ->
   Ev (cY P tb w0 K O0 nt l (stay.map λn=>(n,ρ0 n))) (λ_ _ _=>False) (.run r) [.inv (AAE (cY P tb w0 K O0 nt l (stay.map λn=>(n,ρ0 n))) (mH P l w0 K O0 stay ρ0 post) yn L s)] ⟨HJ d A fs,objs⟩) :
  Y6 P yn A objs stay post:=by
 intro w K O0 ρ q b O Q f x u;have ae:=Iz x;obtain⟨b',c,hh⟩:=f.obj yn _ z;rw[u]at c;injection c with c
 injection c with c
 injection c with c
 subst c;have Z:=run_yield (P:=P) (args:=q.toArray) hh (by rw[I];simp[ae,B]);refine⟨_,_,_,_,Z,roundIn_of_wpIn trivial ?_⟩;have y:(cY P tb w K O0 nt b (stay.map λn=>(n,ρ n))).Ok:=⟨O,Q,hT,hF⟩;have U:=f.obj fr _ hf;have C:=qL (V:=vw w O0 ⟨[],objs⟩ ρ) d A q fs g x (λp hp=>by have:=(If.1 Y) p hp;rw[E];simpa using this) B U.2;have ad:(L.params.zip q.toArray).foldl (λt (p,v)=>t.setIfInBounds p v) L.tmps=(d.zip q).foldl (λt (p,v)=>t.setIfInBounds p v) g:=by grind
 rw[J,M,ad];have aa:(cY P tb w K O0 nt b (stay.map λn=>(n,ρ n))).sat ⟨HJ d A fs,objs⟩ { tmps:=(d.zip q).foldl (λt (p,v)=>t.setIfInBounds p v) g,defers:=[] } w:=by
  refine⟨ρ,⟨rfl,rfl,rfl,NO _,λ_ _=>rfl⟩,by rw[C.2];exact E,rfl,λp hp=>?_,f.obj,f.free,f.dist,C.1⟩;obtain⟨n,hn,rfl⟩:=GO.1 hp;have:=(If.1 ab) n hn;unfold Ti at this;cases i:lk n objs with
  | none=>rw[i]at this;cases this
  | some o =>
   rw[i]at this;refine⟨⟨o,i⟩,rfl,?_⟩;have j:=f.obj n o i;cases o with
   | arr et e xs=>exact .inr this
   | nest et al k e xs z=>exact .inr this
   | box et st fs=>obtain⟨_,b,cs,a,_⟩:=j;rw[a];exact .inl rfl
   | mapo k v l=>obtain⟨b,ai,cl,a,_⟩:=j;rw[a];exact .inl rfl
   | frame g fs=>obtain⟨a,_⟩:=j;rw[a];exact .inl rfl
   | loop L=>obtain⟨b,a,_⟩:=j;rw[a];exact .inl rfl
   | itr am ap an ao ak=>obtain⟨b,a,_⟩:=j;rw[a];exact .inl rfl
   | dfr=>obtain⟨b,a,_⟩:=j;rw[a];exact .inl rfl
 have N:=h w K O0 ρ b y (Uq x) (Ur W λn o i=>bP (f.obj n o i)) u (by simpa[Ht,cY] using S) rfl _ _ aa;refine AFB (F:=FR (some b)) N ?_;intro e ah w' m;cases e with
 | normal =>
  obtain⟨σ',⟨ρ',D⟩,X,R⟩:=m;have ag:ρ' yn=.pointer (some ⟨b,0,none⟩):=(D.pin (yn,ρ yn) (GO.2 ⟨yn,af,rfl⟩)).2.1.trans u;obtain⟨G,H⟩:=QL y D X ag { L with state:=.busy };exact⟨_,run_beginRound G h1,R (by simpa[Ht,cY] using T) rfl _ _ ⟨ρ',H⟩⟩
 | exit id=>exact m.elim
 | goto t=>exact m.elim
 | ret=>exact m.elim
 | panic ch=>exact m.elim
 | outgrown=>exact m.elim
end
end
section
open Go Go.RowKit
def Cx.marked (c:Cx) (dn b:Nat):Cx:={ c with ds:={ ds:=⟨.collected b,#[]⟩ :: c.ds.ds,pin:=(dn,.pointer (some ⟨b,0,none⟩)) :: c.ds.pin } }
def Cx.marked2 (c:Cx) (yn dn b:Nat):Cx:={ c with ds:={ ds:=⟨.collected b,#[]⟩ :: c.ds.ds,pin:=(yn,.pointer (some ⟨b+1,0,none⟩)) :: (dn,.pointer (some ⟨b,0,none⟩)) :: c.ds.pin } }
theorem mI {c:Cx} {yn dn b:Nat} (h:c.Ok):(c.marked2 yn dn b).Ok:=⟨h.K,h.O,h.T,h.F⟩
theorem NH {c:Cx} {dn b:Nat}:(c.marked dn b).tb=c.tb:=rfl
theorem NI {c:Cx} {dn b:Nat} (h:c.Ok):(c.marked dn b).Ok:=⟨h.K,h.O,h.T,h.F⟩
theorem zZ (ren:List (Nat×B1)) (x:AV):Bp ren x .top:=by grind [Bp,Hx,Dz]
def gL:List DW->Bool
 | []=>true
 | .inv _ :: _=>false
 | _ :: k=>gL k
theorem Om {c:Cx} {R:Exit->Act->World->Prop} {dn b:Nat}:∀ {k:List DW},gL k=true->Vj (c.marked dn b) R k=Vj c R k
 | [],_=>by funext e a w;simp[Vj]
 | .inv _ :: _,h=>by simp[gL]at h
 | .seq y :: k,h=>by
  have d:=Om (c:=c) (R:=R) (dn:=dn) (b:=b) (k:=k) h;funext e a w;cases e<;>simp only[Vj,d]<;>rfl
 | .blk id :: k,h=>by
  have d:=Om (c:=c) (R:=R) (dn:=dn) (b:=b) (k:=k) h;funext e a w;cases e<;>simp only[Vj,d]
def BV (σ:St) (yn dn fr:Nat) (L:Go.Loop) (a:Array Value):St:=⟨σ.env,(yn,.loop L) :: (dn,.dfr) :: (fr,.frame a σ.env) :: σ.objs⟩
section
variable {c:Cx} {R:Exit->Act->World->Prop} {k:List DW} {σ:St}
theorem z0 (q:c.Ok) {a:Act} {w:World} {ρ:Nat->Value} (hs:CD c.w0 c.K c.O0 c.nt c.ds σ ρ a w) {yn dn fr:Nat} (r:yn≠dn) (D:yn≠fr) (E:dn≠fr) (F:lk yn σ.objs=none) (G:lk dn σ.objs=none) (H:lk fr σ.objs=none) (L:Go.Loop) :
  ∃e,CD c.w0 c.K c.O0 c.nt (c.marked2 yn dn w.heap.size).ds (BV σ yn dn fr L a.tmps) e { a with defers:=[{ target:=.collected w.heap.size,args:=#[] }]++a.defers } ((w.alloc (.deferred (some []))).alloc (.loop L))/\e yn=.pointer (some ⟨w.heap.size+1,0,none⟩):=by
 let e:Nat->Value:=λm=>if m=yn then .pointer (some ⟨w.heap.size+1,0,none⟩) else if m=dn then .pointer (some ⟨w.heap.size,0,none⟩) else if m=fr then .pointer none else ρ m
 have j:e yn=.pointer (some ⟨w.heap.size+1,0,none⟩):=by simp[e]
 have k:e dn=.pointer (some ⟨w.heap.size,0,none⟩):=by simp[e,Ne.symm r]
 have y:e fr=.pointer none:=by simp[e,Ne.symm D,Ne.symm E]
 obtain⟨f,i⟩:∃f,(w.alloc (.deferred (some []))).alloc (.loop L)=f:=⟨_,rfl⟩;have A:f.heap[w.heap.size+1]?=some (.loop L):=by
  rw[<-i];have:=World.alloc_heap_new (w.alloc (.deferred (some []))) (.loop L);rwa [World.size_alloc]at this
 have z:f.heap[w.heap.size]?=some (.deferred (some [])):=by
  rw[<-i];exact(Below.heap_alloc _ _ _ (by simp)).trans (World.alloc_heap_new w _)
 have l:Below w.heap.size w f:=by
  rw[<-i];exact((Below.refl _ w).alloc (NO _) _).alloc (by simp) _
 rw[i];have t:Bi [(yn,Obj.loop L),(dn,.dfr),(fr,.frame a.tmps σ.env)] σ=true:=by simp[Bi,F,G,H]
 have v:∀n,lk n [(yn,Obj.loop L),(dn,Obj.dfr),(fr,.frame a.tmps σ.env)]=none->e n=ρ n:=λn hn=>by grind [lk]
 have u:∀n o b,lk n [(yn,Obj.loop L),(dn,Obj.dfr),(fr,.frame a.tmps σ.env)]=some o->bk (e n) b->w.heap.size<=b:=λn o b hn B=>by grind [lk,bk,blk]
 have I:=Hr (O0:=c.O0) (ρ:=ρ) (ρ':=e) t l v u;have J:QS w c.O0 σ ρ .top [(yn,Obj.loop L),(dn,.dfr),(fr,.frame a.tmps σ.env)] undef e f:=by
  refine⟨l,v,trivial,λn o hn=>?_,u,λn m o Q b hn P B N=>?_⟩
  ·simp only[lk]at hn;split at hn
   ·rename_i g;cases hn;subst g;exact⟨_,j,A⟩
   ·split at hn
    ·rename_i g;cases hn;subst g;exact⟨_,k,z⟩
    ·split at hn
     ·rename_i g;cases hn;subst g;exact⟨y,λs x M=>(hs.env s x M).keeps I⟩
     ·cases hn
  ·grind [lk,bk,blk]
 have h:=hs.add q.K q.O (dst:=none) (λd C=>by cases C) t J;refine⟨e,⟨h.frm,h.nt,?_,λp hp=>?_,h.objs,h.free,h.dist,h.env⟩,j⟩
 ·show _=_ :: c.ds.ds;rw[<-hs.defers];rfl
 ·rcases DO.1 hp with rfl|hp
  ·exact⟨⟨.loop L,by simp[BV,lk]⟩,j,.inl rfl⟩
  rcases DO.1 hp with rfl|hp
  ·exact⟨⟨.dfr,by simp[BV,lk,Ne.symm r]⟩,k,.inl rfl⟩
  ·exact h.pin p hp
def EvJ (c:Cx) (R:Exit->Act->World->Prop) (k:List DW) (σ:St):Option Code->Prop
 | none=>Ev c R (.out .normal) k σ
 | some a=>match a with
  | .ret=>Ev c R (.out .ret) k σ
  | .exit id=>Ev c R (.out (.exit id)) k σ
  | _=>False
def ADP (c:Cx) (R:Exit->Act->World->Prop) (k:List DW) (a:Act) (w:World):Option Code->Prop
 | none=>Vj c R k .normal a w
 | some cd=>cd.wpIn (FR c.r) 0 c.P (Vj c R k) a w
theorem A5G {dn b:Nat} (g:gL k=true) (e:Cy c.nt k=true) {p:Option Code} (d:EvJ (c.marked dn b) R k σ p) {a:Act} {w:World} (hs:(c.marked dn b).sat σ a w) :
  ADP c R k a w p:=by
 have f:=Om (c:=c) (R:=R) (dn:=dn) (b:=b) g;cases p with
 | none =>
  have:=d rfl e _ _ hs;show Vj c R k .normal a w;rw[<-f];exact this
 | some cd =>
  cases cd<;>try exact d.elim
  ·have:=d rfl e _ _ hs;refine wpIn_exit ?_;rw[<-f];exact this
  ·have:=d rfl e _ _ hs;refine wpIn_ret ?_;rw[<-f];exact this
theorem gM (T:c.Ok) (bl:c.r=none) (bf:gL k=true) {g:Operand} {N:Array Tmp} {G H:Code} {s:FuncId} {m:List Nat} (J:Am σ g=some (.clo s m))
  (yn dn fr:Nat) (D:(yn != dn&&yn != fr&&dn != fr)=true) (ba:lk yn σ.objs=none) (bb:lk dn σ.objs=none) (bc:lk fr σ.objs=none)
  (am:∀(L:Go.Loop) (z:Array Value),L.state=.ready->L.pending=none->L.tmps=z->L.params=N->L.assign=G->L.body=H->z.size=c.nt ->
   ∃(A:List AV) (objs:List (Nat×Obj)) (stay:List Nat) (post:AV->List (Nat×Obj)->Prop) (ren:List (Nat×B1)) (hs:List Nat),BJ c.P s A objs stay post /\
    CB ren=true/\CT objs ren=true/\BS (BV σ yn dn fr L z) ren (.yl yn :: m.map λn=>AV.bp n [] 0) A/\Af (BV σ yn dn fr L z).objs ren objs /\
    (((yn,undef) :: (dn,undef) :: c.ds.pin).all λp=>!Ac p.1 hs)=true /\
    ∀res y,post res y->∃(j:List (Nat×B1)) (i:List (Nat×Obj)) (l:Go.Loop),CB j=true/\CT i j=true/\Af y j i/\I0 ren j stay hs=true/\FX (Ai ren) i (BV σ yn dn fr L z).objs=true /\
     lk yn i=some (.loop l)/\(l.state == .busy)=false /\
     ∀b,EvJ (c.marked dn b) R k ⟨(CU (BV σ yn dn fr L z) (Ai ren) hs none .top i).env,upd yn (.loop { l with state:=.exhausted }) (CU (BV σ yn dn fr L z) (Ai ren) hs none .top i).objs⟩ l.pending) :
  Ev c R (.run (.rangeFunc g N G H)) k σ:=by
 intro h1 ak a w bn;obtain⟨ρ,hs⟩:=bn;have az:Gq (vw w c.O0 σ ρ) σ a.eval:=FE hs.env;obtain⟨bd,_⟩:=gJ (az g _ J);simp only[AT,AEN,ne_eq]at D;obtain⟨⟨av,aw⟩,ax⟩:=D;refine wpIn_rangeFunc (F:=FR c.r) ?_;intro fn _;have bm:(FR c.r).round=none:=by rw[bl];rfl
 rw[bm];obtain⟨L,x⟩:∃L:Go.Loop,L={ state:=.ready,pending:=none,fn,tmps:=a.tmps,params:=N,assign:=G,body:=H,defers:=w.heap.size }:=⟨_,rfl⟩;obtain⟨Y,M,bq⟩:=z0 T hs av aw ax ba bb bc L;obtain⟨A,objs,stay,post,ren,B,I,ae,af,ag,ah,ai,aj⟩:=am L a.tmps (by rw[x]) (by rw[x]) (by rw[x]) (by rw[x]) (by rw[x]) (by rw[x]) hs.nt;obtain⟨⟨O,au,bi,ap⟩,I⟩:=I;obtain⟨o,S⟩:∃o,(w.alloc (.deferred (some []))).alloc (.loop L)=o:=⟨_,rfl⟩;rw[S]at M;have U:(c.marked2 yn dn w.heap.size).Ok:=mI T;have ar:Jb (vw o c.O0 (BV σ yn dn fr L a.tmps) Y) (.yl yn :: m.map λn=>AV.bp n [] 0) (.func (.yield (w.heap.size+1)) #[] #[] :: m.map ρ):=by
  refine⟨_,_,rfl,⟨⟨_,by simp[BV,lk];rfl⟩,_,bq,rfl⟩,?_⟩;have cb:=gJ (V:=vw o c.O0 (BV σ yn dn fr L a.tmps) Y) (f:=s) (ns:=m) (v:=a.eval g) (by
   have:=FE M.env;have bj:Am (BV σ yn dn fr L a.tmps) g=some (.clo s m):=by
    cases g with
    | tmp t=>exact J
    | _=>exact J
   have Q:=this g _ bj;have ay:({ a with defers:=[{ target:=.collected w.heap.size,args:=#[] }]++a.defers }:Act).eval g=a.eval g:=by cases g<;>rfl
   rw[ay]at Q;exact Q)
  grind [vw]
 have bg:∀res y,post res y->∃(j:List (Nat×B1)) (X:AV) (i:List (Nat×Obj)),CB j=true/\CT i j=true/\Af y j i/\Bp j res X /\
   I0 ren j stay B=true/\FX (Ai ren) i (BV σ yn dn fr L a.tmps).objs=true/\∀C w',(c.marked2 yn dn w.heap.size).sat (CU (BV σ yn dn fr L a.tmps) (Ai ren) B none X i) C w' ->
    rangePost (FR c.r) 0 c.P (w.heap.size+1) (Vj c R k) C (.returned undef) w':=by
  intro res y hp;obtain⟨j,i,l,bs,bt,bu,bv,bw,cc,W,bx⟩:=aj res y hp;refine⟨j,.top,i,bs,bt,bu,zZ j res,bv,bw,λC w' E=>?_⟩;obtain⟨ρ',E⟩:=E;have br:lk yn (CU (BV σ yn dn fr L a.tmps) (Ai ren) B none .top i).objs=some (.loop l):=by grind [CU,BB]
  have hyp:=(E.pin (yn,.pointer (some ⟨w.heap.size+1,0,none⟩)) (by simp[Cx.marked2])).2.1;obtain⟨bz,q⟩:=QL U E br hyp { l with state:=.exhausted };refine⟨_,_,run_endLoop bz (by intro e;rw[e]at W;cases W),?_⟩;have bo:(c.marked dn w.heap.size).sat ⟨(CU (BV σ yn dn fr L a.tmps) (Ai ren) B none .top i).env,upd yn (.loop { l with state:=.exhausted }) (CU (BV σ yn dn fr L a.tmps) (Ai ren) B none .top i).objs⟩ C (w'.putObj (w.heap.size+1) (.loop { l with state:=.exhausted })) :=
   ⟨ρ',q.frm,q.nt,q.defers,λp hp=>q.pin p (OF _ hp),q.objs,q.free,q.dist,q.env⟩
  have K:=A5G bf ak (bx w.heap.size) bo;revert K;generalize l.pending=p;intro K;cases p<;>exact K
 obtain⟨Z,aa,ca,al,an,bh,ao,_,bk⟩:=SF U M ar stay post ren ae af ag ah B (by simpa[Cx.marked2] using ai) (dst:=none) (λd D=>by cases D) bg;have aq:=I o Z aa ca _ al an bh ao;refine⟨w.heap.size+1,[{ target:=.collected w.heap.size,args:=#[] }],o,{ target:=.fn (.func s) (m.map ρ).toArray,args:=#[.func (.yield (w.heap.size+1)) #[] #[]] },o,s,
  (.func (.yield (w.heap.size+1)) #[] #[] :: m.map ρ).toArray,o,?_,?_,λ_ _=>trivial,?_,λh=>by simp[FR]at h,?_⟩
 ·rw[<-S,x];exact run_enterLoop_outer _ _ _ _ _
 ·have be:a.eval g=.func (.func s) #[] (m.map ρ).toArray:=bd;simp only[resolve,be];simp[go_sem]
 ·have ab : ¬ O.name = "runtime.NumGoroutine" := by simpa using bi
  have ad:¬O.body=none:=by intro e;simp[e]at ap
  simp[invoke,callFunc,au,ab,ad]
 ·refine OX (aq.mono λe w' hh=>?_);obtain⟨u,rfl,hh⟩:=hh;exact bk u w' hh
theorem A2u (O:c.Ok) {a:Act} {w:World} {ρ:Nat->Value} (hs:CD c.w0 c.K c.O0 c.nt c.ds σ ρ a w) {dn b:Nat} (j:lk dn σ.objs=some .dfr) (i:ρ dn=.pointer (some ⟨b,0,none⟩)) (X:_root_.Go.Obj) (pin:List (Nat×Value)) (G:∀p∈pin,p∈c.ds.pin/\p.1≠dn) :
  w.heap[b]?=some (.deferred (some []))/\CD c.w0 c.K c.O0 c.nt { ds:=c.ds.ds,pin:=pin } ⟨CS [dn] σ.env,Az [dn] [dn] σ.objs⟩ ρ a (w.putObj b X):=by
 obtain⟨b',h1,h⟩:=hs.objs dn _ j;rw[i]at h1;injection h1 with h1
 injection h1 with h1
 injection h1 with h1
 subst h1;have P:b<w.heap.size:=CO h;refine⟨h,?_⟩;have A:own c.O0 σ ρ b:=.inr ⟨dn,⟨_,j⟩,by rw[i];exact .inl rfl⟩;have f:∀n,HF ⟨CS [dn] σ.env,Az [dn] [dn] σ.objs⟩ n->HF σ n/\n≠dn:=by
  rintro n ⟨o,hn⟩;have hn:lk n (Az [dn] [dn] σ.objs)=some o:=hn;rw[CA]at hn;split at hn
  ·cases hn
  ·rename_i r;simp only[Is]at hn;obtain⟨y,d,_⟩:=hn;exact⟨⟨y,d⟩,λe=>r (by subst e;simp[Ac])⟩
 have l:∀k,k≠b->(w.putObj b X).heap[k]?=w.heap[k]?:=λk hk=>World.putObj_heap_other hk;have q:Cr ((vw w c.O0 σ ρ).buts [dn]) (vw (w.putObj b X) c.O0 ⟨CS [dn] σ.env,Az [dn] [dn] σ.objs⟩ ρ):=by
  refine⟨λk _ hk B=>?_,λn hn=>?_,λ_ _=>rfl,λk _ hk=>l k (λe=>?_)⟩
  ·rcases B with h0|⟨n,hn,E⟩
   ·exact hk (.inl h0)
   ·exact hk (.inr ⟨n,(f n hn).1,E⟩)
  ·obtain⟨⟨o,F⟩,D⟩:=hn;exact⟨_,by show lk n (Az [dn] [dn] σ.objs)=_;rw[CA,An (by rw[D];simp),F];rfl⟩
  ·subst e;exact hk A
 refine⟨⟨hs.frm.os,hs.frm.tape,hs.frm.output,by simpa using hs.frm.size,λk hk=>?_⟩,hs.nt,hs.defers,λp hp=>?_,λn x hn=>?_,λn k C hk=>hs.free n k (f n C).1 hk,λn m k h1 h u z=>hs.dist n m k (f n h1).1 (f m h).1 u z,λs v t=>?_⟩
 ·refine(l k λe=>?_).trans (hs.frm.block k hk);subst e;exact(hs.free dn k ⟨_,j⟩ (by rw[i];exact .inl rfl)).1 hk
 ·obtain⟨H,I⟩:=G p hp;obtain⟨J,M,N⟩:=hs.pin p H;exact⟨q.L p.1 ⟨J,by simp[Ac,I]⟩,M,N⟩
 ·have g:lk n (Az [dn] [dn] σ.objs)=some x:=hn;have r:=(f n ⟨x,hn⟩).2;rw[CA]at g;split at g
  ·cases g
  ·simp only[Is]at g;obtain⟨y,d,rfl⟩:=g;refine bJ q (λk hk=>l k λe=>?_) (hs.objs n y d);subst e;exact r (hs.dist n dn k ⟨y,d⟩ ⟨_,j⟩ hk (by rw[i];exact .inl rfl))
 ·rw[Ez]at t;simp only[Is]at t;obtain⟨y,d,rfl⟩:=t;exact(Uj (hs.env s y d)).keeps q
end
def qM (P:Program) (fn:Func) (w0:World) (K O0:Nat->Prop) (stay:List Nat) (ρ0:Nat->Value) (post:AV->List (Nat×Obj)->Prop):Exit->Act->World->Prop :=
 bodyPostM (FR none) 0 P fn λe w'=>∃u,e=.returned u/\MC K O0 stay w0 ρ0 post u w'
theorem A5H {P:Program} {tb:Tb} {f:FuncId} {fn:Func} {cd:Code} {nt:Nat} {args:List AV} {objs:List (Nat×Obj)} {stay:List Nat} {post:AV->List (Nat×Obj)->Prop}
  (c : P.funcs[f]? = some fn) (k : (fn.name == "runtime.NumGoroutine") = false) (b : fn.body = some cd) (l : fn.ntmps = nt) (q : args.length <= nt)
  (i:Bt nt cd=true) (p:stay.all (Ti objs)=true) (j:L5 objs=true) (hT:DD P tb) (hF:Iu P tb)
  (h:∀(w0:World) (K O0:Nat->Prop) (ρ0:Nat->Value),(cm P tb w0 K O0 nt (stay.map λn=>(n,ρ0 n))).Ok->QI args->Oe objs ->
   Ev (cm P tb w0 K O0 nt (stay.map λn=>(n,ρ0 n))) (qM P fn w0 K O0 stay ρ0 post) (.run cd) [] ⟨Ao 0 args,objs⟩):BJ P f args objs stay post:=by
 refine⟨⟨fn,c,k,by simp[b]⟩,λw K O0 ρ s e g d a=>?_⟩;refine callsIn_wide.1 (callsIn_of_wp_marks (F:=FR none) (n:=0) c b trivial ?_ rfl);have r:=Iz a;rw[l];exact h w K O0 ρ ⟨e,g,hT,hF⟩ (Uq a) (Ur j λn o m=>bP (d.obj n o m)) i rfl _ _ (Vt d a p (by omega))
theorem QM {P:Program} {tb:Tb} {w0:World} {K O0:Nat->Prop} {nt:Nat} {stay:List Nat} {ρ0:Nat->Value} {fn:Func} {post:AV->List (Nat×Obj)->Prop} {σ:St} {e:Exit} {dn b:Nat} (d:((cm P tb w0 K O0 nt (stay.map λn=>(n,ρ0 n))).marked dn b).Ok)
  (g:List ResultVar) (s:fn.results.toList=g) (o:e=.ret\/e=.normal) (q:lk dn σ.objs=some .dfr) (f:Ac dn stay=false) (res:AV) (h:Tj tb ⟨CS [dn] σ.env,Az [dn] [dn] σ.objs⟩ g res) (hp:post res (Az [dn] [dn] σ.objs)) :
  Ev ((cm P tb w0 K O0 nt (stay.map λn=>(n,ρ0 n))).marked dn b) (qM P fn w0 K O0 stay ρ0 post) (.out e) [] σ:=by
 intro _ _ a w hs;obtain⟨ρ,hs⟩:=hs;have l:=(hs.pin (dn,.pointer (some ⟨b,0,none⟩)) (by simp[Cx.marked])).2.1;obtain⟨h1,i⟩:=A2u d hs q l (.deferred none) (stay.map λn=>(n,ρ0 n)) (λp hp=>⟨OF _ hp,λe=>by
  obtain⟨n,hn,rfl⟩:=GO.1 hp;have e:n=dn:=e;subst e;rw[(Al _ _).2 hn]at f;cases f⟩)
 have c:CD w0 K O0 nt { ds:=[⟨.collected b,#[]⟩],pin:=stay.map λn=>(n,ρ0 n) } ⟨CS [dn] σ.env,Az [dn] [dn] σ.objs⟩ ρ a (w.putObj b (.deferred none)):=i;obtain⟨u,j,k⟩:=Vv d.T c (fn:=fn) (by rw[s];exact h);have r:MC K O0 stay w0 ρ0 post u (w.putObj b (.deferred none)):=by
  refine⟨res,_,ρ,hp,c.frm,⟨c.objs,c.free,c.dist⟩,k,λn hn=>?_⟩;exact(c.pin (n,ρ0 n) (GO.2 ⟨n,hn,rfl⟩)).2.1
 have m:a.defers=[⟨.collected b,#[]⟩]:=hs.defers;have key:LeavesInM (FR none) 0 P fn a.tmps (λe w'=>∃u,e=.returned u/\MC K O0 stay w0 ρ0 post u w') a.defers .returning w:=by
  rw[m];exact⟨by simp,.inl ⟨b,_,rfl,run_takeDeferred h1,u,j,u,rfl,r⟩⟩
 rcases o with rfl|rfl
 ·exact key
 ·exact key
end
section
open Go Go.RowKit
section
variable {c:Cx} {R:Exit->Act->World->Prop} {k:List DW} {σ σ':St}
theorem rP (a:c.Ok) {id:Nat} {l:List Oper} {vc:Prop} (b:vc) (hk:Ev c R (.out .normal) k σ') (h0:(l.all λo=>o.guard.isNone)=true:=by rfl)
  (h:Dm c.tb.live (Bu c.tb l l σ)=some (vc,σ'):=by simp only[go_sem,Nat.reduceEqDiff,reduceCtorEq,Nat.reduceAdd,Nat.reduceSub,Nat.reduceMul,Nat.reduceLeDiff,Nat.reduceLT,Int.reduceLE,Int.reduceToNat,Int.reduceNeg,↓reduceIte];rfl):Ev c R (.run (.region id l.toArray false)) k σ:=MD _ a h0 h b hk
theorem rT (m:Nat) (a:c.Ok) {id:Nat} {l:List Oper} {vc:Prop} (d:vc) (hk:Ev c R (.out .normal) k σ') (h0:LT l (l.take (l.length-m)).length=true:=by kernel_rfl) (b:c.P.follows .mixedOrders=true:=by exact drawsAny)
  (h:Dm c.tb.live (Lk c.tb l false σ.objs (l.drop (l.length-m)) (l.take (l.length-m)) 0 [] [] σ)=some (vc,σ'):=by simp only[AA4,ADU,ADy,TG,go_sem,Nat.reduceEqDiff,reduceCtorEq,Nat.reduceAdd,Nat.reduceSub,Nat.reduceMul,Nat.reduceLeDiff,Nat.reduceLT,Int.reduceLE,Int.reduceToNat,Int.reduceNeg,↓reduceIte];rfl):Ev c R (.run (.region id l.toArray true)) k σ:=Yz _ m b a h0 h d hk
theorem rC {o:Operand} {x y:Code} {b:Bool} {p q:Prop} (d:p->Ev c R (.run x) k σ) (hf:q->Ev c R (.run y) k σ) (h:Am σ o=some (.p .bool b):=by simp only[go_sem,Nat.reduceEqDiff,reduceCtorEq,Nat.reduceAdd,Nat.reduceSub,Nat.reduceMul,Nat.reduceLeDiff,Nat.reduceLT,Int.reduceLE,Int.reduceToNat,Int.reduceNeg,↓reduceIte];rfl)
  (hp:(b=true)=p:=by first|(simp only[Ff,Of,AT,S8,Bool.and_eq_false_imp,iS,RZ,ADN,TC,ADD,AEN,Bool.not_eq_eq_eq_not,Bool.not_true,Bool.not_false,AAh,oS,ne_eq];rfl)|rfl) (a:(b=false)=q:=by first|(simp only[Ff,Of,AT,S8,Bool.and_eq_false_imp,iS,RZ,ADN,TC,ADD,AEN,Bool.not_eq_eq_eq_not,Bool.not_true,Bool.not_false,AAh,oS,ne_eq];rfl)|rfl):Ev c R (.run (.cond o x y)) k σ :=
 Dk h (λe=>d (hp▸e)) (λe=>hf (a▸e))
theorem rL (a:c.Ok) {ops:List Oper} {l:List Oper} {vc:Prop} (b:vc) (hk:Ev c R (.out .normal) k σ') (h:Dm c.tb.live (Bu c.tb ops l σ)=some (vc,σ'):=by simp only[go_sem,Nat.reduceEqDiff,reduceCtorEq,Nat.reduceAdd,Nat.reduceSub,Nat.reduceMul,Nat.reduceLeDiff,Nat.reduceLT,Int.reduceLE,Int.reduceToNat,Int.reduceNeg,↓reduceIte];rfl):Jx c R k ops.toArray l σ:=H8 _ a h b hk
theorem rN (n:Nat) (a:c.Ok) {ops:List Oper} {l:List Oper} {vc:Prop} (b:vc) (hk:Jx c R k ops.toArray (l.drop n) σ') (h:Bu c.tb ops (l.take n) σ=some (vc,σ'):=by simp only[AA4,ADy,go_sem,Nat.reduceEqDiff,reduceCtorEq,Nat.reduceAdd,Nat.reduceSub,Nat.reduceMul,Nat.reduceLeDiff,Nat.reduceLT,Int.reduceLE,Int.reduceToNat,Int.reduceNeg,↓reduceIte];rfl):Jx c R k ops.toArray l σ:=QF a n (by simpa using h) b hk
theorem cP (n:Nat) (a:c.Ok) {id:Nat} {l:List Oper} {vc:Prop} (b:vc) (hk:Jx c R k l.toArray (l.drop n) σ') (h0:(l.all λo=>o.guard.isNone)=true:=by rfl) (h:Bu c.tb l (l.take n) σ=some (vc,σ'):=by simp only[AA4,ADy,go_sem,Nat.reduceEqDiff,reduceCtorEq,Nat.reduceAdd,Nat.reduceSub,Nat.reduceMul,Nat.reduceLeDiff,Nat.reduceLT,Int.reduceLE,Int.reduceToNat,Int.reduceNeg,↓reduceIte];rfl) :
  Ev c R (.run (.region id l.toArray false)) k σ:=A2e a n h0 h b hk
theorem cD (n:Nat) (a:c.Ok) {id:Nat} {l:List Oper} {vc:Prop} (e:vc) (hk:Jx c R k l.toArray (l.drop n) σ') (b:LT l (l.take n).length=true:=by kernel_rfl) (d:c.P.follows .mixedOrders=true:=by exact drawsAny)
  (h:Lk c.tb l false σ.objs [] (l.take n) 0 [] [] σ=some (vc,σ'):=by simp only[AA4,ADy,go_sem,Nat.reduceEqDiff,reduceCtorEq,Nat.reduceAdd,Nat.reduceSub,Nat.reduceMul,Nat.reduceLeDiff,Nat.reduceLT,Int.reduceLE,Int.reduceToNat,Int.reduceNeg,↓reduceIte];rfl):Ev c R (.run (.region id l.toArray true)) k σ:=A2f d a n b h e hk
theorem rM (q:c.Ok) {ops:Array Oper} {rest:List Oper} {dst:Option Nat} {g:Operand} {xs:List Operand} {ts:Array TypeId} {ty:TypeId} {pos:String} {after:Array Edge}
  {f:FuncId} {d:List Nat} {as:List AV} {A:List AV} {objs:List (Nat×Obj)} {stay:List Nat} {post:AV->List (Nat×Obj)->Prop} (l:BJ c.P f A objs stay post)
  (ren:List (Nat×B1)) (hs:List Nat) (j:BS σ ren (as++d.map λn=>AV.bp n [] 0) A) (m:Af σ.objs ren objs)
  (hk:∀res e,post res e->∃(a:List (Nat×B1)) (h:AV) (b:List (Nat×Obj)),CB a=true/\CT b a=true/\Af e a b/\Bp a res h /\
   I0 ren a stay hs=true/\FX (Ai ren) b σ.objs=true/\Jx c R k ops rest (CU σ (Ai ren) hs dst h b))
  (r:DM (Am σ g)=some (f,d):=by simp only[go_sem,Nat.reduceEqDiff,reduceCtorEq,Nat.reduceAdd,Nat.reduceSub,Nat.reduceMul,Nat.reduceLeDiff,Nat.reduceLT,Int.reduceLE,Int.reduceToNat,Int.reduceNeg,↓reduceIte];rfl) (o:Ig σ xs=some as:=by simp only[go_sem,Nat.reduceEqDiff,reduceCtorEq,Nat.reduceAdd,Nat.reduceSub,Nat.reduceMul,Nat.reduceLeDiff,Nat.reduceLT,Int.reduceLE,Int.reduceToNat,Int.reduceNeg,↓reduceIte];rfl)
  (h1:CB ren=true:=by rfl) (i:CT objs ren=true:=by rfl) (s:(c.ds.pin.all λp=>!Ac p.1 hs)=true:=by rfl) :
  Jx c R k ops (⟨dst,.call ⟨.value g,xs.toArray,ts⟩,ty,pos,after,none⟩ :: rest) σ:=A2d q r o l ren hs h1 i s j m hk
theorem rY (n yn:Nat) (m:c.Ok) {ops:Array Oper} {rest:List Oper} {dst:Option Nat} {g:Operand} {xs:List Operand} {ts:Array TypeId} {ty:TypeId} {pos:String} {after:Array Edge}
  {as:List AV} {A:List AV} {objs:List (Nat×Obj)} {stay:List Nat} {post:AV->List (Nat×Obj)->Prop} (i:Y6 c.P yn A objs stay post)
  (ren:List (Nat×B1)) (hs:List Nat) (h:BS σ ren as A) (j:Af σ.objs ren objs)
  (hk:∀res d,post res d->∃(a:List (Nat×B1)) (e:AV) (b:List (Nat×Obj)),CB a=true/\CT b a=true/\Af d a b/\Bp a res e /\
   I0 ren a stay hs=true/\FX (Ai ren) b σ.objs=true/\Jx c R k ops rest (CU σ (Ai ren) hs dst e b))
  (s:c.r=none:=by rfl) (o:b6 n (Am σ g)=true:=by simp only[go_sem,Nat.reduceEqDiff,reduceCtorEq,Nat.reduceAdd,Nat.reduceSub,Nat.reduceMul,Nat.reduceLeDiff,Nat.reduceLT,Int.reduceLE,Int.reduceToNat,Int.reduceNeg,↓reduceIte]) (l:Ig σ xs=some as:=by simp only[go_sem,Nat.reduceEqDiff,reduceCtorEq,Nat.reduceAdd,Nat.reduceSub,Nat.reduceMul,Nat.reduceLeDiff,Nat.reduceLT,Int.reduceLE,Int.reduceToNat,Int.reduceNeg,↓reduceIte];rfl)
  (t:lk yn ren=some (.nm n):=by rfl) (h1:CB ren=true:=by rfl) (f:CT objs ren=true:=by rfl) (q:(c.ds.pin.all λp=>!Ac p.1 hs)=true:=by rfl) :
  Jx c R k ops (⟨dst,.call ⟨.value g,xs.toArray,ts⟩,ty,pos,after,none⟩ :: rest) σ:=zY m s o l i ren hs t h1 f q h j hk
end
end
section
open Go Go.RowKit
section
variable {P:Program} {b:Frame} {a:Act} {k:List Item} {cs:List Frame} {w:World}
end
section
variable {c:Cx} {R:Exit->Act->World->Prop} {k:List DW} {σ:St}
end
end
section
open Go Go.RowKit
def qN:p7->List DW->Option (p7×List DW)
 | .run (.seq x y),k=>some (.run x,.seq y :: k)
 | .run .skip,k=>some (.out .normal,k)
 | .run .ret,k=>some (.out .ret,k)
 | .run (.exit id),k=>some (.out (.exit id),k)
 | .run (.block id b),k=>some (.run b,.blk id :: k)
 | .out .normal,.seq y :: k=>some (.run y,k)
 | .out .normal,.blk _ :: k=>some (.out .normal,k)
 | .out (.exit id),.seq _ :: k=>some (.out (.exit id),k)
 | .out (.exit a),.blk id :: k=>if a=id then some (.out .normal,k) else some (.out (.exit a),k)
 | .out (.exit id),.inv _ :: k=>some (.out (.exit id),k)
 | .out .ret,.seq _ :: k=>some (.out .ret,k)
 | .out .ret,.blk _ :: k=>some (.out .ret,k)
 | .out .ret,.inv _ :: k=>some (.out .ret,k)
 | _,_=>none
def WK:Nat->p7->List DW->p7×List DW
 | 0,n,k=>(n,k)
 | m+1,n,k=>match qN n k with
  | some (b,a)=>WK m b a
  | none=>(n,k)
def qO (n:p7) (k:List DW):Option (p7×List DW):=match qN n k with
 | some (b,a)=>some (WK 200 b a)
 | none=>none
section
variable {c:Cx} {R:Exit->Act->World->Prop} {σ:St}
theorem gN {n b:p7} {k a:List DW} (e:qN n k=some (b,a)) (h:Ev c R b a σ):Ev c R n k σ:=by
 unfold qN at e;split at e<;>first
  | (cases e;done)
  | (split at e<;>(cases e;first|(rename_i d;rw[d];exact lX h)|exact lY (by assumption) h))
  | (cases e;first|exact A9b h|exact p8 h|exact A9c h|exact A5x h|exact A20 h|exact Hu h|exact lS h|exact fT h|exact fU h|exact lQ h|exact lU h|exact lV h)
theorem Y8:∀(m:Nat) {n:p7} {k:List DW},Ev c R (WK m n k).1 (WK m n k).2 σ->Ev c R n k σ
 | 0,_,_,h=>h
 | m+1,n,k,h=>by
  unfold WK at h;split at h
  ·rename_i b a e;exact gN e (Y8 m h)
  ·exact h
theorem eS {n b:p7} {k a:List DW} (e:qO n k=some (b,a)) (h:Ev c R b a σ):Ev c R n k σ:=by grind [qO,gN,Y8]
end
inductive RX (c:Cx) (lv:List Nat) (σ:St) (vc:Prop) (σ':St):Array Oper->Bool->Prop
 | p {l:List Oper} (h0:(l.all λo=>o.guard.isNone)=true) (h:Dm lv (Bu c.tb l l σ)=some (vc,σ')):RX c lv σ vc σ' l.toArray false
 | a {l:List Oper} (h0:zI l l.length=true) (h:Dm lv (Lk c.tb l true σ.objs [] l 0 [] [] σ)=some (vc,σ')):RX c lv σ vc σ' l.toArray false
 | d {l:List Oper} (h0:LT l l.length=true) (hm:c.P.follows .mixedOrders=true) (h:Dm lv (Lk c.tb l false σ.objs [] l 0 [] [] σ)=some (vc,σ')):RX c lv σ vc σ' l.toArray true
 | t {l:List Oper} (m:Nat) (h0:LT l (l.take (l.length-m)).length=true) (hm:c.P.follows .mixedOrders=true) (h:Dm lv (Lk c.tb l false σ.objs (l.drop (l.length-m)) (l.take (l.length-m)) 0 [] [] σ)=some (vc,σ')):RX c lv σ vc σ' l.toArray true
theorem AAF {c:Cx} {R:Exit->Act->World->Prop} {k:List DW} {σ σ':St} {b:List Nat} (e:c.Ok) {id:Nat} {ops:Array Oper} {i:Bool} {vc:Prop} (f:vc) (hk:Ev c R (.out .normal) k σ') (h:RX c b σ vc σ' ops i):Ev c R (.run (.region id ops i)) k σ:=by
 cases h with
 | p h0 h=>exact MD b e h0 h f hk
 | a h0 h=>exact f9 b e h0 h f hk
 | d h0 g h=>exact zO b g e h0 h f hk
 | t m h0 g h=>exact Yz b m g e h0 h f hk
theorem rX {c:Cx} {R:Exit->Act->World->Prop} {k:List DW} {σ σ':St} (e:c.Ok) {id:Nat} {ops:Array Oper} {b:Bool} {vc:Prop} (f:vc) (hk:Ev c R (.out .normal) k σ')
  (h:RX c c.tb.live σ vc σ' ops b:=by
   first
   | exact .p rfl (by simp only[go_sem,Nat.reduceEqDiff,reduceCtorEq,Nat.reduceAdd,Nat.reduceSub,Nat.reduceMul,Nat.reduceLeDiff,Nat.reduceLT,Int.reduceLE,Int.reduceToNat,Int.reduceNeg,↓reduceIte];rfl)
   | exact .a (by kernel_rfl) (by simp only[go_sem,Nat.reduceEqDiff,reduceCtorEq,Nat.reduceAdd,Nat.reduceSub,Nat.reduceMul,Nat.reduceLeDiff,Nat.reduceLT,Int.reduceLE,Int.reduceToNat,Int.reduceNeg,↓reduceIte];rfl)
   | exact .d (by kernel_rfl) (by exact drawsAny) (by simp only[go_sem,Nat.reduceEqDiff,reduceCtorEq,Nat.reduceAdd,Nat.reduceSub,Nat.reduceMul,Nat.reduceLeDiff,Nat.reduceLT,Int.reduceLE,Int.reduceToNat,Int.reduceNeg,↓reduceIte];rfl)
   | exact .t 1 (by kernel_rfl) (by exact drawsAny) (by simp only[AA4,ADU,ADy,TG,go_sem,Nat.reduceEqDiff,reduceCtorEq,Nat.reduceAdd,Nat.reduceSub,Nat.reduceMul,Nat.reduceLeDiff,Nat.reduceLT,Int.reduceLE,Int.reduceToNat,Int.reduceNeg,↓reduceIte];rfl)
   | exact .t 2 (by kernel_rfl) (by exact drawsAny) (by simp only[AA4,ADU,ADy,TG,go_sem,Nat.reduceEqDiff,reduceCtorEq,Nat.reduceAdd,Nat.reduceSub,Nat.reduceMul,Nat.reduceLeDiff,Nat.reduceLT,Int.reduceLE,Int.reduceToNat,Int.reduceNeg,↓reduceIte];rfl)
   | exact .t 3 (by kernel_rfl) (by exact drawsAny) (by simp only[AA4,ADU,ADy,TG,go_sem,Nat.reduceEqDiff,reduceCtorEq,Nat.reduceAdd,Nat.reduceSub,Nat.reduceMul,Nat.reduceLeDiff,Nat.reduceLT,Int.reduceLE,Int.reduceToNat,Int.reduceNeg,↓reduceIte];rfl)):Ev c R (.run (.region id ops b)) k σ:=AAF e f hk h
theorem eN {p:Prop} (h:p:=by simp only[go_sem,Nat.reduceEqDiff,reduceCtorEq,Nat.reduceAdd,Nat.reduceSub,Nat.reduceMul,Nat.reduceLeDiff,Nat.reduceLT,Int.reduceLE,Int.reduceToNat,Int.reduceNeg,↓reduceIte]<;>fail):p:=h
theorem eM {p q:Prop} (a:q) (h:p=q:=by simp only[go_sem,Nat.reduceEqDiff,reduceCtorEq,Nat.reduceAdd,Nat.reduceSub,Nat.reduceMul,Nat.reduceLeDiff,Nat.reduceLT,Int.reduceLE,Int.reduceToNat,Int.reduceNeg,↓reduceIte];rfl):p:=h▸a
theorem eR {p:Prop} (h:p:=by simp only[Nu,LR,JZ,Kl,M7,Ja,Hv,go_sem,Nat.reduceEqDiff,reduceCtorEq,Nat.reduceAdd,Nat.reduceSub,Nat.reduceMul,Nat.reduceLeDiff,Nat.reduceLT,Int.reduceLE,Int.reduceToNat,Int.reduceNeg,↓reduceIte]<;>fail):p:=h
theorem WL {p q:Prop} (a:q) (h:p=q:=by simp only[Nu,LR,JZ,Kl,M7,Ja,Hv,go_sem,Nat.reduceEqDiff,reduceCtorEq,Nat.reduceAdd,Nat.reduceSub,Nat.reduceMul,Nat.reduceLeDiff,Nat.reduceLT,Int.reduceLE,Int.reduceToNat,Int.reduceNeg,↓reduceIte];rfl):p:=h▸a
theorem eV {p:Prop} (h:p:=by (try dsimp only[Ty.den]at *)<;>(repeat'(first|apply And.intro|intro _))<;>omega):p:=h
end
section
open Go Go.RowKit
section
variable {c:Cx} {R:Exit->Act->World->Prop} {k:List DW} {σ σ':St}
theorem A2v (d:c.Ok) {id:Nat} {l:List Oper} (n:Nat) {vc:Prop} (h:Bu c.tb l (l.take n) σ=some (vc,σ')) (f:vc) (hk:Jx c R k l.toArray (l.drop n) σ') :
  Ev c R (.run (.region id l.toArray false)) k σ:=by
 intro h1 b a w hs;simp only[Ht,Bt,If]at h1;exact AEL (QF d n (by simpa using h) f hk (λo e=>h1 o e) b a w hs)
theorem z1 (F:c.Ok) {ops:Array Oper} {rest:List Oper} {dst:Option Nat} {g:Operand} {xs:List Operand} {ts:Array TypeId} {ty:TypeId} {pos:String} {after:Array Edge} {i:Option (Nat×Bool)}
  (H:Ey ops.toList σ i=some true)
  {f:FuncId} {j:List Nat} (G:DM (Am σ g)=some (f,j)) {as:List AV} (E:Ig σ xs=some as)
  {A:List AV} {objs:List (Nat×Obj)} {stay:List Nat} {post:AV->List (Nat×Obj)->Prop} (C:BJ c.P f A objs stay post)
  (ren:List (Nat×B1)) (hs:List Nat) (h1:CB ren=true) (y:CT objs ren=true) (K:(c.ds.pin.all λp=>!Ac p.1 hs)=true) (z:BS σ ren (as++j.map λn=>AV.bp n [] 0) A) (D:Af σ.objs ren objs)
  (hk:∀res e,post res e->∃(b:List (Nat×B1)) (h:AV) (d:List (Nat×Obj)),CB b=true/\CT d b=true/\Af e b d/\Bp b res h /\
   I0 ren b stay hs=true/\FX (Ai ren) d σ.objs=true/\Jx c R k ops rest (CU σ (Ai ren) hs dst h d)) :
  Jx c R k ops (⟨dst,.call ⟨.value g,xs.toArray,ts⟩,ty,pos,after,i⟩ :: rest) σ:=by
 intro l I a w m;unfold wpListIn;rw[BY (HY (o:=⟨dst,.call ⟨.value g,xs.toArray,ts⟩,ty,pos,after,i⟩) m H)];refine bS F (xs:=xs) (ts:=ts) rfl rfl G E C ren h1 y z D hs K m (CL (l _ (by simp))) λres e hp=>?_;obtain⟨b,h,d,r,s,t,u,v,x,B⟩:=hk res e hp;exact⟨b,h,d,r,s,t,u,v,x,λq w' L=>B (λo J=>l o (by simp[J])) I q w' L⟩
end
end
section
open Go Go.RowKit
section
variable {c:Cx} {ops:List Oper} {Kf:St->Prop} {τ:St} {ens:EN} {vc:Prop}
theorem Ni {A D:List Nat} {l:Nat} {b:List (List Nat×Nat)} {o:Oper} {d:St} {a:EN} (j:vc) (e:mC c o d a (λm=>Mix c ops Kf b D a m)) (h:mB c.tb ops τ.objs (A++qs b D) [] τ.env=some (vc,ens):=by simp only[go_sem,Nat.reduceEqDiff,reduceCtorEq,Nat.reduceAdd,Nat.reduceSub,Nat.reduceMul,Nat.reduceLeDiff,Nat.reduceLT,Int.reduceLE,Int.reduceToNat,Int.reduceNeg,↓reduceIte];rfl) (g:SG ens τ.objs=true:=by rfl) (i:ops[l]?=some o:=by rfl)
  (k:ME (ens.take A.length) τ=d:=by simp only[go_sem,Nat.reduceEqDiff,reduceCtorEq,Nat.reduceAdd,Nat.reduceSub,Nat.reduceMul,Nat.reduceLeDiff,Nat.reduceLT,Int.reduceLE,Int.reduceToNat,Int.reduceNeg,↓reduceIte];rfl) (f:ens.drop A.length=a:=by simp only[go_sem,Nat.reduceEqDiff,reduceCtorEq,Nat.reduceAdd,Nat.reduceSub,Nat.reduceMul,Nat.reduceLeDiff,Nat.reduceLT,Int.reduceLE,Int.reduceToNat,Int.reduceNeg,↓reduceIte];rfl):Mix c ops Kf ((A,l) :: b) D ens τ:=A2s h j g i k f e
theorem UY {R:Exit->Act->World->Prop} {k:List DW} {σ':St} (d:c.Ok) {D:List Nat} {l:List Oper} {a:Prop} (f:vc) (g:a) (hk:Ev c R (.out .normal) k σ') (h:mB c.tb ops τ.objs D [] τ.env=some (vc,ens):=by simp only[go_sem,Nat.reduceEqDiff,reduceCtorEq,Nat.reduceAdd,Nat.reduceSub,Nat.reduceMul,Nat.reduceLeDiff,Nat.reduceLT,Int.reduceLE,Int.reduceToNat,Int.reduceNeg,↓reduceIte];rfl) (e:SG ens τ.objs=true:=by rfl)
  (b:Dm c.tb.live (Bu c.tb ops l (ME ens τ))=some (a,σ'):=by simp only[go_sem,Nat.reduceEqDiff,reduceCtorEq,Nat.reduceAdd,Nat.reduceSub,Nat.reduceMul,Nat.reduceLeDiff,Nat.reduceLT,Int.reduceLE,Int.reduceToNat,Int.reduceNeg,↓reduceIte];rfl):Mix c ops (fun τ=>Jx c R k ops.toArray l τ) [] D ens τ:=A2r h f e (H8 _ d b g hk)
end
section
variable {c:Cx} {o:Oper} {σ:St} {ens:EN} {N:St->Prop} {R:Exit->Act->World->Prop} {k:List DW} {σ':St}
theorem Pa (b:c.Ok) {τ:St} {vc:Prop} (ns:List Nat) (i:vc) (a:N τ) (h:Ir c.tb o σ=some (vc,τ):=by simp only[go_sem,Nat.reduceEqDiff,reduceCtorEq,Nat.reduceAdd,Nat.reduceSub,Nat.reduceMul,Nat.reduceLeDiff,Nat.reduceLT,Int.reduceLE,Int.reduceToNat,Int.reduceNeg,↓reduceIte];rfl) (f:tn σ o.op=ns:=by simp only[go_sem,Nat.reduceEqDiff,reduceCtorEq,Nat.reduceAdd,Nat.reduceSub,Nat.reduceMul,Nat.reduceLeDiff,Nat.reduceLT,Int.reduceLE,Int.reduceToNat,Int.reduceNeg,↓reduceIte]) (g:Oi o ens=true:=by rfl) (hn:MJ ns σ.objs ens=true:=by rfl) (e:WJ τ.objs ens=true:=by rfl)
  (hf:J5 ns ens=ens:=by simp only[go_sem,Nat.reduceEqDiff,reduceCtorEq,Nat.reduceAdd,Nat.reduceSub,Nat.reduceMul,Nat.reduceLeDiff,Nat.reduceLT,Int.reduceLE,Int.reduceToNat,Int.reduceNeg,↓reduceIte]) (d:Jr c.nt o=true:=by rfl):mC c o σ ens N:=zW b ns h f g hn e hf d i a
theorem mxC (o:c.Ok) {dst:Option Nat} {g:Operand} {xs:List Operand} {ts:Array TypeId} {ty:TypeId} {pos:String} {after:Array Edge} {f:FuncId} {d:List Nat} {as:List AV}
  {A:List AV} {objs:List (Nat×Obj)} {stay:List Nat} {post:AV->List (Nat×Obj)->Prop} (k:BJ c.P f A objs stay post) (ren:List (Nat×B1)) (hs:List Nat)
  (j:BS σ ren (as++d.map λn=>AV.bp n [] 0) A) (l:Af σ.objs ren objs)
  (hk:∀res e,post res e->∃(b:List (Nat×B1)) (h:AV) (a:List (Nat×Obj)),CB b=true/\CT a b=true/\Af e b a/\Bp b res h /\
   I0 ren b stay hs=true/\FX (Ai ren) a σ.objs=true/\WJ a ens=true/\N (CU σ (Ai ren) hs dst h a))
  (r:DM (Am σ g)=some (f,d):=by simp only[go_sem,Nat.reduceEqDiff,reduceCtorEq,Nat.reduceAdd,Nat.reduceSub,Nat.reduceMul,Nat.reduceLeDiff,Nat.reduceLT,Int.reduceLE,Int.reduceToNat,Int.reduceNeg,↓reduceIte];rfl) (m:Ig σ xs=some as:=by simp only[go_sem,Nat.reduceEqDiff,reduceCtorEq,Nat.reduceAdd,Nat.reduceSub,Nat.reduceMul,Nat.reduceLeDiff,Nat.reduceLT,Int.reduceLE,Int.reduceToNat,Int.reduceNeg,↓reduceIte];rfl) (h1:CB ren=true:=by rfl) (i:CT objs ren=true:=by rfl) (s:(c.ds.pin.all λp=>!Ac p.1 hs)=true:=by rfl)
  (t:Oi ⟨dst,.call ⟨.value g,xs.toArray,ts⟩,ty,pos,after,none⟩ ens=true:=by rfl) (hn:MJ (Ai ren) σ.objs ens=true:=by rfl) (hf:J5 hs ens=ens:=by simp only[go_sem,Nat.reduceEqDiff,reduceCtorEq,Nat.reduceAdd,Nat.reduceSub,Nat.reduceMul,Nat.reduceLeDiff,Nat.reduceLT,Int.reduceLE,Int.reduceToNat,Int.reduceNeg,↓reduceIte]) (q:Jr c.nt ⟨dst,.call ⟨.value g,xs.toArray,ts⟩,ty,pos,after,none⟩=true:=by rfl) :
  mC c ⟨dst,.call ⟨.value g,xs.toArray,ts⟩,ty,pos,after,none⟩ σ ens N:=zX o r m k ren hs h1 i s t hn hf q j l hk
theorem evP (a:c.Ok) {id:Nat} {l:List Oper} (n:Nat) {vc:Prop} (b:vc) (hk:Jx c R k l.toArray (l.drop n) σ') (h:Bu c.tb l (l.take n) σ=some (vc,σ'):=by simp only[AA4,ADy,go_sem,Nat.reduceEqDiff,reduceCtorEq,Nat.reduceAdd,Nat.reduceSub,Nat.reduceMul,Nat.reduceLeDiff,Nat.reduceLT,Int.reduceLE,Int.reduceToNat,Int.reduceNeg,↓reduceIte];rfl):Ev c R (.run (.region id l.toArray false)) k σ:=A2v a n h b hk
theorem clG (r:c.Ok) {ops:Array Oper} {rest:List Oper} {dst:Option Nat} {g:Operand} {xs:List Operand} {ts:Array TypeId} {ty:TypeId} {pos:String} {after:Array Edge} {e:Option (Nat×Bool)} {f:FuncId} {d:List Nat} {as:List AV}
  {A:List AV} {objs:List (Nat×Obj)} {stay:List Nat} {post:AV->List (Nat×Obj)->Prop} (m:BJ c.P f A objs stay post) (ren:List (Nat×B1)) (hs:List Nat) (l:BS σ ren (as++d.map λn=>AV.bp n [] 0) A) (o:Af σ.objs ren objs)
  (hk:∀res h,post res h->∃(a:List (Nat×B1)) (i:AV) (b:List (Nat×Obj)),CB a=true/\CT b a=true/\Af h a b/\Bp a res i /\
   I0 ren a stay hs=true/\FX (Ai ren) b σ.objs=true/\Jx c R k ops rest (CU σ (Ai ren) hs dst i b))
  (t:Ey ops.toList σ e=some true:=by simp only[go_sem,Nat.reduceEqDiff,reduceCtorEq,Nat.reduceAdd,Nat.reduceSub,Nat.reduceMul,Nat.reduceLeDiff,Nat.reduceLT,Int.reduceLE,Int.reduceToNat,Int.reduceNeg,↓reduceIte]) (s:DM (Am σ g)=some (f,d):=by simp only[go_sem,Nat.reduceEqDiff,reduceCtorEq,Nat.reduceAdd,Nat.reduceSub,Nat.reduceMul,Nat.reduceLeDiff,Nat.reduceLT,Int.reduceLE,Int.reduceToNat,Int.reduceNeg,↓reduceIte];rfl) (q:Ig σ xs=some as:=by simp only[go_sem,Nat.reduceEqDiff,reduceCtorEq,Nat.reduceAdd,Nat.reduceSub,Nat.reduceMul,Nat.reduceLeDiff,Nat.reduceLT,Int.reduceLE,Int.reduceToNat,Int.reduceNeg,↓reduceIte];rfl) (h1:CB ren=true:=by rfl) (j:CT objs ren=true:=by rfl) (u:(c.ds.pin.all λp=>!Ac p.1 hs)=true:=by rfl) :
  Jx c R k ops (⟨dst,.call ⟨.value g,xs.toArray,ts⟩,ty,pos,after,e⟩ :: rest) σ:=z1 r t s q m ren hs h1 j u l o hk
theorem FQ (l:List Nat) {n:p7} {a:St} (hk:Ev c R n k a) (h:DC l σ=a:=by simp only[go_sem,Nat.reduceEqDiff,reduceCtorEq,Nat.reduceAdd,Nat.reduceSub,Nat.reduceMul,Nat.reduceLeDiff,Nat.reduceLT,Int.reduceLE,Int.reduceToNat,Int.reduceNeg,↓reduceIte];rfl):Ev c R n k σ:=Ev.ent hk (qC l h λ_ _ h=>h)
theorem AAG (l:List Nat) {a:St} (b:Ent c a σ') (h:DC l σ=a:=by simp only[go_sem,Nat.reduceEqDiff,reduceCtorEq,Nat.reduceAdd,Nat.reduceSub,Nat.reduceMul,Nat.reduceLeDiff,Nat.reduceLT,Int.reduceLE,Int.reduceToNat,Int.reduceNeg,↓reduceIte];rfl):Ent c σ σ':=qC l h b
end
theorem eW {c:Cx} {σ σ':St} (ren:List (Nat×B1)) (h1:CB ren=true:=by rfl) (a:CT σ'.objs ren=true:=by rfl) (d:Af σ.objs ren σ'.objs:=by exact eN) (b:FO σ.env ren σ'.env:=by exact eN) (hp:A9d c.ds.pin ren=true:=by rfl):Ent c σ σ':=AC ren h1 a d b hp
theorem eT {p:Prop} (h:p:=by simp only[Tj,zN,SE,Yw,JZ,Kl,Ja,go_sem,Nat.reduceEqDiff,reduceCtorEq,Nat.reduceAdd,Nat.reduceSub,Nat.reduceMul,Nat.reduceLeDiff,Nat.reduceLT,Int.reduceLE,Int.reduceToNat,Int.reduceNeg,↓reduceIte]<;>fail):p:=h
section
variable {P:Program} {ty:List (Nat×TI)} {fs:List (Nat×Aa)} {nt:Nat} {f:FuncId} {fn:Func} {cd:Code}
theorem z2 (a b:List Nat) (ne:List (Nat×TypeId)) {sp:Aa} (e:P.funcs[f]?=some fn) (j:fn.ntmps=nt) (hF:Iu P ⟨ty,fs,b,ne,a⟩)
  (h:∀(w0:World) (O0:Nat->Prop) (ds:KR sp.ins),(cx P ⟨ty,fs,b,ne,a⟩ w0 O0 nt).Ok->oks sp.ins ds->sp.pre ds->Ev (cx P ⟨ty,fs,b,ne,a⟩ w0 O0 nt) (Vk P fn w0 O0 (sp.out ds)) (.run cd) [] ⟨AM 0 sp.ins ds,[]⟩)
  (c : fn.body = some cd := by rfl) (hT : DD P ⟨ty, fs, b, ne, a⟩ := by exact tyTab_ok _ _ _ _) (i : (fn.name == "runtime.NumGoroutine") = false := by kernel_rfl) (g : sp.ins.length <= nt := by decide) (d : Bt nt cd = true := by kernel_rfl) : Ad P f sp := A8x e i c j g d hT hF h
theorem fK (a:List Nat) {sp:Aa} (d:P.funcs[f]?=some fn) (i:fn.ntmps=nt) (hF:Iu P ⟨ty,fs,[],[],a⟩)
  (h:∀(w0:World) (O0:Nat->Prop) (ds:KR sp.ins),(cx P ⟨ty,fs,[],[],a⟩ w0 O0 nt).Ok->oks sp.ins ds->sp.pre ds->Ev (cx P ⟨ty,fs,[],[],a⟩ w0 O0 nt) (Vk P fn w0 O0 (sp.out ds)) (.run cd) [] ⟨AM 0 sp.ins ds,[]⟩)
  (b : fn.body = some cd := by rfl) (hT : DD P ⟨ty, fs, [], [], a⟩ := by exact tyTab_ok _ _ _ _) (g : (fn.name == "runtime.NumGoroutine") = false := by kernel_rfl) (e : sp.ins.length <= nt := by decide) (c : Bt nt cd = true := by kernel_rfl) : Ad P f sp := A8x d g b i e c hT hF h
variable {args:List AV} {objs:List (Nat×Obj)} {stay:List Nat} {post:AV->List (Nat×Obj)->Prop}
theorem Kt (a b:List Nat) (ne:List (Nat×TypeId)) (e:P.funcs[f]?=some fn) (k:fn.ntmps=nt) (hF:Iu P ⟨ty,fs,b,ne,a⟩)
  (h:∀(w0:World) (K O0:Nat->Prop) (ρ0:Nat->Value),(cm P ⟨ty,fs,b,ne,a⟩ w0 K O0 nt (stay.map λn=>(n,ρ0 n))).Ok->QI args->Oe objs ->
   Ev (cm P ⟨ty,fs,b,ne,a⟩ w0 K O0 nt (stay.map λn=>(n,ρ0 n))) (A5B P fn w0 K O0 stay ρ0 post) (.run cd) [] ⟨Ao 0 args,objs⟩)
  (c : fn.body = some cd := by rfl) (hT : DD P ⟨ty, fs, b, ne, a⟩ := by exact tyTab_ok _ _ _ _) (j : (fn.name == "runtime.NumGoroutine") = false := by kernel_rfl) (i : args.length <= nt := by simp only [OS, ADk]; omega) (d : Bt nt cd = true := by kernel_rfl) (l : stay.all (Ti objs) = true := by rfl) (g : L5 objs = true := by rfl) : BJ P f args objs stay post := A9k e j c k i d l g hT hF h
theorem fKR (a b:List Nat) (ne:List (Nat×TypeId)) (e:P.funcs[f]?=some fn) (k:fn.ntmps=nt) (hF:Iu P ⟨ty,fs,b,ne,a⟩)
  (h:∀(w0:World) (K O0:Nat->Prop) (ρ0:Nat->Value),(cm P ⟨ty,fs,b,ne,a⟩ w0 K O0 nt (stay.map λn=>(n,ρ0 n))).Ok->QI args->Oe objs ->
   Ev (cm P ⟨ty,fs,b,ne,a⟩ w0 K O0 nt (stay.map λn=>(n,ρ0 n))) (qM P fn w0 K O0 stay ρ0 post) (.run cd) [] ⟨Ao 0 args,objs⟩)
  (c : fn.body = some cd := by rfl) (hT : DD P ⟨ty, fs, b, ne, a⟩ := by exact tyTab_ok _ _ _ _) (j : (fn.name == "runtime.NumGoroutine") = false := by kernel_rfl) (i : args.length <= nt := by simp only [OS, ADk]; omega) (d : Bt nt cd = true := by kernel_rfl) (l : stay.all (Ti objs) = true := by rfl) (g : L5 objs = true := by rfl) : BJ P f args objs stay post := A5H e j c k i d l g hT hF h
end
theorem fI {P:Program} {tb:Tb} {w0:World} {O0:Nat->Prop} {nt:Nat} (c:(cx P tb w0 O0 nt).Ok) {fn:Func} {a:List RV} {σ:St} {e:Exit} (b:List ResultVar) (h:Nu tb σ b a:=by exact eR) (g:fn.results.toList=b:=by rfl) (f:e=.ret\/e=.normal:=by exact .inl rfl) (hp:∀r∈a,∃t d,r=.p t d:=by simp) :
  Ev (cx P tb w0 O0 nt) (Vk P fn w0 O0 a) (.out e) [] σ:=A9i c b g f hp h
theorem fM {P:Program} {tb:Tb} {w0:World} {K O0:Nat->Prop} {nt:Nat} {stay:List Nat} {ρ0:Nat->Value} {fn:Func} {post:AV->List (Nat×Obj)->Prop} {σ:St} {e:Exit} (b:(cm P tb w0 K O0 nt (stay.map λn=>(n,ρ0 n))).Ok)
  (a:List ResultVar) (res:AV) (h:Tj tb σ a res) (hp:post res σ.objs) (d:fn.results.toList=a:=by rfl) (c:e=.ret\/e=.normal:=by first|exact .inl rfl|exact .inr rfl) :
  Ev (cm P tb w0 K O0 nt (stay.map λn=>(n,ρ0 n))) (A5B P fn w0 K O0 stay ρ0 post) (.out e) [] σ:=A5C b a d c res h hp
end
section
open Go Go.RowKit
structure A2w (X σ:St) (n:Nat):Prop where
 env:∀s v,lk s X.env=some v->v.trn n []=v
 arr:∀m o,lk m X.objs=some o->MG o=true
 new:∀m o,lk m X.objs=some o->lk m σ.objs=none
 nm:∀m o,lk m X.objs=some o->m≠n
section
variable {σ σ' X:St} {n:Nat}
theorem A2w.obs (b:Rv σ σ' X) (ha:A2w X σ n):eL σ σ':=by
 intro m o hn;rw[b.objs];cases a:lk m X.objs with
 | none=>exact hn
 | some c=>rw[ha.new m c a]at hn;cases hn
def A9o (σ:St):Op->Option Nat
 | .call c=>match c.callee,c.args.toList,c.argTypes.toList with
  | .builtin .append,[x,_],[_,_]=>(match Am σ x with|some (.nin n _ _ _)=>some n|_=>none)
  | _,_,_=>none
 | _=>none
end
def qP (n:Nat):EN->EN
 | []=>[]
 | (d,v,obs) :: r=>(d,v.trn n [],obs) :: qP n r
section
variable {c:Cx} {o:Oper} {σ:St} {ens:EN} {N:St->Prop}
end
end
section
open Go Go.RowKit
section
variable {P:Program} {tb:Tb} {w0:World} {K O0:Nat->Prop} {nt:Nat} {ds:Fp} {σ:St} {ρ:Nat->Value} {a:Act} {w:World}
end
section
variable {c:Cx} {R:Exit->Act->World->Prop} {k:List DW} {σ:St}
end
end
section
open Go Go.RowKit
section
variable {c:Cx} {R:Exit->Act->World->Prop} {k:List DW} {σ σ':St}
end
theorem CY {p:Prop} (h:p:=by first|exact trivial|((try dsimp only[Ty.den])<;>(repeat'(first|apply And.intro|intro _))<;>omega)|((try dsimp only[Ty.den]at *)<;>(repeat'(first|apply And.intro|intro _))<;>omega)):p:=h
end
section
open Go Go.RowKit
section
variable {c:Cx} {R:Exit->Act->World->Prop} {k:List DW} {σ σ':St}
def mJ (a b:Ty) (k:a.den):List (a.den×b.den)->List (a.den×b.den)
 | []=>[]
 | x :: r=>if Hl a k x.1=true then r else x :: mJ a b k r
end
end
section
open Go Go.RowKit
section
variable {c:Cx} {R:Exit->Act->World->Prop} {k:List DW} {σ σ':St}
theorem mK (m:c.Ok) {ops:Array Oper} {rest:List Oper} {d:Nat} {t Q:TypeId} {x y:Operand} {ty:TypeId} {pos:String} {after:Array Edge} {i j:IntKind} {offs:List (Nat×Nat)} {z:Nat} {xv s:AV} {b f:Int×Int}
  (L:lk t c.tb.ty=some ⟨.agg (.prod (.int i) (.int j)),offs,0,z⟩) (M:Am σ x=some xv) (N:Am σ y=some s) (D:LN false σ (.agg (.prod (.int i) (.int j))) xv=some b) (E:LN false σ (.agg (.prod (.int i) (.int j))) s=some f)
  (hk:Jx c R k ops rest ⟨(d,.p .bool (b.1==f.1&&b.2==f.2)) :: σ.env,σ.objs⟩) :
  Jx c R k ops (⟨some d,.binOp .eql t x y Q,ty,pos,after,none⟩ :: rest) σ:=by
 intro q G a w J;unfold wpListIn;rw[BY (by simp[Region.wanted])];obtain⟨ρ,l⟩:=J;have r:Gq (vw w c.O0 σ ρ) σ a.eval:=FE l.env;have X:d<c.nt:=CL (q _ ADH) d rfl;have hp:Mz c.P t i j:=(m.T _ _ L).1.1.2.2;have h1:=It (V:=vw w c.O0 σ ρ) (O':=own c.O0 σ ρ) (λ_ h=>h) (λh=>by cases h) l.objs D (r x _ M);have g:=It (V:=vw w c.O0 σ ρ) (O':=own c.O0 σ ρ) (λ_ h=>h) (λh=>by cases h) l.objs E (r y _ N);have h1:a.eval x=.agg #[.int i b.1,.int j b.2]:=Fj h1;have g:a.eval y=.agg #[.int i f.1,.int j f.2]:=Fj g;have I:(binOp .eql t (a.eval x) (a.eval y)).run c.P w=.ok (.bool (b.1==f.1&&b.2==f.2)) w:=by
  rw[h1,g];have:=Vh hp w b.1 b.2 f.1 f.2;simp only[binOp];simp[this]
 have F:(eqGuard .eql t x y (a.eval x) (a.eval y)).run c.P w=.ok () w:=by
  obtain⟨U,W,hu,-,-,⟨A,B⟩,-⟩:=hp;rw[h1,g];refine run_eqGuard_agg (P:=c.P) w .eql t x y _ _ ?_;have C:∃n,c.P.depth=n+2:=⟨_,rfl⟩;obtain⟨n,hn⟩:=C;rw[hn];simp[Program.eqGuardType,hu,A,B]
 refine Aw (u:=.bool (b.1==f.1&&b.2==f.2)) (w':=w) (by simp[execOp,F,I]) (hk (λo H=>q o (by simp[H])) G _ _ ⟨ρ,?_⟩);refine l.add m.K m.O (dst:=some d) (λS e=>by injection e with e;omega) (v:=.p .bool (b.1==f.1&&b.2==f.2)) (obs:=[]) (ρ':=ρ) rfl (QS.still ?_);exact⟨[.bool (b.1==f.1&&b.2==f.2)],rfl,rfl⟩
theorem ADR (g:c.Ok) {ops:Array Oper} {rest:List Oper} {d:Nat} {t q:TypeId} {x y:Operand} {ty:TypeId} {pos:String} {after:Array Edge} {i j:IntKind} {offs:List (Nat×Nat)} {f:Nat} {xv e:AV} {a b:Int×Int}
  (hk:Jx c R k ops rest ⟨(d,.p .bool (a.1==b.1&&a.2==b.2)) :: σ.env,σ.objs⟩) (m:lk t c.tb.ty=some ⟨.agg (.prod (.int i) (.int j)),offs,0,f⟩:=by rfl) (n:Am σ x=some xv:=by simp only[go_sem,Nat.reduceEqDiff,reduceCtorEq,Nat.reduceAdd,Nat.reduceSub,Nat.reduceMul,Nat.reduceLeDiff,Nat.reduceLT,Int.reduceLE,Int.reduceToNat,Int.reduceNeg,↓reduceIte];rfl) (o:Am σ y=some e:=by simp only[go_sem,Nat.reduceEqDiff,reduceCtorEq,Nat.reduceAdd,Nat.reduceSub,Nat.reduceMul,Nat.reduceLeDiff,Nat.reduceLT,Int.reduceLE,Int.reduceToNat,Int.reduceNeg,↓reduceIte];rfl)
  (h:LN false σ (.agg (.prod (.int i) (.int j))) xv=some a:=by simp only[go_sem,Nat.reduceEqDiff,reduceCtorEq,Nat.reduceAdd,Nat.reduceSub,Nat.reduceMul,Nat.reduceLeDiff,Nat.reduceLT,Int.reduceLE,Int.reduceToNat,Int.reduceNeg,↓reduceIte];rfl) (l:LN false σ (.agg (.prod (.int i) (.int j))) e=some b:=by simp only[go_sem,Nat.reduceEqDiff,reduceCtorEq,Nat.reduceAdd,Nat.reduceSub,Nat.reduceMul,Nat.reduceLeDiff,Nat.reduceLT,Int.reduceLE,Int.reduceToNat,Int.reduceNeg,↓reduceIte];rfl) :
  Jx c R k ops (⟨some d,.binOp .eql t x y q,ty,pos,after,none⟩ :: rest) σ:=mK g m n o h l hk
end
end
section
open Go Go.RowKit
section
variable {c:Cx} {σ:St} {ens:EN} {N:St->Prop}
end
end
section
open Go Go.RowKit
section
variable {c:Cx} {R:Exit->Act->World->Prop} {k:List DW} {σ:St}
end
end
section
open Go Go.RowKit
def siB (P:Program) (b:IntKind) (id:TypeId):Option TypeDesc->Bool
 | some (.struct ⟨[a, c]⟩) => (a.name != "_") && (c.name != "_") && a.offset == 0 && c.offset == 1 && (match P.underlying a.type with | some .string => true | _ => false) && isI b (P.underlying c.type) && P.stoodInHeld id == false && !(P.eqGuardType P.depth id)
 | _=>false
theorem A2x {P:Program} {b:IntKind} {id:TypeId} (h:siB P b id (P.underlying id)=true) (w:World) (i k:ByteArray) (j l:Int) :
  (binOp .eql id (.agg #[.string i,.int b j]) (.agg #[.string k,.int b l])).run P w=.ok (.bool (AY i k&&(j==l))) w/\∀x y:Operand,∀u v:Array Value,(eqGuard .eql id x y (.agg u) (.agg v)).run P w=.ok () w:=by
 unfold siB at h;split at h
 ·rename_i a f hu;simp only[AT,TC,AEN,RZ]at h;obtain⟨⟨⟨⟨⟨⟨⟨h1,p⟩,q⟩,r⟩,d⟩,g⟩,s⟩,t⟩:=h;have d:P.underlying a.type=some .string:=by
   split at d
   ·assumption
   ·cases d
  have g:=VX g;have m:P.fieldsOf id=#[a,f]:=by simp[Program.fieldsOf,hu]
  refine⟨?_,λx y u v=>run_eqGuard_agg (P:=P) w .eql id x y u v t⟩;have z:P.plainKey a.type=true:=by simp[Program.plainKey,d]
  have A:P.plainKey f.type=true:=by simp[Program.plainKey,g]
  have B:∀x y:ByteArray,(Op.equalIn 9999 a.type (.string x) (.string y)).run P w=.ok (x.toList==y.toList) w:=λx y=>run_equalIn_string w 9998 _ x y d;have n:∀x y:Int,(Op.equalIn 9999 f.type (.int b x) (.int b y)).run P w=.ok (x==y) w:=λx y=>L2 g 9998 x y;have e:(Op.equalIn 10000 id (.agg #[.string i,.int b j]) (.agg #[.string k,.int b l])).run P w=_:=run_equalIn_struct (P:=P) w 9999 id _ _ (by rw[m];exact hu) s;rw[run_eql_struct,e,m];have p0:=λ(u v:Value)=>AEK (P:=P) w z (xs:=#[u,v]) (off:=a.offset) (v:=u) (by rw[q];rfl);have o:=λ(u v:Value)=>AEK (P:=P) w A (xs:=#[u,v]) (off:=f.offset) (v:=v) (by rw[r];rfl);unfold AY;simp only[Op.eqFields,h1,p,ne_eq,not_false_eq_true,AAv,ADE,p0,o,dO,B,n];by_cases c:i.toList=k.toList
  ·by_cases c2:j=l<;>simp[c,c2,AFr,ADE,o,n,Op.eqFields]
  ·simp[c,AFr]
 ·cases h
theorem qQ {w:World} {O:Nat->Prop} {b:IntKind} {v:Value} {d:(Ty.agg (.prod .str (.int b))).den} (h:Bk w O (.agg (.prod .str (.int b))) v d):v=.agg #[.string d.1,.int b d.2]:=by
 obtain⟨cs,⟨c1,c2,rfl,⟨rfl,_⟩,⟨rfl,_⟩⟩,rfl⟩:=h;rfl
section
variable {c:Cx} {R:Exit->Act->World->Prop} {k:List DW} {σ σ':St}
theorem ADT (m:c.Ok) {ops:Array Oper} {rest:List Oper} {d:Nat} {t G:TypeId} {x y:Operand} {ty:TypeId} {pos:String} {after:Array Edge} {j:IntKind} {xv s:AV} {b f:ByteArray×Int}
  (hp:siB c.P j t (c.P.underlying t)=true) (hk:Jx c R k ops rest ⟨(d,.p .bool (AY b.1 f.1&&b.2==f.2)) :: σ.env,σ.objs⟩) (E:Am σ x=some xv:=by simp only[go_sem,Nat.reduceEqDiff,reduceCtorEq,Nat.reduceAdd,Nat.reduceSub,Nat.reduceMul,Nat.reduceLeDiff,Nat.reduceLT,Int.reduceLE,Int.reduceToNat,Int.reduceNeg,↓reduceIte];rfl) (F:Am σ y=some s:=by simp only[go_sem,Nat.reduceEqDiff,reduceCtorEq,Nat.reduceAdd,Nat.reduceSub,Nat.reduceMul,Nat.reduceLeDiff,Nat.reduceLT,Int.reduceLE,Int.reduceToNat,Int.reduceNeg,↓reduceIte];rfl)
  (z:LN false σ (.agg (.prod .str (.int j))) xv=some b:=by simp only[go_sem,Nat.reduceEqDiff,reduceCtorEq,Nat.reduceAdd,Nat.reduceSub,Nat.reduceMul,Nat.reduceLeDiff,Nat.reduceLT,Int.reduceLE,Int.reduceToNat,Int.reduceNeg,↓reduceIte];rfl) (A:LN false σ (.agg (.prod .str (.int j))) s=some f:=by simp only[go_sem,Nat.reduceEqDiff,reduceCtorEq,Nat.reduceAdd,Nat.reduceSub,Nat.reduceMul,Nat.reduceLeDiff,Nat.reduceLT,Int.reduceLE,Int.reduceToNat,Int.reduceNeg,↓reduceIte];rfl) :
  Jx c R k ops (⟨some d,.binOp .eql t x y G,ty,pos,after,none⟩ :: rest) σ:=by
 intro n B a w D;unfold wpListIn;rw[BY (by simp[Region.wanted])];obtain⟨ρ,i⟩:=D;have q:Gq (vw w c.O0 σ ρ) σ a.eval:=FE i.env;have I:d<c.nt:=CL (n _ ADH) d rfl;have h1:=It (V:=vw w c.O0 σ ρ) (O':=own c.O0 σ ρ) (λ_ h=>h) (λh=>by cases h) i.objs z (q x _ E);have l:=It (V:=vw w c.O0 σ ρ) (O':=own c.O0 σ ρ) (λ_ h=>h) (λh=>by cases h) i.objs A (q y _ F);have h1:a.eval x=.agg #[.string b.1,.int j b.2]:=qQ h1;have l:a.eval y=.agg #[.string f.1,.int j f.2]:=qQ l;obtain⟨r,g⟩:=A2x hp w b.1 f.1 b.2 f.2;have g:=g x y #[.string b.1,.int j b.2] #[.string f.1,.int j f.2];rw[<-h1,<-l]at r g;refine Aw (u:=.bool (AY b.1 f.1&&b.2==f.2)) (w':=w) (by simp[execOp,g,r]) (hk (λo C=>n o (by simp[C])) B _ _ ⟨ρ,?_⟩);refine i.add m.K m.O (dst:=some d) (λH e=>by injection e with e;omega) (v:=.p .bool (AY b.1 f.1&&b.2==f.2)) (obs:=[]) (ρ':=ρ) rfl (QS.still ?_);exact⟨[.bool (AY b.1 f.1&&b.2==f.2)],rfl,rfl⟩
end
end
section
open Go Go.RowKit
theorem z3 {P:Program} {tb:Tb} {w0:World} {K O0:Nat->Prop} {nt:Nat} {stay:List Nat} {ρ0:Nat->Value} {fn:Func} {post:AV->List (Nat×Obj)->Prop} {σ:St} {e:Exit} (d:(cm P tb w0 K O0 nt (stay.map λn=>(n,ρ0 n))).Ok)
  (b:List ResultVar) (j:fn.results.toList=b) (g:e=.ret\/e=.normal) (res:AV) (h:Tj tb σ b res) (hp:post res σ.objs) :
  Ev (cm P tb w0 K O0 nt (stay.map λn=>(n,ρ0 n))) (qM P fn w0 K O0 stay ρ0 post) (.out e) [] σ:=by
 intro _ _ a w hs;obtain⟨ρ,hs⟩:=hs;obtain⟨u,h1,c⟩:=Vv d.T hs (by rw[j];exact h);have i:MC K O0 stay w0 ρ0 post u w:=by
  refine⟨res,σ.objs,ρ,hp,hs.frm,⟨hs.objs,hs.free,hs.dist⟩,c,λn hn=>?_⟩;exact(hs.pin (n,ρ0 n) (GO.2 ⟨n,hn,rfl⟩)).2.1
 have f:a.defers=[]:=hs.defers;have key:LeavesInM (FR none) 0 P fn a.tmps (λe w'=>∃u,e=.returned u/\MC K O0 stay w0 ρ0 post u w') a.defers .returning w:=by
  rw[f];exact⟨u,h1,u,rfl,i⟩
 rcases g with rfl|rfl
 ·exact key
 ·exact key
section
variable {c:Cx} {R:Exit->Act->World->Prop} {k:List DW} {σ σ':St}
theorem cG (n:Nat) (d:c.Ok) {id:Nat} {l:List Oper} {vc:Prop} (f:vc) (hk:Jx c R k l.toArray (l.drop n) σ') (h:Bu c.tb l (l.take n) σ=some (vc,σ'):=by simp only[AA4,ADy,go_sem,Nat.reduceEqDiff,reduceCtorEq,Nat.reduceAdd,Nat.reduceSub,Nat.reduceMul,Nat.reduceLeDiff,Nat.reduceLT,Int.reduceLE,Int.reduceToNat,Int.reduceNeg,↓reduceIte];rfl) :
  Ev c R (.run (.region id l.toArray false)) k σ:=by
 intro h1 b a w hs;simp only[Ht,Bt,If]at h1;exact AEL (QF d n (by simpa using h) f hk (λo e=>h1 o e) b a w hs)
end
end
end Go.Proofs.YtapkhdkbkodbjaaGreat.Fw
