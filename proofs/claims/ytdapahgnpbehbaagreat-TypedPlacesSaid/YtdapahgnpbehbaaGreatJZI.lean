/- Range over a function; scopes; several steps in one. -/
import Derived.Test.YtdapahgnpbehbaaGreatJZH
import Derived.RangeFuncFrom
import Derived.Scope
import Derived.Laws.IdiomRangeMap
import Derived.Laws.StructEq
set_option linter.unusedVariables false
set_option linter.unusedSimpArgs false
namespace Go.Proofs.YtdapahgnpbehbaaGreat.Fw
section
open Go Go.RowKit
theorem cB {V:Vw} {f:FuncId} {ns:List Nat} {v:Value} (h:B2 V (.clo f ns) v):v=.func (.func f) #[] (ns.map V.ρ).toArray/\Iy V (ns.map λn=>AV.bp n [] 0) (ns.map V.ρ):=by
 refine⟨h.1,?_⟩;have h0:∀l:List Nat,(∀n∈l,n∈ns)->Iy V (l.map λn=>AV.bp n [] 0) (l.map V.ρ):=by
  intro l;induction l with
  | nil=>intro _;exact rfl
  | cons n r g =>
   intro c;obtain⟨d,b,a⟩:=h.2 n (c n (by simp));exact⟨V.ρ n,r.map V.ρ,rfl,⟨d,b,a,a⟩,g λx e=>c x (by simp[e])⟩
 exact h0 ns λ_ h=>h
def cC (P:Program) (yn:Nat) (A:List AV) (objs:List (Nat×Obj)) (stay:List Nat) (post:AV->List (Nat×Obj)->Prop):Prop :=
 ∀(w:World) (K O0:Nat->Prop) (ρ:Nat->Value) (a:List Value) (b:Nat),(∀b,K b->b<w.heap.size)->(∀b,O0 b->b<w.heap.size)->iV K O0 objs ρ w->Iy (vw w O0 ⟨[],objs⟩ ρ) A a ->
  ρ yn=.pointer (some ⟨b,0,none⟩)->YieldAt (FR none) 0 P b a.toArray w λe w'=>∃u,e=.returned u/\Ph K O0 stay w ρ post u w'
section
variable {c:Cx} {R:Exit->Act->World->Prop} {k:List Dl} {σ:St}
def ZO (n:Nat):Option AV->Bool
 | some (.yl m)=>m==n
 | _=>false
theorem A0g (N:c.Ok) (Y:c.r=none) {o:Oper} {dst:Option Nat} {g:Operand} {xs:List Operand} {ts:Array TypeId} (t:o.op=.call { callee:=.value g,args:=xs.toArray,argTypes:=ts }) (R:o.dst=dst)
  {n yn:Nat} (f:ZO n (Ah σ g)=true) {as:List AV} (L:Iz σ xs=some as)
  {A:List AV} {objs:List (Nat×Obj)} {stay:List Nat} {post:AV->List (Nat×Obj)->Prop} (H:cC c.P yn A objs stay post)
  (ren:List (Nat×Bz)) (ad:lk yn ren=some (.nm n)) (h1:CB ren=true) (C:CT objs ren=true) (F:BM σ ren as A) (I:Ab σ.objs ren objs)
  (hs:List Nat) (W:(c.ds.pin.all λp=>!AY p.1 hs)=true) {next:Act->World->Prop} {Q:Exit->Act->World->Prop} {a:Act} {w:World} (aa:c.sat σ a w) (O:∀d,dst=some d->d<c.nt)
  (hk:∀res x,post res x->∃(i:List (Nat×Bz)) (y:AV) (j:List (Nat×Obj)),CB i=true/\CT j i=true/\Ab x i j/\Bm i res y /\
   JK ren i stay hs=true/\FT (Ak ren) j σ.objs=true/\∀l w',c.sat (CU σ (Ak ren) hs dst y j) l w'->next l w'):o.wpIn (FR c.r) 0 c.P a w next Q:=by
 obtain⟨ρ,v⟩:=aa;have s:GI (vw w c.O0 σ ρ) σ a.eval:=D6 v.env;obtain⟨b,ae,S⟩:∃b:Nat,ρ n=.pointer (some ⟨b,0,none⟩)/\a.eval g=.func (.yield b) #[] #[]:=by
  cases k:Ah σ g with
  | none=>rw[k]at f;simp[ZO]at f
  | some q =>
   rw[k]at f;have T:=s g q k;cases q<;>simp only[ZO]at f<;>try(cases f;done)
   rename_i m;have U:m=n:=by simpa using f
   subst U;obtain⟨_,b,D,E⟩:=T;exact⟨b,D,E⟩
 obtain⟨z,B,ag,G,J,V,M,af,X⟩:=Q8 N v (ZF s L) stay post ren h1 C F I hs W O hk;obtain⟨fn,tmps,assign,body,ab,K⟩:=H w z B ag (xs.map a.eval) b G J V M ((af _ _ ad).trans ae);have Z:(execOp a.eval o).run c.P w=.ok (.round b fn tmps assign body) w:=by
  simp[execOp,t,resolve,Deferred.ofValue,S,invoke];simpa using ab
 refine⟨λ_ _=>trivial,?_⟩;rw[Fe _ _ _ (λcl e=>by rw[t]at e;cases e),Z,Oper.uponIn_round];refine⟨λh=>(by simp[FR]at h),?_⟩;rw[Y];refine K.mono λe w' hh=>?_;obtain⟨u,rfl,hh⟩:=hh;rw[R];exact X u w' hh
theorem vK (C:c.Ok) (H:c.r=none) {ops:Array Oper} {rest:List Oper} {dst:Option Nat} {g:Operand} {xs:List Operand} {ts:Array TypeId} {ty:TypeId} {pos:String} {after:Array Edge}
  {n yn:Nat} (D:ZO n (Ah σ g)=true) {as:List AV} (B:Iz σ xs=some as)
  {A:List AV} {objs:List (Nat×Obj)} {stay:List Nat} {post:AV->List (Nat×Obj)->Prop} (y:cC c.P yn A objs stay post)
  (ren:List (Nat×Bz)) (hs:List Nat) (K:lk yn ren=some (.nm n)) (h1:CB ren=true) (u:CT objs ren=true) (G:(c.ds.pin.all λp=>!AY p.1 hs)=true) (v:BM σ ren as A) (z:Ab σ.objs ren objs)
  (hk:∀res e,post res e->∃(b:List (Nat×Bz)) (f:AV) (d:List (Nat×Obj)),CB b=true/\CT d b=true/\Ab e b d/\Bm b res f /\
   JK ren b stay hs=true/\FT (Ak ren) d σ.objs=true/\HZ c R k ops rest (CU σ (Ak ren) hs dst f d)) :
  HZ c R k ops (⟨dst,.call ⟨.value g,xs.toArray,ts⟩,ty,pos,after,none⟩ :: rest) σ:=by
 intro h E a w J;unfold wpListIn;rw[BY (by simp[Region.wanted])];refine A0g C H (xs:=xs) (ts:=ts) rfl rfl D B y ren K h1 u v z hs G J (Bb (h _ (by simp))) λres e hp=>?_;obtain⟨b,f,d,j,l,m,q,s,t,x⟩:=hk res e hp;exact⟨b,f,d,j,l,m,q,s,t,λi w' I=>x (λo F=>h o (by simp[F])) E i w' I⟩
end
def IJ:List Nat->List AV->List (Nat×AV)->List (Nat×AV)
 | p :: a,x :: xs,e=>IJ a xs ((p,x) :: e)
 | _,_,e=>e
def cY (P:Program) (tb:Tb) (w0:World) (K O0:Nat->Prop) (nt l:Nat) (pin:List (Nat×Value)):Cx:={ P:=P,tb:=tb,w0:=w0,K:=K,O0:=O0,nt:=nt,ds:={ pin:=pin },r:=some l }
theorem nJ {P:Program} {tb:Tb} {w0:World} {K O0:Nat->Prop} {nt l:Nat} {pin:List (Nat×Value)}:(cY P tb w0 K O0 nt l pin).tb=tb:=rfl
def A0h (P:Program) (l:Nat) (w0:World) (K O0:Nat->Prop) (stay:List Nat) (ρ0:Nat->Value) (post:AV->List (Nat×Obj)->Prop):Exit->Act->World->Prop :=
 roundPost P l λe w'=>∃u,e=.returned u/\Ph K O0 stay w0 ρ0 post u w'
theorem nK {V:Vw}:∀(b:List Nat) (A:List AV) (c:List Value) (e:List (Nat×AV)) (a:Array Value),Iy V A c->(∀p∈b,p<a.size)->A.length=b.length->(∀s x,lk s e=some x->B2 V x (a.getD s undef)) ->
  (∀s x,lk s (IJ b A e)=some x->B2 V x (((b.zip c).foldl (λt (p,v)=>t.setIfInBounds p v) a).getD s undef))/\((b.zip c).foldl (λt (p,v)=>t.setIfInBounds p v) a).size=a.size
 | [],_,_,e,a,_,_,_,h=>by simpa[IJ] using h
 | p :: b,[],_,e,a,_,_,d,_=>by simp at d
 | p :: b,x :: A,c,e,a,⟨v,r,k,h1,g⟩,hp,d,h=>by
  subst k;simp only[ACZ,TO,IJ];have l:=nK b A r ((p,x) :: e) (a.setIfInBounds p v) g (λq j=>by simpa using hp q (by simp[j])) (by simpa using d) (λs y hs=>by
   have f:=Kq { tmps:=a,defers:=[] } p v s (hp p (by simp));have f:(a.setIfInBounds p v).getD s undef=if s=p then v else a.getD s undef:=f
   rw[f];simp only[lk]at hs;split at hs
   ·grind
   ·rename_i i;rw[At i];exact h s y hs)
  grind
section
variable {P:Program} {tb:Tb} {w0:World} {K O0:Nat->Prop} {nt l:Nat} {stay:List Nat} {ρ0:Nat->Value} {post:AV->List (Nat×Obj)->Prop} {σ:St} {pin:List (Nat×Value)}
theorem Uk {c:Cx} (i:c.Ok) {σ:St} {a:Act} {w:World} {ρ:Nat->Value} (hs:Bo c.w0 c.K c.O0 c.nt c.ds σ ρ a w) {yn b:Nat} {L:Go.Loop} (h:lk yn σ.objs=some (.loop L)) (d:ρ yn=.pointer (some ⟨b,0,none⟩)) (e:Go.Loop) :
  w.heap[b]?=some (.loop L)/\Bo c.w0 c.K c.O0 c.nt c.ds ⟨σ.env,upd yn (.loop e) σ.objs⟩ ρ a (w.putObj b (.loop e)):=by
 obtain⟨b',h1,f⟩:=hs.objs yn _ h;rw[d]at h1;injection h1 with h1
 injection h1 with h1
 injection h1 with h1
 subst h1;have j:b<w.heap.size:=CP f;refine⟨f,hs.upd i.K h (g:=b) (by rw[d];rfl) (grownBy_putObj' w b _) ?_⟩;exact⟨b,d,World.putObj_heap_same j⟩
theorem vL (f:(cY P tb w0 K O0 nt l pin).Ok) {yn:Nat} {L:Go.Loop} (g:lk yn σ.objs=some (.loop L)) (h:pin=stay.map λn=>(n,ρ0 n)) (i:yn∈stay) (e:ρ0 yn=.pointer (some ⟨l,0,none⟩))
  (hp:post (.p .bool true) (upd yn (.loop { L with state:=.ready,pending:=none }) σ.objs)) :
  Ev (cY P tb w0 K O0 nt l pin) (A0h P l w0 K O0 stay ρ0 post) (.out .normal) [] σ:=by
 intro _ _ a w hs;obtain⟨ρ,hs⟩:=hs;have c:∀n∈stay,ρ n=ρ0 n:=λn hn=>(hs.pin (n,ρ0 n) (by rw[show (cY P tb w0 K O0 nt l pin).ds.pin=pin from rfl,h];exact Do.2 ⟨n,hn,rfl⟩)).2.1;obtain⟨d,b⟩:=Uk f hs g ((c _ i).trans e) { L with state:=.ready,pending:=none };refine⟨_,_,run_endRound none d,.bool true,rfl,.p .bool true,_,ρ,hp,b.frm,⟨b.objs,b.free,b.dist⟩,⟨_,rfl,rfl⟩,c⟩
def A8a (c:Cx) (R:Exit->Act->World->Prop) (yn:Nat) (L:Go.Loop) (a:Code) (σ:St):Prop :=
 lk yn σ.objs=some (.loop L)/\Ev c R (.run a) [] ⟨σ.env,upd yn (.loop { L with state:=.busy }) σ.objs⟩
theorem A0i {yn fr:Nat} {A:List AV} {objs:List (Nat×Obj)} {L:Go.Loop} {d:List Nat} {r s:Code} {fs:List (Nat×AV)} {g:Array Value}
  (z:lk yn objs=some (.loop L)) (hf:lk fr objs=some (.frame g fs)) (h1:L.state=.ready) (I:L.params=d.toArray) (J:L.assign=r) (M:L.body=s) (aj:L.tmps=g) (E:g.size=nt)
  (B:A.length=d.length) (Y:(d.all λp=>decide (p<nt))=true) (af:yn∈stay) (ab:stay.all (SQ objs)=true) (W:L9 objs=true) (S:Bx nt r=true) (T:Bx nt s=true) (hT:DG P tb) (hF:JA P tb)
  (h:∀(w0:World) (K O0:Nat->Prop) (ρ0:Nat->Value) (l:Nat),(cY P tb w0 K O0 nt l (stay.map λn=>(n,ρ0 n))).Ok->Pi A->OJ objs->ρ0 yn=.pointer (some ⟨l,0,none⟩) ->
   Ev (cY P tb w0 K O0 nt l (stay.map λn=>(n,ρ0 n))) (λ_ _ _=>False) (.run r) [.inv (A8a (cY P tb w0 K O0 nt l (stay.map λn=>(n,ρ0 n))) (A0h P l w0 K O0 stay ρ0 post) yn L s)] ⟨IJ d A fs,objs⟩) :
  cC P yn A objs stay post:=by
 intro w K O0 ρ q b O Q f x u;have ae:=JJ x;obtain⟨b',c,hh⟩:=f.obj yn _ z;rw[u]at c;injection c with c
 injection c with c
 injection c with c
 subst c;have Z:=run_yield (P:=P) (args:=q.toArray) hh (by rw[I];simp[ae,B]);refine⟨_,_,_,_,Z,roundIn_of_wpIn trivial ?_⟩;have y:(cY P tb w K O0 nt b (stay.map λn=>(n,ρ n))).Ok:=⟨O,Q,hT,hF⟩;have U:=f.obj fr _ hf;have C:=nK (V:=vw w O0 ⟨[],objs⟩ ρ) d A q fs g x (λp hp=>by have:=(IN.1 Y) p hp;rw[E];simpa using this) B U.2;have ad:(L.params.zip q.toArray).foldl (λt (p,v)=>t.setIfInBounds p v) L.tmps=(d.zip q).foldl (λt (p,v)=>t.setIfInBounds p v) g:=by grind
 rw[J,M,ad];have aa:(cY P tb w K O0 nt b (stay.map λn=>(n,ρ n))).sat ⟨IJ d A fs,objs⟩ { tmps:=(d.zip q).foldl (λt (p,v)=>t.setIfInBounds p v) g,defers:=[] } w:=by
  refine⟨ρ,⟨rfl,rfl,rfl,NO _,λ_ _=>rfl⟩,by rw[C.2];exact E,rfl,λp hp=>?_,f.obj,f.free,f.dist,C.1⟩;obtain⟨n,hn,rfl⟩:=Do.1 hp;have:=(IN.1 ab) n hn;unfold SQ at this;cases i:lk n objs with
  | none=>rw[i]at this;cases this
  | some o =>
   rw[i]at this;refine⟨⟨o,i⟩,rfl,?_⟩;have j:=f.obj n o i;cases o with
   | arr et e xs=>exact .inr this
   | nest et al k e xs z=>exact .inr this
   | box et st fs=>obtain⟨_,b,cs,a,_⟩:=j;rw[a];exact .inl rfl
   | mapo k v l=>obtain⟨b,ai,cl,a,_⟩:=j;rw[a];exact .inl rfl
   | frame g fs=>obtain⟨a,_⟩:=j;rw[a];exact .inl rfl
   | loop L=>obtain⟨b,a,_⟩:=j;rw[a];exact .inl rfl
   | itr am ap an ao ak=>obtain⟨b,a,_⟩:=j;rw[a];exact .inl rfl
   | dfr=>obtain⟨b,a,_⟩:=j;rw[a];exact .inl rfl
 have N:=h w K O0 ρ b y (TM x) (TN W λn o i=>ZE (f.obj n o i)) u (by simpa[JE,cY] using S) rfl _ _ aa;refine ADl (F:=FR (some b)) N ?_;intro e ah w' m;cases e with
 | normal =>
  obtain⟨σ',⟨ρ',D⟩,X,R⟩:=m;have ag:ρ' yn=.pointer (some ⟨b,0,none⟩):=(D.pin (yn,ρ yn) (Do.2 ⟨yn,af,rfl⟩)).2.1.trans u;obtain⟨G,H⟩:=Uk y D X ag { L with state:=.busy };exact⟨_,run_beginRound G h1,R (by simpa[JE,cY] using T) rfl _ _ ⟨ρ',H⟩⟩
 | exit id=>exact m.elim
 | goto t=>exact m.elim
 | ret=>exact m.elim
 | panic ch=>exact m.elim
 | outgrown=>exact m.elim
end
end
section
open Go Go.RowKit
def Cx.marked (c:Cx) (dn b:Nat):Cx:={ c with ds:={ ds:=⟨.collected b,#[]⟩ :: c.ds.ds,pin:=(dn,.pointer (some ⟨b,0,none⟩)) :: c.ds.pin } }
def Cx.marked2 (c:Cx) (yn dn b:Nat):Cx:={ c with ds:={ ds:=⟨.collected b,#[]⟩ :: c.ds.ds,pin:=(yn,.pointer (some ⟨b+1,0,none⟩)) :: (dn,.pointer (some ⟨b,0,none⟩)) :: c.ds.pin } }
theorem i5 {c:Cx} {yn dn b:Nat} (h:c.Ok):(c.marked2 yn dn b).Ok:=⟨h.K,h.O,h.T,h.F⟩
theorem M9 {c:Cx} {dn b:Nat}:(c.marked dn b).tb=c.tb:=rfl
theorem vM {c:Cx} {dn b:Nat} (h:c.Ok):(c.marked dn b).Ok:=⟨h.K,h.O,h.T,h.F⟩
theorem vN (ren:List (Nat×Bz)) (x:AV):Bm ren x .top:=by grind [Bm,H5,D7]
def cE:List Dl->Bool
 | []=>true
 | .inv _ :: _=>false
 | _ :: k=>cE k
theorem OM {c:Cx} {R:Exit->Act->World->Prop} {dn b:Nat}:∀ {k:List Dl},cE k=true->UJ (c.marked dn b) R k=UJ c R k
 | [],_=>by funext e a w;simp[UJ]
 | .inv _ :: _,h=>by simp[cE]at h
 | .seq y :: k,h=>by
  have d:=OM (c:=c) (R:=R) (dn:=dn) (b:=b) (k:=k) h;funext e a w;cases e<;>simp only[UJ,d]<;>rfl
 | .blk id :: k,h=>by
  have d:=OM (c:=c) (R:=R) (dn:=dn) (b:=b) (k:=k) h;funext e a w;cases e<;>simp only[UJ,d]
def Bw (σ:St) (yn dn fr:Nat) (L:Go.Loop) (a:Array Value):St:=⟨σ.env,(yn,.loop L) :: (dn,.dfr) :: (fr,.frame a σ.env) :: σ.objs⟩
section
variable {c:Cx} {R:Exit->Act->World->Prop} {k:List Dl} {σ:St}
theorem vO (q:c.Ok) {a:Act} {w:World} {ρ:Nat->Value} (hs:Bo c.w0 c.K c.O0 c.nt c.ds σ ρ a w) {yn dn fr:Nat} (r:yn≠dn) (D:yn≠fr) (E:dn≠fr) (F:lk yn σ.objs=none) (G:lk dn σ.objs=none) (H:lk fr σ.objs=none) (L:Go.Loop) :
  ∃e,Bo c.w0 c.K c.O0 c.nt (c.marked2 yn dn w.heap.size).ds (Bw σ yn dn fr L a.tmps) e { a with defers:=[{ target:=.collected w.heap.size,args:=#[] }]++a.defers } ((w.alloc (.deferred (some []))).alloc (.loop L))/\e yn=.pointer (some ⟨w.heap.size+1,0,none⟩):=by
 let e:Nat->Value:=λm=>if m=yn then .pointer (some ⟨w.heap.size+1,0,none⟩) else if m=dn then .pointer (some ⟨w.heap.size,0,none⟩) else if m=fr then .pointer none else ρ m
 have j:e yn=.pointer (some ⟨w.heap.size+1,0,none⟩):=by simp[e]
 have k:e dn=.pointer (some ⟨w.heap.size,0,none⟩):=by simp[e,ADn r]
 have y:e fr=.pointer none:=by simp[e,ADn D,ADn E]
 obtain⟨f,i⟩:∃f,(w.alloc (.deferred (some []))).alloc (.loop L)=f:=⟨_,rfl⟩;have A:f.heap[w.heap.size+1]?=some (.loop L):=by
  rw[<-i];have:=World.alloc_heap_new (w.alloc (.deferred (some []))) (.loop L);rwa [World.size_alloc]at this
 have z:f.heap[w.heap.size]?=some (.deferred (some [])):=by
  rw[<-i];exact(Below.heap_alloc _ _ _ (by simp)).trans (World.alloc_heap_new w _)
 have l:Below w.heap.size w f:=by
  rw[<-i];exact((Below.refl _ w).alloc (NO _) _).alloc (by simp) _
 rw[i];have t:Be [(yn,Obj.loop L),(dn,.dfr),(fr,.frame a.tmps σ.env)] σ=true:=by simp[Be,F,G,H]
 have v:∀n,lk n [(yn,Obj.loop L),(dn,Obj.dfr),(fr,.frame a.tmps σ.env)]=none->e n=ρ n:=λn hn=>by grind [lk]
 have u:∀n o b,lk n [(yn,Obj.loop L),(dn,Obj.dfr),(fr,.frame a.tmps σ.env)]=some o->bk (e n) b->w.heap.size<=b:=λn o b hn B=>by grind [lk,bk,blk]
 have I:=Hx (O0:=c.O0) (ρ:=ρ) (ρ':=e) t l v u;have J:QS w c.O0 σ ρ .top [(yn,Obj.loop L),(dn,.dfr),(fr,.frame a.tmps σ.env)] undef e f:=by
  refine⟨l,v,trivial,λn o hn=>?_,u,λn m o Q b hn P B N=>?_⟩
  ·simp only[lk]at hn;split at hn
   ·rename_i g;cases hn;subst g;exact⟨_,j,A⟩
   ·split at hn
    ·rename_i g;cases hn;subst g;exact⟨_,k,z⟩
    ·split at hn
     ·rename_i g;cases hn;subst g;exact⟨y,λs x M=>(hs.env s x M).keeps I⟩
     ·cases hn
  ·grind [lk,bk,blk]
 have h:=hs.add q.K q.O (dst:=none) (λd C=>by cases C) t J;refine⟨e,⟨h.frm,h.nt,?_,λp hp=>?_,h.objs,h.free,h.dist,h.env⟩,j⟩
 ·show _=_ :: c.ds.ds;rw[<-hs.defers];rfl
 ·rcases By.1 hp with rfl|hp
  ·exact⟨⟨.loop L,by simp[Bw,lk]⟩,j,.inl rfl⟩
  rcases By.1 hp with rfl|hp
  ·exact⟨⟨.dfr,by simp[Bw,lk,ADn r]⟩,k,.inl rfl⟩
  ·exact h.pin p hp
def EvJ (c:Cx) (R:Exit->Act->World->Prop) (k:List Dl) (σ:St):Option Code->Prop
 | none=>Ev c R (.out .normal) k σ
 | some a=>match a with
  | .ret=>Ev c R (.out .ret) k σ
  | .exit id=>Ev c R (.out (.exit id)) k σ
  | _=>False
def AAB (c:Cx) (R:Exit->Act->World->Prop) (k:List Dl) (a:Act) (w:World):Option Code->Prop
 | none=>UJ c R k .normal a w
 | some cd=>cd.wpIn (FR c.r) 0 c.P (UJ c R k) a w
theorem A3D {dn b:Nat} (g:cE k=true) (e:DB c.nt k=true) {p:Option Code} (d:EvJ (c.marked dn b) R k σ p) {a:Act} {w:World} (hs:(c.marked dn b).sat σ a w) :
  AAB c R k a w p:=by
 have f:=OM (c:=c) (R:=R) (dn:=dn) (b:=b) g;cases p with
 | none =>
  have:=d rfl e _ _ hs;show UJ c R k .normal a w;rw[<-f];exact this
 | some cd =>
  cases cd<;>try exact d.elim
  ·have:=d rfl e _ _ hs;refine wpIn_exit ?_;rw[<-f];exact this
  ·have:=d rfl e _ _ hs;refine wpIn_ret ?_;rw[<-f];exact this
theorem A0j (T:c.Ok) (bl:c.r=none) (bf:cE k=true) {g:Operand} {N:Array Tmp} {G H:Code} {s:FuncId} {m:List Nat} (J:Ah σ g=some (.clo s m))
  (yn dn fr:Nat) (D:(yn != dn&&yn != fr&&dn != fr)=true) (ba:lk yn σ.objs=none) (bb:lk dn σ.objs=none) (bc:lk fr σ.objs=none)
  (am:∀(L:Go.Loop) (z:Array Value),L.state=.ready->L.pending=none->L.tmps=z->L.params=N->L.assign=G->L.body=H->z.size=c.nt ->
   ∃(A:List AV) (objs:List (Nat×Obj)) (stay:List Nat) (post:AV->List (Nat×Obj)->Prop) (ren:List (Nat×Bz)) (hs:List Nat),BA c.P s A objs stay post /\
    CB ren=true/\CT objs ren=true/\BM (Bw σ yn dn fr L z) ren (.yl yn :: m.map λn=>AV.bp n [] 0) A/\Ab (Bw σ yn dn fr L z).objs ren objs /\
    (((yn,undef) :: (dn,undef) :: c.ds.pin).all λp=>!AY p.1 hs)=true /\
    ∀res y,post res y->∃(j:List (Nat×Bz)) (i:List (Nat×Obj)) (l:Go.Loop),CB j=true/\CT i j=true/\Ab y j i/\JK ren j stay hs=true/\FT (Ak ren) i (Bw σ yn dn fr L z).objs=true /\
     lk yn i=some (.loop l)/\(l.state == .busy)=false /\
     ∀b,EvJ (c.marked dn b) R k ⟨(CU (Bw σ yn dn fr L z) (Ak ren) hs none .top i).env,upd yn (.loop { l with state:=.exhausted }) (CU (Bw σ yn dn fr L z) (Ak ren) hs none .top i).objs⟩ l.pending) :
  Ev c R (.run (.rangeFunc g N G H)) k σ:=by
 intro h1 ak a w bn;obtain⟨ρ,hs⟩:=bn;have az:GI (vw w c.O0 σ ρ) σ a.eval:=D6 hs.env;obtain⟨bd,_⟩:=cB (az g _ J);simp only[As,ACS,ne_eq]at D;obtain⟨⟨av,aw⟩,ax⟩:=D;refine wpIn_rangeFunc (F:=FR c.r) ?_;intro fn _;have bm:(FR c.r).round=none:=by rw[bl];rfl
 rw[bm];obtain⟨L,x⟩:∃L:Go.Loop,L={ state:=.ready,pending:=none,fn,tmps:=a.tmps,params:=N,assign:=G,body:=H,defers:=w.heap.size }:=⟨_,rfl⟩;obtain⟨Y,M,bq⟩:=vO T hs av aw ax ba bb bc L;obtain⟨A,objs,stay,post,ren,B,I,ae,af,ag,ah,ai,aj⟩:=am L a.tmps (by rw[x]) (by rw[x]) (by rw[x]) (by rw[x]) (by rw[x]) (by rw[x]) hs.nt;obtain⟨⟨O,au,bi,ap⟩,I⟩:=I;obtain⟨o,S⟩:∃o,(w.alloc (.deferred (some []))).alloc (.loop L)=o:=⟨_,rfl⟩;rw[S]at M;have U:(c.marked2 yn dn w.heap.size).Ok:=i5 T;have ar:Iy (vw o c.O0 (Bw σ yn dn fr L a.tmps) Y) (.yl yn :: m.map λn=>AV.bp n [] 0) (.func (.yield (w.heap.size+1)) #[] #[] :: m.map ρ):=by
  refine⟨_,_,rfl,⟨⟨_,by simp[Bw,lk];rfl⟩,_,bq,rfl⟩,?_⟩;have cb:=cB (V:=vw o c.O0 (Bw σ yn dn fr L a.tmps) Y) (f:=s) (ns:=m) (v:=a.eval g) (by
   have:=D6 M.env;have bj:Ah (Bw σ yn dn fr L a.tmps) g=some (.clo s m):=by
    cases g with
    | tmp t=>exact J
    | _=>exact J
   have Q:=this g _ bj;have ay:({ a with defers:=[{ target:=.collected w.heap.size,args:=#[] }]++a.defers }:Act).eval g=a.eval g:=by cases g<;>rfl
   rw[ay]at Q;exact Q)
  grind [vw]
 have bg:∀res y,post res y->∃(j:List (Nat×Bz)) (X:AV) (i:List (Nat×Obj)),CB j=true/\CT i j=true/\Ab y j i/\Bm j res X /\
   JK ren j stay B=true/\FT (Ak ren) i (Bw σ yn dn fr L a.tmps).objs=true/\∀C w',(c.marked2 yn dn w.heap.size).sat (CU (Bw σ yn dn fr L a.tmps) (Ak ren) B none X i) C w' ->
    rangePost (FR c.r) 0 c.P (w.heap.size+1) (UJ c R k) C (.returned undef) w':=by
  intro res y hp;obtain⟨j,i,l,bs,bt,bu,bv,bw,cc,W,bx⟩:=aj res y hp;refine⟨j,.top,i,bs,bt,bu,vN j res,bv,bw,λC w' E=>?_⟩;obtain⟨ρ',E⟩:=E;have br:lk yn (CU (Bw σ yn dn fr L a.tmps) (Ak ren) B none .top i).objs=some (.loop l):=by grind [CU,A2]
  have hyp:=(E.pin (yn,.pointer (some ⟨w.heap.size+1,0,none⟩)) (by simp[Cx.marked2])).2.1;obtain⟨bz,q⟩:=Uk U E br hyp { l with state:=.exhausted };refine⟨_,_,run_endLoop bz (by intro e;rw[e]at W;cases W),?_⟩;have bo:(c.marked dn w.heap.size).sat ⟨(CU (Bw σ yn dn fr L a.tmps) (Ak ren) B none .top i).env,upd yn (.loop { l with state:=.exhausted }) (CU (Bw σ yn dn fr L a.tmps) (Ak ren) B none .top i).objs⟩ C (w'.putObj (w.heap.size+1) (.loop { l with state:=.exhausted })) :=
   ⟨ρ',q.frm,q.nt,q.defers,λp hp=>q.pin p (If _ hp),q.objs,q.free,q.dist,q.env⟩
  have K:=A3D bf ak (bx w.heap.size) bo;revert K;generalize l.pending=p;intro K;cases p<;>exact K
 obtain⟨Z,aa,ca,al,an,bh,ao,_,bk⟩:=Q8 U M ar stay post ren ae af ag ah B (by simpa[Cx.marked2] using ai) (dst:=none) (λd D=>by cases D) bg;have aq:=I o Z aa ca _ al an bh ao;refine⟨w.heap.size+1,[{ target:=.collected w.heap.size,args:=#[] }],o,{ target:=.fn (.func s) (m.map ρ).toArray,args:=#[.func (.yield (w.heap.size+1)) #[] #[]] },o,s,
  (.func (.yield (w.heap.size+1)) #[] #[] :: m.map ρ).toArray,o,?_,?_,λ_ _=>trivial,?_,λh=>by simp[FR]at h,?_⟩
 ·rw[<-S,x];exact run_enterLoop_outer _ _ _ _ _
 ·have be:a.eval g=.func (.func s) #[] (m.map ρ).toArray:=bd;simp only[resolve,be];simp[go_sem]
 ·have ab : ¬ O.name = "runtime.NumGoroutine" := by simpa using bi
  have ad:¬O.body=none:=by intro e;simp[e]at ap
  simp[invoke,callFunc,au,ab,ad]
 ·refine Ku (aq.mono λe w' hh=>?_);obtain⟨u,rfl,hh⟩:=hh;exact bk u w' hh
theorem A0k (O:c.Ok) {a:Act} {w:World} {ρ:Nat->Value} (hs:Bo c.w0 c.K c.O0 c.nt c.ds σ ρ a w) {dn b:Nat} (j:lk dn σ.objs=some .dfr) (i:ρ dn=.pointer (some ⟨b,0,none⟩)) (X:_root_.Go.Obj) (pin:List (Nat×Value)) (G:∀p∈pin,p∈c.ds.pin/\p.1≠dn) :
  w.heap[b]?=some (.deferred (some []))/\Bo c.w0 c.K c.O0 c.nt { ds:=c.ds.ds,pin:=pin } ⟨Ba [dn] σ.env,Al [dn] [dn] σ.objs⟩ ρ a (w.putObj b X):=by
 obtain⟨b',h1,h⟩:=hs.objs dn _ j;rw[i]at h1;injection h1 with h1
 injection h1 with h1
 injection h1 with h1
 subst h1;have P:b<w.heap.size:=CP h;refine⟨h,?_⟩;have A:own c.O0 σ ρ b:=.inr ⟨dn,⟨_,j⟩,by rw[i];exact .inl rfl⟩;have f:∀n,Gp ⟨Ba [dn] σ.env,Al [dn] [dn] σ.objs⟩ n->Gp σ n/\n≠dn:=by
  rintro n ⟨o,hn⟩;have hn:lk n (Al [dn] [dn] σ.objs)=some o:=hn;rw[BS]at hn;split at hn
  ·cases hn
  ·rename_i r;simp only[OR]at hn;obtain⟨y,d,_⟩:=hn;exact⟨⟨y,d⟩,λe=>r (by subst e;simp[AY])⟩
 have l:∀k,k≠b->(w.putObj b X).heap[k]?=w.heap[k]?:=λk hk=>World.putObj_heap_other hk;have q:CS ((vw w c.O0 σ ρ).buts [dn]) (vw (w.putObj b X) c.O0 ⟨Ba [dn] σ.env,Al [dn] [dn] σ.objs⟩ ρ):=by
  refine⟨λk _ hk B=>?_,λn hn=>?_,λ_ _=>rfl,λk _ hk=>l k (λe=>?_)⟩
  ·rcases B with h0|⟨n,hn,E⟩
   ·exact hk (.inl h0)
   ·exact hk (.inr ⟨n,(f n hn).1,E⟩)
  ·obtain⟨⟨o,F⟩,D⟩:=hn;exact⟨_,by show lk n (Al [dn] [dn] σ.objs)=_;rw[BS,At (by rw[D];simp),F];rfl⟩
  ·subst e;exact hk A
 refine⟨⟨hs.frm.os,hs.frm.tape,hs.frm.output,by simpa using hs.frm.size,λk hk=>?_⟩,hs.nt,hs.defers,λp hp=>?_,λn x hn=>?_,λn k C hk=>hs.free n k (f n C).1 hk,λn m k h1 h u z=>hs.dist n m k (f n h1).1 (f m h).1 u z,λs v t=>?_⟩
 ·refine(l k λe=>?_).trans (hs.frm.block k hk);subst e;exact(hs.free dn k ⟨_,j⟩ (by rw[i];exact .inl rfl)).1 hk
 ·obtain⟨H,I⟩:=G p hp;obtain⟨J,M,N⟩:=hs.pin p H;exact⟨q.L p.1 ⟨J,by simp[AY,I]⟩,M,N⟩
 ·have g:lk n (Al [dn] [dn] σ.objs)=some x:=hn;have r:=(f n ⟨x,hn⟩).2;rw[BS]at g;split at g
  ·cases g
  ·simp only[OR]at g;obtain⟨y,d,rfl⟩:=g;refine TE q (λk hk=>l k λe=>?_) (hs.objs n y d);subst e;exact r (hs.dist n dn k ⟨y,d⟩ ⟨_,j⟩ hk (by rw[i];exact .inl rfl))
 ·rw[DK]at t;simp only[OR]at t;obtain⟨y,d,rfl⟩:=t;exact(PP (hs.env s y d)).keeps q
end
def A0l (P:Program) (fn:Func) (w0:World) (K O0:Nat->Prop) (stay:List Nat) (ρ0:Nat->Value) (post:AV->List (Nat×Obj)->Prop):Exit->Act->World->Prop :=
 bodyPostM (FR none) 0 P fn λe w'=>∃u,e=.returned u/\Ph K O0 stay w0 ρ0 post u w'
theorem A3E {P:Program} {tb:Tb} {f:FuncId} {fn:Func} {cd:Code} {nt:Nat} {args:List AV} {objs:List (Nat×Obj)} {stay:List Nat} {post:AV->List (Nat×Obj)->Prop}
  (c : P.funcs[f]? = some fn) (k : (fn.name == "runtime.NumGoroutine") = false) (b : fn.body = some cd) (l : fn.ntmps = nt) (q : args.length <= nt)
  (i:Bx nt cd=true) (p:stay.all (SQ objs)=true) (j:L9 objs=true) (hT:DG P tb) (hF:JA P tb)
  (h:∀(w0:World) (K O0:Nat->Prop) (ρ0:Nat->Value),(cm P tb w0 K O0 nt (stay.map λn=>(n,ρ0 n))).Ok->Pi args->OJ objs ->
   Ev (cm P tb w0 K O0 nt (stay.map λn=>(n,ρ0 n))) (A0l P fn w0 K O0 stay ρ0 post) (.run cd) [] ⟨Aj 0 args,objs⟩):BA P f args objs stay post:=by
 refine⟨⟨fn,c,k,by simp[b]⟩,λw K O0 ρ s e g d a=>?_⟩;refine callsIn_wide.1 (callsIn_of_wp_marks (F:=FR none) (n:=0) c b trivial ?_ rfl);have r:=JJ a;rw[l];exact h w K O0 ρ ⟨e,g,hT,hF⟩ (TM a) (TN j λn o m=>ZE (d.obj n o m)) i rfl _ _ (UT d a p (by omega))
theorem A0m {P:Program} {tb:Tb} {w0:World} {K O0:Nat->Prop} {nt:Nat} {stay:List Nat} {ρ0:Nat->Value} {fn:Func} {post:AV->List (Nat×Obj)->Prop} {σ:St} {e:Exit} {dn b:Nat} (d:((cm P tb w0 K O0 nt (stay.map λn=>(n,ρ0 n))).marked dn b).Ok)
  (g:List ResultVar) (s:fn.results.toList=g) (o:e=.ret\/e=.normal) (q:lk dn σ.objs=some .dfr) (f:AY dn stay=false) (res:AV) (h:UU tb ⟨Ba [dn] σ.env,Al [dn] [dn] σ.objs⟩ g res) (hp:post res (Al [dn] [dn] σ.objs)) :
  Ev ((cm P tb w0 K O0 nt (stay.map λn=>(n,ρ0 n))).marked dn b) (A0l P fn w0 K O0 stay ρ0 post) (.out e) [] σ:=by
 intro _ _ a w hs;obtain⟨ρ,hs⟩:=hs;have l:=(hs.pin (dn,.pointer (some ⟨b,0,none⟩)) (by simp[Cx.marked])).2.1;obtain⟨h1,i⟩:=A0k d hs q l (.deferred none) (stay.map λn=>(n,ρ0 n)) (λp hp=>⟨If _ hp,λe=>by
  obtain⟨n,hn,rfl⟩:=Do.1 hp;have e:n=dn:=e;subst e;rw[(Aa _ _).2 hn]at f;cases f⟩)
 have c:Bo w0 K O0 nt { ds:=[⟨.collected b,#[]⟩],pin:=stay.map λn=>(n,ρ0 n) } ⟨Ba [dn] σ.env,Al [dn] [dn] σ.objs⟩ ρ a (w.putObj b (.deferred none)):=i;obtain⟨u,j,k⟩:=bW d.T c (fn:=fn) (by rw[s];exact h);have r:Ph K O0 stay w0 ρ0 post u (w.putObj b (.deferred none)):=by
  refine⟨res,_,ρ,hp,c.frm,⟨c.objs,c.free,c.dist⟩,k,λn hn=>?_⟩;exact(c.pin (n,ρ0 n) (Do.2 ⟨n,hn,rfl⟩)).2.1
 have m:a.defers=[⟨.collected b,#[]⟩]:=hs.defers;have key:LeavesInM (FR none) 0 P fn a.tmps (λe w'=>∃u,e=.returned u/\Ph K O0 stay w0 ρ0 post u w') a.defers .returning w:=by
  rw[m];exact⟨by simp,.inl ⟨b,_,rfl,run_takeDeferred h1,u,j,u,rfl,r⟩⟩
 rcases o with rfl|rfl
 ·exact key
 ·exact key
end
section
open Go Go.RowKit
section
variable {c:Cx} {R:Exit->Act->World->Prop} {k:List Dl} {σ σ':St}
theorem rP (a:c.Ok) {id:Nat} {l:List Oper} {vc:Prop} (b:vc) (hk:Ev c R (.out .normal) k σ') (h0:(l.all λo=>o.guard.isNone)=true:=by rfl)
  (h:Dp c.tb.live (B0 c.tb l l σ)=some (vc,σ'):=by simp only[go_sem,Nat.reduceEqDiff,reduceCtorEq,Nat.reduceAdd,Nat.reduceSub,Nat.reduceMul,Nat.reduceLeDiff,Nat.reduceLT,Int.reduceLE,Int.reduceToNat,Int.reduceNeg,↓reduceIte];rfl):Ev c R (.run (.region id l.toArray false)) k σ:=MH _ a h0 h b hk
theorem rD (a:c.Ok) {id:Nat} {l:List Oper} {vc:Prop} (d:vc) (hk:Ev c R (.out .normal) k σ') (h0:Ld l l.length=true:=by kernel_rfl) (b:c.P.follows .mixedOrders=true:=by exact drawsAny)
  (h:Dp c.tb.live (Ls c.tb l false σ.objs [] l 0 [] [] σ)=some (vc,σ'):=by simp only[go_sem,Nat.reduceEqDiff,reduceCtorEq,Nat.reduceAdd,Nat.reduceSub,Nat.reduceMul,Nat.reduceLeDiff,Nat.reduceLT,Int.reduceLE,Int.reduceToNat,Int.reduceNeg,↓reduceIte];rfl):Ev c R (.run (.region id l.toArray true)) k σ:=Xa _ b a h0 h d hk
theorem rC {o:Operand} {x y:Code} {b:Bool} {p q:Prop} (d:p->Ev c R (.run x) k σ) (hf:q->Ev c R (.run y) k σ) (h:Ah σ o=some (.p .bool b):=by simp only[go_sem,Nat.reduceEqDiff,reduceCtorEq,Nat.reduceAdd,Nat.reduceSub,Nat.reduceMul,Nat.reduceLeDiff,Nat.reduceLT,Int.reduceLE,Int.reduceToNat,Int.reduceNeg,↓reduceIte];rfl)
  (hp:(b=true)=p:=by first|(simp only[IS,To,As,AAz,Bool.and_eq_false_imp,AB3,dO,ABu,AAN,ABy,ACS,Bool.not_eq_eq_eq_not,ACy,ACH,ABC,Int.not_le,ne_eq];rfl)|rfl) (a:(b=false)=q:=by first|(simp only[IS,To,As,AAz,Bool.and_eq_false_imp,AB3,dO,ABu,AAN,ABy,ACS,Bool.not_eq_eq_eq_not,ACy,ACH,ABC,Int.not_le,ne_eq];rfl)|rfl):Ev c R (.run (.cond o x y)) k σ :=
 Dm h (λe=>d (hp▸e)) (λe=>hf (a▸e))
theorem rL (a:c.Ok) {ops:List Oper} {l:List Oper} {vc:Prop} (b:vc) (hk:Ev c R (.out .normal) k σ') (h:Dp c.tb.live (B0 c.tb ops l σ)=some (vc,σ'):=by simp only[go_sem,Nat.reduceEqDiff,reduceCtorEq,Nat.reduceAdd,Nat.reduceSub,Nat.reduceMul,Nat.reduceLeDiff,Nat.reduceLT,Int.reduceLE,Int.reduceToNat,Int.reduceNeg,↓reduceIte];rfl):HZ c R k ops.toArray l σ:=IC _ a h b hk
theorem rN (n:Nat) (a:c.Ok) {ops:List Oper} {l:List Oper} {vc:Prop} (b:vc) (hk:HZ c R k ops.toArray (l.drop n) σ') (h:B0 c.tb ops (l.take n) σ=some (vc,σ'):=by simp only[ABl,ABo,go_sem,Nat.reduceEqDiff,reduceCtorEq,Nat.reduceAdd,Nat.reduceSub,Nat.reduceMul,Nat.reduceLeDiff,Nat.reduceLT,Int.reduceLE,Int.reduceToNat,Int.reduceNeg,↓reduceIte];rfl):HZ c R k ops.toArray l σ:=TL a n (by simpa using h) b hk
theorem cP (n:Nat) (a:c.Ok) {id:Nat} {l:List Oper} {vc:Prop} (b:vc) (hk:HZ c R k l.toArray (l.drop n) σ') (h0:(l.all λo=>o.guard.isNone)=true:=by rfl) (h:B0 c.tb l (l.take n) σ=some (vc,σ'):=by simp only[ABl,ABo,go_sem,Nat.reduceEqDiff,reduceCtorEq,Nat.reduceAdd,Nat.reduceSub,Nat.reduceMul,Nat.reduceLeDiff,Nat.reduceLT,Int.reduceLE,Int.reduceToNat,Int.reduceNeg,↓reduceIte];rfl) :
  Ev c R (.run (.region id l.toArray false)) k σ:=A01 a n h0 h b hk
theorem cD (n:Nat) (a:c.Ok) {id:Nat} {l:List Oper} {vc:Prop} (e:vc) (hk:HZ c R k l.toArray (l.drop n) σ') (b:Ld l (l.take n).length=true:=by kernel_rfl) (d:c.P.follows .mixedOrders=true:=by exact drawsAny)
  (h:Ls c.tb l false σ.objs [] (l.take n) 0 [] [] σ=some (vc,σ'):=by simp only[ABl,ABo,go_sem,Nat.reduceEqDiff,reduceCtorEq,Nat.reduceAdd,Nat.reduceSub,Nat.reduceMul,Nat.reduceLeDiff,Nat.reduceLT,Int.reduceLE,Int.reduceToNat,Int.reduceNeg,↓reduceIte];rfl):Ev c R (.run (.region id l.toArray true)) k σ:=A02 d a n b h e hk
theorem rM (q:c.Ok) {ops:Array Oper} {rest:List Oper} {dst:Option Nat} {g:Operand} {xs:List Operand} {ts:Array TypeId} {ty:TypeId} {pos:String} {after:Array Edge}
  {f:FuncId} {d:List Nat} {as:List AV} {A:List AV} {objs:List (Nat×Obj)} {stay:List Nat} {post:AV->List (Nat×Obj)->Prop} (l:BA c.P f A objs stay post)
  (ren:List (Nat×Bz)) (hs:List Nat) (j:BM σ ren (as++d.map λn=>AV.bp n [] 0) A) (m:Ab σ.objs ren objs)
  (hk:∀res e,post res e->∃(a:List (Nat×Bz)) (h:AV) (b:List (Nat×Obj)),CB a=true/\CT b a=true/\Ab e a b/\Bm a res h /\
   JK ren a stay hs=true/\FT (Ak ren) b σ.objs=true/\HZ c R k ops rest (CU σ (Ak ren) hs dst h b))
  (r:DQ (Ah σ g)=some (f,d):=by simp only[go_sem,Nat.reduceEqDiff,reduceCtorEq,Nat.reduceAdd,Nat.reduceSub,Nat.reduceMul,Nat.reduceLeDiff,Nat.reduceLT,Int.reduceLE,Int.reduceToNat,Int.reduceNeg,↓reduceIte];rfl) (o:Iz σ xs=some as:=by simp only[go_sem,Nat.reduceEqDiff,reduceCtorEq,Nat.reduceAdd,Nat.reduceSub,Nat.reduceMul,Nat.reduceLeDiff,Nat.reduceLT,Int.reduceLE,Int.reduceToNat,Int.reduceNeg,↓reduceIte];rfl)
  (h1:CB ren=true:=by rfl) (i:CT objs ren=true:=by rfl) (s:(c.ds.pin.all λp=>!AY p.1 hs)=true:=by rfl) :
  HZ c R k ops (⟨dst,.call ⟨.value g,xs.toArray,ts⟩,ty,pos,after,none⟩ :: rest) σ:=A00 q r o l ren hs h1 i s j m hk
theorem rY (n yn:Nat) (m:c.Ok) {ops:Array Oper} {rest:List Oper} {dst:Option Nat} {g:Operand} {xs:List Operand} {ts:Array TypeId} {ty:TypeId} {pos:String} {after:Array Edge}
  {as:List AV} {A:List AV} {objs:List (Nat×Obj)} {stay:List Nat} {post:AV->List (Nat×Obj)->Prop} (i:cC c.P yn A objs stay post)
  (ren:List (Nat×Bz)) (hs:List Nat) (h:BM σ ren as A) (j:Ab σ.objs ren objs)
  (hk:∀res d,post res d->∃(a:List (Nat×Bz)) (e:AV) (b:List (Nat×Obj)),CB a=true/\CT b a=true/\Ab d a b/\Bm a res e /\
   JK ren a stay hs=true/\FT (Ak ren) b σ.objs=true/\HZ c R k ops rest (CU σ (Ak ren) hs dst e b))
  (s:c.r=none:=by rfl) (o:ZO n (Ah σ g)=true:=by simp only[go_sem,Nat.reduceEqDiff,reduceCtorEq,Nat.reduceAdd,Nat.reduceSub,Nat.reduceMul,Nat.reduceLeDiff,Nat.reduceLT,Int.reduceLE,Int.reduceToNat,Int.reduceNeg,↓reduceIte]) (l:Iz σ xs=some as:=by simp only[go_sem,Nat.reduceEqDiff,reduceCtorEq,Nat.reduceAdd,Nat.reduceSub,Nat.reduceMul,Nat.reduceLeDiff,Nat.reduceLT,Int.reduceLE,Int.reduceToNat,Int.reduceNeg,↓reduceIte];rfl)
  (t:lk yn ren=some (.nm n):=by rfl) (h1:CB ren=true:=by rfl) (f:CT objs ren=true:=by rfl) (q:(c.ds.pin.all λp=>!AY p.1 hs)=true:=by rfl) :
  HZ c R k ops (⟨dst,.call ⟨.value g,xs.toArray,ts⟩,ty,pos,after,none⟩ :: rest) σ:=vK m s o l i ren hs t h1 f q h j hk
end
end
section
open Go Go.RowKit
section
variable {P:Program} {b:Frame} {a:Act} {k:List Item} {cs:List Frame} {w:World}
end
section
variable {c:Cx} {R:Exit->Act->World->Prop} {k:List Dl} {σ:St}
end
end
section
open Go Go.RowKit
def nL:m5->List Dl->Option (m5×List Dl)
 | .run (.seq x y),k=>some (.run x,.seq y :: k)
 | .run .skip,k=>some (.out .normal,k)
 | .run .ret,k=>some (.out .ret,k)
 | .run (.exit id),k=>some (.out (.exit id),k)
 | .run (.block id b),k=>some (.run b,.blk id :: k)
 | .out .normal,.seq y :: k=>some (.run y,k)
 | .out .normal,.blk _ :: k=>some (.out .normal,k)
 | .out (.exit id),.seq _ :: k=>some (.out (.exit id),k)
 | .out (.exit a),.blk id :: k=>if a=id then some (.out .normal,k) else some (.out (.exit a),k)
 | .out (.exit id),.inv _ :: k=>some (.out (.exit id),k)
 | .out .ret,.seq _ :: k=>some (.out .ret,k)
 | .out .ret,.blk _ :: k=>some (.out .ret,k)
 | .out .ret,.inv _ :: k=>some (.out .ret,k)
 | _,_=>none
def Ul:Nat->m5->List Dl->m5×List Dl
 | 0,n,k=>(n,k)
 | m+1,n,k=>match nL n k with
  | some (b,a)=>Ul m b a
  | none=>(n,k)
def nM (n:m5) (k:List Dl):Option (m5×List Dl):=match nL n k with
 | some (b,a)=>some (Ul 200 b a)
 | none=>none
section
variable {c:Cx} {R:Exit->Act->World->Prop} {σ:St}
theorem cF {n b:m5} {k a:List Dl} (e:nL n k=some (b,a)) (h:Ev c R b a σ):Ev c R n k σ:=by
 unfold nL at e;split at e<;>first
  | (cases e;done)
  | (split at e<;>(cases e;first|(rename_i d;rw[d];exact iK h)|exact iL (by assumption) h))
  | (cases e;first|exact A6R h|exact m6 h|exact A6S h|exact A3v h|exact zV h|exact Hz h|exact iG h|exact bJ h|exact bK h|exact iE h|exact iH h|exact iI h)
theorem Xg:∀(m:Nat) {n:m5} {k:List Dl},Ev c R (Ul m n k).1 (Ul m n k).2 σ->Ev c R n k σ
 | 0,_,_,h=>h
 | m+1,n,k,h=>by
  unfold Ul at h;split at h
  ·rename_i b a e;exact cF e (Xg m h)
  ·exact h
theorem eS {n b:m5} {k a:List Dl} (e:nM n k=some (b,a)) (h:Ev c R b a σ):Ev c R n k σ:=by grind [nM,cF,Xg]
end
inductive RX (c:Cx) (lv:List Nat) (σ:St) (vc:Prop) (σ':St):Array Oper->Bool->Prop
 | p {l:List Oper} (h0:(l.all λo=>o.guard.isNone)=true) (h:Dp lv (B0 c.tb l l σ)=some (vc,σ')):RX c lv σ vc σ' l.toArray false
 | a {l:List Oper} (h0:u6 l l.length=true) (h:Dp lv (Ls c.tb l true σ.objs [] l 0 [] [] σ)=some (vc,σ')):RX c lv σ vc σ' l.toArray false
 | d {l:List Oper} (h0:Ld l l.length=true) (hm:c.P.follows .mixedOrders=true) (h:Dp lv (Ls c.tb l false σ.objs [] l 0 [] [] σ)=some (vc,σ')):RX c lv σ vc σ' l.toArray true
 | t {l:List Oper} (m:Nat) (h0:Ld l (l.take (l.length-m)).length=true) (hm:c.P.follows .mixedOrders=true) (h:Dp lv (Ls c.tb l false σ.objs (l.drop (l.length-m)) (l.take (l.length-m)) 0 [] [] σ)=some (vc,σ')):RX c lv σ vc σ' l.toArray true
theorem A8b {c:Cx} {R:Exit->Act->World->Prop} {k:List Dl} {σ σ':St} {b:List Nat} (e:c.Ok) {id:Nat} {ops:Array Oper} {i:Bool} {vc:Prop} (f:vc) (hk:Ev c R (.out .normal) k σ') (h:RX c b σ vc σ' ops i):Ev c R (.run (.region id ops i)) k σ:=by
 cases h with
 | p h0 h=>exact MH b e h0 h f hk
 | a h0 h=>exact bX b e h0 h f hk
 | d h0 g h=>exact Xa b g e h0 h f hk
 | t m h0 g h=>exact vC b m g e h0 h f hk
theorem rX {c:Cx} {R:Exit->Act->World->Prop} {k:List Dl} {σ σ':St} (e:c.Ok) {id:Nat} {ops:Array Oper} {b:Bool} {vc:Prop} (f:vc) (hk:Ev c R (.out .normal) k σ')
  (h:RX c c.tb.live σ vc σ' ops b:=by
   first
   | exact .p rfl (by simp only[go_sem,Nat.reduceEqDiff,reduceCtorEq,Nat.reduceAdd,Nat.reduceSub,Nat.reduceMul,Nat.reduceLeDiff,Nat.reduceLT,Int.reduceLE,Int.reduceToNat,Int.reduceNeg,↓reduceIte];rfl)
   | exact .a (by kernel_rfl) (by simp only[go_sem,Nat.reduceEqDiff,reduceCtorEq,Nat.reduceAdd,Nat.reduceSub,Nat.reduceMul,Nat.reduceLeDiff,Nat.reduceLT,Int.reduceLE,Int.reduceToNat,Int.reduceNeg,↓reduceIte];rfl)
   | exact .d (by kernel_rfl) (by exact drawsAny) (by simp only[go_sem,Nat.reduceEqDiff,reduceCtorEq,Nat.reduceAdd,Nat.reduceSub,Nat.reduceMul,Nat.reduceLeDiff,Nat.reduceLT,Int.reduceLE,Int.reduceToNat,Int.reduceNeg,↓reduceIte];rfl)
   | exact .t 1 (by kernel_rfl) (by exact drawsAny) (by simp only[ABl,ABL,ABo,AAV,go_sem,Nat.reduceEqDiff,reduceCtorEq,Nat.reduceAdd,Nat.reduceSub,Nat.reduceMul,Nat.reduceLeDiff,Nat.reduceLT,Int.reduceLE,Int.reduceToNat,Int.reduceNeg,↓reduceIte];rfl)
   | exact .t 2 (by kernel_rfl) (by exact drawsAny) (by simp only[ABl,ABL,ABo,AAV,go_sem,Nat.reduceEqDiff,reduceCtorEq,Nat.reduceAdd,Nat.reduceSub,Nat.reduceMul,Nat.reduceLeDiff,Nat.reduceLT,Int.reduceLE,Int.reduceToNat,Int.reduceNeg,↓reduceIte];rfl)
   | exact .t 3 (by kernel_rfl) (by exact drawsAny) (by simp only[ABl,ABL,ABo,AAV,go_sem,Nat.reduceEqDiff,reduceCtorEq,Nat.reduceAdd,Nat.reduceSub,Nat.reduceMul,Nat.reduceLeDiff,Nat.reduceLT,Int.reduceLE,Int.reduceToNat,Int.reduceNeg,↓reduceIte];rfl)):Ev c R (.run (.region id ops b)) k σ:=A8b e f hk h
theorem eN {p:Prop} (h:p:=by simp only[go_sem,Nat.reduceEqDiff,reduceCtorEq,Nat.reduceAdd,Nat.reduceSub,Nat.reduceMul,Nat.reduceLeDiff,Nat.reduceLT,Int.reduceLE,Int.reduceToNat,Int.reduceNeg,↓reduceIte]<;>fail):p:=h
theorem eM {p q:Prop} (a:q) (h:p=q:=by simp only[go_sem,Nat.reduceEqDiff,reduceCtorEq,Nat.reduceAdd,Nat.reduceSub,Nat.reduceMul,Nat.reduceLeDiff,Nat.reduceLT,Int.reduceLE,Int.reduceToNat,Int.reduceNeg,↓reduceIte];rfl):p:=h▸a
theorem eR {p:Prop} (h:p:=by simp only[Nh,H0,Hf,Kw,Mz,Jf,GL,go_sem,Nat.reduceEqDiff,reduceCtorEq,Nat.reduceAdd,Nat.reduceSub,Nat.reduceMul,Nat.reduceLeDiff,Nat.reduceLT,Int.reduceLE,Int.reduceToNat,Int.reduceNeg,↓reduceIte]<;>fail):p:=h
theorem cG {p q:Prop} (a:q) (h:p=q:=by simp only[Nh,H0,Hf,Kw,Mz,Jf,GL,go_sem,Nat.reduceEqDiff,reduceCtorEq,Nat.reduceAdd,Nat.reduceSub,Nat.reduceMul,Nat.reduceLeDiff,Nat.reduceLT,Int.reduceLE,Int.reduceToNat,Int.reduceNeg,↓reduceIte];rfl):p:=h▸a
theorem eV {p:Prop} (h:p:=by (try dsimp only[Ty.den]at *)<;>(repeat'(first|apply And.intro|intro _))<;>omega):p:=h
end
section
open Go Go.RowKit
section
variable {c:Cx} {R:Exit->Act->World->Prop} {k:List Dl} {σ σ':St}
theorem A0n (d:c.Ok) {id:Nat} {l:List Oper} (n:Nat) {vc:Prop} (h:B0 c.tb l (l.take n) σ=some (vc,σ')) (f:vc) (hk:HZ c R k l.toArray (l.drop n) σ') :
  Ev c R (.run (.region id l.toArray false)) k σ:=by
 intro h1 b a w hs;simp only[JE,Bx,IN]at h1;exact ACN (TL d n (by simpa using h) f hk (λo e=>h1 o e) b a w hs)
theorem vP (F:c.Ok) {ops:Array Oper} {rest:List Oper} {dst:Option Nat} {g:Operand} {xs:List Operand} {ts:Array TypeId} {ty:TypeId} {pos:String} {after:Array Edge} {i:Option (Nat×Bool)}
  (H:E2 ops.toList σ i=some true)
  {f:FuncId} {j:List Nat} (G:DQ (Ah σ g)=some (f,j)) {as:List AV} (E:Iz σ xs=some as)
  {A:List AV} {objs:List (Nat×Obj)} {stay:List Nat} {post:AV->List (Nat×Obj)->Prop} (C:BA c.P f A objs stay post)
  (ren:List (Nat×Bz)) (hs:List Nat) (h1:CB ren=true) (y:CT objs ren=true) (K:(c.ds.pin.all λp=>!AY p.1 hs)=true) (z:BM σ ren (as++j.map λn=>AV.bp n [] 0) A) (D:Ab σ.objs ren objs)
  (hk:∀res e,post res e->∃(b:List (Nat×Bz)) (h:AV) (d:List (Nat×Obj)),CB b=true/\CT d b=true/\Ab e b d/\Bm b res h /\
   JK ren b stay hs=true/\FT (Ak ren) d σ.objs=true/\HZ c R k ops rest (CU σ (Ak ren) hs dst h d)) :
  HZ c R k ops (⟨dst,.call ⟨.value g,xs.toArray,ts⟩,ty,pos,after,i⟩ :: rest) σ:=by
 intro l I a w m;unfold wpListIn;rw[BY (He (o:=⟨dst,.call ⟨.value g,xs.toArray,ts⟩,ty,pos,after,i⟩) m H)];refine ZG F (xs:=xs) (ts:=ts) rfl rfl G E C ren h1 y z D hs K m (Bb (l _ (by simp))) λres e hp=>?_;obtain⟨b,h,d,r,s,t,u,v,x,B⟩:=hk res e hp;exact⟨b,h,d,r,s,t,u,v,x,λq w' L=>B (λo J=>l o (by simp[J])) I q w' L⟩
end
end
section
open Go Go.RowKit
section
variable {c:Cx} {ops:List Oper} {Kf:St->Prop} {τ:St} {ens:EN} {vc:Prop}
theorem Lf {A D:List Nat} {l:Nat} {b:List (List Nat×Nat)} {o:Oper} {d:St} {a:EN} (j:vc) (e:UY c o d a (λm=>Mix c ops Kf b D a m)) (h:iW c.tb ops τ.objs (A++qs b D) [] τ.env=some (vc,ens):=by simp only[go_sem,Nat.reduceEqDiff,reduceCtorEq,Nat.reduceAdd,Nat.reduceSub,Nat.reduceMul,Nat.reduceLeDiff,Nat.reduceLT,Int.reduceLE,Int.reduceToNat,Int.reduceNeg,↓reduceIte];rfl) (g:Q9 ens τ.objs=true:=by rfl) (i:ops[l]?=some o:=by rfl)
  (k:MJ (ens.take A.length) τ=d:=by simp only[go_sem,Nat.reduceEqDiff,reduceCtorEq,Nat.reduceAdd,Nat.reduceSub,Nat.reduceMul,Nat.reduceLeDiff,Nat.reduceLT,Int.reduceLE,Int.reduceToNat,Int.reduceNeg,↓reduceIte];rfl) (f:ens.drop A.length=a:=by simp only[go_sem,Nat.reduceEqDiff,reduceCtorEq,Nat.reduceAdd,Nat.reduceSub,Nat.reduceMul,Nat.reduceLeDiff,Nat.reduceLT,Int.reduceLE,Int.reduceToNat,Int.reduceNeg,↓reduceIte];rfl):Mix c ops Kf ((A,l) :: b) D ens τ:=A0f h j g i k f e
theorem Pm {R:Exit->Act->World->Prop} {k:List Dl} {σ':St} (d:c.Ok) {D:List Nat} {l:List Oper} {a:Prop} (f:vc) (g:a) (hk:Ev c R (.out .normal) k σ') (h:iW c.tb ops τ.objs D [] τ.env=some (vc,ens):=by simp only[go_sem,Nat.reduceEqDiff,reduceCtorEq,Nat.reduceAdd,Nat.reduceSub,Nat.reduceMul,Nat.reduceLeDiff,Nat.reduceLT,Int.reduceLE,Int.reduceToNat,Int.reduceNeg,↓reduceIte];rfl) (e:Q9 ens τ.objs=true:=by rfl)
  (b:Dp c.tb.live (B0 c.tb ops l (MJ ens τ))=some (a,σ'):=by simp only[go_sem,Nat.reduceEqDiff,reduceCtorEq,Nat.reduceAdd,Nat.reduceSub,Nat.reduceMul,Nat.reduceLeDiff,Nat.reduceLT,Int.reduceLE,Int.reduceToNat,Int.reduceNeg,↓reduceIte];rfl):Mix c ops (fun τ=>HZ c R k ops.toArray l τ) [] D ens τ:=A0e h f e (IC _ d b g hk)
end
section
variable {c:Cx} {o:Oper} {σ:St} {ens:EN} {N:St->Prop} {R:Exit->Act->World->Prop} {k:List Dl} {σ':St}
theorem Nm (b:c.Ok) {τ:St} {vc:Prop} (ns:List Nat) (i:vc) (a:N τ) (h:GK c.tb o σ=some (vc,τ):=by simp only[go_sem,Nat.reduceEqDiff,reduceCtorEq,Nat.reduceAdd,Nat.reduceSub,Nat.reduceMul,Nat.reduceLeDiff,Nat.reduceLT,Int.reduceLE,Int.reduceToNat,Int.reduceNeg,↓reduceIte];rfl) (f:tn σ o.op=ns:=by simp only[go_sem,Nat.reduceEqDiff,reduceCtorEq,Nat.reduceAdd,Nat.reduceSub,Nat.reduceMul,Nat.reduceLeDiff,Nat.reduceLT,Int.reduceLE,Int.reduceToNat,Int.reduceNeg,↓reduceIte]) (g:IE o ens=true:=by rfl) (hn:HK ns σ.objs ens=true:=by rfl) (e:MM τ.objs ens=true:=by rfl)
  (hf:IG ns ens=ens:=by simp only[go_sem,Nat.reduceEqDiff,reduceCtorEq,Nat.reduceAdd,Nat.reduceSub,Nat.reduceMul,Nat.reduceLeDiff,Nat.reduceLT,Int.reduceLE,Int.reduceToNat,Int.reduceNeg,↓reduceIte]) (d:HY c.nt o=true:=by rfl):UY c o σ ens N:=vI b ns h f g hn e hf d i a
theorem mxC (o:c.Ok) {dst:Option Nat} {g:Operand} {xs:List Operand} {ts:Array TypeId} {ty:TypeId} {pos:String} {after:Array Edge} {f:FuncId} {d:List Nat} {as:List AV}
  {A:List AV} {objs:List (Nat×Obj)} {stay:List Nat} {post:AV->List (Nat×Obj)->Prop} (k:BA c.P f A objs stay post) (ren:List (Nat×Bz)) (hs:List Nat)
  (j:BM σ ren (as++d.map λn=>AV.bp n [] 0) A) (l:Ab σ.objs ren objs)
  (hk:∀res e,post res e->∃(b:List (Nat×Bz)) (h:AV) (a:List (Nat×Obj)),CB b=true/\CT a b=true/\Ab e b a/\Bm b res h /\
   JK ren b stay hs=true/\FT (Ak ren) a σ.objs=true/\MM a ens=true/\N (CU σ (Ak ren) hs dst h a))
  (r:DQ (Ah σ g)=some (f,d):=by simp only[go_sem,Nat.reduceEqDiff,reduceCtorEq,Nat.reduceAdd,Nat.reduceSub,Nat.reduceMul,Nat.reduceLeDiff,Nat.reduceLT,Int.reduceLE,Int.reduceToNat,Int.reduceNeg,↓reduceIte];rfl) (m:Iz σ xs=some as:=by simp only[go_sem,Nat.reduceEqDiff,reduceCtorEq,Nat.reduceAdd,Nat.reduceSub,Nat.reduceMul,Nat.reduceLeDiff,Nat.reduceLT,Int.reduceLE,Int.reduceToNat,Int.reduceNeg,↓reduceIte];rfl) (h1:CB ren=true:=by rfl) (i:CT objs ren=true:=by rfl) (s:(c.ds.pin.all λp=>!AY p.1 hs)=true:=by rfl)
  (t:IE ⟨dst,.call ⟨.value g,xs.toArray,ts⟩,ty,pos,after,none⟩ ens=true:=by rfl) (hn:HK (Ak ren) σ.objs ens=true:=by rfl) (hf:IG hs ens=ens:=by simp only[go_sem,Nat.reduceEqDiff,reduceCtorEq,Nat.reduceAdd,Nat.reduceSub,Nat.reduceMul,Nat.reduceLeDiff,Nat.reduceLT,Int.reduceLE,Int.reduceToNat,Int.reduceNeg,↓reduceIte]) (q:HY c.nt ⟨dst,.call ⟨.value g,xs.toArray,ts⟩,ty,pos,after,none⟩=true:=by rfl) :
  UY c ⟨dst,.call ⟨.value g,xs.toArray,ts⟩,ty,pos,after,none⟩ σ ens N:=vJ o r m k ren hs h1 i s t hn hf q j l hk
theorem evP (a:c.Ok) {id:Nat} {l:List Oper} (n:Nat) {vc:Prop} (b:vc) (hk:HZ c R k l.toArray (l.drop n) σ') (h:B0 c.tb l (l.take n) σ=some (vc,σ'):=by simp only[ABl,ABo,go_sem,Nat.reduceEqDiff,reduceCtorEq,Nat.reduceAdd,Nat.reduceSub,Nat.reduceMul,Nat.reduceLeDiff,Nat.reduceLT,Int.reduceLE,Int.reduceToNat,Int.reduceNeg,↓reduceIte];rfl):Ev c R (.run (.region id l.toArray false)) k σ:=A0n a n h b hk
theorem clG (r:c.Ok) {ops:Array Oper} {rest:List Oper} {dst:Option Nat} {g:Operand} {xs:List Operand} {ts:Array TypeId} {ty:TypeId} {pos:String} {after:Array Edge} {e:Option (Nat×Bool)} {f:FuncId} {d:List Nat} {as:List AV}
  {A:List AV} {objs:List (Nat×Obj)} {stay:List Nat} {post:AV->List (Nat×Obj)->Prop} (m:BA c.P f A objs stay post) (ren:List (Nat×Bz)) (hs:List Nat) (l:BM σ ren (as++d.map λn=>AV.bp n [] 0) A) (o:Ab σ.objs ren objs)
  (hk:∀res h,post res h->∃(a:List (Nat×Bz)) (i:AV) (b:List (Nat×Obj)),CB a=true/\CT b a=true/\Ab h a b/\Bm a res i /\
   JK ren a stay hs=true/\FT (Ak ren) b σ.objs=true/\HZ c R k ops rest (CU σ (Ak ren) hs dst i b))
  (t:E2 ops.toList σ e=some true:=by simp only[go_sem,Nat.reduceEqDiff,reduceCtorEq,Nat.reduceAdd,Nat.reduceSub,Nat.reduceMul,Nat.reduceLeDiff,Nat.reduceLT,Int.reduceLE,Int.reduceToNat,Int.reduceNeg,↓reduceIte]) (s:DQ (Ah σ g)=some (f,d):=by simp only[go_sem,Nat.reduceEqDiff,reduceCtorEq,Nat.reduceAdd,Nat.reduceSub,Nat.reduceMul,Nat.reduceLeDiff,Nat.reduceLT,Int.reduceLE,Int.reduceToNat,Int.reduceNeg,↓reduceIte];rfl) (q:Iz σ xs=some as:=by simp only[go_sem,Nat.reduceEqDiff,reduceCtorEq,Nat.reduceAdd,Nat.reduceSub,Nat.reduceMul,Nat.reduceLeDiff,Nat.reduceLT,Int.reduceLE,Int.reduceToNat,Int.reduceNeg,↓reduceIte];rfl) (h1:CB ren=true:=by rfl) (j:CT objs ren=true:=by rfl) (u:(c.ds.pin.all λp=>!AY p.1 hs)=true:=by rfl) :
  HZ c R k ops (⟨dst,.call ⟨.value g,xs.toArray,ts⟩,ty,pos,after,e⟩ :: rest) σ:=vP r t s q m ren hs h1 j u l o hk
theorem Gc (l:List Nat) {n:m5} {a:St} (hk:Ev c R n k a) (h:Cr l σ=a:=by simp only[go_sem,Nat.reduceEqDiff,reduceCtorEq,Nat.reduceAdd,Nat.reduceSub,Nat.reduceMul,Nat.reduceLeDiff,Nat.reduceLT,Int.reduceLE,Int.reduceToNat,Int.reduceNeg,↓reduceIte];rfl):Ev c R n k σ:=Ev.ent hk (nA l h λ_ _ h=>h)
theorem A8c (l:List Nat) {a:St} (b:zU c a σ') (h:Cr l σ=a:=by simp only[go_sem,Nat.reduceEqDiff,reduceCtorEq,Nat.reduceAdd,Nat.reduceSub,Nat.reduceMul,Nat.reduceLeDiff,Nat.reduceLT,Int.reduceLE,Int.reduceToNat,Int.reduceNeg,↓reduceIte];rfl):zU c σ σ':=nA l h b
end
theorem eW {c:Cx} {σ σ':St} (ren:List (Nat×Bz)) (h1:CB ren=true:=by rfl) (a:CT σ'.objs ren=true:=by rfl) (d:Ab σ.objs ren σ'.objs:=by exact eN) (b:FI σ.env ren σ'.env:=by exact eN) (hp:A6T c.ds.pin ren=true:=by rfl):zU c σ σ':=AC ren h1 a d b hp
theorem eT {p:Prop} (h:p:=by simp only[UU,vB,Q7,XX,Hf,Kw,Jf,go_sem,Nat.reduceEqDiff,reduceCtorEq,Nat.reduceAdd,Nat.reduceSub,Nat.reduceMul,Nat.reduceLeDiff,Nat.reduceLT,Int.reduceLE,Int.reduceToNat,Int.reduceNeg,↓reduceIte]<;>fail):p:=h
section
variable {P:Program} {ty:List (Nat×TI)} {fs:List (Nat×Ae)} {nt:Nat} {f:FuncId} {fn:Func} {cd:Code}
theorem fKP (a b:List Nat) (ne:List (Nat×TypeId)) {sp:Ae} (e:P.funcs[f]?=some fn) (j:fn.ntmps=nt) (hF:JA P ⟨ty,fs,b,ne,a⟩)
  (h:∀(w0:World) (O0:Nat->Prop) (ds:Kb sp.ins),(cx P ⟨ty,fs,b,ne,a⟩ w0 O0 nt).Ok->oks sp.ins ds->sp.pre ds->Ev (cx P ⟨ty,fs,b,ne,a⟩ w0 O0 nt) (UK P fn w0 O0 (sp.out ds)) (.run cd) [] ⟨AM 0 sp.ins ds,[]⟩)
  (c : fn.body = some cd := by rfl) (hT : DG P ⟨ty, fs, b, ne, a⟩ := by exact tyTab_ok _ _ _ _) (i : (fn.name == "runtime.NumGoroutine") = false := by kernel_rfl) (g : sp.ins.length <= nt := by decide) (d : Bx nt cd = true := by kernel_rfl) : Af P f sp := A6f e i c j g d hT hF h
theorem fK (a:List Nat) {sp:Ae} (d:P.funcs[f]?=some fn) (i:fn.ntmps=nt) (hF:JA P ⟨ty,fs,[],[],a⟩)
  (h:∀(w0:World) (O0:Nat->Prop) (ds:Kb sp.ins),(cx P ⟨ty,fs,[],[],a⟩ w0 O0 nt).Ok->oks sp.ins ds->sp.pre ds->Ev (cx P ⟨ty,fs,[],[],a⟩ w0 O0 nt) (UK P fn w0 O0 (sp.out ds)) (.run cd) [] ⟨AM 0 sp.ins ds,[]⟩)
  (b : fn.body = some cd := by rfl) (hT : DG P ⟨ty, fs, [], [], a⟩ := by exact tyTab_ok _ _ _ _) (g : (fn.name == "runtime.NumGoroutine") = false := by kernel_rfl) (e : sp.ins.length <= nt := by decide) (c : Bx nt cd = true := by kernel_rfl) : Af P f sp := A6f d g b i e c hT hF h
variable {args:List AV} {objs:List (Nat×Obj)} {stay:List Nat} {post:AV->List (Nat×Obj)->Prop}
theorem Jh (a b:List Nat) (ne:List (Nat×TypeId)) (e:P.funcs[f]?=some fn) (k:fn.ntmps=nt) (hF:JA P ⟨ty,fs,b,ne,a⟩)
  (h:∀(w0:World) (K O0:Nat->Prop) (ρ0:Nat->Value),(cm P ⟨ty,fs,b,ne,a⟩ w0 K O0 nt (stay.map λn=>(n,ρ0 n))).Ok->Pi args->OJ objs ->
   Ev (cm P ⟨ty,fs,b,ne,a⟩ w0 K O0 nt (stay.map λn=>(n,ρ0 n))) (A3z P fn w0 K O0 stay ρ0 post) (.run cd) [] ⟨Aj 0 args,objs⟩)
  (c : fn.body = some cd := by rfl) (hT : DG P ⟨ty, fs, b, ne, a⟩ := by exact tyTab_ok _ _ _ _) (j : (fn.name == "runtime.NumGoroutine") = false := by kernel_rfl) (i : args.length <= nt := by simp only [OS, ABn]; omega) (d : Bx nt cd = true := by kernel_rfl) (l : stay.all (SQ objs) = true := by rfl) (g : L9 objs = true := by rfl) : BA P f args objs stay post := A70 e j c k i d l g hT hF h
theorem fKR (a b:List Nat) (ne:List (Nat×TypeId)) (e:P.funcs[f]?=some fn) (k:fn.ntmps=nt) (hF:JA P ⟨ty,fs,b,ne,a⟩)
  (h:∀(w0:World) (K O0:Nat->Prop) (ρ0:Nat->Value),(cm P ⟨ty,fs,b,ne,a⟩ w0 K O0 nt (stay.map λn=>(n,ρ0 n))).Ok->Pi args->OJ objs ->
   Ev (cm P ⟨ty,fs,b,ne,a⟩ w0 K O0 nt (stay.map λn=>(n,ρ0 n))) (A0l P fn w0 K O0 stay ρ0 post) (.run cd) [] ⟨Aj 0 args,objs⟩)
  (c : fn.body = some cd := by rfl) (hT : DG P ⟨ty, fs, b, ne, a⟩ := by exact tyTab_ok _ _ _ _) (j : (fn.name == "runtime.NumGoroutine") = false := by kernel_rfl) (i : args.length <= nt := by simp only [OS, ABn]; omega) (d : Bx nt cd = true := by kernel_rfl) (l : stay.all (SQ objs) = true := by rfl) (g : L9 objs = true := by rfl) : BA P f args objs stay post := A3E e j c k i d l g hT hF h
end
theorem fI {P:Program} {tb:Tb} {w0:World} {O0:Nat->Prop} {nt:Nat} (c:(cx P tb w0 O0 nt).Ok) {fn:Func} {a:List RV} {σ:St} {e:Exit} (b:List ResultVar) (h:Nh tb σ b a:=by exact eR) (g:fn.results.toList=b:=by rfl) (f:e=.ret\/e=.normal:=by exact .inl rfl) (hp:∀r∈a,∃t d,r=.p t d:=by simp) :
  Ev (cx P tb w0 O0 nt) (UK P fn w0 O0 a) (.out e) [] σ:=A6Y c b g f hp h
theorem fM {P:Program} {tb:Tb} {w0:World} {K O0:Nat->Prop} {nt:Nat} {stay:List Nat} {ρ0:Nat->Value} {fn:Func} {post:AV->List (Nat×Obj)->Prop} {σ:St} {e:Exit} (b:(cm P tb w0 K O0 nt (stay.map λn=>(n,ρ0 n))).Ok)
  (a:List ResultVar) (res:AV) (h:UU tb σ a res) (hp:post res σ.objs) (d:fn.results.toList=a:=by rfl) (c:e=.ret\/e=.normal:=by first|exact .inl rfl|exact .inr rfl) :
  Ev (cm P tb w0 K O0 nt (stay.map λn=>(n,ρ0 n))) (A3z P fn w0 K O0 stay ρ0 post) (.out e) [] σ:=A3A b a d c res h hp
end
section
open Go Go.RowKit
structure Um (X σ:St) (n:Nat):Prop where
 env:∀s v,lk s X.env=some v->v.trn n []=v
 arr:∀m o,lk m X.objs=some o->K6 o=true
 new:∀m o,lk m X.objs=some o->lk m σ.objs=none
 nm:∀m o,lk m X.objs=some o->m≠n
section
variable {σ σ' X:St} {n:Nat}
theorem Um.obs (b:NX σ σ' X) (ha:Um X σ n):ZC σ σ':=by
 intro m o hn;rw[b.objs];cases a:lk m X.objs with
 | none=>exact hn
 | some c=>rw[ha.new m c a]at hn;cases hn
theorem AAF (b:NX σ σ' X) (ha:Um X σ n) {en:List (Nat×AV)} {new:List (Nat×Obj)} (c:∀s v,lk s en=some v->lk s X.env=none) (e:∀m o,lk m new=some o->lk m X.objs=none) :
  NX ⟨en++EY n [] σ.env,new++Cj n [] σ.objs⟩ ⟨en++EY n [] σ'.env,new++Cj n [] σ'.objs⟩ X:=by
 refine⟨λs=>?_,λm=>?_⟩
 ·simp only[A2];cases hs:lk s en with
  | some v=>rw[c s v hs];rfl
  | none =>
   rw[Ff,Ff,b.env];cases a:lk s X.env with
   | none=>rfl
   | some w=>simp[ha.env s w a]
 ·simp only[A2];cases d:lk m new with
  | some o=>rw[e m o d];rfl
  | none =>
   rw[Da,Da,b.objs];cases a:lk m X.objs with
   | none=>rfl
   | some w =>
    rw[At λh=>ha.nm m w a (by simpa using (Aa _ _).1 h)];exact ABr some (Xf (ha.arr m w a))
def i6 (σ:St):Op->Option Nat
 | .call c=>match c.callee,c.args.toList,c.argTypes.toList with
  | .builtin .append,[x,_],[_,_]=>(match Ah σ x with|some (.nin n _ _ _)=>some n|_=>none)
  | _,_,_=>none
 | _=>none
theorem A3G {tb:Tb} {op:Op} {d:Option Nat} {vc:Prop} {τ:St} (j:NX σ σ' X) (ha:Um X σ n) (r:i3 σ σ' op.operands.toList) (a:i6 σ op=some n) (G:∀t,d=some t->lk t X.env=none) (E:∀n,(∃u,lk n τ.objs=some u)->lk n X.objs=none) (h:Fa tb σ d op=some (vc,τ)) :
  (∃B,Fa tb σ' d op=some (vc,B)/\NX τ B X)/\(∀k,aq tb σ' k op=none)/\(∀k,aq tb σ k op=none)/\CO σ op=[]/\CO σ' op=[]:=by
 have p:=ha.obs j;cases op<;>try(cases a;done)
 rename_i cl;obtain⟨callee,⟨args⟩,⟨argTypes⟩⟩:=cl;simp only[i6]at a;split at a
 ·rename_i x y t u;cases f:Ah σ x with
  | none=>rw[f]at a;cases a
  | some xv =>
   rw[f]at a;cases xv<;>try(cases a;done)
   rename_i Q e i len;cases a;have z:Ah σ' x=Ah σ x:=r x (by simp[Op.operands,Call.operands]);have N:Ah σ' y=Ah σ y:=r y (by simp[Op.operands,Call.operands]);refine⟨?_,λk=>by simp[aq,DA,DL,Ck,z,f],λk=>by simp[aq,DA,DL,Ck,f],rfl,rfl⟩;simp only[Fa,DN,Dk,f]at h;simp only[Fa,DN,Dk,DM,z,f,N];cases A:Ah σ y with
   | none=>rw[A]at h;unfold DM at h;cases h
   | some v =>
    rw[A]at h;simp only[DM]at h;split at h
    ·rename_i b;have H:=G b rfl;simp only;split at h
     ·rename_i M;rw[BY M];unfold Nc at h ⊢;split at h
      ·rename_i O R el b2 L;try rw[L]
       try simp only
       split at h
       ·rename_i J;rw[BY J];unfold O4 at h ⊢;split at h
        ·rename_i ti et P k c xs h1 K;try rw[h1]
         try rw[p _ _ K]
         try simp only
         split at h
         ·rename_i F;rw[BY F];unfold Lz at h ⊢;split at h
          ·rename_i ys C;rw[MC p C];try simp only
           split at h
           ·rename_i m;have l:lk b X.objs=none:=by
             refine E b ?_;cases h;exact⟨_,by simp only[lk,ABi];rfl⟩
            have I:(lk b σ'.objs).isNone=true/\ys.isEmpty=false:=⟨by rw[j.objs,l];exact m.1,m.2⟩;rw[BY I];cases h;refine⟨_,rfl,AAF (en:=[(b,_)]) (new:=[(b,_),(n,_)]) j ha (λs v h=>?_) (λq o g=>?_)⟩
            ·simp only[lk]at h;split at h
             ·rename_i c;rw[c];exact H
             ·cases h
            ·simp only[lk]at g;split at g
             ·rename_i c;rw[c];exact l
             ·split at g
              ·rename_i c;rw[c];cases D:lk n X.objs with
               | none=>rfl
               | some w=>exact absurd rfl (ha.nm n w D)
              ·cases g
           ·cases h
          ·cases h
         ·cases h
        ·cases h
       ·cases h
      ·cases h
     ·cases h
    ·cases h
 ·cases a
end
def Un (n:Nat):EN->EN
 | []=>[]
 | (d,v,obs) :: r=>(d,v.trn n [],obs) :: Un n r
theorem Uo {n:Nat}:∀ {ens:EN},Un n ens=ens->∀e∈ens,e.2.1.trn n []=e.2.1
 | [],_,e,a=>by cases a
 | (d,v,obs) :: r,h,e,a=>by
  simp only[Un,ABW,AD8,and_true,true_and]at h;rcases By.1 a with rfl|a
  ·exact h.1
  ·exact Uo h.2 e a
section
variable {c:Cx} {o:Oper} {σ:St} {ens:EN} {N:St->Prop}
theorem A0o (H:c.Ok) {τ:St} {vc:Prop} (n:Nat) (h:GK c.tb o σ=some (vc,τ)) (b:i6 σ o.op=some n) (y:IE o ens=true) (hn:HK [n] σ.objs ens=true) (J:MM τ.objs ens=true) (hf:Un n ens=ens) (I:HY c.nt o=true) (M:vc) (D:N τ):UY c o σ ens N:=by
 intro X σ' z g a w next Q hs hk
 have ha:Um X σ n:=by
  refine⟨λs v hs=>?_,λm o l=>?_,λm o l=>?_,λm o l=>?_⟩
  ·obtain⟨obs,i⟩:=g.env s v hs;exact Uo hf _ i
  all_goals
   obtain⟨e,k,hp⟩:=g.objs m o l;have:=DS hn e k _ hp
  ·exact this.2.2
  ·exact this.1
  ·grind
 have F:∀t∈Ga o.op,lk t X.env=none:=λt p=>by
  cases f:lk t X.env with
  | none=>rfl
  | some v=>obtain⟨obs,i⟩:=g.env t v f;exact absurd p (DR y _ i).1
 have E:∀t,o.dst=some t->lk t X.env=none:=λt p=>by
  cases f:lk t X.env with
  | none=>rfl
  | some v=>obtain⟨obs,i⟩:=g.env t v f;exact absurd p (DR y _ i).2
 have G:∀n,(∃u,lk n τ.objs=some u)->lk n X.objs=none:=λn hu=>by
  cases f:lk n X.objs with
  | none=>rfl
  | some v =>
   obtain⟨e,k,hp⟩:=g.objs n v f;obtain⟨u,hu⟩:=hu;rw[II J e k _ hp]at hu;cases hu
 have K:=Pj z F;have key:∃d,GK c.tb o σ'=some (vc,d)/\NX τ d X:=by
  have q:CO σ o.op=[]/\CO σ' o.op=[]:=by
   obtain⟨dst,op,ty,pos,after,B⟩:=o;simp only at b ⊢;cases op<;>first|exact⟨rfl,rfl⟩|cases b
  unfold GK O7 at h ⊢;rw[q.1]at h;rw[q.2];simp only[Cr]at h ⊢;cases x:aq c.tb σ (o.dst.getD 0) o.op with
  | some r =>
   obtain⟨dst,op,ty,pos,after,B⟩:=o;simp only at b x;exfalso;cases op<;>try(cases b;done)
   rename_i cl;obtain⟨callee,⟨args⟩,⟨argTypes⟩⟩:=cl;simp only[i6]at b;split at b
   ·grind [Ah,aq,DA,DL,Ck]
   ·cases b
  | none =>
   rw[x]at h;simp only[LZ]at h;obtain⟨⟨d,h1,j⟩,C,_⟩:=A3G z ha K b E G h;rw[C];simp only[LZ];exact⟨d,h1,j⟩
 obtain⟨d,h1,j⟩:=key;exact PW H hs h1 M (Bb I) λA w' L=>hk τ D A w' d j L
theorem mxN (b:c.Ok) {τ:St} {vc:Prop} (n:Nat) (i:vc) (a:N τ) (h:GK c.tb o σ=some (vc,τ):=by simp only[go_sem,Nat.reduceEqDiff,reduceCtorEq,Nat.reduceAdd,Nat.reduceSub,Nat.reduceMul,Nat.reduceLeDiff,Nat.reduceLT,Int.reduceLE,Int.reduceToNat,Int.reduceNeg,↓reduceIte];rfl) (f:i6 σ o.op=some n:=by simp only[go_sem,Nat.reduceEqDiff,reduceCtorEq,Nat.reduceAdd,Nat.reduceSub,Nat.reduceMul,Nat.reduceLeDiff,Nat.reduceLT,Int.reduceLE,Int.reduceToNat,Int.reduceNeg,↓reduceIte]) (g:IE o ens=true:=by rfl) (hn:HK [n] σ.objs ens=true:=by rfl) (e:MM τ.objs ens=true:=by rfl)
  (hf:Un n ens=ens:=by simp only[go_sem,Nat.reduceEqDiff,reduceCtorEq,Nat.reduceAdd,Nat.reduceSub,Nat.reduceMul,Nat.reduceLeDiff,Nat.reduceLT,Int.reduceLE,Int.reduceToNat,Int.reduceNeg,↓reduceIte]) (d:HY c.nt o=true:=by rfl):UY c o σ ens N:=A0o b n h f g hn e hf d i a
end
end
section
open Go Go.RowKit
section
variable {P:Program} {tb:Tb} {w0:World} {K O0:Nat->Prop} {nt:Nat} {ds:Fp} {σ:St} {ρ:Nat->Value} {a:Act} {w:World}
theorem Bo.swapP (h:Bo w0 K O0 nt ds σ ρ a w) (G:∀b,K b->b<w0.heap.size) (aa:∀b,O0 b->b<w0.heap.size) {T:Nat->Prop} (hT:∀n,T n->∃o,lk n σ.objs=some o) (H:∀p∈ds.pin,¬T p.1)
  {new:List (Nat×Obj)} {σ':St} {ρ':Nat->Value} {w':World} {dst:Option Nat} {u:Value}
  (V:w'.os=w.os) (Y:w'.tape=w.tape) (W:w'.output=w.output) (X:w.heap.size<=w'.heap.size)
  (M:∀b,b<w.heap.size->(∀n,T n->¬bk (ρ n) b)->w'.heap[b]?=w.heap[b]?)
  (q:∀n o,lk n σ'.objs=some o->lk n new=none->¬T n/\∃d,lk n σ.objs=some d)
  (N:∀n o,lk n σ.objs=some o->¬T n->lk n new=none/\∃d,lk n σ'.objs=some d)
  (j:∀n,lk n new=none->ρ' n=ρ n)
  (B:∀n o b,lk n new=some o->bk (ρ' n) b->(∃m,T m/\bk (ρ m) b)\/w.heap.size<=b)
  (I:∀n m o r b,lk n new=some o->lk m new=some r->bk (ρ' n) b->bk (ρ' m) b->n=m)
  (U:∀n o,lk n σ'.objs=some o->A3 (vw w' O0 σ' ρ') o (ρ' n))
  (J:∀s v,lk s σ'.env=some v->B2 (vw w' O0 σ' ρ') v ((a.put dst u).tmps.getD s undef)) :
  Bo w0 K O0 nt ds σ' ρ' (a.put dst u) w':=by
 have ab:∀m,T m->∀b,bk (ρ m) b->b<w.heap.size:=λm c b i=>by
  obtain⟨o,f⟩:=hT m c;exact(h.objs m o f).block_lt i
 have y:∀m,T m->∀b,bk (ρ m) b->¬K b/\¬O0 b:=λm c b i=>by
  obtain⟨o,f⟩:=hT m c;exact h.free m b ⟨o,f⟩ i
 refine⟨⟨V.trans h.frm.os,Y.trans h.frm.tape,W.trans h.frm.output,Qo h.frm.size X,λk hk=>?_⟩,by rw[J3];exact h.nt,by rw[GW];exact h.defers,λp hp=>?_,U,?_,?_,J⟩
 ·exact(M k (AB8 (G k hk) h.frm.size) λn hn i=>(y n hn k i).1 hk).trans (h.frm.block k hk)
 ·obtain⟨⟨o,h1⟩,g,F⟩:=h.pin p hp;have P:¬T p.1:=H p hp;obtain⟨D,E⟩:=N p.1 o h1 P;exact⟨E,(j _ D).trans g,F⟩
 ·intro n b x i;obtain⟨o,f⟩:=x;cases hn:lk n new with
  | none =>
   obtain⟨_,d,h1⟩:=q n o f hn;rw[j n hn]at i;exact h.free n b ⟨d,h1⟩ i
  | some e =>
   rcases B n e b hn i with ⟨m,c,t⟩|L
   ·exact y m c b t
   ·have:=h.frm.size;grind
 ·have key:∀n m o e b,lk n σ'.objs=some o->lk n new=none->lk m new=some e->bk (ρ' n) b->bk (ρ' m) b->False:=by
   intro n m o e b f hn c h1 g;obtain⟨Q,d,l⟩:=q n o f hn;rw[j n hn]at h1;rcases B m e b c g with ⟨C,z,t⟩|L
   ·obtain⟨Z,S⟩:=hT C z;have:=h.dist n C b ⟨d,l⟩ ⟨Z,S⟩ h1 t;exact Q (this▸z)
   ·have ad:b<w.heap.size:=(h.objs n d l).block_lt h1;omega
  intro n m b x O h1 g;obtain⟨o,f⟩:=x;obtain⟨r,A⟩:=O;cases hn:lk n new with
  | none =>
   cases c:lk m new with
   | none =>
    obtain⟨_,d,l⟩:=q n o f hn;obtain⟨_,e,R⟩:=q m r A c;rw[j n hn]at h1;rw[j m c]at g;exact h.dist n m b ⟨d,l⟩ ⟨e,R⟩ h1 g
   | some e=>exact(key n m o e b f hn c h1 g).elim
  | some d =>
   cases c:lk m new with
   | none=>exact(key m n r d b A c hn g h1).elim
   | some e=>exact I n m d e b hn c h1 g
theorem Bo.swap1P (h:Bo w0 K O0 nt ds σ ρ a w) (W:∀b,K b->b<w0.heap.size) (C:∀b,O0 b->b<w0.heap.size) {tl:List Nat} (hT:∀n,n∈tl->∃o,lk n σ.objs=some o) (X:∀p∈ds.pin,¬p.1∈tl)
  {e:Nat} (ar:e∈tl\/lk e σ.objs=none) {l:Obj} {loc:Value} {w':World}
  (ag:w'.os=w.os) (ak:w'.tape=w.tape) (ah:w'.output=w.output) (ai:w.heap.size<=w'.heap.size)
  (F:∀b,b<w.heap.size->(∀n,n∈tl->¬bk (ρ n) b)->w'.heap[b]?=w.heap[b]?)
  (ad:∀b,bk loc b->(∃m,m∈tl/\bk (ρ m) b)\/w.heap.size<=b)
  (af:∀V':Vw,V'.w=w'->CS ⟨w,own O0 σ ρ,λ_=>False,ρ⟩ V'->(∀b m,m∈tl->bk (ρ m) b->¬bk loc b->¬V'.O b)->A3 V' l loc)
  {d:Nat} (aa:d<nt) {v:AV} {u:Value} (Z:∀V':Vw,V'.L e->V'.ρ e=loc->B2 V' v u) :
  Bo w0 K O0 nt ds ⟨(d,v) :: Ba tl σ.env,(e,l) :: Al tl tl σ.objs⟩ (Ei ρ e loc) (a.put (some d) u) w':=by
 let S:St:=⟨(d,v) :: Ba tl σ.env,(e,l) :: Al tl tl σ.objs⟩
 have D:∀m o,lk m S.objs=some o->(m=e/\o=l)\/(m≠e/\m∉tl/\∃c,lk m σ.objs=some c/\o=c.fgt tl):=by
  intro m o f;simp only[S,lk]at f;split at f
  ·grind
  ·rename_i ao;rw[BS]at f;split at f
   ·cases f
   ·rename_i ap;simp only[OR]at f;grind [Aa]
 have Y:∀m,m≠e->m∉tl->∀c,lk m σ.objs=some c->lk m S.objs=some (c.fgt tl):=by grind [lk,BS,Aa]
 have M:∀m,m∉tl->(∃o,lk m σ.objs=some o)->m≠e:=by grind
 have A:Ei ρ e loc e=loc:=Bj _ _ _;have r:∀m,m≠e->Ei ρ e loc m=ρ m:=λm h1=>by simp[Ei,h1]
 generalize Ei ρ e loc=ρ' at A r;have N:∀b,b<w.heap.size->¬own O0 σ ρ b->¬own O0 S ρ' b:=by
  intro b k q am;rcases am with h0|⟨m,⟨o,ae⟩,z⟩
  ·exact q (.inl h0)
  ·rcases D m o ae with ⟨rfl,_⟩|⟨h1,i,c,g,_⟩
   ·rw[A]at z;rcases ad b z with ⟨t,aj,H⟩|H
    ·obtain⟨c,j⟩:=hT t aj;exact q (.inr ⟨t,⟨c,j⟩,H⟩)
    ·omega
   ·rw[r m h1]at z;exact q (.inr ⟨m,⟨c,g⟩,z⟩)
 have J:∀b,b<w.heap.size->¬own O0 σ ρ b->w'.heap[b]?=w.heap[b]?:=λb k q=>F b k λn hn E=>by
  obtain⟨c,j⟩:=hT n hn;exact q (.inr ⟨n,⟨c,j⟩,E⟩)
 have ab:CS ⟨w,own O0 σ ρ,λ_=>False,ρ⟩ (vw w' O0 S ρ'):=⟨N,λ_ h=>h.elim,λ_ h=>h.elim,J⟩;have hk:CS ((vw w O0 σ ρ).buts tl) (vw w' O0 S ρ'):=by
  refine⟨N,λm f=>?_,λm f=>?_,J⟩
  ·obtain⟨⟨c,h1⟩,i⟩:=f;have g:m∉tl:=λh=>by rw[(Aa _ _).2 h]at i;cases i
   exact⟨_,Y m (M m g ⟨c,h1⟩) g c h1⟩
  ·obtain⟨⟨c,h1⟩,i⟩:=f;have g:m∉tl:=λh=>by rw[(Aa _ _).2 h]at i;cases i
   exact r m (M m g ⟨c,h1⟩)
 refine h.swapP W C (T:=λm=>m∈tl) hT X (new:=[(e,l)]) ag ak ah ai F ?_ ?_ ?_ ?_ ?_ ?_ ?_
 ·grind [lk]
 ·grind [lk]
 ·grind [lk]
 ·grind [lk]
 ·grind [lk]
 ·intro m o f;rcases D m o f with ⟨rfl,rfl⟩|⟨h1,i,c,g,rfl⟩
  ·rw[A];refine af _ rfl ab λb m f k aq C=>?_;obtain⟨P,j⟩:=hT m f;rcases C with h0|⟨G,⟨an,V⟩,I⟩
   ·exact(h.free m b ⟨P,j⟩ k).2 h0
   ·rcases D G an V with ⟨rfl,_⟩|⟨Q,R,c,U,_⟩
    ·grind
    ·rw[r G Q]at I;exact R ((h.dist G m b ⟨_,U⟩ ⟨_,j⟩ I k)▸f)
  ·rw[r m h1];refine TE hk (λb k=>F b ((h.objs m c g).block_lt k) λn hn E=>?_) (h.objs m c g);obtain⟨P,j⟩:=hT n hn;exact i ((h.dist m n b ⟨_,g⟩ ⟨_,j⟩ k E)▸hn)
 ·intro s x hs;rw[Kq a d u s (by rw[h.nt];exact aa)];simp only[S,lk]at hs;split at hs
  ·rename_i B;cases hs;rw[BY B];exact Z _ ⟨l,by simp[S,lk]⟩ A
  ·rename_i B;rw[At B];rw[DK]at hs;simp only[OR]at hs;obtain⟨y,al,rfl⟩:=hs;exact(PP (h.env s y al)).keeps hk
end
theorem cH {w:World} {O:Nat->Prop} {k v:Ty}:∀ {a:List MapEntry} {l:List (k.den×v.den)},J2 w O k v a l->a.length=l.length/\∀(i:Nat) (e:MapEntry),a[i]?=some e->∃x,l[i]?=some x/\BX w O k e.key x.1/\BX w O v e.val x.2
 | [],[],_=>⟨rfl,λi e h=>by simp at h⟩
 | [],_ :: _,h=>h.elim
 | _ :: _,[],h=>h.elim
 | e :: a,x :: l,⟨h1,f,b⟩=>by
  obtain⟨c,d⟩:=cH b;grind
section
variable {c:Cx} {R:Exit->Act->World->Prop} {k:List Dl} {σ:St}
end
end
section
open Go Go.RowKit
section
variable {c:Cx} {R:Exit->Act->World->Prop} {k:List Dl} {σ σ':St}
end
theorem CW {p:Prop} (h:p:=by first|exact trivial|((try dsimp only[Ty.den])<;>(repeat'(first|apply And.intro|intro _))<;>omega)|((try dsimp only[Ty.den]at *)<;>(repeat'(first|apply And.intro|intro _))<;>omega)):p:=h
end
section
open Go Go.RowKit
section
variable {c:Cx} {R:Exit->Act->World->Prop} {k:List Dl} {σ σ':St}
theorem A0p (q:c.Ok) {d m len:Nat} {t:TypeId} {x:Operand} {ty:TypeId} {pos:String} {after:Array Edge} {f e:Ty} {offs:List (Nat×Nat)} {el H:TypeId} {W:Nat} {U:AV} {a0:f.den} {xs:List e.den}
  (ap:lk t c.tb.ty=some ⟨.slice (.agg (.prod f (.slice e))),offs,el,W⟩) (ar:Ah σ x=some (.ag [U,.sr m e 0 len])) (aa:Eh false σ f U=some a0) (A:lk m σ.objs=some (.arr H e xs)) (aj:len=xs.length)
  (ba:(c.ds.pin.all λp=>!AY p.1 [m])=true) (ai:lk d σ.objs=none) (bc:f.size+1<=16777216)
  {a:Act} {w:World} {next:Act->World->Prop} {Q:Exit->Act->World->Prop} (an:c.sat σ a w) (ae:d<c.nt)
  (hk:∀I w',c.sat ⟨(d,.sr d (.agg (.prod f (.slice e))) 0 1) :: Ba [m] σ.env,(d,.nest el H f e [(a0,xs)] none) :: Al [m] [m] σ.objs⟩ I w'->next I w') :
  (⟨some d,.buildSlice t 1 #[(0,x)],ty,pos,after,none⟩:Oper).wpIn (FR c.r) 0 c.P a w next Q:=by
 obtain⟨ρ,y⟩:=an;have af:GI (vw w c.O0 σ ρ) σ a.eval:=D6 y.env;obtain⟨hu,hs,te,ao,aq⟩:=CK (q.T _ _ ap) q.T;obtain⟨z,au,be⟩:=L7 (q.T _ _ ao) w;obtain⟨cs,ad,ab⟩:=af x _ ar;obtain⟨c1,c2,rfl,h1,C⟩:=ab;obtain⟨aw,X,rfl,Z,D⟩:=C;have D:X=[]:=D;subst D;obtain⟨S,rfl,_,ax,l⟩:=Z;have G:=y.objs m _ A;have l:DF (plc (ρ m)) e.size 0 len S:=l;rw[O8 G,aj]at l;have al:Ny (vw w c.O0 σ ρ) H e xs (ρ m):=G;obtain⟨ay,bf,av,bg⟩:=G;have l:S=ρ m:=JD av l;subst l;have B:=aP (O':=own c.O0 σ ρ) (λ_ h=>h) (λh=>by cases h) y.objs aa h1;have B:Br w (own c.O0 σ ρ) f c1 a0:=B;have F:=B.length;have bb:te.ty.size=f.size+1:=by rw[aq];rfl
 have hs:=hs w;rw[show (Ty.agg (.prod f (.slice e))).size=f.size+1 from rfl]at hs;have L:(a.eval x).cells.toList=c1++[ρ m]:=by rw[ad];simp[Value.cells]
 have am:Instr.fill (λi=>some (i*(f.size+1),f.size+1)) ((Array.range (1*(f.size+1))).map (λi=>z.cells[i % z.cells.size]!)) [(0,a.eval x)]=some (c1++[ρ m]).toArray:=by
  have M:(a.eval x).cells.size=f.size+1:=by rw[<-ACd,L];simp[F]
  rw[PJ (by rw[M]) (by rw[M];simp)];rw[L];simp only[Instr.fill,ACX,A0,ABo,ABN,ABf];rw[List.drop_of_length_le (by simp[F]),AAu]
 have s:=TB (w:=w) (et:=el) (sz:=f.size+1) (n:=1) (cells:=(c1++[ρ m]).toArray) (by simp[F]) (by simp[AO]);have s:(w.alloc (.cells (c1++[ρ m]).toArray el)).ownsRow 0 el (f.size+1) (.slice (some ⟨w.heap.size,0,none⟩) 1 1) 1 (c1++[ρ m]):=⟨s.1,s.2.imp (λh=>h) λ⟨g,cap,Y,e,_,r⟩=>⟨g,cap,Y,e,Is _,r⟩⟩;have ah:(Instr.buildSlice t 1 #[(0,a.eval x)]).run c.P w=.ok (.slice (some ⟨w.heap.size,0,none⟩) 1 1) (w.alloc (.cells (c1++[ρ m]).toArray el)):=by
  have ak:¬(1*(f.size+1) > 16777216):=by omega
  have h0:¬(1*(f.size+1)=0):=by omega
  simp only[Instr.buildSlice,ABt,nO hu,AB0,hs,At ak,At h0,au,AC4,am,newRow];rfl
 have R:∀b,bk (ρ m) b->b<w.heap.size:=λb k=>(y.objs m _ A).block_lt k;refine Aq (u:=.slice (some ⟨w.heap.size,0,none⟩) 1 1) (w':=w.alloc (.cells (c1++[ρ m]).toArray el)) (by simp[execOp,ah]) (hk _ _ ⟨Ei ρ d (.tuple (.slice (some ⟨w.heap.size,0,none⟩) 1 1 :: [ρ m]).toArray),?_⟩);refine y.swap1P q.K q.O (tl:=[m]) (w':=w.alloc (.cells (c1++[ρ m]).toArray el)) (u:=.slice (some ⟨w.heap.size,0,none⟩) 1 1) (loc:=.tuple (.slice (some ⟨w.heap.size,0,none⟩) 1 1 :: [ρ m]).toArray) (by simpa using ⟨_,A⟩) (λp hp A=>?_) (.inr ai) rfl rfl rfl ?_ ?_ ?_ ?_ ae ?_
 ·grind [Aa]
 ·simp_all
 ·intro b2 o _;exact heap_alloc_old w _ o
 ·intro b2 o;rcases A9.1 o with k|⟨i,u,hi,k⟩
  ·grind [blk]
  ·have:u=ρ m:=by
    rcases i with _|i
    ·simpa using hi.symm
    ·simp at hi
   subst this;exact .inl ⟨m,by simp,.inl k⟩
 ·intro V' J E az;refine⟨_,[ρ m],c1++[ρ m],.inl rfl,by simp[AO],rfl,by rw[J];exact s,λi bh u hi hu=>?_,λi j b u v hi N hu bd=>?_,λi b u hi k o=>?_⟩
  ·rcases i with _|i
   ·simp only[ABG,ABA]at hi hu;subst hi hu;exact⟨c1,ρ m,λj z N=>by simpa using N,B.mono E.O E.heap,.inr ⟨rfl,.inl rfl,Ny.keeps (V:=⟨w,own c.O0 σ ρ,λ_=>False,ρ⟩) E (λb k=>by rw[J];exact heap_alloc_old w _ (R b (.inl k))) al⟩⟩
   ·simp at hi
  ·grind
  ·rcases i with _|i
   ·simp only[ABG,ABA]at hi;subst hi;have:=R b (.inl k);simp[blk]at o;omega
   ·simp at hi
 ·intro V' h1 C;refine⟨h1,?_⟩;rw[C];exact Fb s
def NY (a b:Ty) (k:a.den):List (a.den×b.den)->List (a.den×b.den)
 | []=>[]
 | x :: r=>if Jt a k x.1=true then r else x :: NY a b k r
theorem cI {w:World} {O:Nat->Prop} {a b:Ty} {k:a.den}:∀ {c:List MapEntry} {l:List (a.den×b.den)},J2 w O a b c l->∀i,
  (HX a b k c l i=none/\NY a b k l=l)\/∃(j:Nat) (v:Value),HX a b k c l i=some (i+j,v)/\j<c.length/\J2 w O a b (c.eraseIdx j) (NY a b k l)
 | [],[],_,i=>.inl ⟨rfl,rfl⟩
 | [],_ :: _,h,_=>h.elim
 | _ :: _,[],h,_=>h.elim
 | e :: c,x :: l,⟨h1,o,f⟩,i=>by
  cases d:Jt a k x.1 with
  | true =>
   refine .inr ⟨0,e.val,by simp[HX,d],by simp,?_⟩;simp only[NY,d,ABi,List.eraseIdx_cons_zero];exact f
  | false =>
   rcases cI (k:=k) f (i+1) with ⟨g,m⟩|⟨j,v,g,m,n⟩
   ·grind [HX,NY]
   ·refine .inr ⟨j+1,v,?_,by simp;omega,?_⟩
    ·grind [HX]
    ·simp only[NY,d,ABj,ABK,List.eraseIdx_cons_succ];exact⟨h1,o,n⟩
theorem i7 {a:Array MapEntry} {cl:Nat} (h:Qv a cl) (j:Nat):Qv (a.eraseIdxIfInBounds j) cl:=by
 unfold Qv at h ⊢;rw[ACG];have hs:=(List.eraseIdx_sublist a.toList j).map (·.born);grind
theorem i8 (O:c.Ok) {ops:Array Oper} {rest:List Oper} {n:Nat} {t u:TypeId} {m x:Operand} {ty:TypeId} {pos:String} {after:Array Edge} {d g:Ty} {l:List (d.den×g.den)} {xv:AV} {kd:d.den} {I J:TypeId}
  (X:Ah σ m=some (.mp n)) (ad:Ah σ x=some xv) (hn:lk n σ.objs=some (.mapo d g l)) (U:LX false σ d xv=some kd) (hu:c.P.underlying t=some (.map I J)) (B:UH c.P I d)
  (hk:HZ c R k ops rest ⟨σ.env,upd n (.mapo d g (NY d g kd l)) σ.objs⟩) :
  HZ c R k ops (⟨none,.call ⟨.builtin .delete,#[m,x],#[t,u]⟩,ty,pos,after,none⟩ :: rest) σ:=by
 intro Q T a w ab;unfold wpListIn;rw[BY (by simp[Region.wanted])];obtain⟨ρ,z⟩:=ab;have F:GI (vw w c.O0 σ ρ) σ a.eval:=D6 z.env;obtain⟨ae,b,s,Y⟩:=F m _ X;have s:ρ n=_:=s;have r:=J4 (V:=vw w c.O0 σ ρ) (O':=own c.O0 σ ρ) (λ_ h=>h) (λh=>by cases h) z.objs U (F x _ ad);obtain⟨b',y,cl,p,hh,q,E⟩:=z.objs n _ hn;rw[s]at p;injection p with p
 injection p with p
 subst p;have hh:w.heap[b]?=some (.map y cl):=hh;have r:BX w (own c.O0 σ ρ) d (a.eval x) kd:=r;have q:J2 w (own c.O0 σ ρ) d g y.toList l:=q;have G:=B.find r q;obtain⟨f,aa,S,N⟩:∃f:Array MapEntry,(Builtin.delete_ #[t,u] ty #[.map (some b),a.eval x]).run c.P w=.ok (.tuple #[]) { w with heap:=w.heap.setIfInBounds b (.map f cl) }/\J2 w (own c.O0 σ ρ) d g f.toList (NY d g kd l)/\Qv f cl:=by
  rcases cI (k:=kd) q 0 with ⟨A,C⟩|⟨j,v,A,C,L⟩
  ·refine⟨y,?_,by rw[C];exact q,E⟩;simp[Builtin.delete_,nO hu,ABw hh,B.check _ r,G,A,ACh _ hh]
  ·refine⟨y.eraseIdxIfInBounds j,?_,by rw[ACG];exact L,i7 E j⟩;simp[Builtin.delete_,nO hu,ABw hh,B.check _ r,G,A,ACh _ hh]
 refine Aq (u:=.tuple #[]) (w':={ w with heap:=w.heap.setIfInBounds b (.map f cl) }) (by simp[execOp,resolve,invoke,builtin,Y,aa]) (hk (λo Z=>Q o (by simp[Z])) T _ _ ⟨ρ,?_⟩);have D:blk (ρ n)=some b:=by rw[s];rfl
 have H:w.grownBy { w with heap:=w.heap.setIfInBounds b (.map f cl) } (some b) :=
  ⟨rfl,rfl,rfl,by simp,λi _ hi=>(ACO hh).2 i (λe=>hi (by rw[e]))⟩
 refine z.upd O.K hn D H ⟨b,f,cl,s,(ACO hh).1,?_,N⟩;exact S.mono (λ_ _ h=>h) (λb2 W M=>H.block b2 W (λe=>by injection e with e;subst e;exact M (.inr ⟨n,⟨_,hn⟩,.inl D⟩)))
theorem i9 (j:c.Ok) {ops:Array Oper} {rest:List Oper} {d n:Nat} {t:TypeId} {m:Operand} {ty:TypeId} {pos:String} {after:Array Edge} {r s:Ty} {l:List (r.den×s.den)} {I x:TypeId}
  (C:Ah σ m=some (.mp n)) (hn:lk n σ.objs=some (.mapo r s l)) (hu:c.P.underlying t=some (.map I x)) (B:l.length<=AO)
  (hk:HZ c R k ops rest ⟨(d,.p (.int .i64) (l.length:Int)) :: σ.env,σ.objs⟩) :
  HZ c R k ops (⟨some d,.call ⟨.builtin .len,#[m],#[t]⟩,ty,pos,after,none⟩ :: rest) σ:=by
 intro q A a w G;unfold wpListIn;rw[BY (by simp[Region.wanted])];obtain⟨ρ,g⟩:=G;have z:GI (vw w c.O0 σ ρ) σ a.eval:=D6 g.env;have N:d<c.nt:=Bb (q _ ABP) d rfl;obtain⟨L,b,h,D⟩:=z m _ C;have h:ρ n=_:=h;obtain⟨b',i,cl,f,hh,y,M⟩:=g.objs n _ hn;rw[h]at f;injection f with f
 injection f with f
 subst f;have hh:w.heap[b]?=some (.map i cl):=hh;have H:i.size=l.length:=by rw[<-ACd];exact(cH y).1
 have F:(Builtin.len_ #[t] ty #[.map (some b)]).run c.P w=.ok (.int .i64 (l.length:Int)) w:=by
  simp[Builtin.len_,nO hu,ABw hh,goInt,H]
 refine Aq (u:=.int .i64 (l.length:Int)) (w':=w) (by simp[execOp,resolve,invoke,builtin,D,F]) (hk (λo E=>q o (by simp[E])) A _ _ ⟨ρ,?_⟩);refine g.add j.K j.O (dst:=some d) (λJ e=>by injection e with e;omega) (v:=.p (.int .i64) (l.length:Int)) (obs:=[]) (ρ':=ρ) rfl (QS.still ?_);exact BO (by simp only[AO]at B;simp only[Ky];omega)
theorem AAG (g:c.Ok) {ops:Array Oper} {rest:List Oper} {n:Nat} {t u:TypeId} {m x:Operand} {ty:TypeId} {pos:String} {after:Array Edge} {b:Ty} {a:IntKind} {l:List (Int×b.den)} {xv:AV} {kd:Int} {d f:TypeId} {e:St}
  (hu:c.P.underlying t=some (.map d f)) (j:c.P.underlying d=some (.int a)) (hk:HZ c R k ops rest e) (i:Ah σ m=some (.mp n):=by simp only[go_sem,Nat.reduceEqDiff,reduceCtorEq,Nat.reduceAdd,Nat.reduceSub,Nat.reduceMul,Nat.reduceLeDiff,Nat.reduceLT,Int.reduceLE,Int.reduceToNat,Int.reduceNeg,↓reduceIte];rfl) (o:Ah σ x=some xv:=by simp only[go_sem,Nat.reduceEqDiff,reduceCtorEq,Nat.reduceAdd,Nat.reduceSub,Nat.reduceMul,Nat.reduceLeDiff,Nat.reduceLT,Int.reduceLE,Int.reduceToNat,Int.reduceNeg,↓reduceIte];rfl) (hn:lk n σ.objs=some (.mapo (.int a) b l):=by simp only[go_sem,Nat.reduceEqDiff,reduceCtorEq,Nat.reduceAdd,Nat.reduceSub,Nat.reduceMul,Nat.reduceLeDiff,Nat.reduceLT,Int.reduceLE,Int.reduceToNat,Int.reduceNeg,↓reduceIte];rfl) (h:LX false σ (.int a) xv=some kd:=by simp only[go_sem,Nat.reduceEqDiff,reduceCtorEq,Nat.reduceAdd,Nat.reduceSub,Nat.reduceMul,Nat.reduceLeDiff,Nat.reduceLT,Int.reduceLE,Int.reduceToNat,Int.reduceNeg,↓reduceIte];rfl)
  (p:⟨σ.env,upd n (.mapo (.int a) b (NY (.int a) b kd l)) σ.objs⟩=e:=by simp only[go_sem,Nat.reduceEqDiff,reduceCtorEq,Nat.reduceAdd,Nat.reduceSub,Nat.reduceMul,Nat.reduceLeDiff,Nat.reduceLT,Int.reduceLE,Int.reduceToNat,Int.reduceNeg,↓reduceIte];rfl) :
  HZ c R k ops (⟨none,.call ⟨.builtin .delete,#[m,x],#[t,u]⟩,ty,pos,after,none⟩ :: rest) σ:=i8 g i o hn h hu (Gq rfl j) (p▸hk)
theorem AAH (f:c.Ok) {ops:Array Oper} {rest:List Oper} {d n:Nat} {t:TypeId} {m:Operand} {ty:TypeId} {pos:String} {after:Array Edge} {a b:Ty} {l:List (a.den×b.den)} {i e:TypeId}
  (hu:c.P.underlying t=some (.map i e)) (g:l.length<=AO) (hk:HZ c R k ops rest ⟨(d,.p (.int .i64) (l.length:Int)) :: σ.env,σ.objs⟩) (h:Ah σ m=some (.mp n):=by simp only[go_sem,Nat.reduceEqDiff,reduceCtorEq,Nat.reduceAdd,Nat.reduceSub,Nat.reduceMul,Nat.reduceLeDiff,Nat.reduceLT,Int.reduceLE,Int.reduceToNat,Int.reduceNeg,↓reduceIte];rfl) (hn:lk n σ.objs=some (.mapo a b l):=by simp only[go_sem,Nat.reduceEqDiff,reduceCtorEq,Nat.reduceAdd,Nat.reduceSub,Nat.reduceMul,Nat.reduceLeDiff,Nat.reduceLT,Int.reduceLE,Int.reduceToNat,Int.reduceNeg,↓reduceIte];rfl) :
  HZ c R k ops (⟨some d,.call ⟨.builtin .len,#[m],#[t]⟩,ty,pos,after,none⟩ :: rest) σ:=i9 f h hn hu g hk
end
end
section
open Go Go.RowKit
section
variable {c:Cx} {R:Exit->Act->World->Prop} {k:List Dl} {σ σ':St}
theorem jA (m:c.Ok) {ops:Array Oper} {rest:List Oper} {d:Nat} {t Q:TypeId} {x y:Operand} {ty:TypeId} {pos:String} {after:Array Edge} {i j:IntKind} {offs:List (Nat×Nat)} {z:Nat} {xv s:AV} {b f:Int×Int}
  (L:lk t c.tb.ty=some ⟨.agg (.prod (.int i) (.int j)),offs,0,z⟩) (M:Ah σ x=some xv) (N:Ah σ y=some s) (D:LX false σ (.agg (.prod (.int i) (.int j))) xv=some b) (E:LX false σ (.agg (.prod (.int i) (.int j))) s=some f)
  (hk:HZ c R k ops rest ⟨(d,.p .bool (b.1==f.1&&b.2==f.2)) :: σ.env,σ.objs⟩) :
  HZ c R k ops (⟨some d,.binOp .eql t x y Q,ty,pos,after,none⟩ :: rest) σ:=by
 intro q G a w J;unfold wpListIn;rw[BY (by simp[Region.wanted])];obtain⟨ρ,l⟩:=J;have r:GI (vw w c.O0 σ ρ) σ a.eval:=D6 l.env;have X:d<c.nt:=Bb (q _ ABP) d rfl;have hp:Mu c.P t i j:=(m.T _ _ L).1.1.2.2;have h1:=J4 (V:=vw w c.O0 σ ρ) (O':=own c.O0 σ ρ) (λ_ h=>h) (λh=>by cases h) l.objs D (r x _ M);have g:=J4 (V:=vw w c.O0 σ ρ) (O':=own c.O0 σ ρ) (λ_ h=>h) (λh=>by cases h) l.objs E (r y _ N);have h1:a.eval x=.agg #[.int i b.1,.int j b.2]:=Fd h1;have g:a.eval y=.agg #[.int i f.1,.int j f.2]:=Fd g;have I:(binOp .eql t (a.eval x) (a.eval y)).run c.P w=.ok (.bool (b.1==f.1&&b.2==f.2)) w:=by
  rw[h1,g];have:=UI hp w b.1 b.2 f.1 f.2;simp only[binOp];simp[this]
 have F:(eqGuard .eql t x y (a.eval x) (a.eval y)).run c.P w=.ok () w:=by
  obtain⟨U,W,hu,-,-,⟨A,B⟩,-⟩:=hp;rw[h1,g];refine run_eqGuard_agg (P:=c.P) w .eql t x y _ _ ?_;have C:∃n,c.P.depth=n+2:=⟨_,rfl⟩;obtain⟨n,hn⟩:=C;rw[hn];simp[Program.eqGuardType,hu,A,B]
 refine Aq (u:=.bool (b.1==f.1&&b.2==f.2)) (w':=w) (by simp[execOp,F,I]) (hk (λo H=>q o (by simp[H])) G _ _ ⟨ρ,?_⟩);refine l.add m.K m.O (dst:=some d) (λS e=>by injection e with e;omega) (v:=.p .bool (b.1==f.1&&b.2==f.2)) (obs:=[]) (ρ':=ρ) rfl (QS.still ?_);exact⟨[.bool (b.1==f.1&&b.2==f.2)],rfl,rfl⟩
theorem AAI (g:c.Ok) {ops:Array Oper} {rest:List Oper} {d:Nat} {t q:TypeId} {x y:Operand} {ty:TypeId} {pos:String} {after:Array Edge} {i j:IntKind} {offs:List (Nat×Nat)} {f:Nat} {xv e:AV} {a b:Int×Int}
  (hk:HZ c R k ops rest ⟨(d,.p .bool (a.1==b.1&&a.2==b.2)) :: σ.env,σ.objs⟩) (m:lk t c.tb.ty=some ⟨.agg (.prod (.int i) (.int j)),offs,0,f⟩:=by rfl) (n:Ah σ x=some xv:=by simp only[go_sem,Nat.reduceEqDiff,reduceCtorEq,Nat.reduceAdd,Nat.reduceSub,Nat.reduceMul,Nat.reduceLeDiff,Nat.reduceLT,Int.reduceLE,Int.reduceToNat,Int.reduceNeg,↓reduceIte];rfl) (o:Ah σ y=some e:=by simp only[go_sem,Nat.reduceEqDiff,reduceCtorEq,Nat.reduceAdd,Nat.reduceSub,Nat.reduceMul,Nat.reduceLeDiff,Nat.reduceLT,Int.reduceLE,Int.reduceToNat,Int.reduceNeg,↓reduceIte];rfl)
  (h:LX false σ (.agg (.prod (.int i) (.int j))) xv=some a:=by simp only[go_sem,Nat.reduceEqDiff,reduceCtorEq,Nat.reduceAdd,Nat.reduceSub,Nat.reduceMul,Nat.reduceLeDiff,Nat.reduceLT,Int.reduceLE,Int.reduceToNat,Int.reduceNeg,↓reduceIte];rfl) (l:LX false σ (.agg (.prod (.int i) (.int j))) e=some b:=by simp only[go_sem,Nat.reduceEqDiff,reduceCtorEq,Nat.reduceAdd,Nat.reduceSub,Nat.reduceMul,Nat.reduceLeDiff,Nat.reduceLT,Int.reduceLE,Int.reduceToNat,Int.reduceNeg,↓reduceIte];rfl) :
  HZ c R k ops (⟨some d,.binOp .eql t x y q,ty,pos,after,none⟩ :: rest) σ:=jA g m n o h l hk
end
end
section
open Go Go.RowKit
section
variable {c:Cx} {σ:St} {ens:EN} {N:St->Prop}
theorem jB (J:c.Ok) {d m len:Nat} {t:TypeId} {x:Operand} {ty:TypeId} {pos:String} {after:Array Edge} {j e:Ty} {offs:List (Nat×Nat)} {el q:TypeId} {C:Nat} {A:AV} {a0:j.den} {xs:List e.den}
  (ab:lk t c.tb.ty=some ⟨.slice (.agg (.prod j (.slice e))),offs,el,C⟩) (ad:Ah σ x=some (.ag [A,.sr m e 0 len])) (I:Eh false σ j A=some a0) (i:lk m σ.objs=some (.arr q e xs)) (P:len=xs.length)
  (V:(c.ds.pin.all λp=>!AY p.1 [m])=true) (O:lk d σ.objs=none) (Z:j.size+1<=16777216)
  (z:IE ⟨some d,.buildSlice t 1 #[(0,x)],ty,pos,after,none⟩ ens=true) (hn:HK [m] σ.objs ens=true) (hf:IG [m] ens=ens) (M:MM [(d,.nest el q j e [(a0,xs)] none)] ens=true) (K:d<c.nt)
  (F:N ⟨(d,.sr d (.agg (.prod j (.slice e))) 0 1) :: Ba [m] σ.env,(d,.nest el q j e [(a0,xs)] none) :: Al [m] [m] σ.objs⟩) :
  UY c ⟨some d,.buildSlice t 1 #[(0,x)],ty,pos,after,none⟩ σ ens N:=by
 intro X σ' k g a w next Q Y S
 have L:∀s v,lk s X.env=some v->v.fgt [m]=v:=λs v hs=>by
  obtain⟨obs,i⟩:=g.env s v hs;exact K7 hf _ i
 have y:ZC σ σ':=by
  intro n o l;rw[k.objs];cases b:lk n X.objs with
  | none=>exact l
  | some ae =>
   obtain⟨e,f,hp⟩:=g.objs n ae b;rw[(DS hn e f _ hp).1]at l;cases l
 have R:∀n o,lk n X.objs=some o->n ∉ [m]:=λn o T=>by
  obtain⟨e,f,hp⟩:=g.objs n o T;exact(DS hn e f _ hp).2.1
 have H:∀t∈[x].filterMap Ni,lk t X.env=none:=λt aa=>by
  cases b:lk t X.env with
  | none=>rfl
  | some v =>
   obtain⟨obs,i⟩:=g.env t v b;refine absurd ?_ (DR z _ i).1;simpa[Ga,Op.operands] using aa
 have af:lk d X.env=none:=by
  cases b:lk d X.env with
  | none=>rfl
  | some v=>obtain⟨obs,i⟩:=g.env d v b;exact absurd rfl (DR z _ i).2
 have G:lk d X.objs=none:=by
  cases b:lk d X.objs with
  | none=>rfl
  | some u =>
   obtain⟨e,f,hp⟩:=g.objs d u b;have:=II M e f _ hp;simp[lk]at this
 have U:=Pj k H;refine A0p J (xs:=xs) (a0:=a0) ab (by rw[U x (by simp)];exact ad) (Hn y I) (y m _ i) P V (by rw[k.objs,G,O];rfl) Z Y K λB w' W=>S _ F B w' _ ⟨λs=>?_,λn=>?_⟩ W
 ·have ah:lk s (Ba [m] σ'.env)=(lk s X.env).or (lk s (Ba [m] σ.env)):=by
   rw[DK,DK,k.env];cases b:lk s X.env with
   | none=>rfl
   | some v=>simp[L s v b]
  grind [lk]
 ·simp only[lk,BS,k.objs];by_cases r:n=d
  ·grind
  ·rw[At r,At r];cases b:lk n X.objs with
   | none=>simp
   | some u =>
    have E:K6 u=true:=by
     obtain⟨e,f,hp⟩:=g.objs n u b;exact(DS hn e f _ hp).2.2
    have D:¬AY n [m]=true:=λh=>R n _ b ((Aa _ _).1 h);rw[At D];exact ABr some (RE E)
theorem AAJ (j:c.Ok) {d m len:Nat} {t:TypeId} {x:Operand} {ty:TypeId} {pos:String} {after:Array Edge} {a e:Ty} {offs:List (Nat×Nat)} {el b:TypeId} {g:Nat} {f:AV} {a0:a.den} {xs:List e.den} {τ:St}
  (o:len=xs.length) (h:N τ) (w:Ah σ x=some (.ag [f,.sr m e 0 len]):=by simp only[go_sem,Nat.reduceEqDiff,reduceCtorEq,Nat.reduceAdd,Nat.reduceSub,Nat.reduceMul,Nat.reduceLeDiff,Nat.reduceLT,Int.reduceLE,Int.reduceToNat,Int.reduceNeg,↓reduceIte];rfl) (v:lk t c.tb.ty=some ⟨.slice (.agg (.prod a (.slice e))),offs,el,g⟩:=by rfl) (i:Eh false σ a f=some a0:=by simp only[go_sem,Nat.reduceEqDiff,reduceCtorEq,Nat.reduceAdd,Nat.reduceSub,Nat.reduceMul,Nat.reduceLeDiff,Nat.reduceLT,Int.reduceLE,Int.reduceToNat,Int.reduceNeg,↓reduceIte];rfl) (q:lk m σ.objs=some (.arr b e xs):=by simp only[go_sem,Nat.reduceEqDiff,reduceCtorEq,Nat.reduceAdd,Nat.reduceSub,Nat.reduceMul,Nat.reduceLeDiff,Nat.reduceLT,Int.reduceLE,Int.reduceToNat,Int.reduceNeg,↓reduceIte];rfl)
  (r:(c.ds.pin.all λp=>!AY p.1 [m])=true:=by rfl) (n:lk d σ.objs=none:=by simp only[go_sem,Nat.reduceEqDiff,reduceCtorEq,Nat.reduceAdd,Nat.reduceSub,Nat.reduceMul,Nat.reduceLeDiff,Nat.reduceLT,Int.reduceLE,Int.reduceToNat,Int.reduceNeg,↓reduceIte]) (u:a.size+1<=16777216:=by decide)
  (s:IE ⟨some d,.buildSlice t 1 #[(0,x)],ty,pos,after,none⟩ ens=true:=by rfl) (hn:HK [m] σ.objs ens=true:=by rfl) (hf:IG [m] ens=ens:=by simp only[go_sem,Nat.reduceEqDiff,reduceCtorEq,Nat.reduceAdd,Nat.reduceSub,Nat.reduceMul,Nat.reduceLeDiff,Nat.reduceLT,Int.reduceLE,Int.reduceToNat,Int.reduceNeg,↓reduceIte]) (l:MM [(d,.nest el b a e [(a0,xs)] none)] ens=true:=by rfl) (k:HY c.nt ⟨some d,.buildSlice t 1 #[(0,x)],ty,pos,after,none⟩=true:=by rfl)
  (y:⟨(d,.sr d (.agg (.prod a (.slice e))) 0 1) :: Ba [m] σ.env,(d,.nest el b a e [(a0,xs)] none) :: Al [m] [m] σ.objs⟩=τ:=by simp only[go_sem,Nat.reduceEqDiff,reduceCtorEq,Nat.reduceAdd,Nat.reduceSub,Nat.reduceMul,Nat.reduceLeDiff,Nat.reduceLT,Int.reduceLE,Int.reduceToNat,Int.reduceNeg,↓reduceIte];rfl) :
  UY c ⟨some d,.buildSlice t 1 #[(0,x)],ty,pos,after,none⟩ σ ens N:=jB j v w i q o r n u s hn hf l (Bb k d rfl) (y▸h)
end
end
section
open Go Go.RowKit
def jC:AV->Bool
 | .p t _=>t.flat
 | _=>false
theorem Xh {V V':Vw}:∀ {fs:List AV} {cs:List Value},fs.all jC=true->DZ V fs cs->DZ V' fs cs
 | [],_,_,h=>h
 | x :: r,cs,hf,h=>by
  rw[ABH,As]at hf;obtain⟨c1,c2,rfl,h1,a⟩:=h;refine⟨c1,c2,rfl,?_,Xh hf.2 a⟩;cases x with
  | p t d=>exact J5 hf.1 h1
  | _=>cases hf.1
section
variable {c:Cx} {R:Exit->Act->World->Prop} {k:List Dl} {σ:St}
theorem A0q (ag:c.Ok) {ops:Array Oper} {rest:List Oper} {d:Nat} {g x y:Operand} {ts:Array TypeId} {ty:TypeId} {pos:String} {after:Array Edge} {f q:FuncId} {n m i len:Nat} {e H:Ty} {et bp A:TypeId} {N:List (H.den×List e.den)} {st:Bool} {fs:List AV} {row:List e.den} {D:Bool}
  (J:BA c.P f [.p (.slice e) row,.clo q [1]] [(1,.box A st fs)] [1] (λres W=>res=.p .bool D/\W=[(1,.box A st fs)]))
  (am:Ah σ g=some (.fn f)) (bl:Ah σ x=some (.nin n e i len)) (bm:Ah σ y=some (.clo q [m])) (hn:lk n σ.objs=some (.nest et bp H e N none)) (bd:(N.getD i (H.dflt,[])).2=row) (G:lk m σ.objs=some (.box A st fs)) (ak:fs.all jC=true)
  (hk:HZ c R k ops rest ⟨(d,.p .bool D) :: σ.env,σ.objs⟩) :
  HZ c R k ops (⟨some d,.call ⟨.value g,#[x,y],ts⟩,ty,pos,after,none⟩ :: rest) σ:=by
 intro M ap a w bf;unfold wpListIn;rw[BY (by simp[Region.wanted])];obtain⟨ρ,l⟩:=bf;have aj:∀E,some d=some E->E<c.nt:=λE h=>Bb (M _ ABP) E h;have L:GI (vw w c.O0 σ ρ) σ a.eval:=D6 l.env;obtain⟨⟨fn,al,az,ae⟩,J⟩:=J;have an:a.eval g=.func (.func f) #[] #[]:=L g _ am;obtain⟨-,bx,ad,bq,bw,U,T,av,bs⟩:=L x _ bl;obtain⟨bo,bn⟩:=L y _ bm;have B:Gp σ m:=⟨_,G⟩;have ar:Gp σ n:=⟨_,hn⟩;have ba:n≠m:=λe=>by rw[e,G]at hn;cases hn
 let objs:List (Nat×Obj):=[(1,.box A st fs)]
 let C:Nat->Value:=λ_=>ρ m
 let I:Nat->Prop:=λb=>b<w.heap.size/\¬bk (ρ m) b
 have S:∀b,own (λ_=>False) ⟨[],objs⟩ C b->bk (ρ m) b:=by
  rintro b (h|⟨t,-,h⟩)
  ·exact h.elim
  ·exact h
 have af:∀ {V V':Vw} {loc:Value},V'.w=V.w->A3 V (.box A st fs) loc->A3 V' (.box A st fs) loc:=by
  rintro V V' loc bj ⟨h0,b,cs,aq,hh,ai⟩;exact⟨h0,b,cs,aq,by rw[bj];exact hh,Xh ak ai⟩
 have aw:iV I (λ_=>False) objs C w:=by
  refine⟨λt o r=>?_,λt b _ j=>⟨λZ=>Z.2 j,λh=>h⟩,λn1 bt b h1 F _ _=>?_⟩
  ·simp only[objs,lk]at r;split at r
   ·cases r;exact af (V:=vw w c.O0 σ ρ) rfl (l.objs m _ G)
   ·cases r
  ·obtain⟨bu,h1⟩:=h1;obtain⟨bv,F⟩:=F;grind [lk]
 have bb:Br w (own (λ_=>False) ⟨[],objs⟩ C) (.slice e) [a.eval x] row:=by
  have ao:N[i]?=some (N.getD i (H.dflt,[])):=by
   exact TA (l.objs n _ hn) U T
  rw[<-bd];refine mQ (V:=vw w c.O0 σ ρ) (λb j h=>j (.inr ⟨m,B,S b h⟩)) (λb j h=>?_) (l.objs n _ hn) U T av ao;exact ba (l.dist n m b ar B j (S b h))
 have ab:Iy (vw w (λ_=>False) ⟨[],objs⟩ C) [.p (.slice e) row,.clo q [1]] [a.eval x,a.eval y]:=by
  refine⟨_,_,rfl,⟨_,bb,rfl⟩,_,_,rfl,⟨bo,λt ay=>?_⟩,rfl⟩;have:t=1:=ABe.1 ay;subst this;exact⟨⟨_,rfl⟩,(bn m (by simp)).2⟩
 have ah:=J w I (λ_=>False) C [a.eval x,a.eval y] (λb j=>j.1) (λb j=>j.elim) aw ab;have be:(execOp a.eval ⟨some d,.call ⟨.value g,#[x,y],ts⟩,ty,pos,after,none⟩).run c.P w=.ok (.enter f [a.eval x,a.eval y].toArray) w:=by
  have X : ¬ fn.name = "runtime.NumGoroutine" := by simpa using az
  have Y:¬fn.body=none:=by intro e;simp[e]at ae
  simp[execOp,resolve,Deferred.ofValue,an,invoke,callFunc,al,X,Y]
 refine⟨λ_ _=>trivial,?_⟩;rw[Fe _ _ _ (λcl e=>by cases e),be,AD7];refine⟨λh=>(by simp[FR]at h),Ku (ah.mono λe w' hh=>?_)⟩;obtain⟨u,rfl,res,W,ρ',⟨rfl,rfl⟩,z,ax,bc,bg⟩:=hh;have br:ρ' 1=ρ m:=bg 1 (by simp);have O:CS (vw w c.O0 σ ρ) (vw w' c.O0 ⟨(d,.p .bool D) :: σ.env,σ.objs⟩ ρ):=by
  refine⟨λb _ j=>j,λt h=>h,λ_ _=>rfl,λb au j=>z.block b ⟨au,λh=>j (.inr ⟨m,B,h⟩)⟩⟩
 have aa:∀b,c.K b->I b:=λb j=>⟨AB8 (ag.K b j) l.frm.size,λh=>(l.free m b B h).1 j⟩;refine hk (λo r=>M o (by simp[r])) ap _ _ ⟨ρ,⟨z.os.trans l.frm.os,z.tape.trans l.frm.tape,z.output.trans l.frm.output,Qo l.frm.size z.size,λb j=>(z.block b (aa b j)).trans (l.frm.block b j)⟩,by rw[J3];exact l.nt,by rw[GW];exact l.defers,l.pin,λt o r=>?_,l.free,l.dist,λs v bh=>?_⟩
 ·by_cases Q:t=m
  ·subst Q;have r:lk t σ.objs=some o:=r;rw[G]at r;cases r;have h1:=ax.obj 1 _ rfl;grind [vw]
  ·refine A3.keeps O (λb j=>?_) (l.objs t o r);exact z.block b ⟨(l.objs t o r).block_lt j,λh=>Q (l.dist t m b ⟨o,r⟩ B j h)⟩
 ·refine nF (c:=c) (dst:=some d) (res:=.p .bool D) l.nt aj ?_ (λs v bi=>(l.env s v bi).keeps O) bh;obtain⟨cs,h1,F⟩:=bc;exact⟨cs,J5 rfl h1,F⟩
theorem AAK (l:c.Ok) {ops:Array Oper} {rest:List Oper} {d:Nat} {g x y:Operand} {ts:Array TypeId} {ty:TypeId} {pos:String} {after:Array Edge} {f q:FuncId} {n m i len:Nat} {e b:Ty} {et w a:TypeId} {N:List (b.den×List e.den)} {st:Bool} {fs:List AV} {row:List e.den} {h:Bool}
  (j:BA c.P f [.p (.slice e) row,.clo q [1]] [(1,.box a st fs)] [1] (λres z=>res=.p .bool h/\z=[(1,.box a st fs)])) (t:(N.getD i (b.dflt,[])).2=row)
  (hk:HZ c R k ops rest ⟨(d,.p .bool h) :: σ.env,σ.objs⟩) (r:Ah σ g=some (.fn f):=by simp only[go_sem,Nat.reduceEqDiff,reduceCtorEq,Nat.reduceAdd,Nat.reduceSub,Nat.reduceMul,Nat.reduceLeDiff,Nat.reduceLT,Int.reduceLE,Int.reduceToNat,Int.reduceNeg,↓reduceIte]<;>rfl) (u:Ah σ x=some (.nin n e i len):=by simp only[go_sem,Nat.reduceEqDiff,reduceCtorEq,Nat.reduceAdd,Nat.reduceSub,Nat.reduceMul,Nat.reduceLeDiff,Nat.reduceLT,Int.reduceLE,Int.reduceToNat,Int.reduceNeg,↓reduceIte];rfl) (v:Ah σ y=some (.clo q [m]):=by simp only[go_sem,Nat.reduceEqDiff,reduceCtorEq,Nat.reduceAdd,Nat.reduceSub,Nat.reduceMul,Nat.reduceLeDiff,Nat.reduceLT,Int.reduceLE,Int.reduceToNat,Int.reduceNeg,↓reduceIte];rfl)
  (hn:lk n σ.objs=some (.nest et w b e N none):=by simp only[go_sem,Nat.reduceEqDiff,reduceCtorEq,Nat.reduceAdd,Nat.reduceSub,Nat.reduceMul,Nat.reduceLeDiff,Nat.reduceLT,Int.reduceLE,Int.reduceToNat,Int.reduceNeg,↓reduceIte];rfl) (s:lk m σ.objs=some (.box a st fs):=by simp only[go_sem,Nat.reduceEqDiff,reduceCtorEq,Nat.reduceAdd,Nat.reduceSub,Nat.reduceMul,Nat.reduceLeDiff,Nat.reduceLT,Int.reduceLE,Int.reduceToNat,Int.reduceNeg,↓reduceIte]<;>rfl) (o:fs.all jC=true:=by rfl) :
  HZ c R k ops (⟨some d,.call ⟨.value g,#[x,y],ts⟩,ty,pos,after,none⟩ :: rest) σ:=A0q l j r u v hn t s o hk
end
end
end Go.Proofs.YtdapahgnpbehbaaGreat.Fw
