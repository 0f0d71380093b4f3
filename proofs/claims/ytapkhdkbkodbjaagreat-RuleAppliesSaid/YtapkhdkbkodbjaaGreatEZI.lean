/- Range over a function; scopes; several steps in one. -/
import Derived.Test.YtapkhdkbkodbjaaGreatEZH
import Derived.RangeFuncFrom
import Derived.Scope
import Derived.Laws.IdiomRangeMap
import Derived.Laws.StructEq
set_option linter.unusedVariables false
set_option linter.unusedSimpArgs false
namespace Go.Proofs.YtapkhdkbkodbjaaGreat.Fw
section
open Go Go.RowKit
theorem kB {V:Vw} {f:FuncId} {ns:List Nat} {v:Value} (h:CE V (.clo f ns) v):v=.func (.func f) #[] (ns.map V.ρ).toArray/\Jz V (ns.map λn=>AV.bp n [] 0) (ns.map V.ρ):=by
 refine⟨h.1,?_⟩;have h0:∀l:List Nat,(∀n∈l,n∈ns)->Jz V (l.map λn=>AV.bp n [] 0) (l.map V.ρ):=by
  intro l;induction l with
  | nil=>intro _;exact rfl
  | cons n r g =>
   intro c;obtain⟨d,b,a⟩:=h.2 n (c n sc);exact⟨V.ρ n,r.map V.ρ,rfl,⟨d,b,a,a⟩,g λx e=>c x (by simp[e])⟩
 exact h0 ns λ_ h=>h
def aE (P:Program) (yn:Nat) (A:List AV) (objs:List (Nat×Obj)) (stay:List Nat) (post:AV->List (Nat×Obj)->Prop):Prop :=
 ∀(w:World) (K O0:Nat->Prop) (ρ:Nat->Value) (a:List Value) (b:Nat),(∀b,K b->b<w.heap.size)->(∀b,O0 b->b<w.heap.size)->yW K O0 objs ρ w->Jz (vw w O0 ⟨[],objs⟩ ρ) A a ->
  ρ yn=.pointer (some ⟨b,0,none⟩)->YieldAt (FR none) 0 P b a.toArray w λe w'=>∃u,e=.returned u/\Mz K O0 stay w ρ post u w'
section
variable {c:Cx} {R:Exit->Act->World->Prop} {k:List Dg} {σ:St}
def kC (n:Nat):Option AV->Bool
 | some (.yl m)=>m==n
 | _=>false
theorem A2c (N:c.Ok) (Y:c.r=none) {o:Oper} {dst:Option Nat} {g:Operand} {xs:List Operand} {ts:Array TypeId} (t:o.op=.call { callee:=.value g,args:=xs.toArray,argTypes:=ts }) (R:o.dst=dst)
  {n yn:Nat} (f:kC n (Am σ g)=true) {as:List AV} (L:J0 σ xs=some as)
  {A:List AV} {objs:List (Nat×Obj)} {stay:List Nat} {post:AV->List (Nat×Obj)->Prop} (H:aE c.P yn A objs stay post)
  (ren:List (Nat×CB)) (ad:lk yn ren=some (.nm n)) (h1:CM ren=true) (C:Cc objs ren=true) (F:Bc σ ren as A) (I:Ai σ.objs ren objs)
  (hs:List Nat) (W:(c.ds.pin.all λp=>!Ad p.1 hs)=true) {next:Act->World->Prop} {Q:Exit->Act->World->Prop} {a:Act} {w:World} (aa:c.sat σ a w) (O:∀d,dst=some d->d<c.nt)
  (hk:∀res x,post res x->∃(i:List (Nat×CB)) (y:AV) (j:List (Nat×Obj)),CM i=true/\Cc j i=true/\Ai x i j/\B9 i res y /\
   JV ren i stay hs=true/\Fu (Ao ren) j σ.objs=true/\∀l w',c.sat (Cg σ (Ao ren) hs dst y j) l w'->next l w'):o.wpIn (FR c.r) 0 c.P a w next Q:=by
 obtain⟨ρ,v⟩:=aa;have s:G9 (vw w c.O0 σ ρ) σ a.eval:=E0 v.env;obtain⟨b,ae,S⟩:∃b:Nat,ρ n=.pointer (some ⟨b,0,none⟩)/\a.eval g=.func (.yield b) #[] #[]:=by
  cases k:Am σ g with
  | none=>rw[k]at f;simp[kC]at f
  | some q =>
   rw[k]at f;have T:=s g q k;cases q<;>simp only[kC]at f<;>try(cases f;done)
   rename_i m;have U:m=n:=by simpa using f
   subst U;obtain⟨_,b,D,E⟩:=T;exact⟨b,D,E⟩
 obtain⟨z,B,ag,G,J,V,M,af,X⟩:=Sk N v (eL s L) stay post ren h1 C F I hs W O hk;obtain⟨fn,tmps,assign,body,ab,K⟩:=H w z B ag (xs.map a.eval) b G J V M ((af _ _ ad).trans ae);have Z:(execOp a.eval o).run c.P w=.ok (.round b fn tmps assign body) w:=by
  simp[execOp,t,resolve,Deferred.ofValue,S,invoke];simpa using ab
 refine⟨λ_ _=>trivial,?_⟩;rw[HZ _ _ _ (λcl e=>by rw[t]at e;cases e),Z,Oper.uponIn_round];refine⟨λh=>(by simp[FR]at h),?_⟩;rw[Y];refine K.mono λe w' hh=>?_;obtain⟨u,rfl,hh⟩:=hh;rw[R];exact X u w' hh
theorem y9 (C:c.Ok) (I:c.r=none) {ops:Array Oper} {rest:List Oper} {dst:Option Nat} {g:Operand} {xs:List Operand} {ts:Array TypeId} {ty:TypeId} {pos:String} {after:Array Edge}
  {n yn:Nat} (D:kC n (Am σ g)=true) {as:List AV} (B:J0 σ xs=some as)
  {A:List AV} {objs:List (Nat×Obj)} {stay:List Nat} {post:AV->List (Nat×Obj)->Prop} (y:aE c.P yn A objs stay post)
  (ren:List (Nat×CB)) (hs:List Nat) (L:lk yn ren=some (.nm n)) (h1:CM ren=true) (u:Cc objs ren=true) (H:(c.ds.pin.all λp=>!Ad p.1 hs)=true) (v:Bc σ ren as A) (z:Ai σ.objs ren objs)
  (hk:∀res e,post res e->∃(b:List (Nat×CB)) (f:AV) (d:List (Nat×Obj)),CM b=true/\Cc d b=true/\Ai e b d/\B9 b res f /\
   JV ren b stay hs=true/\Fu (Ao ren) d σ.objs=true/\JK c R k ops rest (Cg σ (Ao ren) hs dst f d)) :
  JK c R k ops (⟨dst,.call ⟨.value g,xs.toArray,ts⟩,ty,pos,after,none⟩ :: rest) σ:=by
 intro h E a w K;unfold wpListIn;rw[BY (by simp[Region.wanted])];refine A2c C I (xs:=xs) (ts:=ts) rfl rfl D B y ren L h1 u v z hs H K (B2 (h _ sc)) λres e G=>?_;obtain⟨b,f,d,j,l,m,q,s,t,x⟩:=hk res e G;exact⟨b,f,d,j,l,m,q,s,t,λi w' J=>x (λo F=>h o (by simp[F])) E i w' J⟩
end
def Ib:List Nat->List AV->List (Nat×AV)->List (Nat×AV)
 | p :: a,x :: xs,e=>Ib a xs ((p,x) :: e)
 | _,_,e=>e
def cY (P:Program) (tb:Tb) (w0:World) (K O0:Nat->Prop) (nt l:Nat) (pin:List (Nat×Value)):Cx:={ P:=P,tb:=tb,w0:=w0,K:=K,O0:=O0,nt:=nt,ds:={ pin:=pin },r:=some l }
theorem A2d {P:Program} {tb:Tb} {w0:World} {K O0:Nat->Prop} {nt l:Nat} {pin:List (Nat×Value)}:(cY P tb w0 K O0 nt l pin).tb=tb:=rfl
def pZ (P:Program) (l:Nat) (w0:World) (K O0:Nat->Prop) (stay:List Nat) (ρ0:Nat->Value) (post:AV->List (Nat×Obj)->Prop):Exit->Act->World->Prop :=
 roundPost P l λe w'=>∃u,e=.returned u/\Mz K O0 stay w0 ρ0 post u w'
theorem vF {V:Vw}:∀(b:List Nat) (A:List AV) (c:List Value) (e:List (Nat×AV)) (a:Array Value),Jz V A c->(∀p∈b,p<a.size)->A.length=b.length->(∀s x,lk s e=some x->CE V x (a.getD s undef)) ->
  (∀s x,lk s (Ib b A e)=some x->CE V x (((b.zip c).foldl (λt (p,v)=>t.setIfInBounds p v) a).getD s undef))/\((b.zip c).foldl (λt (p,v)=>t.setIfInBounds p v) a).size=a.size
 | [],_,_,e,a,_,_,_,h=>by simpa[Ib] using h
 | p :: b,[],_,e,a,_,_,d,_=>by simp at d
 | p :: b,x :: A,c,e,a,⟨v,r,l,h1,i⟩,g,d,h=>by
  subst l;simp only[ADF,On,Ib];have m:=vF b A r ((p,x) :: e) (a.setIfInBounds p v) i (λq k=>by simpa using g q (by simp[k])) (by simpa using d) (λs y hs=>by
   have f:=LE { tmps:=a,defers:=[] } p v s (g p sc);have f:(a.setIfInBounds p v).getD s undef=if s=p then v else a.getD s undef:=f
   rw[f];simp only[lk]at hs;split at hs
   .grind
   rename_i j;rw[At j];exact h s y hs)
  grind
section
variable {P:Program} {tb:Tb} {w0:World} {K O0:Nat->Prop} {nt l:Nat} {stay:List Nat} {ρ0:Nat->Value} {post:AV->List (Nat×Obj)->Prop} {σ:St} {pin:List (Nat×Value)}
theorem Qw {c:Cx} (i:c.Ok) {σ:St} {a:Act} {w:World} {ρ:Nat->Value} (hs:B0 c.w0 c.K c.O0 c.nt c.ds σ ρ a w) {yn b:Nat} {L:Go.Loop} (h:lk yn σ.objs=some (.loop L)) (d:ρ yn=.pointer (some ⟨b,0,none⟩)) (e:Go.Loop) :
  w.heap[b]?=some (.loop L)/\B0 c.w0 c.K c.O0 c.nt c.ds ⟨σ.env,upd yn (.loop e) σ.objs⟩ ρ a (w.putObj b (.loop e)):=by
 obtain⟨k,h1,f⟩:=hs.objs yn _ h;rw[d]at h1;injection h1 with h1
 injection h1 with h1
 injection h1 with h1
 subst h1;have j:b<w.heap.size:=CU f;refine⟨f,hs.upd i.K h (g:=b) (by rw[d];rfl) (grownBy_putObj' w b _) ?_⟩;exact⟨b,d,World.putObj_heap_same j⟩
theorem So (f:(cY P tb w0 K O0 nt l pin).Ok) {yn:Nat} {L:Go.Loop} (g:lk yn σ.objs=some (.loop L)) (i:pin=stay.map λn=>(n,ρ0 n)) (j:yn∈stay) (e:ρ0 yn=.pointer (some ⟨l,0,none⟩))
  (h:post (.p .bool true) (upd yn (.loop { L with state:=.ready,pending:=none }) σ.objs)) :
  Ev (cY P tb w0 K O0 nt l pin) (pZ P l w0 K O0 stay ρ0 post) (.out .normal) [] σ:=by
 intro _ _ a w hs;obtain⟨ρ,hs⟩:=hs;have c:∀n∈stay,ρ n=ρ0 n:=λn hn=>(hs.pin (n,ρ0 n) (by rw[show (cY P tb w0 K O0 nt l pin).ds.pin=pin from rfl,i];exact DO.2 ⟨n,hn,rfl⟩)).2.1;obtain⟨d,b⟩:=Qw f hs g ((c _ j).trans e) { L with state:=.ready,pending:=none };refine⟨_,_,run_endRound none d,.bool true,rfl,.p .bool true,_,ρ,h,b.frm,⟨b.objs,b.free,b.dist⟩,⟨_,rfl,rfl⟩,c⟩
theorem aF (f:(cY P tb w0 K O0 nt l pin).Ok) {yn:Nat} {L:Go.Loop} (g:lk yn σ.objs=some (.loop L)) (i:pin=stay.map λn=>(n,ρ0 n)) (j:yn∈stay) (e:ρ0 yn=.pointer (some ⟨l,0,none⟩))
  (h:post (.p .bool false) (upd yn (.loop { L with state:=.done,pending:=some .ret }) σ.objs)) :
  Ev (cY P tb w0 K O0 nt l pin) (pZ P l w0 K O0 stay ρ0 post) (.out .ret) [] σ:=by
 intro _ _ a w hs;obtain⟨ρ,hs⟩:=hs;have c:∀n∈stay,ρ n=ρ0 n:=λn hn=>(hs.pin (n,ρ0 n) (by rw[show (cY P tb w0 K O0 nt l pin).ds.pin=pin from rfl,i];exact DO.2 ⟨n,hn,rfl⟩)).2.1;obtain⟨d,b⟩:=Qw f hs g ((c _ j).trans e) { L with state:=.done,pending:=some .ret };refine⟨_,_,run_endRound (some .ret) d,.bool false,rfl,.p .bool false,_,ρ,h,b.frm,⟨b.objs,b.free,b.dist⟩,⟨_,rfl,rfl⟩,c⟩
def AAW (c:Cx) (R:Exit->Act->World->Prop) (yn:Nat) (L:Go.Loop) (a:Code) (σ:St):Prop :=
 lk yn σ.objs=some (.loop L)/\Ev c R (.run a) [] ⟨σ.env,upd yn (.loop { L with state:=.busy }) σ.objs⟩
theorem kD {yn fr:Nat} {A:List AV} {objs:List (Nat×Obj)} {L:Go.Loop} {d:List Nat} {r s:Code} {fs:List (Nat×AV)} {g:Array Value}
  (B:lk yn objs=some (.loop L)) (hf:lk fr objs=some (.frame g fs)) (h1:L.state=.ready) (J:L.params=d.toArray) (M:L.assign=r) (N:L.body=s) (al:L.tmps=g) (G:g.size=nt)
  (C:A.length=d.length) (Z:(d.all λp=>decide (p<nt))=true) (ag:yn∈stay) (ad:stay.all (Ub objs)=true) (X:Ms objs=true) (T:B3 nt r=true) (U:B3 nt s=true) (hT:DQ P tb) (hF:JQ P tb)
  (h:∀(w0:World) (K O0:Nat->Prop) (ρ0:Nat->Value) (l:Nat),(cY P tb w0 K O0 nt l (stay.map λn=>(n,ρ0 n))).Ok->Qs A->Pb objs->ρ0 yn=.pointer (some ⟨l,0,none⟩) ->
   Ev (cY P tb w0 K O0 nt l (stay.map λn=>(n,ρ0 n))) (λ_ _ _=>False) (.run r) [.inv (AAW (cY P tb w0 K O0 nt l (stay.map λn=>(n,ρ0 n))) (pZ P l w0 K O0 stay ρ0 post) yn L s)] ⟨Ib d A fs,objs⟩) :
  aE P yn A objs stay post:=by
 intro w K O0 ρ q b Q R f y u;have af:=JU y;obtain⟨aj,c,hh⟩:=f.obj yn _ B;rw[u]at c;injection c with c
 injection c with c
 injection c with c
 subst c;have aa:=run_yield (P:=P) (args:=q.toArray) hh (by rw[J];simp[af,C]);refine⟨_,_,_,_,aa,roundIn_of_wpIn trivial ?_⟩;have z:(cY P tb w K O0 nt b (stay.map λn=>(n,ρ n))).Ok:=⟨Q,R,hT,hF⟩;have W:=f.obj fr _ hf;have D:=vF (V:=vw w O0 ⟨[],objs⟩ ρ) d A q fs g y (λp x=>by have:=(No.1 Z) p x;rw[G];simpa using this) C W.2;have ae:(L.params.zip q.toArray).foldl (λt (p,v)=>t.setIfInBounds p v) L.tmps=(d.zip q).foldl (λt (p,v)=>t.setIfInBounds p v) g:=by grind
 rw[M,N,ae];have ab:(cY P tb w K O0 nt b (stay.map λn=>(n,ρ n))).sat ⟨Ib d A fs,objs⟩ { tmps:=(d.zip q).foldl (λt (p,v)=>t.setIfInBounds p v) g,defers:=[] } w:=by
  refine⟨ρ,⟨rfl,rfl,rfl,OR _,λ_ _=>rfl⟩,by rw[D.2];exact G,rfl,λp x=>?_,f.obj,f.free,f.dist,D.1⟩;obtain⟨n,hn,rfl⟩:=DO.1 x;have:=(No.1 ad) n hn;unfold Ub at this;cases i:lk n objs with
  | none=>rw[i]at this;cases this
  | some o =>
   rw[i]at this;refine⟨⟨o,i⟩,rfl,?_⟩;have j:=f.obj n o i;cases o with
   | arr et e xs=>exact .inr this
   | nest et an k e xs B=>exact .inr this
   | box et st fs=>obtain⟨_,b,cs,a,_⟩:=j;rw[a];exact .inl rfl
   | mapo k v l=>obtain⟨b,ak,cl,a,_⟩:=j;rw[a];exact .inl rfl
   | frame g fs=>obtain⟨a,_⟩:=j;rw[a];exact .inl rfl
   | loop L=>obtain⟨b,a,_⟩:=j;rw[a];exact .inl rfl
   | itr ao ar ap aq am=>obtain⟨b,a,_⟩:=j;rw[a];exact .inl rfl
   | dfr=>obtain⟨b,a,_⟩:=j;rw[a];exact .inl rfl
 have O:=h w K O0 ρ b z (Vq y) (Vr X λn o i=>eK (f.obj n o i)) u (by simpa[IW,cY] using T) rfl _ _ ab;refine AE3 (F:=FR (some b)) O ?_;intro e ai w' m;cases e with
 | normal =>
  obtain⟨σ',⟨ρ',E⟩,Y,S⟩:=m;have ah:ρ' yn=.pointer (some ⟨b,0,none⟩):=(E.pin (yn,ρ yn) (DO.2 ⟨yn,ag,rfl⟩)).2.1.trans u;obtain⟨H,I⟩:=Qw z E Y ah { L with state:=.busy };exact⟨_,run_beginRound H h1,S (by simpa[IW,cY] using U) rfl _ _ ⟨ρ',I⟩⟩
 | exit id=>exact m.elim
 | goto t=>exact m.elim
 | ret=>exact m.elim
 | panic ch=>exact m.elim
 | outgrown=>exact m.elim
end
end
section
open Go Go.RowKit
def Cx.marked (c:Cx) (dn b:Nat):Cx:={ c with ds:={ ds:=⟨.collected b,#[]⟩ :: c.ds.ds,pin:=(dn,.pointer (some ⟨b,0,none⟩)) :: c.ds.pin } }
def Cx.marked2 (c:Cx) (yn dn b:Nat):Cx:={ c with ds:={ ds:=⟨.collected b,#[]⟩ :: c.ds.ds,pin:=(yn,.pointer (some ⟨b+1,0,none⟩)) :: (dn,.pointer (some ⟨b,0,none⟩)) :: c.ds.pin } }
theorem p5 {c:Cx} {yn dn b:Nat} (h:c.Ok):(c.marked2 yn dn b).Ok:=⟨h.K,h.O,h.T,h.F⟩
theorem Sp {c:Cx} {dn b:Nat}:(c.marked dn b).tb=c.tb:=rfl
theorem OI {c:Cx} {dn b:Nat} (h:c.Ok):(c.marked dn b).Ok:=⟨h.K,h.O,h.T,h.F⟩
theorem zA (ren:List (Nat×CB)) (x:AV):B9 ren x .top:=by grind [B9,Jv,Ep]
def kE:List Dg->Bool
 | []=>true
 | .inv _ :: _=>false
 | _ :: k=>kE k
theorem Pf {c:Cx} {R:Exit->Act->World->Prop} {dn b:Nat}:∀ {k:List Dg},kE k=true->Ws (c.marked dn b) R k=Ws c R k
 | [],_=>by funext e a w;simp[Ws]
 | .inv _ :: _,h=>by simp[kE]at h
 | .seq y :: k,h=>by
  have d:=Pf (c:=c) (R:=R) (dn:=dn) (b:=b) (k:=k) h;funext e a w;cases e<;>simp only[Ws,d]<;>rfl
 | .blk id :: k,h=>by
  have d:=Pf (c:=c) (R:=R) (dn:=dn) (b:=b) (k:=k) h;funext e a w;cases e<;>simp only[Ws,d]
def Bd (σ:St) (yn dn fr:Nat) (L:Go.Loop) (a:Array Value):St:=⟨σ.env,(yn,.loop L) :: (dn,.dfr) :: (fr,.frame a σ.env) :: σ.objs⟩
section
variable {c:Cx} {R:Exit->Act->World->Prop} {k:List Dg} {σ:St}
theorem zB (r:c.Ok) {a:Act} {w:World} {ρ:Nat->Value} (hs:B0 c.w0 c.K c.O0 c.nt c.ds σ ρ a w) {yn dn fr:Nat} (t:yn≠dn) (E:yn≠fr) (F:dn≠fr) (G:lk yn σ.objs=none) (H:lk dn σ.objs=none) (I:lk fr σ.objs=none) (L:Go.Loop) :
  ∃e,B0 c.w0 c.K c.O0 c.nt (c.marked2 yn dn w.heap.size).ds (Bd σ yn dn fr L a.tmps) e { a with defers:=[{ target:=.collected w.heap.size,args:=#[] }]++a.defers } ((w.alloc (.deferred (some []))).alloc (.loop L))/\e yn=.pointer (some ⟨w.heap.size+1,0,none⟩):=by
 let e:Nat->Value:=λm=>if m=yn then .pointer (some ⟨w.heap.size+1,0,none⟩) else if m=dn then .pointer (some ⟨w.heap.size,0,none⟩) else if m=fr then .pointer none else ρ m
 have k:e yn=.pointer (some ⟨w.heap.size+1,0,none⟩):=by simp[e]
 have l:e dn=.pointer (some ⟨w.heap.size,0,none⟩):=by simp[e,AE6 t]
 have z:e fr=.pointer none:=by simp[e,AE6 E,AE6 F]
 obtain⟨f,j⟩:∃f,(w.alloc (.deferred (some []))).alloc (.loop L)=f:=⟨_,rfl⟩;have B:f.heap[w.heap.size+1]?=some (.loop L):=by
  rw[<-j];have:=World.alloc_heap_new (w.alloc (.deferred (some []))) (.loop L);rwa [World.size_alloc]at this
 have A:f.heap[w.heap.size]?=some (.deferred (some [])):=by
  rw[<-j];exact(Below.heap_alloc _ _ _ sc).trans (World.alloc_heap_new w _)
 have q:Below w.heap.size w f:=by
  rw[<-j];exact((Below.refl _ w).alloc (OR _) _).alloc sc _
 rw[j];have u:Br [(yn,Obj.loop L),(dn,.dfr),(fr,.frame a.tmps σ.env)] σ=true:=by simp[Br,G,H,I]
 have y:∀n,lk n [(yn,Obj.loop L),(dn,Obj.dfr),(fr,.frame a.tmps σ.env)]=none->e n=ρ n:=λn hn=>by grind [lk]
 have v:∀n o b,lk n [(yn,Obj.loop L),(dn,Obj.dfr),(fr,.frame a.tmps σ.env)]=some o->bk (e n) b->w.heap.size<=b:=λn o b hn C=>by grind [lk,bk,blk]
 have J:=IR (O0:=c.O0) (ρ:=ρ) (ρ':=e) u q y v;have M:QS w c.O0 σ ρ .top [(yn,Obj.loop L),(dn,.dfr),(fr,.frame a.tmps σ.env)] undef e f:=by
  refine⟨q,y,trivial,λn o hn=>?_,v,λn m o R b hn Q C P=>?_⟩
  .simp only[lk]at hn;split at hn
   .rename_i g;cases hn;subst g;exact⟨_,k,B⟩
   split at hn
   .rename_i g;cases hn;subst g;exact⟨_,l,A⟩
   split at hn
   .rename_i g;cases hn;subst g;exact⟨z,λs x N=>(hs.env s x N).keeps J⟩
   cases hn
  grind [lk,bk,blk]
 have h:=hs.add r.K r.O (dst:=none) (λd D=>by cases D) u M;refine⟨e,⟨h.frm,h.nt,?_,λp i=>?_,h.objs,h.free,h.dist,h.env⟩,k⟩
 .show _=_ :: c.ds.ds;rw[<-hs.defers];rfl
 rcases Do.1 i with rfl|i
 .exact⟨⟨.loop L,by simp[Bd,lk]⟩,k,.inl rfl⟩
 rcases Do.1 i with rfl|i
 .exact⟨⟨.dfr,by simp[Bd,lk,AE6 t]⟩,l,.inl rfl⟩
 exact h.pin p i
def EvJ (c:Cx) (R:Exit->Act->World->Prop) (k:List Dg) (σ:St):Option Code->Prop
 | none=>Ev c R (.out .normal) k σ
 | some a=>match a with
  | .ret=>Ev c R (.out .ret) k σ
  | .exit id=>Ev c R (.out (.exit id)) k σ
  | _=>False
def AC4 (c:Cx) (R:Exit->Act->World->Prop) (k:List Dg) (a:Act) (w:World):Option Code->Prop
 | none=>Ws c R k .normal a w
 | some cd=>cd.wpIn (FR c.r) 0 c.P (Ws c R k) a w
theorem A6y {dn b:Nat} (g:kE k=true) (e:DH c.nt k=true) {p:Option Code} (d:EvJ (c.marked dn b) R k σ p) {a:Act} {w:World} (hs:(c.marked dn b).sat σ a w) :
  AC4 c R k a w p:=by
 have f:=Pf (c:=c) (R:=R) (dn:=dn) (b:=b) g;cases p with
 | none =>
  have:=d rfl e _ _ hs;show Ws c R k .normal a w;rw[<-f];exact this
 | some cd =>
  cases cd<;>try exact d.elim
  .have:=d rfl e _ _ hs;refine wpIn_exit ?_;rw[<-f];exact this
  have:=d rfl e _ _ hs;refine wpIn_ret ?_;rw[<-f];exact this
theorem kF (U:c.Ok) (bm:c.r=none) (bg:kE k=true) {g:Operand} {O:Array Tmp} {G H:Code} {s:FuncId} {m:List Nat} (J:Am σ g=some (.clo s m))
  (yn dn fr:Nat) (D:(yn != dn&&yn != fr&&dn != fr)=true) (bb:lk yn σ.objs=none) (bc:lk dn σ.objs=none) (bd:lk fr σ.objs=none)
  (an:∀(L:Go.Loop) (z:Array Value),L.state=.ready->L.pending=none->L.tmps=z->L.params=O->L.assign=G->L.body=H->z.size=c.nt ->
   ∃(A:List AV) (objs:List (Nat×Obj)) (stay:List Nat) (post:AV->List (Nat×Obj)->Prop) (ren:List (Nat×CB)) (hs:List Nat),Bb c.P s A objs stay post /\
    CM ren=true/\Cc objs ren=true/\Bc (Bd σ yn dn fr L z) ren (.yl yn :: m.map λn=>AV.bp n [] 0) A/\Ai (Bd σ yn dn fr L z).objs ren objs /\
    (((yn,undef) :: (dn,undef) :: c.ds.pin).all λp=>!Ad p.1 hs)=true /\
    ∀res y,post res y->∃(j:List (Nat×CB)) (i:List (Nat×Obj)) (l:Go.Loop),CM j=true/\Cc i j=true/\Ai y j i/\JV ren j stay hs=true/\Fu (Ao ren) i (Bd σ yn dn fr L z).objs=true /\
     lk yn i=some (.loop l)/\(l.state == .busy)=false /\
     ∀b,EvJ (c.marked dn b) R k ⟨(Cg (Bd σ yn dn fr L z) (Ao ren) hs none .top i).env,upd yn (.loop { l with state:=.exhausted }) (Cg (Bd σ yn dn fr L z) (Ao ren) hs none .top i).objs⟩ l.pending) :
  Ev c R (.run (.rangeFunc g O G H)) k σ:=by
 intro h1 al a w bo;obtain⟨ρ,hs⟩:=bo;have ba:G9 (vw w c.O0 σ ρ) σ a.eval:=E0 hs.env;obtain⟨be,_⟩:=kB (ba g _ J);simp only[As,ADe,ne_eq]at D;obtain⟨⟨aw,ax⟩,ay⟩:=D;refine wpIn_rangeFunc (F:=FR c.r) ?_;intro fn _;have bn:(FR c.r).round=none:=by rw[bm];rfl
 rw[bn];obtain⟨L,x⟩:∃L:Go.Loop,L={ state:=.ready,pending:=none,fn,tmps:=a.tmps,params:=O,assign:=G,body:=H,defers:=w.heap.size }:=⟨_,rfl⟩;obtain⟨Z,N,br⟩:=zB U hs aw ax ay bb bc bd L;obtain⟨A,objs,stay,post,ren,B,I,af,ag,ah,ai,aj,ak⟩:=an L a.tmps (by rw[x]) (by rw[x]) (by rw[x]) (by rw[x]) (by rw[x]) (by rw[x]) hs.nt;obtain⟨⟨Q,av,bj,aq⟩,I⟩:=I;obtain⟨o,T⟩:∃o,(w.alloc (.deferred (some []))).alloc (.loop L)=o:=⟨_,rfl⟩;rw[T]at N;have W:(c.marked2 yn dn w.heap.size).Ok:=p5 U;have au:Jz (vw o c.O0 (Bd σ yn dn fr L a.tmps) Z) (.yl yn :: m.map λn=>AV.bp n [] 0) (.func (.yield (w.heap.size+1)) #[] #[] :: m.map ρ):=by
  refine⟨_,_,rfl,⟨⟨_,by simp[Bd,lk];rfl⟩,_,br,rfl⟩,?_⟩;have cc:=kB (V:=vw o c.O0 (Bd σ yn dn fr L a.tmps) Z) (f:=s) (ns:=m) (v:=a.eval g) (by
   have:=E0 N.env;have bk:Am (Bd σ yn dn fr L a.tmps) g=some (.clo s m):=by
    cases g with
    | tmp t=>exact J
    | _=>exact J
   have S:=this g _ bk;have az:({ a with defers:=[{ target:=.collected w.heap.size,args:=#[] }]++a.defers }:Act).eval g=a.eval g:=by cases g<;>rfl
   rw[az]at S;exact S)
  grind [vw]
 have bh:∀res y,post res y->∃(j:List (Nat×CB)) (Y:AV) (i:List (Nat×Obj)),CM j=true/\Cc i j=true/\Ai y j i/\B9 j res Y /\
   JV ren j stay B=true/\Fu (Ao ren) i (Bd σ yn dn fr L a.tmps).objs=true/\∀C w',(c.marked2 yn dn w.heap.size).sat (Cg (Bd σ yn dn fr L a.tmps) (Ao ren) B none Y i) C w' ->
    rangePost (FR c.r) 0 c.P (w.heap.size+1) (Ws c R k) C (.returned undef) w':=by
  intro res y M;obtain⟨j,i,l,bt,bu,bv,bw,bx,cd,X,bz⟩:=ak res y M;refine⟨j,.top,i,bt,bu,bv,zA j res,bw,bx,λC w' E=>?_⟩;obtain⟨ρ',E⟩:=E;have bs:lk yn (Cg (Bd σ yn dn fr L a.tmps) (Ao ren) B none .top i).objs=some (.loop l):=by grind [Cg,BB]
  have hyp:=(E.pin (yn,.pointer (some ⟨w.heap.size+1,0,none⟩)) (by simp[Cx.marked2])).2.1;obtain⟨ca,q⟩:=Qw W E bs hyp { l with state:=.exhausted };refine⟨_,_,run_endLoop ca (by intro e;rw[e]at X;cases X),?_⟩;have bq:(c.marked dn w.heap.size).sat ⟨(Cg (Bd σ yn dn fr L a.tmps) (Ao ren) B none .top i).env,upd yn (.loop { l with state:=.exhausted }) (Cg (Bd σ yn dn fr L a.tmps) (Ao ren) B none .top i).objs⟩ C (w'.putObj (w.heap.size+1) (.loop { l with state:=.exhausted })) :=
   ⟨ρ',q.frm,q.nt,q.defers,λp M=>q.pin p (IN _ M),q.objs,q.free,q.dist,q.env⟩
  have K:=A6y bg al (bz w.heap.size) bq;revert K;generalize l.pending=p;intro K;cases p<;>exact K
 obtain⟨aa,ab,cb,am,ao,bi,ap,_,bl⟩:=Sk W N au stay post ren af ag ah ai B (by simpa[Cx.marked2] using aj) (dst:=none) (λd D=>by cases D) bh;have ar:=I o aa ab cb _ am ao bi ap;refine⟨w.heap.size+1,[{ target:=.collected w.heap.size,args:=#[] }],o,{ target:=.fn (.func s) (m.map ρ).toArray,args:=#[.func (.yield (w.heap.size+1)) #[] #[]] },o,s,
  (.func (.yield (w.heap.size+1)) #[] #[] :: m.map ρ).toArray,o,?_,?_,λ_ _=>trivial,?_,λh=>by simp[FR]at h,?_⟩
 .rw[<-T,x];exact run_enterLoop_outer _ _ _ _ _
 .have bf:a.eval g=.func (.func s) #[] (m.map ρ).toArray:=be;simp only[resolve,bf];simp[go_sem]
 .have ad : ¬ Q.name = "runtime.NumGoroutine" := by simpa using bj
  have ae:¬Q.body=none:=by intro e;simp[e]at aq
  simp[invoke,callFunc,av,ad,ae]
 refine PW (ar.mono λe w' hh=>?_);obtain⟨u,rfl,hh⟩:=hh;exact bl u w' hh
theorem A2e (Q:c.Ok) {a:Act} {w:World} {ρ:Nat->Value} (hs:B0 c.w0 c.K c.O0 c.nt c.ds σ ρ a w) {dn b:Nat} (j:lk dn σ.objs=some .dfr) (i:ρ dn=.pointer (some ⟨b,0,none⟩)) (X:_root_.Go.Obj) (pin:List (Nat×Value)) (H:∀p∈pin,p∈c.ds.pin/\p.1≠dn) :
  w.heap[b]?=some (.deferred (some []))/\B0 c.w0 c.K c.O0 c.nt { ds:=c.ds.ds,pin:=pin } ⟨CA [dn] σ.env,Ar [dn] [dn] σ.objs⟩ ρ a (w.putObj b X):=by
 obtain⟨P,h1,h⟩:=hs.objs dn _ j;rw[i]at h1;injection h1 with h1
 injection h1 with h1
 injection h1 with h1
 subst h1;have R:b<w.heap.size:=CU h;refine⟨h,?_⟩;have A:own c.O0 σ ρ b:=.inr ⟨dn,⟨_,j⟩,by rw[i];exact .inl rfl⟩;have f:∀n,Hm ⟨CA [dn] σ.env,Ar [dn] [dn] σ.objs⟩ n->Hm σ n/\n≠dn:=by
  rintro n ⟨o,hn⟩;have hn:lk n (Ar [dn] [dn] σ.objs)=some o:=hn;rw[Bm]at hn;split at hn
  .cases hn
  rename_i r;simp only[OS]at hn;obtain⟨y,d,_⟩:=hn;exact⟨⟨y,d⟩,λe=>r (by subst e;simp[Ad])⟩
 have l:∀k,k≠b->(w.putObj b X).heap[k]?=w.heap[k]?:=λk hk=>World.putObj_heap_other hk;have q:Cb ((vw w c.O0 σ ρ).buts [dn]) (vw (w.putObj b X) c.O0 ⟨CA [dn] σ.env,Ar [dn] [dn] σ.objs⟩ ρ):=by
  refine⟨λk _ hk B=>?_,λn hn=>?_,λ_ _=>rfl,λk _ hk=>l k (λe=>?_)⟩
  .rcases B with h0|⟨n,hn,E⟩
   .exact hk (.inl h0)
   exact hk (.inr ⟨n,(f n hn).1,E⟩)
  .obtain⟨⟨o,F⟩,D⟩:=hn;exact⟨_,by show lk n (Ar [dn] [dn] σ.objs)=_;rw[Bm,At (by rw[D];simp),F];rfl⟩
  subst e;exact hk A
 refine⟨⟨hs.frm.os,hs.frm.tape,hs.frm.output,by simpa using hs.frm.size,λk hk=>?_⟩,hs.nt,hs.defers,λp G=>?_,λn x hn=>?_,λn k C hk=>hs.free n k (f n C).1 hk,λn m k h1 h u z=>hs.dist n m k (f n h1).1 (f m h).1 u z,λs v t=>?_⟩
 .refine(l k λe=>?_).trans (hs.frm.block k hk);subst e;exact(hs.free dn k ⟨_,j⟩ (by rw[i];exact .inl rfl)).1 hk
 .obtain⟨I,J⟩:=H p G;obtain⟨M,N,O⟩:=hs.pin p I;exact⟨q.L p.1 ⟨M,by simp[Ad,J]⟩,N,O⟩
 .have g:lk n (Ar [dn] [dn] σ.objs)=some x:=hn;have r:=(f n ⟨x,hn⟩).2;rw[Bm]at g;split at g
  .cases g
  simp only[OS]at g;obtain⟨y,d,rfl⟩:=g;refine Vf q (λk hk=>l k λe=>?_) (hs.objs n y d);subst e;exact r (hs.dist n dn k ⟨y,d⟩ ⟨_,j⟩ hk (by rw[i];exact .inl rfl))
 rw[Ec]at t;simp only[OS]at t;obtain⟨y,d,rfl⟩:=t;exact(QY (hs.env s y d)).keeps q
end
def vG (P:Program) (fn:Func) (w0:World) (K O0:Nat->Prop) (stay:List Nat) (ρ0:Nat->Value) (post:AV->List (Nat×Obj)->Prop):Exit->Act->World->Prop :=
 bodyPostM (FR none) 0 P fn λe w'=>∃u,e=.returned u/\Mz K O0 stay w0 ρ0 post u w'
theorem A6z {P:Program} {tb:Tb} {f:FuncId} {fn:Func} {cd:Code} {nt:Nat} {args:List AV} {objs:List (Nat×Obj)} {stay:List Nat} {post:AV->List (Nat×Obj)->Prop}
  (c : P.funcs[f]? = some fn) (k : (fn.name == "runtime.NumGoroutine") = false) (b : fn.body = some cd) (l : fn.ntmps = nt) (q : args.length <= nt)
  (i:B3 nt cd=true) (p:stay.all (Ub objs)=true) (j:Ms objs=true) (hT:DQ P tb) (hF:JQ P tb)
  (h:∀(w0:World) (K O0:Nat->Prop) (ρ0:Nat->Value),(cm P tb w0 K O0 nt (stay.map λn=>(n,ρ0 n))).Ok->Qs args->Pb objs ->
   Ev (cm P tb w0 K O0 nt (stay.map λn=>(n,ρ0 n))) (vG P fn w0 K O0 stay ρ0 post) (.run cd) [] ⟨A6 0 args,objs⟩):Bb P f args objs stay post:=by
 refine⟨⟨fn,c,k,by simp[b]⟩,λw K O0 ρ s e g d a=>?_⟩;refine callsIn_wide.1 (callsIn_of_wp_marks (F:=FR none) (n:=0) c b trivial ?_ rfl);have r:=JU a;rw[l];exact h w K O0 ρ ⟨e,g,hT,hF⟩ (Vq a) (Vr j λn o m=>eK (d.obj n o m)) i rfl _ _ (XF d a p O1)
theorem Qx {P:Program} {tb:Tb} {w0:World} {K O0:Nat->Prop} {nt:Nat} {stay:List Nat} {ρ0:Nat->Value} {fn:Func} {post:AV->List (Nat×Obj)->Prop} {σ:St} {e:Exit} {dn b:Nat} (f:((cm P tb w0 K O0 nt (stay.map λn=>(n,ρ0 n))).marked dn b).Ok)
  (i:List ResultVar) (t:fn.results.toList=i) (q:e=.ret\/e=.normal) (r:lk dn σ.objs=some .dfr) (g:Ad dn stay=false) (res:AV) (h:Uc tb ⟨CA [dn] σ.env,Ar [dn] [dn] σ.objs⟩ i res) (d:post res (Ar [dn] [dn] σ.objs)) :
  Ev ((cm P tb w0 K O0 nt (stay.map λn=>(n,ρ0 n))).marked dn b) (vG P fn w0 K O0 stay ρ0 post) (.out e) [] σ:=by
 intro _ _ a w hs;obtain⟨ρ,hs⟩:=hs;have m:=(hs.pin (dn,.pointer (some ⟨b,0,none⟩)) (by simp[Cx.marked])).2.1;obtain⟨h1,j⟩:=A2e f hs r m (.deferred none) (stay.map λn=>(n,ρ0 n)) (λp d=>⟨IN _ d,λe=>by
  obtain⟨n,hn,rfl⟩:=DO.1 d;have e:n=dn:=e;subst e;rw[(Ah _ _).2 hn]at g;cases g⟩)
 have c:B0 w0 K O0 nt { ds:=[⟨.collected b,#[]⟩],pin:=stay.map λn=>(n,ρ0 n) } ⟨CA [dn] σ.env,Ar [dn] [dn] σ.objs⟩ ρ a (w.putObj b (.deferred none)):=j;obtain⟨u,k,l⟩:=XH f.T c (fn:=fn) (by rw[t];exact h);have s:Mz K O0 stay w0 ρ0 post u (w.putObj b (.deferred none)):=by
  refine⟨res,_,ρ,d,c.frm,⟨c.objs,c.free,c.dist⟩,l,λn hn=>?_⟩;exact(c.pin (n,ρ0 n) (DO.2 ⟨n,hn,rfl⟩)).2.1
 have o:a.defers=[⟨.collected b,#[]⟩]:=hs.defers;have key:LeavesInM (FR none) 0 P fn a.tmps (λe w'=>∃u,e=.returned u/\Mz K O0 stay w0 ρ0 post u w') a.defers .returning w:=by
  rw[o];exact⟨by simp,.inl ⟨b,_,rfl,run_takeDeferred h1,u,k,u,rfl,s⟩⟩
 rcases q with rfl|rfl
 .exact key
 exact key
end
section
open Go Go.RowKit
section
variable {c:Cx} {R:Exit->Act->World->Prop} {k:List Dg} {σ σ':St}
theorem rP (a:c.Ok) {id:Nat} {l:List Oper} {vc:Prop} (b:vc) (hk:Ev c R (.out .normal) k σ') (h0:(l.all λo=>o.guard.isNone)=true:=by rfl)
  (h:EE c.tb.live (CC c.tb l l σ)=some (vc,σ'):=by simp only[go_sem,Nat.reduceEqDiff,reduceCtorEq,Nat.reduceAdd,Nat.reduceSub,Nat.reduceMul,Nat.reduceLeDiff,Nat.reduceLT,Int.reduceLE,Int.reduceToNat,Int.reduceNeg,↓reduceIte];rfl):Ev c R (.run (.region id l.toArray false)) k σ:=M2 _ a h0 h b hk
theorem rT (m:Nat) (a:c.Ok) {id:Nat} {l:List Oper} {vc:Prop} (d:vc) (hk:Ev c R (.out .normal) k σ') (h0:L3 l (l.take (l.length-m)).length=true:=by kernel_rfl) (b:c.P.follows .mixedOrders=true:=by exact drawsAny)
  (h:EE c.tb.live (MT c.tb l false σ.objs (l.drop (l.length-m)) (l.take (l.length-m)) 0 [] [] σ)=some (vc,σ'):=by simp only[AAN,ACl,AAB,f4,go_sem,Nat.reduceEqDiff,reduceCtorEq,Nat.reduceAdd,Nat.reduceSub,Nat.reduceMul,Nat.reduceLeDiff,Nat.reduceLT,Int.reduceLE,Int.reduceToNat,Int.reduceNeg,↓reduceIte];rfl):Ev c R (.run (.region id l.toArray true)) k σ:=Z7 _ m b a h0 h d hk
theorem rC {o:Operand} {x y:Code} {b:Bool} {p q:Prop} (f:p->Ev c R (.run x) k σ) (hf:q->Ev c R (.run y) k σ) (h:Am σ o=some (.p .bool b):=by simp only[go_sem,Nat.reduceEqDiff,reduceCtorEq,Nat.reduceAdd,Nat.reduceSub,Nat.reduceMul,Nat.reduceLeDiff,Nat.reduceLT,Int.reduceLE,Int.reduceToNat,Int.reduceNeg,↓reduceIte];rfl)
  (a:(b=true)=p:=by first|(simp only[NO,SF,As,Ts,Bool.and_eq_false_imp,AAe,SD,AD3,Tx,ACc,ADe,Bool.not_eq_eq_eq_not,ADU,ADN,AC2,ABE,ne_eq];rfl)|rfl) (d:(b=false)=q:=by first|(simp only[NO,SF,As,Ts,Bool.and_eq_false_imp,AAe,SD,AD3,Tx,ACc,ADe,Bool.not_eq_eq_eq_not,ADU,ADN,AC2,ABE,ne_eq];rfl)|rfl):Ev c R (.run (.cond o x y)) k σ :=
 Ww h (λe=>f (a▸e)) (λe=>hf (d▸e))
theorem rL (a:c.Ok) {ops:List Oper} {l:List Oper} {vc:Prop} (b:vc) (hk:Ev c R (.out .normal) k σ') (h:EE c.tb.live (CC c.tb ops l σ)=some (vc,σ'):=by simp only[go_sem,Nat.reduceEqDiff,reduceCtorEq,Nat.reduceAdd,Nat.reduceSub,Nat.reduceMul,Nat.reduceLeDiff,Nat.reduceLT,Int.reduceLE,Int.reduceToNat,Int.reduceNeg,↓reduceIte];rfl):JK c R k ops.toArray l σ:=Ha _ a h b hk
theorem rN (n:Nat) (a:c.Ok) {ops:List Oper} {l:List Oper} {vc:Prop} (b:vc) (hk:JK c R k ops.toArray (l.drop n) σ') (h:CC c.tb ops (l.take n) σ=some (vc,σ'):=by simp only[AAN,AAB,go_sem,Nat.reduceEqDiff,reduceCtorEq,Nat.reduceAdd,Nat.reduceSub,Nat.reduceMul,Nat.reduceLeDiff,Nat.reduceLT,Int.reduceLE,Int.reduceToNat,Int.reduceNeg,↓reduceIte];rfl):JK c R k ops.toArray l σ:=Qq a n (by simpa using h) b hk
theorem cP (n:Nat) (a:c.Ok) {id:Nat} {l:List Oper} {vc:Prop} (b:vc) (hk:JK c R k l.toArray (l.drop n) σ') (h0:(l.all λo=>o.guard.isNone)=true:=by rfl) (h:CC c.tb l (l.take n) σ=some (vc,σ'):=by simp only[AAN,AAB,go_sem,Nat.reduceEqDiff,reduceCtorEq,Nat.reduceAdd,Nat.reduceSub,Nat.reduceMul,Nat.reduceLeDiff,Nat.reduceLT,Int.reduceLE,Int.reduceToNat,Int.reduceNeg,↓reduceIte];rfl) :
  Ev c R (.run (.region id l.toArray false)) k σ:=A1X a n h0 h b hk
theorem cD (n:Nat) (a:c.Ok) {id:Nat} {l:List Oper} {vc:Prop} (e:vc) (hk:JK c R k l.toArray (l.drop n) σ') (b:L3 l (l.take n).length=true:=by kernel_rfl) (d:c.P.follows .mixedOrders=true:=by exact drawsAny)
  (h:MT c.tb l false σ.objs [] (l.take n) 0 [] [] σ=some (vc,σ'):=by simp only[AAN,AAB,go_sem,Nat.reduceEqDiff,reduceCtorEq,Nat.reduceAdd,Nat.reduceSub,Nat.reduceMul,Nat.reduceLeDiff,Nat.reduceLT,Int.reduceLE,Int.reduceToNat,Int.reduceNeg,↓reduceIte];rfl):Ev c R (.run (.region id l.toArray true)) k σ:=A1Y d a n b h e hk
theorem rM (q:c.Ok) {ops:Array Oper} {rest:List Oper} {dst:Option Nat} {g:Operand} {xs:List Operand} {ts:Array TypeId} {ty:TypeId} {pos:String} {after:Array Edge}
  {f:FuncId} {d:List Nat} {as:List AV} {A:List AV} {objs:List (Nat×Obj)} {stay:List Nat} {post:AV->List (Nat×Obj)->Prop} (l:Bb c.P f A objs stay post)
  (ren:List (Nat×CB)) (hs:List Nat) (j:Bc σ ren (as++d.map λn=>AV.bp n [] 0) A) (m:Ai σ.objs ren objs)
  (hk:∀res e,post res e->∃(a:List (Nat×CB)) (h:AV) (b:List (Nat×Obj)),CM a=true/\Cc b a=true/\Ai e a b/\B9 a res h /\
   JV ren a stay hs=true/\Fu (Ao ren) b σ.objs=true/\JK c R k ops rest (Cg σ (Ao ren) hs dst h b))
  (r:Dy (Am σ g)=some (f,d):=by simp only[go_sem,Nat.reduceEqDiff,reduceCtorEq,Nat.reduceAdd,Nat.reduceSub,Nat.reduceMul,Nat.reduceLeDiff,Nat.reduceLT,Int.reduceLE,Int.reduceToNat,Int.reduceNeg,↓reduceIte];rfl) (o:J0 σ xs=some as:=by simp only[go_sem,Nat.reduceEqDiff,reduceCtorEq,Nat.reduceAdd,Nat.reduceSub,Nat.reduceMul,Nat.reduceLeDiff,Nat.reduceLT,Int.reduceLE,Int.reduceToNat,Int.reduceNeg,↓reduceIte];rfl)
  (h1:CM ren=true:=by rfl) (i:Cc objs ren=true:=by rfl) (s:(c.ds.pin.all λp=>!Ad p.1 hs)=true:=by rfl) :
  JK c R k ops (⟨dst,.call ⟨.value g,xs.toArray,ts⟩,ty,pos,after,none⟩ :: rest) σ:=A1W q r o l ren hs h1 i s j m hk
theorem rY (n yn:Nat) (m:c.Ok) {ops:Array Oper} {rest:List Oper} {dst:Option Nat} {g:Operand} {xs:List Operand} {ts:Array TypeId} {ty:TypeId} {pos:String} {after:Array Edge}
  {as:List AV} {A:List AV} {objs:List (Nat×Obj)} {stay:List Nat} {post:AV->List (Nat×Obj)->Prop} (i:aE c.P yn A objs stay post)
  (ren:List (Nat×CB)) (hs:List Nat) (h:Bc σ ren as A) (j:Ai σ.objs ren objs)
  (hk:∀res d,post res d->∃(a:List (Nat×CB)) (e:AV) (b:List (Nat×Obj)),CM a=true/\Cc b a=true/\Ai d a b/\B9 a res e /\
   JV ren a stay hs=true/\Fu (Ao ren) b σ.objs=true/\JK c R k ops rest (Cg σ (Ao ren) hs dst e b))
  (s:c.r=none:=by rfl) (o:kC n (Am σ g)=true:=by simp only[go_sem,Nat.reduceEqDiff,reduceCtorEq,Nat.reduceAdd,Nat.reduceSub,Nat.reduceMul,Nat.reduceLeDiff,Nat.reduceLT,Int.reduceLE,Int.reduceToNat,Int.reduceNeg,↓reduceIte]) (l:J0 σ xs=some as:=by simp only[go_sem,Nat.reduceEqDiff,reduceCtorEq,Nat.reduceAdd,Nat.reduceSub,Nat.reduceMul,Nat.reduceLeDiff,Nat.reduceLT,Int.reduceLE,Int.reduceToNat,Int.reduceNeg,↓reduceIte];rfl)
  (t:lk yn ren=some (.nm n):=by rfl) (h1:CM ren=true:=by rfl) (f:Cc objs ren=true:=by rfl) (q:(c.ds.pin.all λp=>!Ad p.1 hs)=true:=by rfl) :
  JK c R k ops (⟨dst,.call ⟨.value g,xs.toArray,ts⟩,ty,pos,after,none⟩ :: rest) σ:=y9 m s o l i ren hs t h1 f q h j hk
end
end
section
open Go Go.RowKit
section
variable {P:Program} {b:Frame} {a:Act} {k:List Item} {cs:List Frame} {w:World}
end
section
variable {c:Cx} {R:Exit->Act->World->Prop} {k:List Dg} {σ:St}
end
end
section
open Go Go.RowKit
def vH:uU->List Dg->Option (uU×List Dg)
 | .run (.seq x y),k=>some (.run x,.seq y :: k)
 | .run .skip,k=>some (.out .normal,k)
 | .run .ret,k=>some (.out .ret,k)
 | .run (.exit id),k=>some (.out (.exit id),k)
 | .run (.block id b),k=>some (.run b,.blk id :: k)
 | .out .normal,.seq y :: k=>some (.run y,k)
 | .out .normal,.blk _ :: k=>some (.out .normal,k)
 | .out (.exit id),.seq _ :: k=>some (.out (.exit id),k)
 | .out (.exit a),.blk id :: k=>if a=id then some (.out .normal,k) else some (.out (.exit a),k)
 | .out (.exit id),.inv _ :: k=>some (.out (.exit id),k)
 | .out .ret,.seq _ :: k=>some (.out .ret,k)
 | .out .ret,.blk _ :: k=>some (.out .ret,k)
 | .out .ret,.inv _ :: k=>some (.out .ret,k)
 | _,_=>none
def XV:Nat->uU->List Dg->uU×List Dg
 | 0,n,k=>(n,k)
 | m+1,n,k=>match vH n k with
  | some (b,a)=>XV m b a
  | none=>(n,k)
def vI (n:uU) (k:List Dg):Option (uU×List Dg):=match vH n k with
 | some (b,a)=>some (XV 200 b a)
 | none=>none
section
variable {c:Cx} {R:Exit->Act->World->Prop} {σ:St}
theorem kG {n b:uU} {k a:List Dg} (e:vH n k=some (b,a)) (h:Ev c R b a σ):Ev c R n k σ:=by
 unfold vH at e;split at e<;>first
  | (cases e;done)
  | (split at e<;>(cases e;first|(rename_i d;rw[d];exact pI h)|exact pJ (by assumption) h))
  | (cases e;first|exact A8W h|exact A6m h|exact A8X h|exact A6n h|exact A1L h|exact Wu h|exact pE h|exact jO h|exact jP h|exact pD h|exact pF h|exact pG h)
theorem aG:∀(m:Nat) {n:uU} {k:List Dg},Ev c R (XV m n k).1 (XV m n k).2 σ->Ev c R n k σ
 | 0,_,_,h=>h
 | m+1,n,k,h=>by
  unfold XV at h;split at h
  .rename_i b a e;exact kG e (aG m h)
  exact h
theorem eS {n b:uU} {k a:List Dg} (e:vI n k=some (b,a)) (h:Ev c R b a σ):Ev c R n k σ:=by grind [vI,kG,aG]
end
inductive RX (c:Cx) (lv:List Nat) (σ:St) (vc:Prop) (σ':St):Array Oper->Bool->Prop
 | p {l:List Oper} (h0:(l.all λo=>o.guard.isNone)=true) (h:EE lv (CC c.tb l l σ)=some (vc,σ')):RX c lv σ vc σ' l.toArray false
 | a {l:List Oper} (h0:yS l l.length=true) (h:EE lv (MT c.tb l true σ.objs [] l 0 [] [] σ)=some (vc,σ')):RX c lv σ vc σ' l.toArray false
 | d {l:List Oper} (h0:L3 l l.length=true) (hm:c.P.follows .mixedOrders=true) (h:EE lv (MT c.tb l false σ.objs [] l 0 [] [] σ)=some (vc,σ')):RX c lv σ vc σ' l.toArray true
 | t {l:List Oper} (m:Nat) (h0:L3 l (l.take (l.length-m)).length=true) (hm:c.P.follows .mixedOrders=true) (h:EE lv (MT c.tb l false σ.objs (l.drop (l.length-m)) (l.take (l.length-m)) 0 [] [] σ)=some (vc,σ')):RX c lv σ vc σ' l.toArray true
theorem AAX {c:Cx} {R:Exit->Act->World->Prop} {k:List Dg} {σ σ':St} {b:List Nat} (e:c.Ok) {id:Nat} {ops:Array Oper} {i:Bool} {vc:Prop} (f:vc) (hk:Ev c R (.out .normal) k σ') (h:RX c b σ vc σ' ops i):Ev c R (.run (.region id ops i)) k σ:=by
 cases h with
 | p h0 h=>exact M2 b e h0 h f hk
 | a h0 h=>exact jY b e h0 h f hk
 | d h0 g h=>exact yY b g e h0 h f hk
 | t m h0 g h=>exact Z7 b m g e h0 h f hk
theorem rX {c:Cx} {R:Exit->Act->World->Prop} {k:List Dg} {σ σ':St} (e:c.Ok) {id:Nat} {ops:Array Oper} {b:Bool} {vc:Prop} (f:vc) (hk:Ev c R (.out .normal) k σ')
  (h:RX c c.tb.live σ vc σ' ops b:=by
   first
   | exact .p rfl (by simp only[go_sem,Nat.reduceEqDiff,reduceCtorEq,Nat.reduceAdd,Nat.reduceSub,Nat.reduceMul,Nat.reduceLeDiff,Nat.reduceLT,Int.reduceLE,Int.reduceToNat,Int.reduceNeg,↓reduceIte];rfl)
   | exact .a (by kernel_rfl) (by simp only[go_sem,Nat.reduceEqDiff,reduceCtorEq,Nat.reduceAdd,Nat.reduceSub,Nat.reduceMul,Nat.reduceLeDiff,Nat.reduceLT,Int.reduceLE,Int.reduceToNat,Int.reduceNeg,↓reduceIte];rfl)
   | exact .d (by kernel_rfl) (by exact drawsAny) (by simp only[go_sem,Nat.reduceEqDiff,reduceCtorEq,Nat.reduceAdd,Nat.reduceSub,Nat.reduceMul,Nat.reduceLeDiff,Nat.reduceLT,Int.reduceLE,Int.reduceToNat,Int.reduceNeg,↓reduceIte];rfl)
   | exact .t 1 (by kernel_rfl) (by exact drawsAny) (by simp only[AAN,ACl,AAB,f4,go_sem,Nat.reduceEqDiff,reduceCtorEq,Nat.reduceAdd,Nat.reduceSub,Nat.reduceMul,Nat.reduceLeDiff,Nat.reduceLT,Int.reduceLE,Int.reduceToNat,Int.reduceNeg,↓reduceIte];rfl)
   | exact .t 2 (by kernel_rfl) (by exact drawsAny) (by simp only[AAN,ACl,AAB,f4,go_sem,Nat.reduceEqDiff,reduceCtorEq,Nat.reduceAdd,Nat.reduceSub,Nat.reduceMul,Nat.reduceLeDiff,Nat.reduceLT,Int.reduceLE,Int.reduceToNat,Int.reduceNeg,↓reduceIte];rfl)
   | exact .t 3 (by kernel_rfl) (by exact drawsAny) (by simp only[AAN,ACl,AAB,f4,go_sem,Nat.reduceEqDiff,reduceCtorEq,Nat.reduceAdd,Nat.reduceSub,Nat.reduceMul,Nat.reduceLeDiff,Nat.reduceLT,Int.reduceLE,Int.reduceToNat,Int.reduceNeg,↓reduceIte];rfl)):Ev c R (.run (.region id ops b)) k σ:=AAX e f hk h
theorem eN {p:Prop} (h:p:=by simp only[go_sem,Nat.reduceEqDiff,reduceCtorEq,Nat.reduceAdd,Nat.reduceSub,Nat.reduceMul,Nat.reduceLeDiff,Nat.reduceLT,Int.reduceLE,Int.reduceToNat,Int.reduceNeg,↓reduceIte]<;>fail):p:=h
theorem eM {p q:Prop} (a:q) (h:p=q:=by simp only[go_sem,Nat.reduceEqDiff,reduceCtorEq,Nat.reduceAdd,Nat.reduceSub,Nat.reduceMul,Nat.reduceLeDiff,Nat.reduceLT,Int.reduceLE,Int.reduceToNat,Int.reduceNeg,↓reduceIte];rfl):p:=h▸a
theorem eR {p:Prop} (h:p:=by simp only[Ow,KM,JJ,LK,N0,Ju,Hz,go_sem,Nat.reduceEqDiff,reduceCtorEq,Nat.reduceAdd,Nat.reduceSub,Nat.reduceMul,Nat.reduceLeDiff,Nat.reduceLT,Int.reduceLE,Int.reduceToNat,Int.reduceNeg,↓reduceIte]<;>fail):p:=h
theorem Uf {p q:Prop} (a:q) (h:p=q:=by simp only[Ow,KM,JJ,LK,N0,Ju,Hz,go_sem,Nat.reduceEqDiff,reduceCtorEq,Nat.reduceAdd,Nat.reduceSub,Nat.reduceMul,Nat.reduceLeDiff,Nat.reduceLT,Int.reduceLE,Int.reduceToNat,Int.reduceNeg,↓reduceIte];rfl):p:=h▸a
theorem eV {p:Prop} (h:p:=by (try dsimp only[Ty.den]at *)<;>(repeat'(first|apply And.intro|intro _))<;>omega):p:=h
end
section
open Go Go.RowKit
section
variable {c:Cx} {R:Exit->Act->World->Prop} {k:List Dg} {σ σ':St}
theorem A2f (d:c.Ok) {id:Nat} {l:List Oper} (n:Nat) {vc:Prop} (h:CC c.tb l (l.take n) σ=some (vc,σ')) (f:vc) (hk:JK c R k l.toArray (l.drop n) σ') :
  Ev c R (.run (.region id l.toArray false)) k σ:=by
 intro h1 b a w hs;simp only[IW,B3,No]at h1;exact ADc (Qq d n (by simpa using h) f hk (λo e=>h1 o e) b a w hs)
theorem zC (F:c.Ok) {ops:Array Oper} {rest:List Oper} {dst:Option Nat} {g:Operand} {xs:List Operand} {ts:Array TypeId} {ty:TypeId} {pos:String} {after:Array Edge} {i:Option (Nat×Bool)}
  (H:Fq ops.toList σ i=some true)
  {f:FuncId} {j:List Nat} (G:Dy (Am σ g)=some (f,j)) {as:List AV} (E:J0 σ xs=some as)
  {A:List AV} {objs:List (Nat×Obj)} {stay:List Nat} {post:AV->List (Nat×Obj)->Prop} (C:Bb c.P f A objs stay post)
  (ren:List (Nat×CB)) (hs:List Nat) (h1:CM ren=true) (y:Cc objs ren=true) (L:(c.ds.pin.all λp=>!Ad p.1 hs)=true) (z:Bc σ ren (as++j.map λn=>AV.bp n [] 0) A) (D:Ai σ.objs ren objs)
  (hk:∀res e,post res e->∃(b:List (Nat×CB)) (h:AV) (d:List (Nat×Obj)),CM b=true/\Cc d b=true/\Ai e b d/\B9 b res h /\
   JV ren b stay hs=true/\Fu (Ao ren) d σ.objs=true/\JK c R k ops rest (Cg σ (Ao ren) hs dst h d)) :
  JK c R k ops (⟨dst,.call ⟨.value g,xs.toArray,ts⟩,ty,pos,after,i⟩ :: rest) σ:=by
 intro l I a w m;unfold wpListIn;rw[BY (IA (o:=⟨dst,.call ⟨.value g,xs.toArray,ts⟩,ty,pos,after,i⟩) m H)];refine eO F (xs:=xs) (ts:=ts) rfl rfl G E C ren h1 y z D hs L m (B2 (l _ sc)) λres e K=>?_;obtain⟨b,h,d,r,s,t,u,v,x,B⟩:=hk res e K;exact⟨b,h,d,r,s,t,u,v,x,λq w' M=>B (λo J=>l o (by simp[J])) I q w' M⟩
end
end
section
open Go Go.RowKit
section
variable {c:Cx} {ops:List Oper} {Kf:St->Prop} {τ:St} {ens:EN} {vc:Prop}
theorem Vu {A D:List Nat} {l:Nat} {b:List (List Nat×Nat)} {o:Oper} {d:St} {a:EN} (j:vc) (e:eQ c o d a (λm=>Mix c ops Kf b D a m)) (h:vB c.tb ops τ.objs (A++qs b D) [] τ.env=some (vc,ens):=by simp only[go_sem,Nat.reduceEqDiff,reduceCtorEq,Nat.reduceAdd,Nat.reduceSub,Nat.reduceMul,Nat.reduceLeDiff,Nat.reduceLT,Int.reduceLE,Int.reduceToNat,Int.reduceNeg,↓reduceIte];rfl) (g:VR ens τ.objs=true:=by rfl) (i:ops[l]?=some o:=by rfl)
  (k:Oi (ens.take A.length) τ=d:=by simp only[go_sem,Nat.reduceEqDiff,reduceCtorEq,Nat.reduceAdd,Nat.reduceSub,Nat.reduceMul,Nat.reduceLeDiff,Nat.reduceLT,Int.reduceLE,Int.reduceToNat,Int.reduceNeg,↓reduceIte];rfl) (f:ens.drop A.length=a:=by simp only[go_sem,Nat.reduceEqDiff,reduceCtorEq,Nat.reduceAdd,Nat.reduceSub,Nat.reduceMul,Nat.reduceLeDiff,Nat.reduceLT,Int.reduceLE,Int.reduceToNat,Int.reduceNeg,↓reduceIte];rfl):Mix c ops Kf ((A,l) :: b) D ens τ:=A2b h j g i k f e
theorem p6 {R:Exit->Act->World->Prop} {k:List Dg} {σ':St} (d:c.Ok) {D:List Nat} {l:List Oper} {a:Prop} (f:vc) (g:a) (hk:Ev c R (.out .normal) k σ') (h:vB c.tb ops τ.objs D [] τ.env=some (vc,ens):=by simp only[go_sem,Nat.reduceEqDiff,reduceCtorEq,Nat.reduceAdd,Nat.reduceSub,Nat.reduceMul,Nat.reduceLeDiff,Nat.reduceLT,Int.reduceLE,Int.reduceToNat,Int.reduceNeg,↓reduceIte];rfl) (e:VR ens τ.objs=true:=by rfl)
  (b:EE c.tb.live (CC c.tb ops l (Oi ens τ))=some (a,σ'):=by simp only[go_sem,Nat.reduceEqDiff,reduceCtorEq,Nat.reduceAdd,Nat.reduceSub,Nat.reduceMul,Nat.reduceLeDiff,Nat.reduceLT,Int.reduceLE,Int.reduceToNat,Int.reduceNeg,↓reduceIte];rfl):Mix c ops (fun τ=>JK c R k ops.toArray l τ) [] D ens τ:=A2a h f e (Ha _ d b g hk)
end
section
variable {c:Cx} {o:Oper} {σ:St} {ens:EN} {N:St->Prop} {R:Exit->Act->World->Prop} {k:List Dg} {σ':St}
theorem e9 (b:c.Ok) {τ:St} {vc:Prop} (ns:List Nat) (i:vc) (a:N τ) (h:HX c.tb o σ=some (vc,τ):=by simp only[go_sem,Nat.reduceEqDiff,reduceCtorEq,Nat.reduceAdd,Nat.reduceSub,Nat.reduceMul,Nat.reduceLeDiff,Nat.reduceLT,Int.reduceLE,Int.reduceToNat,Int.reduceNeg,↓reduceIte];rfl) (f:tn σ o.op=ns:=by simp only[go_sem,Nat.reduceEqDiff,reduceCtorEq,Nat.reduceAdd,Nat.reduceSub,Nat.reduceMul,Nat.reduceLeDiff,Nat.reduceLT,Int.reduceLE,Int.reduceToNat,Int.reduceNeg,↓reduceIte]) (g:LT o ens=true:=by rfl) (hn:J5 ns σ.objs ens=true:=by rfl) (e:Qu τ.objs ens=true:=by rfl)
  (hf:L7 ns ens=ens:=by simp only[go_sem,Nat.reduceEqDiff,reduceCtorEq,Nat.reduceAdd,Nat.reduceSub,Nat.reduceMul,Nat.reduceLeDiff,Nat.reduceLT,Int.reduceLE,Int.reduceToNat,Int.reduceNeg,↓reduceIte]) (d:IV c.nt o=true:=by rfl):eQ c o σ ens N:=y7 b ns h f g hn e hf d i a
theorem mxC (o:c.Ok) {dst:Option Nat} {g:Operand} {xs:List Operand} {ts:Array TypeId} {ty:TypeId} {pos:String} {after:Array Edge} {f:FuncId} {d:List Nat} {as:List AV}
  {A:List AV} {objs:List (Nat×Obj)} {stay:List Nat} {post:AV->List (Nat×Obj)->Prop} (k:Bb c.P f A objs stay post) (ren:List (Nat×CB)) (hs:List Nat)
  (j:Bc σ ren (as++d.map λn=>AV.bp n [] 0) A) (l:Ai σ.objs ren objs)
  (hk:∀res e,post res e->∃(b:List (Nat×CB)) (h:AV) (a:List (Nat×Obj)),CM b=true/\Cc a b=true/\Ai e b a/\B9 b res h /\
   JV ren b stay hs=true/\Fu (Ao ren) a σ.objs=true/\Qu a ens=true/\N (Cg σ (Ao ren) hs dst h a))
  (r:Dy (Am σ g)=some (f,d):=by simp only[go_sem,Nat.reduceEqDiff,reduceCtorEq,Nat.reduceAdd,Nat.reduceSub,Nat.reduceMul,Nat.reduceLeDiff,Nat.reduceLT,Int.reduceLE,Int.reduceToNat,Int.reduceNeg,↓reduceIte];rfl) (m:J0 σ xs=some as:=by simp only[go_sem,Nat.reduceEqDiff,reduceCtorEq,Nat.reduceAdd,Nat.reduceSub,Nat.reduceMul,Nat.reduceLeDiff,Nat.reduceLT,Int.reduceLE,Int.reduceToNat,Int.reduceNeg,↓reduceIte];rfl) (h1:CM ren=true:=by rfl) (i:Cc objs ren=true:=by rfl) (s:(c.ds.pin.all λp=>!Ad p.1 hs)=true:=by rfl)
  (t:LT ⟨dst,.call ⟨.value g,xs.toArray,ts⟩,ty,pos,after,none⟩ ens=true:=by rfl) (hn:J5 (Ao ren) σ.objs ens=true:=by rfl) (hf:L7 hs ens=ens:=by simp only[go_sem,Nat.reduceEqDiff,reduceCtorEq,Nat.reduceAdd,Nat.reduceSub,Nat.reduceMul,Nat.reduceLeDiff,Nat.reduceLT,Int.reduceLE,Int.reduceToNat,Int.reduceNeg,↓reduceIte]) (q:IV c.nt ⟨dst,.call ⟨.value g,xs.toArray,ts⟩,ty,pos,after,none⟩=true:=by rfl) :
  eQ c ⟨dst,.call ⟨.value g,xs.toArray,ts⟩,ty,pos,after,none⟩ σ ens N:=y8 o r m k ren hs h1 i s t hn hf q j l hk
theorem evP (a:c.Ok) {id:Nat} {l:List Oper} (n:Nat) {vc:Prop} (b:vc) (hk:JK c R k l.toArray (l.drop n) σ') (h:CC c.tb l (l.take n) σ=some (vc,σ'):=by simp only[AAN,AAB,go_sem,Nat.reduceEqDiff,reduceCtorEq,Nat.reduceAdd,Nat.reduceSub,Nat.reduceMul,Nat.reduceLeDiff,Nat.reduceLT,Int.reduceLE,Int.reduceToNat,Int.reduceNeg,↓reduceIte];rfl):Ev c R (.run (.region id l.toArray false)) k σ:=A2f a n h b hk
theorem clG (r:c.Ok) {ops:Array Oper} {rest:List Oper} {dst:Option Nat} {g:Operand} {xs:List Operand} {ts:Array TypeId} {ty:TypeId} {pos:String} {after:Array Edge} {e:Option (Nat×Bool)} {f:FuncId} {d:List Nat} {as:List AV}
  {A:List AV} {objs:List (Nat×Obj)} {stay:List Nat} {post:AV->List (Nat×Obj)->Prop} (m:Bb c.P f A objs stay post) (ren:List (Nat×CB)) (hs:List Nat) (l:Bc σ ren (as++d.map λn=>AV.bp n [] 0) A) (o:Ai σ.objs ren objs)
  (hk:∀res h,post res h->∃(a:List (Nat×CB)) (i:AV) (b:List (Nat×Obj)),CM a=true/\Cc b a=true/\Ai h a b/\B9 a res i /\
   JV ren a stay hs=true/\Fu (Ao ren) b σ.objs=true/\JK c R k ops rest (Cg σ (Ao ren) hs dst i b))
  (t:Fq ops.toList σ e=some true:=by simp only[go_sem,Nat.reduceEqDiff,reduceCtorEq,Nat.reduceAdd,Nat.reduceSub,Nat.reduceMul,Nat.reduceLeDiff,Nat.reduceLT,Int.reduceLE,Int.reduceToNat,Int.reduceNeg,↓reduceIte]) (s:Dy (Am σ g)=some (f,d):=by simp only[go_sem,Nat.reduceEqDiff,reduceCtorEq,Nat.reduceAdd,Nat.reduceSub,Nat.reduceMul,Nat.reduceLeDiff,Nat.reduceLT,Int.reduceLE,Int.reduceToNat,Int.reduceNeg,↓reduceIte];rfl) (q:J0 σ xs=some as:=by simp only[go_sem,Nat.reduceEqDiff,reduceCtorEq,Nat.reduceAdd,Nat.reduceSub,Nat.reduceMul,Nat.reduceLeDiff,Nat.reduceLT,Int.reduceLE,Int.reduceToNat,Int.reduceNeg,↓reduceIte];rfl) (h1:CM ren=true:=by rfl) (j:Cc objs ren=true:=by rfl) (u:(c.ds.pin.all λp=>!Ad p.1 hs)=true:=by rfl) :
  JK c R k ops (⟨dst,.call ⟨.value g,xs.toArray,ts⟩,ty,pos,after,e⟩ :: rest) σ:=zC r t s q m ren hs h1 j u l o hk
theorem E2 (l:List Nat) {n:uU} {a:St} (hk:Ev c R n k a) (h:DN l σ=a:=by simp only[go_sem,Nat.reduceEqDiff,reduceCtorEq,Nat.reduceAdd,Nat.reduceSub,Nat.reduceMul,Nat.reduceLeDiff,Nat.reduceLT,Int.reduceLE,Int.reduceToNat,Int.reduceNeg,↓reduceIte];rfl):Ev c R n k σ:=Ev.ent hk (uZ l h λ_ _ h=>h)
theorem AAY (l:List Nat) {a:St} (b:Ent c a σ') (h:DN l σ=a:=by simp only[go_sem,Nat.reduceEqDiff,reduceCtorEq,Nat.reduceAdd,Nat.reduceSub,Nat.reduceMul,Nat.reduceLeDiff,Nat.reduceLT,Int.reduceLE,Int.reduceToNat,Int.reduceNeg,↓reduceIte];rfl):Ent c σ σ':=uZ l h b
end
theorem eW {c:Cx} {σ σ':St} (ren:List (Nat×CB)) (h1:CM ren=true:=by rfl) (a:Cc σ'.objs ren=true:=by rfl) (d:Ai σ.objs ren σ'.objs:=by exact eN) (b:GV σ.env ren σ'.env:=by exact eN) (e:A8Y c.ds.pin ren=true:=by rfl):Ent c σ σ':=AC ren h1 a d b e
theorem eT {p:Prop} (h:p:=by simp only[Uc,yX,Sj,Z4,JJ,LK,Ju,go_sem,Nat.reduceEqDiff,reduceCtorEq,Nat.reduceAdd,Nat.reduceSub,Nat.reduceMul,Nat.reduceLeDiff,Nat.reduceLT,Int.reduceLE,Int.reduceToNat,Int.reduceNeg,↓reduceIte]<;>fail):p:=h
section
variable {P:Program} {ty:List (Nat×TI)} {fs:List (Nat×AZ)} {nt:Nat} {f:FuncId} {fn:Func} {cd:Code}
theorem oY (a b:List Nat) (ne:List (Nat×TypeId)) {sp:AZ} (e:P.funcs[f]?=some fn) (j:fn.ntmps=nt) (hF:JQ P ⟨ty,fs,b,ne,a⟩)
  (h:∀(w0:World) (O0:Nat->Prop) (ds:Ku sp.ins),(cx P ⟨ty,fs,b,ne,a⟩ w0 O0 nt).Ok->oks sp.ins ds->sp.pre ds->Ev (cx P ⟨ty,fs,b,ne,a⟩ w0 O0 nt) (Wv P fn w0 O0 (sp.out ds)) (.run cd) [] ⟨AL 0 sp.ins ds,[]⟩)
  (c : fn.body = some cd := by rfl) (hT : DQ P ⟨ty, fs, b, ne, a⟩ := by exact tyTab_ok _ _ _ _) (i : (fn.name == "runtime.NumGoroutine") = false := by kernel_rfl) (g : sp.ins.length <= nt := by decide) (d : B3 nt cd = true := by kernel_rfl) : Aa P f sp := A8j e i c j g d hT hF h
theorem fK (a:List Nat) {sp:AZ} (d:P.funcs[f]?=some fn) (i:fn.ntmps=nt) (hF:JQ P ⟨ty,fs,[],[],a⟩)
  (h:∀(w0:World) (O0:Nat->Prop) (ds:Ku sp.ins),(cx P ⟨ty,fs,[],[],a⟩ w0 O0 nt).Ok->oks sp.ins ds->sp.pre ds->Ev (cx P ⟨ty,fs,[],[],a⟩ w0 O0 nt) (Wv P fn w0 O0 (sp.out ds)) (.run cd) [] ⟨AL 0 sp.ins ds,[]⟩)
  (b : fn.body = some cd := by rfl) (hT : DQ P ⟨ty, fs, [], [], a⟩ := by exact tyTab_ok _ _ _ _) (g : (fn.name == "runtime.NumGoroutine") = false := by kernel_rfl) (e : sp.ins.length <= nt := by decide) (c : B3 nt cd = true := by kernel_rfl) : Aa P f sp := A8j d g b i e c hT hF h
variable {args:List AV} {objs:List (Nat×Obj)} {stay:List Nat} {post:AV->List (Nat×Obj)->Prop}
theorem OJ (a b:List Nat) (ne:List (Nat×TypeId)) (e:P.funcs[f]?=some fn) (k:fn.ntmps=nt) (hF:JQ P ⟨ty,fs,b,ne,a⟩)
  (h:∀(w0:World) (K O0:Nat->Prop) (ρ0:Nat->Value),(cm P ⟨ty,fs,b,ne,a⟩ w0 K O0 nt (stay.map λn=>(n,ρ0 n))).Ok->Qs args->Pb objs ->
   Ev (cm P ⟨ty,fs,b,ne,a⟩ w0 K O0 nt (stay.map λn=>(n,ρ0 n))) (A6t P fn w0 K O0 stay ρ0 post) (.run cd) [] ⟨A6 0 args,objs⟩)
  (c : fn.body = some cd := by rfl) (hT : DQ P ⟨ty, fs, b, ne, a⟩ := by exact tyTab_ok _ _ _ _) (j : (fn.name == "runtime.NumGoroutine") = false := by kernel_rfl) (i : args.length <= nt := by simp only [Is, AC5]; omega) (d : B3 nt cd = true := by kernel_rfl) (l : stay.all (Ub objs) = true := by rfl) (g : Ms objs = true := by rfl) : Bb P f args objs stay post := A95 e j c k i d l g hT hF h
theorem fKR (a b:List Nat) (ne:List (Nat×TypeId)) (e:P.funcs[f]?=some fn) (k:fn.ntmps=nt) (hF:JQ P ⟨ty,fs,b,ne,a⟩)
  (h:∀(w0:World) (K O0:Nat->Prop) (ρ0:Nat->Value),(cm P ⟨ty,fs,b,ne,a⟩ w0 K O0 nt (stay.map λn=>(n,ρ0 n))).Ok->Qs args->Pb objs ->
   Ev (cm P ⟨ty,fs,b,ne,a⟩ w0 K O0 nt (stay.map λn=>(n,ρ0 n))) (vG P fn w0 K O0 stay ρ0 post) (.run cd) [] ⟨A6 0 args,objs⟩)
  (c : fn.body = some cd := by rfl) (hT : DQ P ⟨ty, fs, b, ne, a⟩ := by exact tyTab_ok _ _ _ _) (j : (fn.name == "runtime.NumGoroutine") = false := by kernel_rfl) (i : args.length <= nt := by simp only [Is, AC5]; omega) (d : B3 nt cd = true := by kernel_rfl) (l : stay.all (Ub objs) = true := by rfl) (g : Ms objs = true := by rfl) : Bb P f args objs stay post := A6z e j c k i d l g hT hF h
end
theorem fI {P:Program} {tb:Tb} {w0:World} {O0:Nat->Prop} {nt:Nat} (c:(cx P tb w0 O0 nt).Ok) {fn:Func} {a:List RV} {σ:St} {e:Exit} (b:List ResultVar) (h:Ow tb σ b a:=by exact eR) (i:fn.results.toList=b:=by rfl) (f:e=.ret\/e=.normal:=by exact .inl rfl) (g:∀r∈a,∃t d,r=.p t d:=by simp) :
  Ev (cx P tb w0 O0 nt) (Wv P fn w0 O0 a) (.out e) [] σ:=A93 c b i f g h
theorem fM {P:Program} {tb:Tb} {w0:World} {K O0:Nat->Prop} {nt:Nat} {stay:List Nat} {ρ0:Nat->Value} {fn:Func} {post:AV->List (Nat×Obj)->Prop} {σ:St} {e:Exit} (b:(cm P tb w0 K O0 nt (stay.map λn=>(n,ρ0 n))).Ok)
  (a:List ResultVar) (res:AV) (h:Uc tb σ a res) (d:post res σ.objs) (f:fn.results.toList=a:=by rfl) (c:e=.ret\/e=.normal:=by first|exact .inl rfl|exact .inr rfl) :
  Ev (cm P tb w0 K O0 nt (stay.map λn=>(n,ρ0 n))) (A6t P fn w0 K O0 stay ρ0 post) (.out e) [] σ:=A6u b a f c res h d
end
section
open Go Go.RowKit
structure XW (X σ:St) (n:Nat):Prop where
 env:∀s v,lk s X.env=some v->v.trn n []=v
 arr:∀m o,lk m X.objs=some o->M4 o=true
 new:∀m o,lk m X.objs=some o->lk m σ.objs=none
 nm:∀m o,lk m X.objs=some o->m≠n
section
variable {σ σ' X:St} {n:Nat}
theorem XW.obs (b:Oj σ σ' X) (ha:XW X σ n):iU σ σ':=by
 intro m o hn;rw[b.objs];cases a:lk m X.objs with
 | none=>exact hn
 | some c=>rw[ha.new m c a]at hn;cases hn
theorem AC6 (b:Oj σ σ' X) (ha:XW X σ n) {en:List (Nat×AV)} {new:List (Nat×Obj)} (c:∀s v,lk s en=some v->lk s X.env=none) (e:∀m o,lk m new=some o->lk m X.objs=none) :
  Oj ⟨en++Ey n [] σ.env,new++DF n [] σ.objs⟩ ⟨en++Ey n [] σ'.env,new++DF n [] σ'.objs⟩ X:=by
 refine⟨λs=>?_,λm=>?_⟩
 .simp only[BB];cases hs:lk s en with
  | some v=>rw[c s v hs];rfl
  | none =>
   rw[F7,F7,b.env];cases a:lk s X.env with
   | none=>rfl
   | some w=>simp[ha.env s w a]
 simp only[BB];cases d:lk m new with
 | some o=>rw[e m o d];rfl
 | none =>
  rw[Df,Df,b.objs];cases a:lk m X.objs with
  | none=>rfl
  | some w =>
   rw[At λh=>ha.nm m w a (by simpa using (Ah _ _).1 h)];exact ACb some (aD (ha.arr m w a))
def p7 (σ:St):Op->Option Nat
 | .call c=>match c.callee,c.args.toList,c.argTypes.toList with
  | .builtin .append,[x,_],[_,_]=>(match Am σ x with|some (.nin n _ _ _)=>some n|_=>none)
  | _,_,_=>none
 | _=>none
theorem A6A {tb:Tb} {op:Op} {d:Option Nat} {vc:Prop} {τ:St} (j:Oj σ σ' X) (ha:XW X σ n) (r:pW σ σ' op.operands.toList) (a:p7 σ op=some n) (G:∀t,d=some t->lk t X.env=none) (E:∀n,(∃u,lk n τ.objs=some u)->lk n X.objs=none) (h:GQ tb σ d op=some (vc,τ)) :
  (∃B,GQ tb σ' d op=some (vc,B)/\Oj τ B X)/\(∀k,aq tb σ' k op=none)/\(∀k,aq tb σ k op=none)/\Ca σ op=[]/\Ca σ' op=[]:=by
 have p:=ha.obs j;cases op<;>try(cases a;done)
 rename_i cl;obtain⟨callee,⟨args⟩,⟨argTypes⟩⟩:=cl;simp only[p7]at a;split at a
 .rename_i x y t u;cases f:Am σ x with
  | none=>rw[f]at a;cases a
  | some xv =>
   rw[f]at a;cases xv<;>try(cases a;done)
   rename_i Q e i len;cases a;have z:Am σ' x=Am σ x:=r x (by simp[Op.operands,Call.operands]);have N:Am σ' y=Am σ y:=r y (by simp[Op.operands,Call.operands]);refine⟨?_,λk=>by simp[aq,DW,Dv,DG,z,f],λk=>by simp[aq,DW,Dv,DG,f],rfl,rfl⟩;simp only[GQ,Ds,ER,f]at h;simp only[GQ,Ds,ER,Dr,z,f,N];cases A:Am σ y with
   | none=>rw[A]at h;unfold Dr at h;cases h
   | some v =>
    rw[A]at h;simp only[Dr]at h;split at h
    .rename_i b;have H:=G b rfl;simp only;split at h
     .rename_i M;rw[BY M];unfold QL at h ⊢;split at h
      .rename_i O R el b2 L;try rw[L]
       try simp only
       split at h
       .rename_i J;rw[BY J];unfold UG at h ⊢;split at h
        .rename_i ti et P k c xs h1 K;try rw[h1]
         try rw[p _ _ K]
         try simp only
         split at h
         .rename_i F;rw[BY F];unfold Ot at h ⊢;split at h
          .rename_i ys C;rw[Mv p C];try simp only
           split at h
           .rename_i m;have l:lk b X.objs=none:=by
             refine E b ?_;cases h;exact⟨_,by simp only[lk,AAt];rfl⟩
            have I:(lk b σ'.objs).isNone=true/\ys.isEmpty=false:=⟨by rw[j.objs,l];exact m.1,m.2⟩;rw[BY I];cases h;refine⟨_,rfl,AC6 (en:=[(b,_)]) (new:=[(b,_),(n,_)]) j ha (λs v h=>?_) (λq o g=>?_)⟩
            .simp only[lk]at h;split at h
             .rename_i c;rw[c];exact H
             cases h
            simp only[lk]at g;split at g
            .rename_i c;rw[c];exact l
            split at g
            .rename_i c;rw[c];cases D:lk n X.objs with
             | none=>rfl
             | some w=>exact absurd rfl (ha.nm n w D)
            cases g
           cases h
          cases h
         cases h
        cases h
       cases h
      cases h
     cases h
    cases h
 cases a
end
def XX (n:Nat):EN->EN
 | []=>[]
 | (d,v,obs) :: r=>(d,v.trn n [],obs) :: XX n r
theorem XY {n:Nat}:∀ {ens:EN},XX n ens=ens->∀e∈ens,e.2.1.trn n []=e.2.1
 | [],_,e,a=>by cases a
 | (d,v,obs) :: r,h,e,a=>by
  simp only[XX,ACJ,ADx,and_true,true_and]at h;rcases Do.1 a with rfl|a
  .exact h.1
  exact XY h.2 e a
section
variable {c:Cx} {o:Oper} {σ:St} {ens:EN} {N:St->Prop}
theorem A2g (I:c.Ok) {τ:St} {vc:Prop} (n:Nat) (h:HX c.tb o σ=some (vc,τ)) (b:p7 σ o.op=some n) (z:LT o ens=true) (hn:J5 [n] σ.objs ens=true) (K:Qu τ.objs ens=true) (hf:XX n ens=ens) (J:IV c.nt o=true) (O:vc) (E:N τ):eQ c o σ ens N:=by
 intro X σ' A g a w next Q hs hk
 have ha:XW X σ n:=by
  refine⟨λs v hs=>?_,λm o l=>?_,λm o l=>?_,λm o l=>?_⟩
  .obtain⟨obs,i⟩:=g.env s v hs;exact XY hf _ i
  all_goals
   obtain⟨e,k,p⟩:=g.objs m o l;have:=GA hn e k _ p
  .exact this.2.2
  .exact this.1
  grind
 have G:∀t∈Hr o.op,lk t X.env=none:=λt q=>by
  cases f:lk t X.env with
  | none=>rfl
  | some v=>obtain⟨obs,i⟩:=g.env t v f;exact absurd q (E1 z _ i).1
 have F:∀t,o.dst=some t->lk t X.env=none:=λt q=>by
  cases f:lk t X.env with
  | none=>rfl
  | some v=>obtain⟨obs,i⟩:=g.env t v f;exact absurd q (E1 z _ i).2
 have H:∀n,(∃u,lk n τ.objs=some u)->lk n X.objs=none:=λn hu=>by
  cases f:lk n X.objs with
  | none=>rfl
  | some v =>
   obtain⟨e,k,p⟩:=g.objs n v f;obtain⟨u,hu⟩:=hu;rw[LU K e k _ p]at hu;cases hu
 have L:=Vs A G;have key:∃d,HX c.tb o σ'=some (vc,d)/\Oj τ d X:=by
  have x:Ca σ o.op=[]/\Ca σ' o.op=[]:=by
   obtain⟨dst,op,ty,pos,after,C⟩:=o;simp only at b ⊢;cases op<;>first|exact⟨rfl,rfl⟩|cases b
  unfold HX UJ at h ⊢;rw[x.1]at h;rw[x.2];simp only[DN]at h ⊢;cases y:aq c.tb σ (o.dst.getD 0) o.op with
  | some r =>
   obtain⟨dst,op,ty,pos,after,C⟩:=o;simp only at b y;exfalso;cases op<;>try(cases b;done)
   rename_i cl;obtain⟨callee,⟨args⟩,⟨argTypes⟩⟩:=cl;simp only[p7]at b;split at b
   .grind [Am,aq,DW,Dv,DG]
   cases b
  | none =>
   rw[y]at h;simp only[Mh]at h;obtain⟨⟨d,h1,j⟩,D,_⟩:=A6A A ha L b F H h;rw[D];simp only[Mh];exact⟨d,h1,j⟩
 obtain⟨d,h1,j⟩:=key;exact Qd I hs h1 O (B2 J) λB w' M=>hk τ E B w' d j M
theorem mxN (b:c.Ok) {τ:St} {vc:Prop} (n:Nat) (i:vc) (a:N τ) (h:HX c.tb o σ=some (vc,τ):=by simp only[go_sem,Nat.reduceEqDiff,reduceCtorEq,Nat.reduceAdd,Nat.reduceSub,Nat.reduceMul,Nat.reduceLeDiff,Nat.reduceLT,Int.reduceLE,Int.reduceToNat,Int.reduceNeg,↓reduceIte];rfl) (f:p7 σ o.op=some n:=by simp only[go_sem,Nat.reduceEqDiff,reduceCtorEq,Nat.reduceAdd,Nat.reduceSub,Nat.reduceMul,Nat.reduceLeDiff,Nat.reduceLT,Int.reduceLE,Int.reduceToNat,Int.reduceNeg,↓reduceIte]) (g:LT o ens=true:=by rfl) (hn:J5 [n] σ.objs ens=true:=by rfl) (e:Qu τ.objs ens=true:=by rfl)
  (hf:XX n ens=ens:=by simp only[go_sem,Nat.reduceEqDiff,reduceCtorEq,Nat.reduceAdd,Nat.reduceSub,Nat.reduceMul,Nat.reduceLeDiff,Nat.reduceLT,Int.reduceLE,Int.reduceToNat,Int.reduceNeg,↓reduceIte]) (d:IV c.nt o=true:=by rfl):eQ c o σ ens N:=A2g b n h f g hn e hf d i a
end
end
section
open Go Go.RowKit
section
variable {P:Program} {tb:Tb} {w0:World} {K O0:Nat->Prop} {nt:Nat} {ds:Fp} {σ:St} {ρ:Nat->Value} {a:Act} {w:World}
theorem B0.swapP (h:B0 w0 K O0 nt ds σ ρ a w) (H:∀b,K b->b<w0.heap.size) (ab:∀b,O0 b->b<w0.heap.size) {T:Nat->Prop} (hT:∀n,T n->∃o,lk n σ.objs=some o) (I:∀p∈ds.pin,¬T p.1)
  {new:List (Nat×Obj)} {σ':St} {ρ':Nat->Value} {w':World} {dst:Option Nat} {u:Value}
  (W:w'.os=w.os) (Z:w'.tape=w.tape) (X:w'.output=w.output) (Y:w.heap.size<=w'.heap.size)
  (N:∀b,b<w.heap.size->(∀n,T n->¬bk (ρ n) b)->w'.heap[b]?=w.heap[b]?)
  (q:∀n o,lk n σ'.objs=some o->lk n new=none->¬T n/\∃d,lk n σ.objs=some d)
  (O:∀n o,lk n σ.objs=some o->¬T n->lk n new=none/\∃d,lk n σ'.objs=some d)
  (j:∀n,lk n new=none->ρ' n=ρ n)
  (C:∀n o b,lk n new=some o->bk (ρ' n) b->(∃m,T m/\bk (ρ m) b)\/w.heap.size<=b)
  (J:∀n m o r b,lk n new=some o->lk m new=some r->bk (ρ' n) b->bk (ρ' m) b->n=m)
  (V:∀n o,lk n σ'.objs=some o->BD (vw w' O0 σ' ρ') o (ρ' n))
  (L:∀s v,lk s σ'.env=some v->CE (vw w' O0 σ' ρ') v ((a.put dst u).tmps.getD s undef)) :
  B0 w0 K O0 nt ds σ' ρ' (a.put dst u) w':=by
 have ad:∀m,T m->∀b,bk (ρ m) b->b<w.heap.size:=λm c b i=>by
  obtain⟨o,f⟩:=hT m c;exact(h.objs m o f).block_lt i
 have y:∀m,T m->∀b,bk (ρ m) b->¬K b/\¬O0 b:=λm c b i=>by
  obtain⟨o,f⟩:=hT m c;exact h.free m b ⟨o,f⟩ i
 refine⟨⟨W.trans h.frm.os,Z.trans h.frm.tape,X.trans h.frm.output,R5 h.frm.size Y,λk hk=>?_⟩,by rw[Ml];exact h.nt,by rw[IT];exact h.defers,λp B=>?_,V,?_,?_,L⟩
 .exact(N k (AAv (H k hk) h.frm.size) λn hn i=>(y n hn k i).1 hk).trans (h.frm.block k hk)
 .obtain⟨⟨o,h1⟩,g,G⟩:=h.pin p B;have Q:¬T p.1:=I p B;obtain⟨E,F⟩:=O p.1 o h1 Q;exact⟨F,(j _ E).trans g,G⟩
 .intro n b x i;obtain⟨o,f⟩:=x;cases hn:lk n new with
  | none =>
   obtain⟨_,d,h1⟩:=q n o f hn;rw[j n hn]at i;exact h.free n b ⟨d,h1⟩ i
  | some e =>
   rcases C n e b hn i with ⟨m,c,t⟩|M
   .exact y m c b t
   have:=h.frm.size;grind
 have key:∀n m o e b,lk n σ'.objs=some o->lk n new=none->lk m new=some e->bk (ρ' n) b->bk (ρ' m) b->False:=by
  intro n m o e b f hn c h1 g;obtain⟨R,d,l⟩:=q n o f hn;rw[j n hn]at h1;rcases C m e b c g with ⟨D,z,t⟩|M
  .obtain⟨aa,U⟩:=hT D z;have:=h.dist n D b ⟨d,l⟩ ⟨aa,U⟩ h1 t;exact R (this▸z)
  have ae:b<w.heap.size:=(h.objs n d l).block_lt h1;omega
 intro n m b x P h1 g;obtain⟨o,f⟩:=x;obtain⟨r,A⟩:=P;cases hn:lk n new with
 | none =>
  cases c:lk m new with
  | none =>
   obtain⟨_,d,l⟩:=q n o f hn;obtain⟨_,e,S⟩:=q m r A c;rw[j n hn]at h1;rw[j m c]at g;exact h.dist n m b ⟨d,l⟩ ⟨e,S⟩ h1 g
  | some e=>exact(key n m o e b f hn c h1 g).elim
 | some d =>
  cases c:lk m new with
  | none=>exact(key m n r d b A c hn g h1).elim
  | some e=>exact J n m d e b hn c h1 g
theorem B0.swap1P (h:B0 w0 K O0 nt ds σ ρ a w) (W:∀b,K b->b<w0.heap.size) (C:∀b,O0 b->b<w0.heap.size) {tl:List Nat} (hT:∀n,n∈tl->∃o,lk n σ.objs=some o) (X:∀p∈ds.pin,¬p.1∈tl)
  {e:Nat} (ar:e∈tl\/lk e σ.objs=none) {l:Obj} {loc:Value} {w':World}
  (ag:w'.os=w.os) (ak:w'.tape=w.tape) (ah:w'.output=w.output) (ai:w.heap.size<=w'.heap.size)
  (F:∀b,b<w.heap.size->(∀n,n∈tl->¬bk (ρ n) b)->w'.heap[b]?=w.heap[b]?)
  (ad:∀b,bk loc b->(∃m,m∈tl/\bk (ρ m) b)\/w.heap.size<=b)
  (af:∀V':Vw,V'.w=w'->Cb ⟨w,own O0 σ ρ,λ_=>False,ρ⟩ V'->(∀b m,m∈tl->bk (ρ m) b->¬bk loc b->¬V'.O b)->BD V' l loc)
  {d:Nat} (aa:d<nt) {v:AV} {u:Value} (Z:∀V':Vw,V'.L e->V'.ρ e=loc->CE V' v u) :
  B0 w0 K O0 nt ds ⟨(d,v) :: CA tl σ.env,(e,l) :: Ar tl tl σ.objs⟩ (Eu ρ e loc) (a.put (some d) u) w':=by
 let S:St:=⟨(d,v) :: CA tl σ.env,(e,l) :: Ar tl tl σ.objs⟩
 have D:∀m o,lk m S.objs=some o->(m=e/\o=l)\/(m≠e/\m∉tl/\∃c,lk m σ.objs=some c/\o=c.fgt tl):=by
  intro m o f;simp only[S,lk]at f;split at f
  .grind
  rename_i ao;rw[Bm]at f;split at f
  .cases f
  rename_i ap;simp only[OS]at f;grind [Ah]
 have Y:∀m,m≠e->m∉tl->∀c,lk m σ.objs=some c->lk m S.objs=some (c.fgt tl):=by grind [lk,Bm,Ah]
 have M:∀m,m∉tl->(∃o,lk m σ.objs=some o)->m≠e:=by grind
 have A:Eu ρ e loc e=loc:=Bt _ _ _;have r:∀m,m≠e->Eu ρ e loc m=ρ m:=λm h1=>by simp[Eu,h1]
 generalize Eu ρ e loc=ρ' at A r;have N:∀b,b<w.heap.size->¬own O0 σ ρ b->¬own O0 S ρ' b:=by
  intro b k q am;rcases am with h0|⟨m,⟨o,ae⟩,z⟩
  .exact q (.inl h0)
  rcases D m o ae with ⟨rfl,_⟩|⟨h1,i,c,g,_⟩
  .rw[A]at z;rcases ad b z with ⟨t,aj,H⟩|H
   .obtain⟨c,j⟩:=hT t aj;exact q (.inr ⟨t,⟨c,j⟩,H⟩)
   omega
  rw[r m h1]at z;exact q (.inr ⟨m,⟨c,g⟩,z⟩)
 have J:∀b,b<w.heap.size->¬own O0 σ ρ b->w'.heap[b]?=w.heap[b]?:=λb k q=>F b k λn hn E=>by
  obtain⟨c,j⟩:=hT n hn;exact q (.inr ⟨n,⟨c,j⟩,E⟩)
 have ab:Cb ⟨w,own O0 σ ρ,λ_=>False,ρ⟩ (vw w' O0 S ρ'):=⟨N,λ_ h=>h.elim,λ_ h=>h.elim,J⟩;have hk:Cb ((vw w O0 σ ρ).buts tl) (vw w' O0 S ρ'):=by
  refine⟨N,λm f=>?_,λm f=>?_,J⟩
  .obtain⟨⟨c,h1⟩,i⟩:=f;have g:m∉tl:=λh=>by rw[(Ah _ _).2 h]at i;cases i
   exact⟨_,Y m (M m g ⟨c,h1⟩) g c h1⟩
  obtain⟨⟨c,h1⟩,i⟩:=f;have g:m∉tl:=λh=>by rw[(Ah _ _).2 h]at i;cases i
  exact r m (M m g ⟨c,h1⟩)
 refine h.swapP W C (T:=λm=>m∈tl) hT X (new:=[(e,l)]) ag ak ah ai F ?_ ?_ ?_ ?_ ?_ ?_ ?_
 .grind [lk]
 .grind [lk]
 .grind [lk]
 .grind [lk]
 .grind [lk]
 .intro m o f;rcases D m o f with ⟨rfl,rfl⟩|⟨h1,i,c,g,rfl⟩
  .rw[A];refine af _ rfl ab λb m f k aq C=>?_;obtain⟨P,j⟩:=hT m f;rcases C with h0|⟨G,⟨an,V⟩,I⟩
   .exact(h.free m b ⟨P,j⟩ k).2 h0
   rcases D G an V with ⟨rfl,_⟩|⟨Q,R,c,U,_⟩
   .grind
   rw[r G Q]at I;exact R ((h.dist G m b ⟨_,U⟩ ⟨_,j⟩ I k)▸f)
  rw[r m h1];refine Vf hk (λb k=>F b ((h.objs m c g).block_lt k) λn hn E=>?_) (h.objs m c g);obtain⟨P,j⟩:=hT n hn;exact i ((h.dist m n b ⟨_,g⟩ ⟨_,j⟩ k E)▸hn)
 intro s x hs;rw[LE a d u s (by rw[h.nt];exact aa)];simp only[S,lk]at hs;split at hs
 .rename_i B;cases hs;rw[BY B];exact Z _ ⟨l,by simp[S,lk]⟩ A
 rename_i B;rw[At B];rw[Ec]at hs;simp only[OS]at hs;obtain⟨y,al,rfl⟩:=hs;exact(QY (h.env s y al)).keeps hk
end
section
variable {c:Cx} {R:Exit->Act->World->Prop} {k:List Dg} {σ:St}
end
end
section
open Go Go.RowKit
section
variable {c:Cx} {R:Exit->Act->World->Prop} {k:List Dg} {σ σ':St}
end
theorem p8 {p:Prop} (h:p:=by first|exact trivial|((try dsimp only[Ty.den])<;>(repeat'(first|apply And.intro|intro _))<;>omega)|((try dsimp only[Ty.den]at *)<;>(repeat'(first|apply And.intro|intro _))<;>omega)):p:=h
end
section
open Go Go.RowKit
section
variable {c:Cx} {R:Exit->Act->World->Prop} {k:List Dg} {σ σ':St}
theorem A2h (q:c.Ok) {d m len:Nat} {t:TypeId} {x:Operand} {ty:TypeId} {pos:String} {after:Array Edge} {f e:Ty} {offs:List (Nat×Nat)} {el H:TypeId} {W:Nat} {U:AV} {C:f.den} {xs:List e.den}
  (ap:lk t c.tb.ty=some ⟨.slice (.agg (.prod f (.slice e))),offs,el,W⟩) (ar:Am σ x=some (.ag [U,.sr m e 0 len])) (aa:Ex false σ f U=some C) (A:lk m σ.objs=some (.arr H e xs)) (aj:len=xs.length)
  (bb:(c.ds.pin.all λp=>!Ad p.1 [m])=true) (ai:lk d σ.objs=none) (bd:f.size+1<=16777216)
  {a:Act} {w:World} {next:Act->World->Prop} {Q:Exit->Act->World->Prop} (an:c.sat σ a w) (ae:d<c.nt)
  (hk:∀I w',c.sat ⟨(d,.sr d (.agg (.prod f (.slice e))) 0 1) :: CA [m] σ.env,(d,.nest el H f e [(C,xs)] none) :: Ar [m] [m] σ.objs⟩ I w'->next I w') :
  (⟨some d,.buildSlice t 1 #[(0,x)],ty,pos,after,none⟩:Oper).wpIn (FR c.r) 0 c.P a w next Q:=by
 obtain⟨ρ,y⟩:=an;have af:G9 (vw w c.O0 σ ρ) σ a.eval:=E0 y.env;obtain⟨hu,hs,te,ao,aq⟩:=CQ (q.T _ _ ap) q.T;obtain⟨z,au,bf⟩:=Mn (q.T _ _ ao) w;obtain⟨cs,ad,ab⟩:=af x _ ar;obtain⟨c1,c2,rfl,h1,D⟩:=ab;obtain⟨aw,X,rfl,Z,E⟩:=D;have E:X=[]:=E;subst E;obtain⟨S,rfl,_,ax,l⟩:=Z;have hom:=y.objs m _ A;have l:DP (plc (ρ m)) e.size 0 len S:=l;rw[QO hom,aj]at l;have al:PO (vw w c.O0 σ ρ) H e xs (ρ m):=hom;obtain⟨ay,bg,av,bh⟩:=hom;have l:S=ρ m:=JS av l;subst l;have B:=i4 (O':=own c.O0 σ ρ) (λ_ h=>h) (λh=>by cases h) y.objs aa h1;have B:B5 w (own c.O0 σ ρ) f c1 C:=B;have G:=B.length;have bc:te.ty.size=f.size+1:=by rw[aq];rfl
 have hs:=hs w;rw[show (Ty.agg (.prod f (.slice e))).size=f.size+1 from rfl]at hs;have L:(a.eval x).cells.toList=c1++[ρ m]:=by rw[ad];simp[Value.cells]
 have am:Instr.fill (λi=>some (i*(f.size+1),f.size+1)) ((Array.range (1*(f.size+1))).map (λi=>z.cells[i % z.cells.size]!)) [(0,a.eval x)]=some (c1++[ρ m]).toArray:=by
  have M:(a.eval x).cells.size=f.size+1:=by rw[<-ADd,L];simp[G]
  rw[QR (by rw[M]) (by rw[M];simp)];rw[L];simp only[Instr.fill,ADD,A8,AAB,ACp,ABW];rw[List.drop_of_length_le (by simp[G]),SJ]
 have s:=Vc (w:=w) (et:=el) (sz:=f.size+1) (n:=1) (cells:=(c1++[ρ m]).toArray) (by simp[G]) (by simp[AN]);have s:(w.alloc (.cells (c1++[ρ m]).toArray el)).ownsRow 0 el (f.size+1) (.slice (some ⟨w.heap.size,0,none⟩) 1 1) 1 (c1++[ρ m]):=⟨s.1,s.2.imp (λh=>h) λ⟨g,cap,Y,e,_,r⟩=>⟨g,cap,Y,e,If _,r⟩⟩;have ah:(Instr.buildSlice t 1 #[(0,a.eval x)]).run c.P w=.ok (.slice (some ⟨w.heap.size,0,none⟩) 1 1) (w.alloc (.cells (c1++[ρ m]).toArray el)):=by
  have ak:¬(1*(f.size+1) > 16777216):=by omega
  have h0:¬(1*(f.size+1)=0):=by omega
  simp only[Instr.buildSlice,AC9,SE hu,iN,hs,At ak,At h0,au,ACQ,am,newRow];rfl
 have R:∀b,bk (ρ m) b->b<w.heap.size:=λb k=>(y.objs m _ A).block_lt k;refine Ay (u:=.slice (some ⟨w.heap.size,0,none⟩) 1 1) (w':=w.alloc (.cells (c1++[ρ m]).toArray el)) (by simp[execOp,ah]) (hk _ _ ⟨Eu ρ d (.tuple (.slice (some ⟨w.heap.size,0,none⟩) 1 1 :: [ρ m]).toArray),?_⟩);refine y.swap1P q.K q.O (tl:=[m]) (w':=w.alloc (.cells (c1++[ρ m]).toArray el)) (u:=.slice (some ⟨w.heap.size,0,none⟩) 1 1) (loc:=.tuple (.slice (some ⟨w.heap.size,0,none⟩) 1 1 :: [ρ m]).toArray) (by simpa using ⟨_,A⟩) (λp ba A=>?_) (.inr ai) rfl rfl rfl ?_ ?_ ?_ ?_ ae ?_
 .grind [Ah]
 .simp_all
 .intro b2 o _;exact heap_alloc_old w _ o
 .intro b2 o;rcases BE.1 o with k|⟨i,u,hi,k⟩
  .grind [blk]
  have:u=ρ m:=by
   rcases i with _|i
   .simpa using hi.symm
   simp at hi
  subst this;exact .inl ⟨m,by simp,.inl k⟩
 .intro V' J F az;refine⟨_,[ρ m],c1++[ρ m],.inl rfl,by simp[AN],rfl,by rw[J];exact s,λi bi u hi hu=>?_,λi j b u v hi N hu be=>?_,λi b u hi k o=>?_⟩
  .rcases i with _|i
   .simp only[ACq,AAi]at hi hu;subst hi hu;exact⟨c1,ρ m,λj z N=>by simpa using N,B.mono F.O F.heap,.inr ⟨rfl,.inl rfl,PO.keeps (V:=⟨w,own c.O0 σ ρ,λ_=>False,ρ⟩) F (λb k=>by rw[J];exact heap_alloc_old w _ (R b (.inl k))) al⟩⟩
   simp at hi
  .grind
  rcases i with _|i
  .simp only[ACq,AAi]at hi;subst hi;have:=R b (.inl k);simp[blk]at o;omega
  simp at hi
 intro V' h1 D;refine⟨h1,?_⟩;rw[D];exact F4 s
theorem zD (q:c.Ok) {ops:Array Oper} {rest:List Oper} {d m len:Nat} {t:TypeId} {x:Operand} {ty:TypeId} {pos:String} {after:Array Edge} {b e:Ty} {offs:List (Nat×Nat)} {el i:TypeId} {l:Nat} {j:AV} {f:b.den} {xs:List e.den}
  (C:lk t c.tb.ty=some ⟨.slice (.agg (.prod b (.slice e))),offs,el,l⟩) (D:Am σ x=some (.ag [j,.sr m e 0 len])) (n:Ex false σ b j=some f) (v:lk m σ.objs=some (.arr i e xs)) (u:len=xs.length)
  (z:(c.ds.pin.all λp=>!Ad p.1 [m])=true) (r:lk d σ.objs=none) (B:b.size+1<=16777216)
  (hk:JK c R k ops rest ⟨(d,.sr d (.agg (.prod b (.slice e))) 0 1) :: CA [m] σ.env,(d,.nest el i b e [(f,xs)] none) :: Ar [m] [m] σ.objs⟩) :
  JK c R k ops (⟨some d,.buildSlice t 1 #[(0,x)],ty,pos,after,none⟩ :: rest) σ:=by
 intro g s a w A;unfold wpListIn;rw[BY (by simp[Region.wanted])];exact A2h q C D n v u z r B A (B2 (g _ AAw) d rfl) λE w' h=>hk (λo y=>g o (by simp[y])) s _ _ h
def p9 (a b:Ty) (k:a.den):List (a.den×b.den)->List (a.den×b.den)
 | []=>[]
 | x :: r=>if JH a k x.1=true then r else x :: p9 a b k r
theorem AC7 (l:c.Ok) {ops:Array Oper} {rest:List Oper} {d m len:Nat} {t:TypeId} {x:Operand} {ty:TypeId} {pos:String} {after:Array Edge} {a e:Ty} {offs:List (Nat×Nat)} {el f:TypeId} {i:Nat} {g:AV} {b:a.den} {xs:List e.den} {h:St}
  (o:len=xs.length) (hk:JK c R k ops rest h) (v:Am σ x=some (.ag [g,.sr m e 0 len]):=by simp only[go_sem,Nat.reduceEqDiff,reduceCtorEq,Nat.reduceAdd,Nat.reduceSub,Nat.reduceMul,Nat.reduceLeDiff,Nat.reduceLT,Int.reduceLE,Int.reduceToNat,Int.reduceNeg,↓reduceIte];rfl) (u:lk t c.tb.ty=some ⟨.slice (.agg (.prod a (.slice e))),offs,el,i⟩:=by rfl) (j:Ex false σ a g=some b:=by simp only[go_sem,Nat.reduceEqDiff,reduceCtorEq,Nat.reduceAdd,Nat.reduceSub,Nat.reduceMul,Nat.reduceLeDiff,Nat.reduceLT,Int.reduceLE,Int.reduceToNat,Int.reduceNeg,↓reduceIte];rfl) (q:lk m σ.objs=some (.arr f e xs):=by simp only[go_sem,Nat.reduceEqDiff,reduceCtorEq,Nat.reduceAdd,Nat.reduceSub,Nat.reduceMul,Nat.reduceLeDiff,Nat.reduceLT,Int.reduceLE,Int.reduceToNat,Int.reduceNeg,↓reduceIte];rfl)
  (r:(c.ds.pin.all λp=>!Ad p.1 [m])=true:=by rfl) (n:lk d σ.objs=none:=by simp only[go_sem,Nat.reduceEqDiff,reduceCtorEq,Nat.reduceAdd,Nat.reduceSub,Nat.reduceMul,Nat.reduceLeDiff,Nat.reduceLT,Int.reduceLE,Int.reduceToNat,Int.reduceNeg,↓reduceIte]) (s:a.size+1<=16777216:=by decide)
  (w:⟨(d,.sr d (.agg (.prod a (.slice e))) 0 1) :: CA [m] σ.env,(d,.nest el f a e [(b,xs)] none) :: Ar [m] [m] σ.objs⟩=h:=by simp only[go_sem,Nat.reduceEqDiff,reduceCtorEq,Nat.reduceAdd,Nat.reduceSub,Nat.reduceMul,Nat.reduceLeDiff,Nat.reduceLT,Int.reduceLE,Int.reduceToNat,Int.reduceNeg,↓reduceIte];rfl) :
  JK c R k ops (⟨some d,.buildSlice t 1 #[(0,x)],ty,pos,after,none⟩ :: rest) σ:=zD l u v j q o r n s (w▸hk)
end
end
section
open Go Go.RowKit
section
variable {c:Cx} {R:Exit->Act->World->Prop} {k:List Dg} {σ σ':St}
theorem qA (m:c.Ok) {ops:Array Oper} {rest:List Oper} {d:Nat} {t S:TypeId} {x y:Operand} {ty:TypeId} {pos:String} {after:Array Edge} {i j:IntKind} {offs:List (Nat×Nat)} {A:Nat} {xv z:AV} {b f:Int×Int}
  (M:lk t c.tb.ty=some ⟨.agg (.prod (.int i) (.int j)),offs,0,A⟩) (N:Am σ x=some xv) (Q:Am σ y=some z) (E:MQ false σ (.agg (.prod (.int i) (.int j))) xv=some b) (F:MQ false σ (.agg (.prod (.int i) (.int j))) z=some f)
  (hk:JK c R k ops rest ⟨(d,.p .bool (b.1==f.1&&b.2==f.2)) :: σ.env,σ.objs⟩) :
  JK c R k ops (⟨some d,.binOp .eql t x y S,ty,pos,after,none⟩ :: rest) σ:=by
 intro q H a w L;unfold wpListIn;rw[BY (by simp[Region.wanted])];obtain⟨ρ,l⟩:=L;have r:G9 (vw w c.O0 σ ρ) σ a.eval:=E0 l.env;have Y:d<c.nt:=B2 (q _ AAw) d rfl;have s:Nv c.P t i j:=(m.T _ _ M).1.1.2.2;have h1:=JP (V:=vw w c.O0 σ ρ) (O':=own c.O0 σ ρ) (λ_ h=>h) (λh=>by cases h) l.objs E (r x _ N);have g:=JP (V:=vw w c.O0 σ ρ) (O':=own c.O0 σ ρ) (λ_ h=>h) (λh=>by cases h) l.objs F (r y _ Q);have h1:a.eval x=.agg #[.int i b.1,.int j b.2]:=F6 h1;have g:a.eval y=.agg #[.int i f.1,.int j f.2]:=F6 g;have J:(binOp .eql t (a.eval x) (a.eval y)).run c.P w=.ok (.bool (b.1==f.1&&b.2==f.2)) w:=by
  rw[h1,g];have:=Wr s w b.1 b.2 f.1 f.2;simp only[binOp];simp[this]
 have G:(eqGuard .eql t x y (a.eval x) (a.eval y)).run c.P w=.ok () w:=by
  obtain⟨W,X,hu,-,-,⟨B,C⟩,-⟩:=s;rw[h1,g];refine run_eqGuard_agg (P:=c.P) w .eql t x y _ _ ?_;have D:∃n,c.P.depth=n+2:=⟨_,rfl⟩;obtain⟨n,hn⟩:=D;rw[hn];simp[Program.eqGuardType,hu,B,C]
 refine Ay (u:=.bool (b.1==f.1&&b.2==f.2)) (w':=w) (by simp[execOp,G,J]) (hk (λo I=>q o (by simp[I])) H _ _ ⟨ρ,?_⟩);refine l.add m.K m.O (dst:=some d) (λU e=>by injection e with e;omega) (v:=.p .bool (b.1==f.1&&b.2==f.2)) (obs:=[]) (ρ':=ρ) rfl (QS.still ?_);exact⟨[.bool (b.1==f.1&&b.2==f.2)],rfl,rfl⟩
theorem AC8 (g:c.Ok) {ops:Array Oper} {rest:List Oper} {d:Nat} {t q:TypeId} {x y:Operand} {ty:TypeId} {pos:String} {after:Array Edge} {i j:IntKind} {offs:List (Nat×Nat)} {f:Nat} {xv e:AV} {a b:Int×Int}
  (hk:JK c R k ops rest ⟨(d,.p .bool (a.1==b.1&&a.2==b.2)) :: σ.env,σ.objs⟩) (m:lk t c.tb.ty=some ⟨.agg (.prod (.int i) (.int j)),offs,0,f⟩:=by rfl) (n:Am σ x=some xv:=by simp only[go_sem,Nat.reduceEqDiff,reduceCtorEq,Nat.reduceAdd,Nat.reduceSub,Nat.reduceMul,Nat.reduceLeDiff,Nat.reduceLT,Int.reduceLE,Int.reduceToNat,Int.reduceNeg,↓reduceIte];rfl) (o:Am σ y=some e:=by simp only[go_sem,Nat.reduceEqDiff,reduceCtorEq,Nat.reduceAdd,Nat.reduceSub,Nat.reduceMul,Nat.reduceLeDiff,Nat.reduceLT,Int.reduceLE,Int.reduceToNat,Int.reduceNeg,↓reduceIte];rfl)
  (h:MQ false σ (.agg (.prod (.int i) (.int j))) xv=some a:=by simp only[go_sem,Nat.reduceEqDiff,reduceCtorEq,Nat.reduceAdd,Nat.reduceSub,Nat.reduceMul,Nat.reduceLeDiff,Nat.reduceLT,Int.reduceLE,Int.reduceToNat,Int.reduceNeg,↓reduceIte];rfl) (l:MQ false σ (.agg (.prod (.int i) (.int j))) e=some b:=by simp only[go_sem,Nat.reduceEqDiff,reduceCtorEq,Nat.reduceAdd,Nat.reduceSub,Nat.reduceMul,Nat.reduceLeDiff,Nat.reduceLT,Int.reduceLE,Int.reduceToNat,Int.reduceNeg,↓reduceIte];rfl) :
  JK c R k ops (⟨some d,.binOp .eql t x y q,ty,pos,after,none⟩ :: rest) σ:=qA g m n o h l hk
end
end
section
open Go Go.RowKit
section
variable {c:Cx} {σ:St} {ens:EN} {N:St->Prop}
end
end
section
open Go Go.RowKit
section
variable {c:Cx} {R:Exit->Act->World->Prop} {k:List Dg} {σ:St}
end
end
section
open Go Go.RowKit
def siB (P:Program) (b:IntKind) (id:TypeId):Option TypeDesc->Bool
 | some (.struct ⟨[a, c]⟩) => (a.name != "_") && (c.name != "_") && a.offset == 0 && c.offset == 1 && (match P.underlying a.type with | some .string => true | _ => false) && isI b (P.underlying c.type) && P.stoodInHeld id == false && !(P.eqGuardType P.depth id)
 | _=>false
theorem A2i {P:Program} {b:IntKind} {id:TypeId} (h:siB P b id (P.underlying id)=true) (w:World) (i k:ByteArray) (j l:Int) :
  (binOp .eql id (.agg #[.string i,.int b j]) (.agg #[.string k,.int b l])).run P w=.ok (.bool (Ab i k&&(j==l))) w/\∀x y:Operand,∀u v:Array Value,(eqGuard .eql id x y (.agg u) (.agg v)).run P w=.ok () w:=by
 unfold siB at h;split at h
 .rename_i a f hu;simp only[As,Tx,ADe,SD]at h;obtain⟨⟨⟨⟨⟨⟨⟨h1,p⟩,q⟩,r⟩,d⟩,g⟩,s⟩,t⟩:=h;have d:P.underlying a.type=some .string:=by
   split at d
   .assumption
   cases d
  have g:=Wi g;have m:P.fieldsOf id=#[a,f]:=by simp[Program.fieldsOf,hu]
  refine⟨?_,λx y u v=>run_eqGuard_agg (P:=P) w .eql id x y u v t⟩;have z:P.plainKey a.type=true:=by simp[Program.plainKey,d]
  have A:P.plainKey f.type=true:=by simp[Program.plainKey,g]
  have B:∀x y:ByteArray,(Op.equalIn 9999 a.type (.string x) (.string y)).run P w=.ok (x.toList==y.toList) w:=λx y=>run_equalIn_string w 9998 _ x y d;have n:∀x y:Int,(Op.equalIn 9999 f.type (.int b x) (.int b y)).run P w=.ok (x==y) w:=λx y=>Mp g 9998 x y;have e:(Op.equalIn 10000 id (.agg #[.string i,.int b j]) (.agg #[.string k,.int b l])).run P w=_:=run_equalIn_struct (P:=P) w 9999 id _ _ (by rw[m];exact hu) s;rw[run_eql_struct,e,m];have p0:=λ(u v:Value)=>ADb (P:=P) w z (xs:=#[u,v]) (off:=a.offset) (v:=u) (by rw[q];rfl);have o:=λ(u v:Value)=>ADb (P:=P) w A (xs:=#[u,v]) (off:=f.offset) (v:=v) (by rw[r];rfl);unfold Ab;simp only[Op.eqFields,h1,p,ne_eq,not_false_eq_true,AAt,AC9,p0,o,iN,B,n];by_cases c:i.toList=k.toList
  .by_cases c2:j=l<;>simp[c,c2,ADT,AC9,o,n,Op.eqFields]
  simp[c,ADT]
 cases h
theorem vJ {w:World} {O:Nat->Prop} {b:IntKind} {v:Value} {d:(Ty.agg (.prod .str (.int b))).den} (h:Bp w O (.agg (.prod .str (.int b))) v d):v=.agg #[.string d.1,.int b d.2]:=by
 obtain⟨cs,⟨c1,c2,rfl,⟨rfl,_⟩,⟨rfl,_⟩⟩,rfl⟩:=h;rfl
section
variable {c:Cx} {R:Exit->Act->World->Prop} {k:List Dg} {σ σ':St}
theorem ACa (m:c.Ok) {ops:Array Oper} {rest:List Oper} {d:Nat} {t H:TypeId} {x y:Operand} {ty:TypeId} {pos:String} {after:Array Edge} {j:IntKind} {xv s:AV} {b f:ByteArray×Int}
  (D:siB c.P j t (c.P.underlying t)=true) (hk:JK c R k ops rest ⟨(d,.p .bool (Ab b.1 f.1&&b.2==f.2)) :: σ.env,σ.objs⟩) (F:Am σ x=some xv:=by simp only[go_sem,Nat.reduceEqDiff,reduceCtorEq,Nat.reduceAdd,Nat.reduceSub,Nat.reduceMul,Nat.reduceLeDiff,Nat.reduceLT,Int.reduceLE,Int.reduceToNat,Int.reduceNeg,↓reduceIte];rfl) (G:Am σ y=some s:=by simp only[go_sem,Nat.reduceEqDiff,reduceCtorEq,Nat.reduceAdd,Nat.reduceSub,Nat.reduceMul,Nat.reduceLeDiff,Nat.reduceLT,Int.reduceLE,Int.reduceToNat,Int.reduceNeg,↓reduceIte];rfl)
  (z:MQ false σ (.agg (.prod .str (.int j))) xv=some b:=by simp only[go_sem,Nat.reduceEqDiff,reduceCtorEq,Nat.reduceAdd,Nat.reduceSub,Nat.reduceMul,Nat.reduceLeDiff,Nat.reduceLT,Int.reduceLE,Int.reduceToNat,Int.reduceNeg,↓reduceIte];rfl) (A:MQ false σ (.agg (.prod .str (.int j))) s=some f:=by simp only[go_sem,Nat.reduceEqDiff,reduceCtorEq,Nat.reduceAdd,Nat.reduceSub,Nat.reduceMul,Nat.reduceLeDiff,Nat.reduceLT,Int.reduceLE,Int.reduceToNat,Int.reduceNeg,↓reduceIte];rfl) :
  JK c R k ops (⟨some d,.binOp .eql t x y H,ty,pos,after,none⟩ :: rest) σ:=by
 intro n B a w E;unfold wpListIn;rw[BY (by simp[Region.wanted])];obtain⟨ρ,i⟩:=E;have q:G9 (vw w c.O0 σ ρ) σ a.eval:=E0 i.env;have J:d<c.nt:=B2 (n _ AAw) d rfl;have h1:=JP (V:=vw w c.O0 σ ρ) (O':=own c.O0 σ ρ) (λ_ h=>h) (λh=>by cases h) i.objs z (q x _ F);have l:=JP (V:=vw w c.O0 σ ρ) (O':=own c.O0 σ ρ) (λ_ h=>h) (λh=>by cases h) i.objs A (q y _ G);have h1:a.eval x=.agg #[.string b.1,.int j b.2]:=vJ h1;have l:a.eval y=.agg #[.string f.1,.int j f.2]:=vJ l;obtain⟨r,g⟩:=A2i D w b.1 f.1 b.2 f.2;have g:=g x y #[.string b.1,.int j b.2] #[.string f.1,.int j f.2];rw[<-h1,<-l]at r g;refine Ay (u:=.bool (Ab b.1 f.1&&b.2==f.2)) (w':=w) (by simp[execOp,g,r]) (hk (λo C=>n o (by simp[C])) B _ _ ⟨ρ,?_⟩);refine i.add m.K m.O (dst:=some d) (λI e=>by injection e with e;omega) (v:=.p .bool (Ab b.1 f.1&&b.2==f.2)) (obs:=[]) (ρ':=ρ) rfl (QS.still ?_);exact⟨[.bool (Ab b.1 f.1&&b.2==f.2)],rfl,rfl⟩
end
end
section
open Go Go.RowKit
theorem zE {P:Program} {tb:Tb} {w0:World} {K O0:Nat->Prop} {nt:Nat} {stay:List Nat} {ρ0:Nat->Value} {fn:Func} {post:AV->List (Nat×Obj)->Prop} {σ:St} {e:Exit} (d:(cm P tb w0 K O0 nt (stay.map λn=>(n,ρ0 n))).Ok)
  (b:List ResultVar) (k:fn.results.toList=b) (g:e=.ret\/e=.normal) (res:AV) (h:Uc tb σ b res) (i:post res σ.objs) :
  Ev (cm P tb w0 K O0 nt (stay.map λn=>(n,ρ0 n))) (vG P fn w0 K O0 stay ρ0 post) (.out e) [] σ:=by
 intro _ _ a w hs;obtain⟨ρ,hs⟩:=hs;obtain⟨u,h1,c⟩:=XH d.T hs (by rw[k];exact h);have j:Mz K O0 stay w0 ρ0 post u w:=by
  refine⟨res,σ.objs,ρ,i,hs.frm,⟨hs.objs,hs.free,hs.dist⟩,c,λn hn=>?_⟩;exact(hs.pin (n,ρ0 n) (DO.2 ⟨n,hn,rfl⟩)).2.1
 have f:a.defers=[]:=hs.defers;have key:LeavesInM (FR none) 0 P fn a.tmps (λe w'=>∃u,e=.returned u/\Mz K O0 stay w0 ρ0 post u w') a.defers .returning w:=by
  rw[f];exact⟨u,h1,u,rfl,j⟩
 rcases g with rfl|rfl
 .exact key
 exact key
section
variable {c:Cx} {R:Exit->Act->World->Prop} {k:List Dg} {σ σ':St}
theorem cG (n:Nat) (d:c.Ok) {id:Nat} {l:List Oper} {vc:Prop} (f:vc) (hk:JK c R k l.toArray (l.drop n) σ') (h:CC c.tb l (l.take n) σ=some (vc,σ'):=by simp only[AAN,AAB,go_sem,Nat.reduceEqDiff,reduceCtorEq,Nat.reduceAdd,Nat.reduceSub,Nat.reduceMul,Nat.reduceLeDiff,Nat.reduceLT,Int.reduceLE,Int.reduceToNat,Int.reduceNeg,↓reduceIte];rfl) :
  Ev c R (.run (.region id l.toArray false)) k σ:=by
 intro h1 b a w hs;simp only[IW,B3,No]at h1;exact ADc (Qq d n (by simpa using h) f hk (λo e=>h1 o e) b a w hs)
end
end
end Go.Proofs.YtapkhdkbkodbjaaGreat.Fw
