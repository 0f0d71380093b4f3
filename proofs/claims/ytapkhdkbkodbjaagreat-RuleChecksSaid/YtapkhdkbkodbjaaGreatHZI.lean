/- Range over a function; scopes; several steps in one. -/
import Derived.Test.YtapkhdkbkodbjaaGreatHZH
import Derived.RangeFuncFrom
import Derived.Scope
import Derived.Laws.IdiomRangeMap
import Derived.Laws.StructEq
set_option linter.unusedVariables false
set_option linter.unusedSimpArgs false
namespace Go.Proofs.YtapkhdkbkodbjaaGreat.Fw
section
open Go Go.RowKit
theorem fU {V:Vw} {f:FuncId} {ns:List Nat} {v:Value} (h:B9 V (.clo f ns) v):v=.func (.func f) #[] (ns.map V.ρ).toArray/\Jq V (ns.map λn=>AV.bp n [] 0) (ns.map V.ρ):=by
 refine⟨h.1,?_⟩;have h0:∀l:List Nat,(∀n∈l,n∈ns)->Jq V (l.map λn=>AV.bp n [] 0) (l.map V.ρ):=by
  intro l;induction l with
  | nil=>intro _;exact rfl
  | cons n r g =>
   intro c;obtain⟨d,b,a⟩:=h.2 n (c n (by simp));exact⟨V.ρ n,r.map V.ρ,rfl,⟨d,b,a,a⟩,g λx e=>c x (by simp[e])⟩
 exact h0 ns λ_ h=>h
def Yr (P:Program) (yn:Nat) (A:List AV) (objs:List (Nat×Obj)) (stay:List Nat) (post:AV->List (Nat×Obj)->Prop):Prop :=
 ∀(w:World) (K O0:Nat->Prop) (ρ:Nat->Value) (a:List Value) (b:Nat),(∀b,K b->b<w.heap.size)->(∀b,O0 b->b<w.heap.size)->yL K O0 objs ρ w->Jq (vw w O0 ⟨[],objs⟩ ρ) A a ->
  ρ yn=.pointer (some ⟨b,0,none⟩)->YieldAt (FR none) 0 P b a.toArray w λe w'=>∃u,e=.returned u/\MH K O0 stay w ρ post u w'
section
variable {c:Cx} {R:Exit->Act->World->Prop} {k:List DT} {σ:St}
def YD (n:Nat):Option AV->Bool
 | some (.yl m)=>m==n
 | _=>false
theorem A1V (N:c.Ok) (Y:c.r=none) {o:Oper} {dst:Option Nat} {g:Operand} {xs:List Operand} {ts:Array TypeId} (t:o.op=.call { callee:=.value g,args:=xs.toArray,argTypes:=ts }) (R:o.dst=dst)
  {n yn:Nat} (f:YD n (Ao σ g)=true) {as:List AV} (L:IR σ xs=some as)
  {A:List AV} {objs:List (Nat×Obj)} {stay:List Nat} {post:AV->List (Nat×Obj)->Prop} (H:Yr c.P yn A objs stay post)
  (ren:List (Nat×B1)) (ad:lk yn ren=some (.nm n)) (h1:B4 ren=true) (C:CM objs ren=true) (F:BK σ ren as A) (I:Ae σ.objs ren objs)
  (hs:List Nat) (W:(c.ds.pin.all λp=>!Aa p.1 hs)=true) {next:Act->World->Prop} {Q:Exit->Act->World->Prop} {a:Act} {w:World} (aa:c.sat σ a w) (O:∀d,dst=some d->d<c.nt)
  (hk:∀res x,post res x->∃(i:List (Nat×B1)) (y:AV) (j:List (Nat×Obj)),B4 i=true/\CM j i=true/\Ae x i j/\Bk i res y /\
   JG ren i stay hs=true/\Fd (Ah ren) j σ.objs=true/\∀l w',c.sat (CL σ (Ah ren) hs dst y j) l w'->next l w'):o.wpIn (FR c.r) 0 c.P a w next Q:=by
 obtain⟨ρ,v⟩:=aa;have s:Gv (vw w c.O0 σ ρ) σ a.eval:=FL v.env;obtain⟨b,ae,S⟩:∃b:Nat,ρ n=.pointer (some ⟨b,0,none⟩)/\a.eval g=.func (.yield b) #[] #[]:=by
  cases k:Ao σ g with
  | none=>rw[k]at f;simp[YD]at f
  | some q =>
   rw[k]at f;have T:=s g q k;cases q<;>simp only[YD]at f<;>try(cases f;done)
   rename_i m;have U:m=n:=by simpa using f
   subst U;obtain⟨_,b,D,E⟩:=T;exact⟨b,D,E⟩
 obtain⟨z,B,ag,G,J,V,M,af,X⟩:=Rh N v (a9 s L) stay post ren h1 C F I hs W O hk;obtain⟨fn,tmps,assign,body,ab,K⟩:=H w z B ag (xs.map a.eval) b G J V M ((af _ _ ad).trans ae);have Z:(execOp a.eval o).run c.P w=.ok (.round b fn tmps assign body) w:=by
  simp[execOp,t,resolve,Deferred.ofValue,S,invoke];simpa using ab
 refine⟨λ_ _=>trivial,?_⟩;rw[Gw _ _ _ (λcl e=>by rw[t]at e;cases e),Z,Oper.uponIn_round];refine⟨λh=>(by simp[FR]at h),?_⟩;rw[Y];refine K.mono λe w' hh=>?_;obtain⟨u,rfl,hh⟩:=hh;rw[R];exact X u w' hh
theorem yX (C:c.Ok) (H:c.r=none) {ops:Array Oper} {rest:List Oper} {dst:Option Nat} {g:Operand} {xs:List Operand} {ts:Array TypeId} {ty:TypeId} {pos:String} {after:Array Edge}
  {n yn:Nat} (D:YD n (Ao σ g)=true) {as:List AV} (B:IR σ xs=some as)
  {A:List AV} {objs:List (Nat×Obj)} {stay:List Nat} {post:AV->List (Nat×Obj)->Prop} (y:Yr c.P yn A objs stay post)
  (ren:List (Nat×B1)) (hs:List Nat) (K:lk yn ren=some (.nm n)) (h1:B4 ren=true) (u:CM objs ren=true) (G:(c.ds.pin.all λp=>!Aa p.1 hs)=true) (v:BK σ ren as A) (z:Ae σ.objs ren objs)
  (hk:∀res e,post res e->∃(b:List (Nat×B1)) (f:AV) (d:List (Nat×Obj)),B4 b=true/\CM d b=true/\Ae e b d/\Bk b res f /\
   JG ren b stay hs=true/\Fd (Ah ren) d σ.objs=true/\KC c R k ops rest (CL σ (Ah ren) hs dst f d)) :
  KC c R k ops (⟨dst,.call ⟨.value g,xs.toArray,ts⟩,ty,pos,after,none⟩ :: rest) σ:=by
 intro h E a w J;unfold wpListIn;rw[BY (by simp[Region.wanted])];refine A1V C H (xs:=xs) (ts:=ts) rfl rfl D B y ren K h1 u v z hs G J (CK (h _ (by simp))) λres e hp=>?_;obtain⟨b,f,d,j,l,m,q,s,t,x⟩:=hk res e hp;exact⟨b,f,d,j,l,m,q,s,t,λi w' I=>x (λo F=>h o (by simp[F])) E i w' I⟩
end
def Gd:List Nat->List AV->List (Nat×AV)->List (Nat×AV)
 | p :: a,x :: xs,e=>Gd a xs ((p,x) :: e)
 | _,_,e=>e
def cY (P:Program) (tb:Tb) (w0:World) (K O0:Nat->Prop) (nt l:Nat) (pin:List (Nat×Value)):Cx:={ P:=P,tb:=tb,w0:=w0,K:=K,O0:=O0,nt:=nt,ds:={ pin:=pin },r:=some l }
theorem fV {P:Program} {tb:Tb} {w0:World} {K O0:Nat->Prop} {nt l:Nat} {pin:List (Nat×Value)}:(cY P tb w0 K O0 nt l pin).tb=tb:=rfl
def qW (P:Program) (l:Nat) (w0:World) (K O0:Nat->Prop) (stay:List Nat) (ρ0:Nat->Value) (post:AV->List (Nat×Obj)->Prop):Exit->Act->World->Prop :=
 roundPost P l λe w'=>∃u,e=.returned u/\MH K O0 stay w0 ρ0 post u w'
theorem vJ {V:Vw}:∀(b:List Nat) (A:List AV) (c:List Value) (e:List (Nat×AV)) (a:Array Value),Jq V A c->(∀p∈b,p<a.size)->A.length=b.length->(∀s x,lk s e=some x->B9 V x (a.getD s undef)) ->
  (∀s x,lk s (Gd b A e)=some x->B9 V x (((b.zip c).foldl (λt (p,v)=>t.setIfInBounds p v) a).getD s undef))/\((b.zip c).foldl (λt (p,v)=>t.setIfInBounds p v) a).size=a.size
 | [],_,_,e,a,_,_,_,h=>by simpa[Gd] using h
 | p :: b,[],_,e,a,_,_,d,_=>by simp at d
 | p :: b,x :: A,c,e,a,⟨v,r,k,h1,g⟩,hp,d,h=>by
  subst k;simp only[AED,ON,Gd];have l:=vJ b A r ((p,x) :: e) (a.setIfInBounds p v) g (λq j=>by simpa using hp q (by simp[j])) (by simpa using d) (λs y hs=>by
   have f:=M5 { tmps:=a,defers:=[] } p v s (hp p (by simp));have f:(a.setIfInBounds p v).getD s undef=if s=p then v else a.getD s undef:=f
   rw[f];simp only[lk]at hs;split at hs
   ·grind
   ·rename_i i;rw[An i];exact h s y hs)
  grind
section
variable {P:Program} {tb:Tb} {w0:World} {K O0:Nat->Prop} {nt l:Nat} {stay:List Nat} {ρ0:Nat->Value} {post:AV->List (Nat×Obj)->Prop} {σ:St} {pin:List (Nat×Value)}
theorem QF {c:Cx} (i:c.Ok) {σ:St} {a:Act} {w:World} {ρ:Nat->Value} (hs:CE c.w0 c.K c.O0 c.nt c.ds σ ρ a w) {yn b:Nat} {L:Go.Loop} (h:lk yn σ.objs=some (.loop L)) (d:ρ yn=.pointer (some ⟨b,0,none⟩)) (e:Go.Loop) :
  w.heap[b]?=some (.loop L)/\CE c.w0 c.K c.O0 c.nt c.ds ⟨σ.env,upd yn (.loop e) σ.objs⟩ ρ a (w.putObj b (.loop e)):=by
 obtain⟨b',h1,f⟩:=hs.objs yn _ h;rw[d]at h1;injection h1 with h1
 injection h1 with h1
 injection h1 with h1
 subst h1;have j:b<w.heap.size:=CP f;refine⟨f,hs.upd i.K h (g:=b) (by rw[d];rfl) (grownBy_putObj' w b _) ?_⟩;exact⟨b,d,World.putObj_heap_same j⟩
theorem Rl (f:(cY P tb w0 K O0 nt l pin).Ok) {yn:Nat} {L:Go.Loop} (g:lk yn σ.objs=some (.loop L)) (h:pin=stay.map λn=>(n,ρ0 n)) (i:yn∈stay) (e:ρ0 yn=.pointer (some ⟨l,0,none⟩))
  (hp:post (.p .bool true) (upd yn (.loop { L with state:=.ready,pending:=none }) σ.objs)) :
  Ev (cY P tb w0 K O0 nt l pin) (qW P l w0 K O0 stay ρ0 post) (.out .normal) [] σ:=by
 intro _ _ a w hs;obtain⟨ρ,hs⟩:=hs;have c:∀n∈stay,ρ n=ρ0 n:=λn hn=>(hs.pin (n,ρ0 n) (by rw[show (cY P tb w0 K O0 nt l pin).ds.pin=pin from rfl,h];exact IF.2 ⟨n,hn,rfl⟩)).2.1;obtain⟨d,b⟩:=QF f hs g ((c _ i).trans e) { L with state:=.ready,pending:=none };refine⟨_,_,run_endRound none d,.bool true,rfl,.p .bool true,_,ρ,hp,b.frm,⟨b.objs,b.free,b.dist⟩,⟨_,rfl,rfl⟩,c⟩
theorem Ys (f:(cY P tb w0 K O0 nt l pin).Ok) {yn:Nat} {L:Go.Loop} (g:lk yn σ.objs=some (.loop L)) (h:pin=stay.map λn=>(n,ρ0 n)) (i:yn∈stay) (e:ρ0 yn=.pointer (some ⟨l,0,none⟩))
  (hp:post (.p .bool false) (upd yn (.loop { L with state:=.done,pending:=some .ret }) σ.objs)) :
  Ev (cY P tb w0 K O0 nt l pin) (qW P l w0 K O0 stay ρ0 post) (.out .ret) [] σ:=by
 intro _ _ a w hs;obtain⟨ρ,hs⟩:=hs;have c:∀n∈stay,ρ n=ρ0 n:=λn hn=>(hs.pin (n,ρ0 n) (by rw[show (cY P tb w0 K O0 nt l pin).ds.pin=pin from rfl,h];exact IF.2 ⟨n,hn,rfl⟩)).2.1;obtain⟨d,b⟩:=QF f hs g ((c _ i).trans e) { L with state:=.done,pending:=some .ret };refine⟨_,_,run_endRound (some .ret) d,.bool false,rfl,.p .bool false,_,ρ,hp,b.frm,⟨b.objs,b.free,b.dist⟩,⟨_,rfl,rfl⟩,c⟩
def A9T (c:Cx) (R:Exit->Act->World->Prop) (yn:Nat) (L:Go.Loop) (a:Code) (σ:St):Prop :=
 lk yn σ.objs=some (.loop L)/\Ev c R (.run a) [] ⟨σ.env,upd yn (.loop { L with state:=.busy }) σ.objs⟩
theorem fW {yn fr:Nat} {A:List AV} {objs:List (Nat×Obj)} {L:Go.Loop} {d:List Nat} {r s:Code} {fs:List (Nat×AV)} {g:Array Value}
  (z:lk yn objs=some (.loop L)) (hf:lk fr objs=some (.frame g fs)) (h1:L.state=.ready) (I:L.params=d.toArray) (J:L.assign=r) (M:L.body=s) (aj:L.tmps=g) (E:g.size=nt)
  (B:A.length=d.length) (Y:(d.all λp=>decide (p<nt))=true) (af:yn∈stay) (ab:stay.all (TC objs)=true) (W:MA objs=true) (S:Bu nt r=true) (T:Bu nt s=true) (hT:DF P tb) (hF:JA P tb)
  (h:∀(w0:World) (K O0:Nat->Prop) (ρ0:Nat->Value) (l:Nat),(cY P tb w0 K O0 nt l (stay.map λn=>(n,ρ0 n))).Ok->QB A->Oh objs->ρ0 yn=.pointer (some ⟨l,0,none⟩) ->
   Ev (cY P tb w0 K O0 nt l (stay.map λn=>(n,ρ0 n))) (λ_ _ _=>False) (.run r) [.inv (A9T (cY P tb w0 K O0 nt l (stay.map λn=>(n,ρ0 n))) (qW P l w0 K O0 stay ρ0 post) yn L s)] ⟨Gd d A fs,objs⟩) :
  Yr P yn A objs stay post:=by
 intro w K O0 ρ q b O Q f x u;have ae:=JF x;obtain⟨b',c,hh⟩:=f.obj yn _ z;rw[u]at c;injection c with c
 injection c with c
 injection c with c
 subst c;have Z:=run_yield (P:=P) (args:=q.toArray) hh (by rw[I];simp[ae,B]);refine⟨_,_,_,_,Z,roundIn_of_wpIn trivial ?_⟩;have y:(cY P tb w K O0 nt b (stay.map λn=>(n,ρ n))).Ok:=⟨O,Q,hT,hF⟩;have U:=f.obj fr _ hf;have C:=vJ (V:=vw w O0 ⟨[],objs⟩ ρ) d A q fs g x (λp hp=>by have:=(IS.1 Y) p hp;rw[E];simpa using this) B U.2;have ad:(L.params.zip q.toArray).foldl (λt (p,v)=>t.setIfInBounds p v) L.tmps=(d.zip q).foldl (λt (p,v)=>t.setIfInBounds p v) g:=by grind
 rw[J,M,ad];have aa:(cY P tb w K O0 nt b (stay.map λn=>(n,ρ n))).sat ⟨Gd d A fs,objs⟩ { tmps:=(d.zip q).foldl (λt (p,v)=>t.setIfInBounds p v) g,defers:=[] } w:=by
  refine⟨ρ,⟨rfl,rfl,rfl,NO _,λ_ _=>rfl⟩,by rw[C.2];exact E,rfl,λp hp=>?_,f.obj,f.free,f.dist,C.1⟩;obtain⟨n,hn,rfl⟩:=IF.1 hp;have:=(IS.1 ab) n hn;unfold TC at this;cases i:lk n objs with
  | none=>rw[i]at this;cases this
  | some o =>
   rw[i]at this;refine⟨⟨o,i⟩,rfl,?_⟩;have j:=f.obj n o i;cases o with
   | arr et e xs=>exact .inr this
   | nest et al k e xs z=>exact .inr this
   | box et st fs=>obtain⟨_,b,cs,a,_⟩:=j;rw[a];exact .inl rfl
   | mapo k v l=>obtain⟨b,ai,cl,a,_⟩:=j;rw[a];exact .inl rfl
   | frame g fs=>obtain⟨a,_⟩:=j;rw[a];exact .inl rfl
   | loop L=>obtain⟨b,a,_⟩:=j;rw[a];exact .inl rfl
   | itr am ap an ao ak=>obtain⟨b,a,_⟩:=j;rw[a];exact .inl rfl
   | dfr=>obtain⟨b,a,_⟩:=j;rw[a];exact .inl rfl
 have N:=h w K O0 ρ b y (UY x) (UZ W λn o i=>aZ (f.obj n o i)) u (by simpa[IL,cY] using S) rfl _ _ aa;refine AEZ (F:=FR (some b)) N ?_;intro e ah w' m;cases e with
 | normal =>
  obtain⟨σ',⟨ρ',D⟩,X,R⟩:=m;have ag:ρ' yn=.pointer (some ⟨b,0,none⟩):=(D.pin (yn,ρ yn) (IF.2 ⟨yn,af,rfl⟩)).2.1.trans u;obtain⟨G,H⟩:=QF y D X ag { L with state:=.busy };exact⟨_,run_beginRound G h1,R (by simpa[IL,cY] using T) rfl _ _ ⟨ρ',H⟩⟩
 | exit id=>exact m.elim
 | goto t=>exact m.elim
 | ret=>exact m.elim
 | panic ch=>exact m.elim
 | outgrown=>exact m.elim
end
end
section
open Go Go.RowKit
def Cx.marked (c:Cx) (dn b:Nat):Cx:={ c with ds:={ ds:=⟨.collected b,#[]⟩ :: c.ds.ds,pin:=(dn,.pointer (some ⟨b,0,none⟩)) :: c.ds.pin } }
def Cx.marked2 (c:Cx) (yn dn b:Nat):Cx:={ c with ds:={ ds:=⟨.collected b,#[]⟩ :: c.ds.ds,pin:=(yn,.pointer (some ⟨b+1,0,none⟩)) :: (dn,.pointer (some ⟨b,0,none⟩)) :: c.ds.pin } }
theorem qX {c:Cx} {yn dn b:Nat} (h:c.Ok):(c.marked2 yn dn b).Ok:=⟨h.K,h.O,h.T,h.F⟩
theorem KF {c:Cx} {dn b:Nat}:(c.marked dn b).tb=c.tb:=rfl
theorem NM {c:Cx} {dn b:Nat} (h:c.Ok):(c.marked dn b).Ok:=⟨h.K,h.O,h.T,h.F⟩
theorem yY (ren:List (Nat×B1)) (x:AV):Bk ren x .top:=by grind [Bk,HO,Dj]
def fX:List DT->Bool
 | []=>true
 | .inv _ :: _=>false
 | _ :: k=>fX k
theorem Oq {c:Cx} {R:Exit->Act->World->Prop} {dn b:Nat}:∀ {k:List DT},fX k=true->VR (c.marked dn b) R k=VR c R k
 | [],_=>by funext e a w;simp[VR]
 | .inv _ :: _,h=>by simp[fX]at h
 | .seq y :: k,h=>by
  have d:=Oq (c:=c) (R:=R) (dn:=dn) (b:=b) (k:=k) h;funext e a w;cases e<;>simp only[VR,d]<;>rfl
 | .blk id :: k,h=>by
  have d:=Oq (c:=c) (R:=R) (dn:=dn) (b:=b) (k:=k) h;funext e a w;cases e<;>simp only[VR,d]
def BT (σ:St) (yn dn fr:Nat) (L:Go.Loop) (a:Array Value):St:=⟨σ.env,(yn,.loop L) :: (dn,.dfr) :: (fr,.frame a σ.env) :: σ.objs⟩
section
variable {c:Cx} {R:Exit->Act->World->Prop} {k:List DT} {σ:St}
theorem yZ (q:c.Ok) {a:Act} {w:World} {ρ:Nat->Value} (hs:CE c.w0 c.K c.O0 c.nt c.ds σ ρ a w) {yn dn fr:Nat} (r:yn≠dn) (D:yn≠fr) (E:dn≠fr) (F:lk yn σ.objs=none) (G:lk dn σ.objs=none) (H:lk fr σ.objs=none) (L:Go.Loop) :
  ∃e,CE c.w0 c.K c.O0 c.nt (c.marked2 yn dn w.heap.size).ds (BT σ yn dn fr L a.tmps) e { a with defers:=[{ target:=.collected w.heap.size,args:=#[] }]++a.defers } ((w.alloc (.deferred (some []))).alloc (.loop L))/\e yn=.pointer (some ⟨w.heap.size+1,0,none⟩):=by
 let e:Nat->Value:=λm=>if m=yn then .pointer (some ⟨w.heap.size+1,0,none⟩) else if m=dn then .pointer (some ⟨w.heap.size,0,none⟩) else if m=fr then .pointer none else ρ m
 have j:e yn=.pointer (some ⟨w.heap.size+1,0,none⟩):=by simp[e]
 have k:e dn=.pointer (some ⟨w.heap.size,0,none⟩):=by simp[e,Ne.symm r]
 have y:e fr=.pointer none:=by simp[e,Ne.symm D,Ne.symm E]
 obtain⟨f,i⟩:∃f,(w.alloc (.deferred (some []))).alloc (.loop L)=f:=⟨_,rfl⟩;have A:f.heap[w.heap.size+1]?=some (.loop L):=by
  rw[<-i];have:=World.alloc_heap_new (w.alloc (.deferred (some []))) (.loop L);rwa [World.size_alloc]at this
 have z:f.heap[w.heap.size]?=some (.deferred (some [])):=by
  rw[<-i];exact(Below.heap_alloc _ _ _ (by simp)).trans (World.alloc_heap_new w _)
 have l:Below w.heap.size w f:=by
  rw[<-i];exact((Below.refl _ w).alloc (NO _) _).alloc (by simp) _
 rw[i];have t:Bj [(yn,Obj.loop L),(dn,.dfr),(fr,.frame a.tmps σ.env)] σ=true:=by simp[Bj,F,G,H]
 have v:∀n,lk n [(yn,Obj.loop L),(dn,Obj.dfr),(fr,.frame a.tmps σ.env)]=none->e n=ρ n:=λn hn=>by grind [lk]
 have u:∀n o b,lk n [(yn,Obj.loop L),(dn,Obj.dfr),(fr,.frame a.tmps σ.env)]=some o->bk (e n) b->w.heap.size<=b:=λn o b hn B=>by grind [lk,bk,blk]
 have I:=IJ (O0:=c.O0) (ρ:=ρ) (ρ':=e) t l v u;have J:QS w c.O0 σ ρ .top [(yn,Obj.loop L),(dn,.dfr),(fr,.frame a.tmps σ.env)] undef e f:=by
  refine⟨l,v,trivial,λn o hn=>?_,u,λn m o Q b hn P B N=>?_⟩
  ·simp only[lk]at hn;split at hn
   ·rename_i g;cases hn;subst g;exact⟨_,j,A⟩
   ·split at hn
    ·rename_i g;cases hn;subst g;exact⟨_,k,z⟩
    ·split at hn
     ·rename_i g;cases hn;subst g;exact⟨y,λs x M=>(hs.env s x M).keeps I⟩
     ·cases hn
  ·grind [lk,bk,blk]
 have h:=hs.add q.K q.O (dst:=none) (λd C=>by cases C) t J;refine⟨e,⟨h.frm,h.nt,?_,λp hp=>?_,h.objs,h.free,h.dist,h.env⟩,j⟩
 ·show _=_ :: c.ds.ds;rw[<-hs.defers];rfl
 ·rcases Do.1 hp with rfl|hp
  ·exact⟨⟨.loop L,by simp[BT,lk]⟩,j,.inl rfl⟩
  rcases Do.1 hp with rfl|hp
  ·exact⟨⟨.dfr,by simp[BT,lk,Ne.symm r]⟩,k,.inl rfl⟩
  ·exact h.pin p hp
def EvJ (c:Cx) (R:Exit->Act->World->Prop) (k:List DT) (σ:St):Option Code->Prop
 | none=>Ev c R (.out .normal) k σ
 | some a=>match a with
  | .ret=>Ev c R (.out .ret) k σ
  | .exit id=>Ev c R (.out (.exit id)) k σ
  | _=>False
def AD6 (c:Cx) (R:Exit->Act->World->Prop) (k:List DT) (a:Act) (w:World):Option Code->Prop
 | none=>VR c R k .normal a w
 | some cd=>cd.wpIn (FR c.r) 0 c.P (VR c R k) a w
theorem A6a {dn b:Nat} (g:fX k=true) (e:DB c.nt k=true) {p:Option Code} (d:EvJ (c.marked dn b) R k σ p) {a:Act} {w:World} (hs:(c.marked dn b).sat σ a w) :
  AD6 c R k a w p:=by
 have f:=Oq (c:=c) (R:=R) (dn:=dn) (b:=b) g;cases p with
 | none =>
  have:=d rfl e _ _ hs;show VR c R k .normal a w;rw[<-f];exact this
 | some cd =>
  cases cd<;>try exact d.elim
  ·have:=d rfl e _ _ hs;refine wpIn_exit ?_;rw[<-f];exact this
  ·have:=d rfl e _ _ hs;refine wpIn_ret ?_;rw[<-f];exact this
theorem fY (T:c.Ok) (bl:c.r=none) (bf:fX k=true) {g:Operand} {N:Array Tmp} {G H:Code} {s:FuncId} {m:List Nat} (J:Ao σ g=some (.clo s m))
  (yn dn fr:Nat) (D:(yn != dn&&yn != fr&&dn != fr)=true) (ba:lk yn σ.objs=none) (bb:lk dn σ.objs=none) (bc:lk fr σ.objs=none)
  (am:∀(L:Go.Loop) (z:Array Value),L.state=.ready->L.pending=none->L.tmps=z->L.params=N->L.assign=G->L.body=H->z.size=c.nt ->
   ∃(A:List AV) (objs:List (Nat×Obj)) (stay:List Nat) (post:AV->List (Nat×Obj)->Prop) (ren:List (Nat×B1)) (hs:List Nat),BI c.P s A objs stay post /\
    B4 ren=true/\CM objs ren=true/\BK (BT σ yn dn fr L z) ren (.yl yn :: m.map λn=>AV.bp n [] 0) A/\Ae (BT σ yn dn fr L z).objs ren objs /\
    (((yn,undef) :: (dn,undef) :: c.ds.pin).all λp=>!Aa p.1 hs)=true /\
    ∀res y,post res y->∃(j:List (Nat×B1)) (i:List (Nat×Obj)) (l:Go.Loop),B4 j=true/\CM i j=true/\Ae y j i/\JG ren j stay hs=true/\Fd (Ah ren) i (BT σ yn dn fr L z).objs=true /\
     lk yn i=some (.loop l)/\(l.state == .busy)=false /\
     ∀b,EvJ (c.marked dn b) R k ⟨(CL (BT σ yn dn fr L z) (Ah ren) hs none .top i).env,upd yn (.loop { l with state:=.exhausted }) (CL (BT σ yn dn fr L z) (Ah ren) hs none .top i).objs⟩ l.pending) :
  Ev c R (.run (.rangeFunc g N G H)) k σ:=by
 intro h1 ak a w bn;obtain⟨ρ,hs⟩:=bn;have az:Gv (vw w c.O0 σ ρ) σ a.eval:=FL hs.env;obtain⟨bd,_⟩:=fU (az g _ J);simp only[AT,AEc,ne_eq]at D;obtain⟨⟨av,aw⟩,ax⟩:=D;refine wpIn_rangeFunc (F:=FR c.r) ?_;intro fn _;have bm:(FR c.r).round=none:=by rw[bl];rfl
 rw[bm];obtain⟨L,x⟩:∃L:Go.Loop,L={ state:=.ready,pending:=none,fn,tmps:=a.tmps,params:=N,assign:=G,body:=H,defers:=w.heap.size }:=⟨_,rfl⟩;obtain⟨Y,M,bq⟩:=yZ T hs av aw ax ba bb bc L;obtain⟨A,objs,stay,post,ren,B,I,ae,af,ag,ah,ai,aj⟩:=am L a.tmps (by rw[x]) (by rw[x]) (by rw[x]) (by rw[x]) (by rw[x]) (by rw[x]) hs.nt;obtain⟨⟨O,au,bi,ap⟩,I⟩:=I;obtain⟨o,S⟩:∃o,(w.alloc (.deferred (some []))).alloc (.loop L)=o:=⟨_,rfl⟩;rw[S]at M;have U:(c.marked2 yn dn w.heap.size).Ok:=qX T;have ar:Jq (vw o c.O0 (BT σ yn dn fr L a.tmps) Y) (.yl yn :: m.map λn=>AV.bp n [] 0) (.func (.yield (w.heap.size+1)) #[] #[] :: m.map ρ):=by
  refine⟨_,_,rfl,⟨⟨_,by simp[BT,lk];rfl⟩,_,bq,rfl⟩,?_⟩;have cb:=fU (V:=vw o c.O0 (BT σ yn dn fr L a.tmps) Y) (f:=s) (ns:=m) (v:=a.eval g) (by
   have:=FL M.env;have bj:Ao (BT σ yn dn fr L a.tmps) g=some (.clo s m):=by
    cases g with
    | tmp t=>exact J
    | _=>exact J
   have Q:=this g _ bj;have ay:({ a with defers:=[{ target:=.collected w.heap.size,args:=#[] }]++a.defers }:Act).eval g=a.eval g:=by cases g<;>rfl
   rw[ay]at Q;exact Q)
  grind [vw]
 have bg:∀res y,post res y->∃(j:List (Nat×B1)) (X:AV) (i:List (Nat×Obj)),B4 j=true/\CM i j=true/\Ae y j i/\Bk j res X /\
   JG ren j stay B=true/\Fd (Ah ren) i (BT σ yn dn fr L a.tmps).objs=true/\∀C w',(c.marked2 yn dn w.heap.size).sat (CL (BT σ yn dn fr L a.tmps) (Ah ren) B none X i) C w' ->
    rangePost (FR c.r) 0 c.P (w.heap.size+1) (VR c R k) C (.returned undef) w':=by
  intro res y hp;obtain⟨j,i,l,bs,bt,bu,bv,bw,cc,W,bx⟩:=aj res y hp;refine⟨j,.top,i,bs,bt,bu,yY j res,bv,bw,λC w' E=>?_⟩;obtain⟨ρ',E⟩:=E;have br:lk yn (CL (BT σ yn dn fr L a.tmps) (Ah ren) B none .top i).objs=some (.loop l):=by grind [CL,A9]
  have hyp:=(E.pin (yn,.pointer (some ⟨w.heap.size+1,0,none⟩)) (by simp[Cx.marked2])).2.1;obtain⟨bz,q⟩:=QF U E br hyp { l with state:=.exhausted };refine⟨_,_,run_endLoop bz (by intro e;rw[e]at W;cases W),?_⟩;have bo:(c.marked dn w.heap.size).sat ⟨(CL (BT σ yn dn fr L a.tmps) (Ah ren) B none .top i).env,upd yn (.loop { l with state:=.exhausted }) (CL (BT σ yn dn fr L a.tmps) (Ah ren) B none .top i).objs⟩ C (w'.putObj (w.heap.size+1) (.loop { l with state:=.exhausted })) :=
   ⟨ρ',q.frm,q.nt,q.defers,λp hp=>q.pin p (OF _ hp),q.objs,q.free,q.dist,q.env⟩
  have K:=A6a bf ak (bx w.heap.size) bo;revert K;generalize l.pending=p;intro K;cases p<;>exact K
 obtain⟨Z,aa,ca,al,an,bh,ao,_,bk⟩:=Rh U M ar stay post ren ae af ag ah B (by simpa[Cx.marked2] using ai) (dst:=none) (λd D=>by cases D) bg;have aq:=I o Z aa ca _ al an bh ao;refine⟨w.heap.size+1,[{ target:=.collected w.heap.size,args:=#[] }],o,{ target:=.fn (.func s) (m.map ρ).toArray,args:=#[.func (.yield (w.heap.size+1)) #[] #[]] },o,s,
  (.func (.yield (w.heap.size+1)) #[] #[] :: m.map ρ).toArray,o,?_,?_,λ_ _=>trivial,?_,λh=>by simp[FR]at h,?_⟩
 ·rw[<-S,x];exact run_enterLoop_outer _ _ _ _ _
 ·have be:a.eval g=.func (.func s) #[] (m.map ρ).toArray:=bd;simp only[resolve,be];simp[go_sem]
 ·have ab : ¬ O.name = "runtime.NumGoroutine" := by simpa using bi
  have ad:¬O.body=none:=by intro e;simp[e]at ap
  simp[invoke,callFunc,au,ab,ad]
 ·refine OZ (aq.mono λe w' hh=>?_);obtain⟨u,rfl,hh⟩:=hh;exact bk u w' hh
theorem A1W (O:c.Ok) {a:Act} {w:World} {ρ:Nat->Value} (hs:CE c.w0 c.K c.O0 c.nt c.ds σ ρ a w) {dn b:Nat} (j:lk dn σ.objs=some .dfr) (i:ρ dn=.pointer (some ⟨b,0,none⟩)) (X:_root_.Go.Obj) (pin:List (Nat×Value)) (G:∀p∈pin,p∈c.ds.pin/\p.1≠dn) :
  w.heap[b]?=some (.deferred (some []))/\CE c.w0 c.K c.O0 c.nt { ds:=c.ds.ds,pin:=pin } ⟨CJ [dn] σ.env,Av [dn] [dn] σ.objs⟩ ρ a (w.putObj b X):=by
 obtain⟨b',h1,h⟩:=hs.objs dn _ j;rw[i]at h1;injection h1 with h1
 injection h1 with h1
 injection h1 with h1
 subst h1;have P:b<w.heap.size:=CP h;refine⟨h,?_⟩;have A:own c.O0 σ ρ b:=.inr ⟨dn,⟨_,j⟩,by rw[i];exact .inl rfl⟩;have f:∀n,HJ ⟨CJ [dn] σ.env,Av [dn] [dn] σ.objs⟩ n->HJ σ n/\n≠dn:=by
  rintro n ⟨o,hn⟩;have hn:lk n (Av [dn] [dn] σ.objs)=some o:=hn;rw[CB]at hn;split at hn
  ·cases hn
  ·rename_i r;simp only[Is]at hn;obtain⟨y,d,_⟩:=hn;exact⟨⟨y,d⟩,λe=>r (by subst e;simp[Aa])⟩
 have l:∀k,k≠b->(w.putObj b X).heap[k]?=w.heap[k]?:=λk hk=>World.putObj_heap_other hk;have q:Cr ((vw w c.O0 σ ρ).buts [dn]) (vw (w.putObj b X) c.O0 ⟨CJ [dn] σ.env,Av [dn] [dn] σ.objs⟩ ρ):=by
  refine⟨λk _ hk B=>?_,λn hn=>?_,λ_ _=>rfl,λk _ hk=>l k (λe=>?_)⟩
  ·rcases B with h0|⟨n,hn,E⟩
   ·exact hk (.inl h0)
   ·exact hk (.inr ⟨n,(f n hn).1,E⟩)
  ·obtain⟨⟨o,F⟩,D⟩:=hn;exact⟨_,by show lk n (Av [dn] [dn] σ.objs)=_;rw[CB,An (by rw[D];simp),F];rfl⟩
  ·subst e;exact hk A
 refine⟨⟨hs.frm.os,hs.frm.tape,hs.frm.output,by simpa using hs.frm.size,λk hk=>?_⟩,hs.nt,hs.defers,λp hp=>?_,λn x hn=>?_,λn k C hk=>hs.free n k (f n C).1 hk,λn m k h1 h u z=>hs.dist n m k (f n h1).1 (f m h).1 u z,λs v t=>?_⟩
 ·refine(l k λe=>?_).trans (hs.frm.block k hk);subst e;exact(hs.free dn k ⟨_,j⟩ (by rw[i];exact .inl rfl)).1 hk
 ·obtain⟨H,I⟩:=G p hp;obtain⟨J,M,N⟩:=hs.pin p H;exact⟨q.L p.1 ⟨J,by simp[Aa,I]⟩,M,N⟩
 ·have g:lk n (Av [dn] [dn] σ.objs)=some x:=hn;have r:=(f n ⟨x,hn⟩).2;rw[CB]at g;split at g
  ·cases g
  ·simp only[Is]at g;obtain⟨y,d,rfl⟩:=g;refine aR q (λk hk=>l k λe=>?_) (hs.objs n y d);subst e;exact r (hs.dist n dn k ⟨y,d⟩ ⟨_,j⟩ hk (by rw[i];exact .inl rfl))
 ·rw[E6]at t;simp only[Is]at t;obtain⟨y,d,rfl⟩:=t;exact(US (hs.env s y d)).keeps q
end
def vK (P:Program) (fn:Func) (w0:World) (K O0:Nat->Prop) (stay:List Nat) (ρ0:Nat->Value) (post:AV->List (Nat×Obj)->Prop):Exit->Act->World->Prop :=
 bodyPostM (FR none) 0 P fn λe w'=>∃u,e=.returned u/\MH K O0 stay w0 ρ0 post u w'
theorem A6b {P:Program} {tb:Tb} {f:FuncId} {fn:Func} {cd:Code} {nt:Nat} {args:List AV} {objs:List (Nat×Obj)} {stay:List Nat} {post:AV->List (Nat×Obj)->Prop}
  (c : P.funcs[f]? = some fn) (k : (fn.name == "runtime.NumGoroutine") = false) (b : fn.body = some cd) (l : fn.ntmps = nt) (q : args.length <= nt)
  (i:Bu nt cd=true) (p:stay.all (TC objs)=true) (j:MA objs=true) (hT:DF P tb) (hF:JA P tb)
  (h:∀(w0:World) (K O0:Nat->Prop) (ρ0:Nat->Value),(cm P tb w0 K O0 nt (stay.map λn=>(n,ρ0 n))).Ok->QB args->Oh objs ->
   Ev (cm P tb w0 K O0 nt (stay.map λn=>(n,ρ0 n))) (vK P fn w0 K O0 stay ρ0 post) (.run cd) [] ⟨Am 0 args,objs⟩):BI P f args objs stay post:=by
 refine⟨⟨fn,c,k,by simp[b]⟩,λw K O0 ρ s e g d a=>?_⟩;refine callsIn_wide.1 (callsIn_of_wp_marks (F:=FR none) (n:=0) c b trivial ?_ rfl);have r:=JF a;rw[l];exact h w K O0 ρ ⟨e,g,hT,hF⟩ (UY a) (UZ j λn o m=>aZ (d.obj n o m)) i rfl _ _ (Va d a p (by omega))
theorem QG {P:Program} {tb:Tb} {w0:World} {K O0:Nat->Prop} {nt:Nat} {stay:List Nat} {ρ0:Nat->Value} {fn:Func} {post:AV->List (Nat×Obj)->Prop} {σ:St} {e:Exit} {dn b:Nat} (d:((cm P tb w0 K O0 nt (stay.map λn=>(n,ρ0 n))).marked dn b).Ok)
  (g:List ResultVar) (s:fn.results.toList=g) (o:e=.ret\/e=.normal) (q:lk dn σ.objs=some .dfr) (f:Aa dn stay=false) (res:AV) (h:TD tb ⟨CJ [dn] σ.env,Av [dn] [dn] σ.objs⟩ g res) (hp:post res (Av [dn] [dn] σ.objs)) :
  Ev ((cm P tb w0 K O0 nt (stay.map λn=>(n,ρ0 n))).marked dn b) (vK P fn w0 K O0 stay ρ0 post) (.out e) [] σ:=by
 intro _ _ a w hs;obtain⟨ρ,hs⟩:=hs;have l:=(hs.pin (dn,.pointer (some ⟨b,0,none⟩)) (by simp[Cx.marked])).2.1;obtain⟨h1,i⟩:=A1W d hs q l (.deferred none) (stay.map λn=>(n,ρ0 n)) (λp hp=>⟨OF _ hp,λe=>by
  obtain⟨n,hn,rfl⟩:=IF.1 hp;have e:n=dn:=e;subst e;rw[(Al _ _).2 hn]at f;cases f⟩)
 have c:CE w0 K O0 nt { ds:=[⟨.collected b,#[]⟩],pin:=stay.map λn=>(n,ρ0 n) } ⟨CJ [dn] σ.env,Av [dn] [dn] σ.objs⟩ ρ a (w.putObj b (.deferred none)):=i;obtain⟨u,j,k⟩:=Vc d.T c (fn:=fn) (by rw[s];exact h);have r:MH K O0 stay w0 ρ0 post u (w.putObj b (.deferred none)):=by
  refine⟨res,_,ρ,hp,c.frm,⟨c.objs,c.free,c.dist⟩,k,λn hn=>?_⟩;exact(c.pin (n,ρ0 n) (IF.2 ⟨n,hn,rfl⟩)).2.1
 have m:a.defers=[⟨.collected b,#[]⟩]:=hs.defers;have key:LeavesInM (FR none) 0 P fn a.tmps (λe w'=>∃u,e=.returned u/\MH K O0 stay w0 ρ0 post u w') a.defers .returning w:=by
  rw[m];exact⟨by simp,.inl ⟨b,_,rfl,run_takeDeferred h1,u,j,u,rfl,r⟩⟩
 rcases o with rfl|rfl
 ·exact key
 ·exact key
end
section
open Go Go.RowKit
section
variable {c:Cx} {R:Exit->Act->World->Prop} {k:List DT} {σ σ':St}
theorem rP (a:c.Ok) {id:Nat} {l:List Oper} {vc:Prop} (b:vc) (hk:Ev c R (.out .normal) k σ') (h0:(l.all λo=>o.guard.isNone)=true:=by rfl)
  (h:DU c.tb.live (Bq c.tb l l σ)=some (vc,σ'):=by simp only[go_sem,Nat.reduceEqDiff,reduceCtorEq,Nat.reduceAdd,Nat.reduceSub,Nat.reduceMul,Nat.reduceLeDiff,Nat.reduceLT,Int.reduceLE,Int.reduceToNat,Int.reduceNeg,↓reduceIte];rfl):Ev c R (.run (.region id l.toArray false)) k σ:=MJ _ a h0 h b hk
theorem rT (m:Nat) (a:c.Ok) {id:Nat} {l:List Oper} {vc:Prop} (d:vc) (hk:Ev c R (.out .normal) k σ') (h0:LY l (l.take (l.length-m)).length=true:=by kernel_rfl) (b:c.P.follows .mixedOrders=true:=by exact drawsAny)
  (h:DU c.tb.live (La c.tb l false σ.objs (l.drop (l.length-m)) (l.take (l.length-m)) 0 [] [] σ)=some (vc,σ'):=by simp only[tO,ADi,ACX,UL,go_sem,Nat.reduceEqDiff,reduceCtorEq,Nat.reduceAdd,Nat.reduceSub,Nat.reduceMul,Nat.reduceLeDiff,Nat.reduceLT,Int.reduceLE,Int.reduceToNat,Int.reduceNeg,↓reduceIte];rfl):Ev c R (.run (.region id l.toArray true)) k σ:=Yl _ m b a h0 h d hk
theorem rC {o:Operand} {x y:Code} {b:Bool} {p q:Prop} (d:p->Ev c R (.run x) k σ) (hf:q->Ev c R (.run y) k σ) (h:Ao σ o=some (.p .bool b):=by simp only[go_sem,Nat.reduceEqDiff,reduceCtorEq,Nat.reduceAdd,Nat.reduceSub,Nat.reduceMul,Nat.reduceLeDiff,Nat.reduceLT,Int.reduceLE,Int.reduceToNat,Int.reduceNeg,↓reduceIte];rfl)
  (hp:(b=true)=p:=by first|(simp only[Fj,Of,AT,Su,Bool.and_eq_false_imp,iF,SZ,ADf,UH,AD5,AEc,Bool.not_eq_eq_eq_not,Bool.not_true,Bool.not_false,ACU,ACk,ne_eq];rfl)|rfl) (a:(b=false)=q:=by first|(simp only[Fj,Of,AT,Su,Bool.and_eq_false_imp,iF,SZ,ADf,UH,AD5,AEc,Bool.not_eq_eq_eq_not,Bool.not_true,Bool.not_false,ACU,ACk,ne_eq];rfl)|rfl):Ev c R (.run (.cond o x y)) k σ :=
 Dm h (λe=>d (hp▸e)) (λe=>hf (a▸e))
theorem rL (a:c.Ok) {ops:List Oper} {l:List Oper} {vc:Prop} (b:vc) (hk:Ev c R (.out .normal) k σ') (h:DU c.tb.live (Bq c.tb ops l σ)=some (vc,σ'):=by simp only[go_sem,Nat.reduceEqDiff,reduceCtorEq,Nat.reduceAdd,Nat.reduceSub,Nat.reduceMul,Nat.reduceLeDiff,Nat.reduceLT,Int.reduceLE,Int.reduceToNat,Int.reduceNeg,↓reduceIte];rfl):KC c R k ops.toArray l σ:=IU _ a h b hk
theorem rN (n:Nat) (a:c.Ok) {ops:List Oper} {l:List Oper} {vc:Prop} (b:vc) (hk:KC c R k ops.toArray (l.drop n) σ') (h:Bq c.tb ops (l.take n) σ=some (vc,σ'):=by simp only[tO,ACX,go_sem,Nat.reduceEqDiff,reduceCtorEq,Nat.reduceAdd,Nat.reduceSub,Nat.reduceMul,Nat.reduceLeDiff,Nat.reduceLT,Int.reduceLE,Int.reduceToNat,Int.reduceNeg,↓reduceIte];rfl):KC c R k ops.toArray l σ:=QA a n (by simpa using h) b hk
theorem cP (n:Nat) (a:c.Ok) {id:Nat} {l:List Oper} {vc:Prop} (b:vc) (hk:KC c R k l.toArray (l.drop n) σ') (h0:(l.all λo=>o.guard.isNone)=true:=by rfl) (h:Bq c.tb l (l.take n) σ=some (vc,σ'):=by simp only[tO,ACX,go_sem,Nat.reduceEqDiff,reduceCtorEq,Nat.reduceAdd,Nat.reduceSub,Nat.reduceMul,Nat.reduceLeDiff,Nat.reduceLT,Int.reduceLE,Int.reduceToNat,Int.reduceNeg,↓reduceIte];rfl) :
  Ev c R (.run (.region id l.toArray false)) k σ:=A1G a n h0 h b hk
theorem cD (n:Nat) (a:c.Ok) {id:Nat} {l:List Oper} {vc:Prop} (e:vc) (hk:KC c R k l.toArray (l.drop n) σ') (b:LY l (l.take n).length=true:=by kernel_rfl) (d:c.P.follows .mixedOrders=true:=by exact drawsAny)
  (h:La c.tb l false σ.objs [] (l.take n) 0 [] [] σ=some (vc,σ'):=by simp only[tO,ACX,go_sem,Nat.reduceEqDiff,reduceCtorEq,Nat.reduceAdd,Nat.reduceSub,Nat.reduceMul,Nat.reduceLeDiff,Nat.reduceLT,Int.reduceLE,Int.reduceToNat,Int.reduceNeg,↓reduceIte];rfl):Ev c R (.run (.region id l.toArray true)) k σ:=A1H d a n b h e hk
theorem rM (q:c.Ok) {ops:Array Oper} {rest:List Oper} {dst:Option Nat} {g:Operand} {xs:List Operand} {ts:Array TypeId} {ty:TypeId} {pos:String} {after:Array Edge}
  {f:FuncId} {d:List Nat} {as:List AV} {A:List AV} {objs:List (Nat×Obj)} {stay:List Nat} {post:AV->List (Nat×Obj)->Prop} (l:BI c.P f A objs stay post)
  (ren:List (Nat×B1)) (hs:List Nat) (j:BK σ ren (as++d.map λn=>AV.bp n [] 0) A) (m:Ae σ.objs ren objs)
  (hk:∀res e,post res e->∃(a:List (Nat×B1)) (h:AV) (b:List (Nat×Obj)),B4 a=true/\CM b a=true/\Ae e a b/\Bk a res h /\
   JG ren a stay hs=true/\Fd (Ah ren) b σ.objs=true/\KC c R k ops rest (CL σ (Ah ren) hs dst h b))
  (r:Cs (Ao σ g)=some (f,d):=by simp only[go_sem,Nat.reduceEqDiff,reduceCtorEq,Nat.reduceAdd,Nat.reduceSub,Nat.reduceMul,Nat.reduceLeDiff,Nat.reduceLT,Int.reduceLE,Int.reduceToNat,Int.reduceNeg,↓reduceIte];rfl) (o:IR σ xs=some as:=by simp only[go_sem,Nat.reduceEqDiff,reduceCtorEq,Nat.reduceAdd,Nat.reduceSub,Nat.reduceMul,Nat.reduceLeDiff,Nat.reduceLT,Int.reduceLE,Int.reduceToNat,Int.reduceNeg,↓reduceIte];rfl)
  (h1:B4 ren=true:=by rfl) (i:CM objs ren=true:=by rfl) (s:(c.ds.pin.all λp=>!Aa p.1 hs)=true:=by rfl) :
  KC c R k ops (⟨dst,.call ⟨.value g,xs.toArray,ts⟩,ty,pos,after,none⟩ :: rest) σ:=A1F q r o l ren hs h1 i s j m hk
theorem rY (n yn:Nat) (m:c.Ok) {ops:Array Oper} {rest:List Oper} {dst:Option Nat} {g:Operand} {xs:List Operand} {ts:Array TypeId} {ty:TypeId} {pos:String} {after:Array Edge}
  {as:List AV} {A:List AV} {objs:List (Nat×Obj)} {stay:List Nat} {post:AV->List (Nat×Obj)->Prop} (i:Yr c.P yn A objs stay post)
  (ren:List (Nat×B1)) (hs:List Nat) (h:BK σ ren as A) (j:Ae σ.objs ren objs)
  (hk:∀res d,post res d->∃(a:List (Nat×B1)) (e:AV) (b:List (Nat×Obj)),B4 a=true/\CM b a=true/\Ae d a b/\Bk a res e /\
   JG ren a stay hs=true/\Fd (Ah ren) b σ.objs=true/\KC c R k ops rest (CL σ (Ah ren) hs dst e b))
  (s:c.r=none:=by rfl) (o:YD n (Ao σ g)=true:=by simp only[go_sem,Nat.reduceEqDiff,reduceCtorEq,Nat.reduceAdd,Nat.reduceSub,Nat.reduceMul,Nat.reduceLeDiff,Nat.reduceLT,Int.reduceLE,Int.reduceToNat,Int.reduceNeg,↓reduceIte]) (l:IR σ xs=some as:=by simp only[go_sem,Nat.reduceEqDiff,reduceCtorEq,Nat.reduceAdd,Nat.reduceSub,Nat.reduceMul,Nat.reduceLeDiff,Nat.reduceLT,Int.reduceLE,Int.reduceToNat,Int.reduceNeg,↓reduceIte];rfl)
  (t:lk yn ren=some (.nm n):=by rfl) (h1:B4 ren=true:=by rfl) (f:CM objs ren=true:=by rfl) (q:(c.ds.pin.all λp=>!Aa p.1 hs)=true:=by rfl) :
  KC c R k ops (⟨dst,.call ⟨.value g,xs.toArray,ts⟩,ty,pos,after,none⟩ :: rest) σ:=yX m s o l i ren hs t h1 f q h j hk
end
end
section
open Go Go.RowKit
section
variable {P:Program} {b:Frame} {a:Act} {k:List Item} {cs:List Frame} {w:World}
end
section
variable {c:Cx} {R:Exit->Act->World->Prop} {k:List DT} {σ:St}
end
end
section
open Go Go.RowKit
def vL:u5->List DT->Option (u5×List DT)
 | .run (.seq x y),k=>some (.run x,.seq y :: k)
 | .run .skip,k=>some (.out .normal,k)
 | .run .ret,k=>some (.out .ret,k)
 | .run (.exit id),k=>some (.out (.exit id),k)
 | .run (.block id b),k=>some (.run b,.blk id :: k)
 | .out .normal,.seq y :: k=>some (.run y,k)
 | .out .normal,.blk _ :: k=>some (.out .normal,k)
 | .out (.exit id),.seq _ :: k=>some (.out (.exit id),k)
 | .out (.exit a),.blk id :: k=>if a=id then some (.out .normal,k) else some (.out (.exit a),k)
 | .out (.exit id),.inv _ :: k=>some (.out (.exit id),k)
 | .out .ret,.seq _ :: k=>some (.out .ret,k)
 | .out .ret,.blk _ :: k=>some (.out .ret,k)
 | .out .ret,.inv _ :: k=>some (.out .ret,k)
 | _,_=>none
def Vr:Nat->u5->List DT->u5×List DT
 | 0,n,k=>(n,k)
 | m+1,n,k=>match vL n k with
  | some (b,a)=>Vr m b a
  | none=>(n,k)
def vM (n:u5) (k:List DT):Option (u5×List DT):=match vL n k with
 | some (b,a)=>some (Vr 200 b a)
 | none=>none
section
variable {c:Cx} {R:Exit->Act->World->Prop} {σ:St}
theorem fZ {n b:u5} {k a:List DT} (e:vL n k=some (b,a)) (h:Ev c R b a σ):Ev c R n k σ:=by
 unfold vL at e;split at e<;>first
  | (cases e;done)
  | (split at e<;>(cases e;first|(rename_i d;rw[d];exact qI h)|exact qJ (by assumption) h))
  | (cases e;first|exact A8r h|exact u6 h|exact A8s h|exact A61 h|exact A1u h|exact IM h|exact qE h|exact fC h|exact fD h|exact qD h|exact qF h|exact qG h)
theorem Yt:∀(m:Nat) {n:u5} {k:List DT},Ev c R (Vr m n k).1 (Vr m n k).2 σ->Ev c R n k σ
 | 0,_,_,h=>h
 | m+1,n,k,h=>by
  unfold Vr at h;split at h
  ·rename_i b a e;exact fZ e (Yt m h)
  ·exact h
theorem eS {n b:u5} {k a:List DT} (e:vM n k=some (b,a)) (h:Ev c R b a σ):Ev c R n k σ:=by grind [vM,fZ,Yt]
end
inductive RX (c:Cx) (lv:List Nat) (σ:St) (vc:Prop) (σ':St):Array Oper->Bool->Prop
 | p {l:List Oper} (h0:(l.all λo=>o.guard.isNone)=true) (h:DU lv (Bq c.tb l l σ)=some (vc,σ')):RX c lv σ vc σ' l.toArray false
 | a {l:List Oper} (h0:yH l l.length=true) (h:DU lv (La c.tb l true σ.objs [] l 0 [] [] σ)=some (vc,σ')):RX c lv σ vc σ' l.toArray false
 | d {l:List Oper} (h0:LY l l.length=true) (hm:c.P.follows .mixedOrders=true) (h:DU lv (La c.tb l false σ.objs [] l 0 [] [] σ)=some (vc,σ')):RX c lv σ vc σ' l.toArray true
 | t {l:List Oper} (m:Nat) (h0:LY l (l.take (l.length-m)).length=true) (hm:c.P.follows .mixedOrders=true) (h:DU lv (La c.tb l false σ.objs (l.drop (l.length-m)) (l.take (l.length-m)) 0 [] [] σ)=some (vc,σ')):RX c lv σ vc σ' l.toArray true
theorem A9U {c:Cx} {R:Exit->Act->World->Prop} {k:List DT} {σ σ':St} {b:List Nat} (e:c.Ok) {id:Nat} {ops:Array Oper} {i:Bool} {vc:Prop} (f:vc) (hk:Ev c R (.out .normal) k σ') (h:RX c b σ vc σ' ops i):Ev c R (.run (.region id ops i)) k σ:=by
 cases h with
 | p h0 h=>exact MJ b e h0 h f hk
 | a h0 h=>exact fO b e h0 h f hk
 | d h0 g h=>exact yN b g e h0 h f hk
 | t m h0 g h=>exact Yl b m g e h0 h f hk
theorem rX {c:Cx} {R:Exit->Act->World->Prop} {k:List DT} {σ σ':St} (e:c.Ok) {id:Nat} {ops:Array Oper} {b:Bool} {vc:Prop} (f:vc) (hk:Ev c R (.out .normal) k σ')
  (h:RX c c.tb.live σ vc σ' ops b:=by
   first
   | exact .p rfl (by simp only[go_sem,Nat.reduceEqDiff,reduceCtorEq,Nat.reduceAdd,Nat.reduceSub,Nat.reduceMul,Nat.reduceLeDiff,Nat.reduceLT,Int.reduceLE,Int.reduceToNat,Int.reduceNeg,↓reduceIte];rfl)
   | exact .a (by kernel_rfl) (by simp only[go_sem,Nat.reduceEqDiff,reduceCtorEq,Nat.reduceAdd,Nat.reduceSub,Nat.reduceMul,Nat.reduceLeDiff,Nat.reduceLT,Int.reduceLE,Int.reduceToNat,Int.reduceNeg,↓reduceIte];rfl)
   | exact .d (by kernel_rfl) (by exact drawsAny) (by simp only[go_sem,Nat.reduceEqDiff,reduceCtorEq,Nat.reduceAdd,Nat.reduceSub,Nat.reduceMul,Nat.reduceLeDiff,Nat.reduceLT,Int.reduceLE,Int.reduceToNat,Int.reduceNeg,↓reduceIte];rfl)
   | exact .t 1 (by kernel_rfl) (by exact drawsAny) (by simp only[tO,ADi,ACX,UL,go_sem,Nat.reduceEqDiff,reduceCtorEq,Nat.reduceAdd,Nat.reduceSub,Nat.reduceMul,Nat.reduceLeDiff,Nat.reduceLT,Int.reduceLE,Int.reduceToNat,Int.reduceNeg,↓reduceIte];rfl)
   | exact .t 2 (by kernel_rfl) (by exact drawsAny) (by simp only[tO,ADi,ACX,UL,go_sem,Nat.reduceEqDiff,reduceCtorEq,Nat.reduceAdd,Nat.reduceSub,Nat.reduceMul,Nat.reduceLeDiff,Nat.reduceLT,Int.reduceLE,Int.reduceToNat,Int.reduceNeg,↓reduceIte];rfl)
   | exact .t 3 (by kernel_rfl) (by exact drawsAny) (by simp only[tO,ADi,ACX,UL,go_sem,Nat.reduceEqDiff,reduceCtorEq,Nat.reduceAdd,Nat.reduceSub,Nat.reduceMul,Nat.reduceLeDiff,Nat.reduceLT,Int.reduceLE,Int.reduceToNat,Int.reduceNeg,↓reduceIte];rfl)):Ev c R (.run (.region id ops b)) k σ:=A9U e f hk h
theorem eN {p:Prop} (h:p:=by simp only[go_sem,Nat.reduceEqDiff,reduceCtorEq,Nat.reduceAdd,Nat.reduceSub,Nat.reduceMul,Nat.reduceLeDiff,Nat.reduceLT,Int.reduceLE,Int.reduceToNat,Int.reduceNeg,↓reduceIte]<;>fail):p:=h
theorem eM {p q:Prop} (a:q) (h:p=q:=by simp only[go_sem,Nat.reduceEqDiff,reduceCtorEq,Nat.reduceAdd,Nat.reduceSub,Nat.reduceMul,Nat.reduceLeDiff,Nat.reduceLT,Int.reduceLE,Int.reduceToNat,Int.reduceNeg,↓reduceIte];rfl):p:=h▸a
theorem eR {p:Prop} (h:p:=by simp only[Ny,LV,Jn,Kq,NC,Jo,X1,go_sem,Nat.reduceEqDiff,reduceCtorEq,Nat.reduceAdd,Nat.reduceSub,Nat.reduceMul,Nat.reduceLeDiff,Nat.reduceLT,Int.reduceLE,Int.reduceToNat,Int.reduceNeg,↓reduceIte]<;>fail):p:=h
theorem Xy {p q:Prop} (a:q) (h:p=q:=by simp only[Ny,LV,Jn,Kq,NC,Jo,X1,go_sem,Nat.reduceEqDiff,reduceCtorEq,Nat.reduceAdd,Nat.reduceSub,Nat.reduceMul,Nat.reduceLeDiff,Nat.reduceLT,Int.reduceLE,Int.reduceToNat,Int.reduceNeg,↓reduceIte];rfl):p:=h▸a
theorem eV {p:Prop} (h:p:=by (try dsimp only[Ty.den]at *)<;>(repeat'(first|apply And.intro|intro _))<;>omega):p:=h
end
section
open Go Go.RowKit
section
variable {c:Cx} {R:Exit->Act->World->Prop} {k:List DT} {σ σ':St}
theorem A1X (d:c.Ok) {id:Nat} {l:List Oper} (n:Nat) {vc:Prop} (h:Bq c.tb l (l.take n) σ=some (vc,σ')) (f:vc) (hk:KC c R k l.toArray (l.drop n) σ') :
  Ev c R (.run (.region id l.toArray false)) k σ:=by
 intro h1 b a w hs;simp only[IL,Bu,IS]at h1;exact AEa (QA d n (by simpa using h) f hk (λo e=>h1 o e) b a w hs)
theorem y3 (F:c.Ok) {ops:Array Oper} {rest:List Oper} {dst:Option Nat} {g:Operand} {xs:List Operand} {ts:Array TypeId} {ty:TypeId} {pos:String} {after:Array Edge} {i:Option (Nat×Bool)}
  (H:Ef ops.toList σ i=some true)
  {f:FuncId} {j:List Nat} (G:Cs (Ao σ g)=some (f,j)) {as:List AV} (E:IR σ xs=some as)
  {A:List AV} {objs:List (Nat×Obj)} {stay:List Nat} {post:AV->List (Nat×Obj)->Prop} (C:BI c.P f A objs stay post)
  (ren:List (Nat×B1)) (hs:List Nat) (h1:B4 ren=true) (y:CM objs ren=true) (K:(c.ds.pin.all λp=>!Aa p.1 hs)=true) (z:BK σ ren (as++j.map λn=>AV.bp n [] 0) A) (D:Ae σ.objs ren objs)
  (hk:∀res e,post res e->∃(b:List (Nat×B1)) (h:AV) (d:List (Nat×Obj)),B4 b=true/\CM d b=true/\Ae e b d/\Bk b res h /\
   JG ren b stay hs=true/\Fd (Ah ren) d σ.objs=true/\KC c R k ops rest (CL σ (Ah ren) hs dst h d)) :
  KC c R k ops (⟨dst,.call ⟨.value g,xs.toArray,ts⟩,ty,pos,after,i⟩ :: rest) σ:=by
 intro l I a w m;unfold wpListIn;rw[BY (Hl (o:=⟨dst,.call ⟨.value g,xs.toArray,ts⟩,ty,pos,after,i⟩) m H)];refine bA F (xs:=xs) (ts:=ts) rfl rfl G E C ren h1 y z D hs K m (CK (l _ (by simp))) λres e hp=>?_;obtain⟨b,h,d,r,s,t,u,v,x,B⟩:=hk res e hp;exact⟨b,h,d,r,s,t,u,v,x,λq w' L=>B (λo J=>l o (by simp[J])) I q w' L⟩
end
end
section
open Go Go.RowKit
section
variable {c:Cx} {ops:List Oper} {Kf:St->Prop} {τ:St} {ens:EN} {vc:Prop}
theorem Nk {A D:List Nat} {l:Nat} {b:List (List Nat×Nat)} {o:Oper} {d:St} {a:EN} (j:vc) (e:qR c o d a (λm=>Mix c ops Kf b D a m)) (h:pX c.tb ops τ.objs (A++qs b D) [] τ.env=some (vc,ens):=by simp only[go_sem,Nat.reduceEqDiff,reduceCtorEq,Nat.reduceAdd,Nat.reduceSub,Nat.reduceMul,Nat.reduceLeDiff,Nat.reduceLT,Int.reduceLE,Int.reduceToNat,Int.reduceNeg,↓reduceIte];rfl) (g:QC ens τ.objs=true:=by rfl) (i:ops[l]?=some o:=by rfl)
  (k:Lo (ens.take A.length) τ=d:=by simp only[go_sem,Nat.reduceEqDiff,reduceCtorEq,Nat.reduceAdd,Nat.reduceSub,Nat.reduceMul,Nat.reduceLeDiff,Nat.reduceLT,Int.reduceLE,Int.reduceToNat,Int.reduceNeg,↓reduceIte];rfl) (f:ens.drop A.length=a:=by simp only[go_sem,Nat.reduceEqDiff,reduceCtorEq,Nat.reduceAdd,Nat.reduceSub,Nat.reduceMul,Nat.reduceLeDiff,Nat.reduceLT,Int.reduceLE,Int.reduceToNat,Int.reduceNeg,↓reduceIte];rfl):Mix c ops Kf ((A,l) :: b) D ens τ:=A1U h j g i k f e
theorem Tw {R:Exit->Act->World->Prop} {k:List DT} {σ':St} (d:c.Ok) {D:List Nat} {l:List Oper} {a:Prop} (f:vc) (g:a) (hk:Ev c R (.out .normal) k σ') (h:pX c.tb ops τ.objs D [] τ.env=some (vc,ens):=by simp only[go_sem,Nat.reduceEqDiff,reduceCtorEq,Nat.reduceAdd,Nat.reduceSub,Nat.reduceMul,Nat.reduceLeDiff,Nat.reduceLT,Int.reduceLE,Int.reduceToNat,Int.reduceNeg,↓reduceIte];rfl) (e:QC ens τ.objs=true:=by rfl)
  (b:DU c.tb.live (Bq c.tb ops l (Lo ens τ))=some (a,σ'):=by simp only[go_sem,Nat.reduceEqDiff,reduceCtorEq,Nat.reduceAdd,Nat.reduceSub,Nat.reduceMul,Nat.reduceLeDiff,Nat.reduceLT,Int.reduceLE,Int.reduceToNat,Int.reduceNeg,↓reduceIte];rfl):Mix c ops (fun τ=>KC c R k ops.toArray l τ) [] D ens τ:=A1T h f e (IU _ d b g hk)
end
section
variable {c:Cx} {o:Oper} {σ:St} {ens:EN} {N:St->Prop} {R:Exit->Act->World->Prop} {k:List DT} {σ':St}
theorem PY (b:c.Ok) {τ:St} {vc:Prop} (ns:List Nat) (i:vc) (a:N τ) (h:II c.tb o σ=some (vc,τ):=by simp only[go_sem,Nat.reduceEqDiff,reduceCtorEq,Nat.reduceAdd,Nat.reduceSub,Nat.reduceMul,Nat.reduceLeDiff,Nat.reduceLT,Int.reduceLE,Int.reduceToNat,Int.reduceNeg,↓reduceIte];rfl) (f:tn σ o.op=ns:=by simp only[go_sem,Nat.reduceEqDiff,reduceCtorEq,Nat.reduceAdd,Nat.reduceSub,Nat.reduceMul,Nat.reduceLeDiff,Nat.reduceLT,Int.reduceLE,Int.reduceToNat,Int.reduceNeg,↓reduceIte]) (g:Ol o ens=true:=by rfl) (hn:MN ns σ.objs ens=true:=by rfl) (e:Vq τ.objs ens=true:=by rfl)
  (hf:JK ns ens=ens:=by simp only[go_sem,Nat.reduceEqDiff,reduceCtorEq,Nat.reduceAdd,Nat.reduceSub,Nat.reduceMul,Nat.reduceLeDiff,Nat.reduceLT,Int.reduceLE,Int.reduceToNat,Int.reduceNeg,↓reduceIte]) (d:J7 c.nt o=true:=by rfl):qR c o σ ens N:=yV b ns h f g hn e hf d i a
theorem mxC (o:c.Ok) {dst:Option Nat} {g:Operand} {xs:List Operand} {ts:Array TypeId} {ty:TypeId} {pos:String} {after:Array Edge} {f:FuncId} {d:List Nat} {as:List AV}
  {A:List AV} {objs:List (Nat×Obj)} {stay:List Nat} {post:AV->List (Nat×Obj)->Prop} (k:BI c.P f A objs stay post) (ren:List (Nat×B1)) (hs:List Nat)
  (j:BK σ ren (as++d.map λn=>AV.bp n [] 0) A) (l:Ae σ.objs ren objs)
  (hk:∀res e,post res e->∃(b:List (Nat×B1)) (h:AV) (a:List (Nat×Obj)),B4 b=true/\CM a b=true/\Ae e b a/\Bk b res h /\
   JG ren b stay hs=true/\Fd (Ah ren) a σ.objs=true/\Vq a ens=true/\N (CL σ (Ah ren) hs dst h a))
  (r:Cs (Ao σ g)=some (f,d):=by simp only[go_sem,Nat.reduceEqDiff,reduceCtorEq,Nat.reduceAdd,Nat.reduceSub,Nat.reduceMul,Nat.reduceLeDiff,Nat.reduceLT,Int.reduceLE,Int.reduceToNat,Int.reduceNeg,↓reduceIte];rfl) (m:IR σ xs=some as:=by simp only[go_sem,Nat.reduceEqDiff,reduceCtorEq,Nat.reduceAdd,Nat.reduceSub,Nat.reduceMul,Nat.reduceLeDiff,Nat.reduceLT,Int.reduceLE,Int.reduceToNat,Int.reduceNeg,↓reduceIte];rfl) (h1:B4 ren=true:=by rfl) (i:CM objs ren=true:=by rfl) (s:(c.ds.pin.all λp=>!Aa p.1 hs)=true:=by rfl)
  (t:Ol ⟨dst,.call ⟨.value g,xs.toArray,ts⟩,ty,pos,after,none⟩ ens=true:=by rfl) (hn:MN (Ah ren) σ.objs ens=true:=by rfl) (hf:JK hs ens=ens:=by simp only[go_sem,Nat.reduceEqDiff,reduceCtorEq,Nat.reduceAdd,Nat.reduceSub,Nat.reduceMul,Nat.reduceLeDiff,Nat.reduceLT,Int.reduceLE,Int.reduceToNat,Int.reduceNeg,↓reduceIte]) (q:J7 c.nt ⟨dst,.call ⟨.value g,xs.toArray,ts⟩,ty,pos,after,none⟩=true:=by rfl) :
  qR c ⟨dst,.call ⟨.value g,xs.toArray,ts⟩,ty,pos,after,none⟩ σ ens N:=yW o r m k ren hs h1 i s t hn hf q j l hk
theorem evP (a:c.Ok) {id:Nat} {l:List Oper} (n:Nat) {vc:Prop} (b:vc) (hk:KC c R k l.toArray (l.drop n) σ') (h:Bq c.tb l (l.take n) σ=some (vc,σ'):=by simp only[tO,ACX,go_sem,Nat.reduceEqDiff,reduceCtorEq,Nat.reduceAdd,Nat.reduceSub,Nat.reduceMul,Nat.reduceLeDiff,Nat.reduceLT,Int.reduceLE,Int.reduceToNat,Int.reduceNeg,↓reduceIte];rfl):Ev c R (.run (.region id l.toArray false)) k σ:=A1X a n h b hk
theorem clG (r:c.Ok) {ops:Array Oper} {rest:List Oper} {dst:Option Nat} {g:Operand} {xs:List Operand} {ts:Array TypeId} {ty:TypeId} {pos:String} {after:Array Edge} {e:Option (Nat×Bool)} {f:FuncId} {d:List Nat} {as:List AV}
  {A:List AV} {objs:List (Nat×Obj)} {stay:List Nat} {post:AV->List (Nat×Obj)->Prop} (m:BI c.P f A objs stay post) (ren:List (Nat×B1)) (hs:List Nat) (l:BK σ ren (as++d.map λn=>AV.bp n [] 0) A) (o:Ae σ.objs ren objs)
  (hk:∀res h,post res h->∃(a:List (Nat×B1)) (i:AV) (b:List (Nat×Obj)),B4 a=true/\CM b a=true/\Ae h a b/\Bk a res i /\
   JG ren a stay hs=true/\Fd (Ah ren) b σ.objs=true/\KC c R k ops rest (CL σ (Ah ren) hs dst i b))
  (t:Ef ops.toList σ e=some true:=by simp only[go_sem,Nat.reduceEqDiff,reduceCtorEq,Nat.reduceAdd,Nat.reduceSub,Nat.reduceMul,Nat.reduceLeDiff,Nat.reduceLT,Int.reduceLE,Int.reduceToNat,Int.reduceNeg,↓reduceIte]) (s:Cs (Ao σ g)=some (f,d):=by simp only[go_sem,Nat.reduceEqDiff,reduceCtorEq,Nat.reduceAdd,Nat.reduceSub,Nat.reduceMul,Nat.reduceLeDiff,Nat.reduceLT,Int.reduceLE,Int.reduceToNat,Int.reduceNeg,↓reduceIte];rfl) (q:IR σ xs=some as:=by simp only[go_sem,Nat.reduceEqDiff,reduceCtorEq,Nat.reduceAdd,Nat.reduceSub,Nat.reduceMul,Nat.reduceLeDiff,Nat.reduceLT,Int.reduceLE,Int.reduceToNat,Int.reduceNeg,↓reduceIte];rfl) (h1:B4 ren=true:=by rfl) (j:CM objs ren=true:=by rfl) (u:(c.ds.pin.all λp=>!Aa p.1 hs)=true:=by rfl) :
  KC c R k ops (⟨dst,.call ⟨.value g,xs.toArray,ts⟩,ty,pos,after,e⟩ :: rest) σ:=y3 r t s q m ren hs h1 j u l o hk
theorem F1 (l:List Nat) {n:u5} {a:St} (hk:Ev c R n k a) (h:Cq l σ=a:=by simp only[go_sem,Nat.reduceEqDiff,reduceCtorEq,Nat.reduceAdd,Nat.reduceSub,Nat.reduceMul,Nat.reduceLeDiff,Nat.reduceLT,Int.reduceLE,Int.reduceToNat,Int.reduceNeg,↓reduceIte];rfl):Ev c R n k σ:=Ev.ent hk (vB l h λ_ _ h=>h)
theorem A9V (l:List Nat) {a:St} (b:Ent c a σ') (h:Cq l σ=a:=by simp only[go_sem,Nat.reduceEqDiff,reduceCtorEq,Nat.reduceAdd,Nat.reduceSub,Nat.reduceMul,Nat.reduceLeDiff,Nat.reduceLT,Int.reduceLE,Int.reduceToNat,Int.reduceNeg,↓reduceIte];rfl):Ent c σ σ':=vB l h b
end
theorem eW {c:Cx} {σ σ':St} (ren:List (Nat×B1)) (h1:B4 ren=true:=by rfl) (a:CM σ'.objs ren=true:=by rfl) (d:Ae σ.objs ren σ'.objs:=by exact eN) (b:Ey σ.env ren σ'.env:=by exact eN) (hp:A8t c.ds.pin ren=true:=by rfl):Ent c σ σ':=AC ren h1 a d b hp
theorem eT {p:Prop} (h:p:=by simp only[TD,yM,Rg,Yi,Jn,Kq,Jo,go_sem,Nat.reduceEqDiff,reduceCtorEq,Nat.reduceAdd,Nat.reduceSub,Nat.reduceMul,Nat.reduceLeDiff,Nat.reduceLT,Int.reduceLE,Int.reduceToNat,Int.reduceNeg,↓reduceIte]<;>fail):p:=h
section
variable {P:Program} {ty:List (Nat×TI)} {fs:List (Nat×Ac)} {nt:Nat} {f:FuncId} {fn:Func} {cd:Code}
theorem fKP (a b:List Nat) (ne:List (Nat×TypeId)) {sp:Ac} (e:P.funcs[f]?=some fn) (j:fn.ntmps=nt) (hF:JA P ⟨ty,fs,b,ne,a⟩)
  (h:∀(w0:World) (O0:Nat->Prop) (ds:Ka sp.ins),(cx P ⟨ty,fs,b,ne,a⟩ w0 O0 nt).Ok->oks sp.ins ds->sp.pre ds->Ev (cx P ⟨ty,fs,b,ne,a⟩ w0 O0 nt) (VS P fn w0 O0 (sp.out ds)) (.run cd) [] ⟨AM 0 sp.ins ds,[]⟩)
  (c : fn.body = some cd := by rfl) (hT : DF P ⟨ty, fs, b, ne, a⟩ := by exact tyTab_ok _ _ _ _) (i : (fn.name == "runtime.NumGoroutine") = false := by kernel_rfl) (g : sp.ins.length <= nt := by decide) (d : Bu nt cd = true := by kernel_rfl) : Ad P f sp := A7O e i c j g d hT hF h
theorem fK (a:List Nat) {sp:Ac} (d:P.funcs[f]?=some fn) (i:fn.ntmps=nt) (hF:JA P ⟨ty,fs,[],[],a⟩)
  (h:∀(w0:World) (O0:Nat->Prop) (ds:Ka sp.ins),(cx P ⟨ty,fs,[],[],a⟩ w0 O0 nt).Ok->oks sp.ins ds->sp.pre ds->Ev (cx P ⟨ty,fs,[],[],a⟩ w0 O0 nt) (VS P fn w0 O0 (sp.out ds)) (.run cd) [] ⟨AM 0 sp.ins ds,[]⟩)
  (b : fn.body = some cd := by rfl) (hT : DF P ⟨ty, fs, [], [], a⟩ := by exact tyTab_ok _ _ _ _) (g : (fn.name == "runtime.NumGoroutine") = false := by kernel_rfl) (e : sp.ins.length <= nt := by decide) (c : Bu nt cd = true := by kernel_rfl) : Ad P f sp := A7O d g b i e c hT hF h
variable {args:List AV} {objs:List (Nat×Obj)} {stay:List Nat} {post:AV->List (Nat×Obj)->Prop}
theorem K0 (a b:List Nat) (ne:List (Nat×TypeId)) (e:P.funcs[f]?=some fn) (k:fn.ntmps=nt) (hF:JA P ⟨ty,fs,b,ne,a⟩)
  (h:∀(w0:World) (K O0:Nat->Prop) (ρ0:Nat->Value),(cm P ⟨ty,fs,b,ne,a⟩ w0 K O0 nt (stay.map λn=>(n,ρ0 n))).Ok->QB args->Oh objs ->
   Ev (cm P ⟨ty,fs,b,ne,a⟩ w0 K O0 nt (stay.map λn=>(n,ρ0 n))) (A65 P fn w0 K O0 stay ρ0 post) (.run cd) [] ⟨Am 0 args,objs⟩)
  (c : fn.body = some cd := by rfl) (hT : DF P ⟨ty, fs, b, ne, a⟩ := by exact tyTab_ok _ _ _ _) (j : (fn.name == "runtime.NumGoroutine") = false := by kernel_rfl) (i : args.length <= nt := by simp only [OS, AD7]; omega) (d : Bu nt cd = true := by kernel_rfl) (l : stay.all (TC objs) = true := by rfl) (g : MA objs = true := by rfl) : BI P f args objs stay post := A8A e j c k i d l g hT hF h
theorem fKR (a b:List Nat) (ne:List (Nat×TypeId)) (e:P.funcs[f]?=some fn) (k:fn.ntmps=nt) (hF:JA P ⟨ty,fs,b,ne,a⟩)
  (h:∀(w0:World) (K O0:Nat->Prop) (ρ0:Nat->Value),(cm P ⟨ty,fs,b,ne,a⟩ w0 K O0 nt (stay.map λn=>(n,ρ0 n))).Ok->QB args->Oh objs ->
   Ev (cm P ⟨ty,fs,b,ne,a⟩ w0 K O0 nt (stay.map λn=>(n,ρ0 n))) (vK P fn w0 K O0 stay ρ0 post) (.run cd) [] ⟨Am 0 args,objs⟩)
  (c : fn.body = some cd := by rfl) (hT : DF P ⟨ty, fs, b, ne, a⟩ := by exact tyTab_ok _ _ _ _) (j : (fn.name == "runtime.NumGoroutine") = false := by kernel_rfl) (i : args.length <= nt := by simp only [OS, AD7]; omega) (d : Bu nt cd = true := by kernel_rfl) (l : stay.all (TC objs) = true := by rfl) (g : MA objs = true := by rfl) : BI P f args objs stay post := A6b e j c k i d l g hT hF h
end
theorem fI {P:Program} {tb:Tb} {w0:World} {O0:Nat->Prop} {nt:Nat} (c:(cx P tb w0 O0 nt).Ok) {fn:Func} {a:List RV} {σ:St} {e:Exit} (b:List ResultVar) (h:Ny tb σ b a:=by exact eR) (g:fn.results.toList=b:=by rfl) (f:e=.ret\/e=.normal:=by exact .inl rfl) (hp:∀r∈a,∃t d,r=.p t d:=by simp) :
  Ev (cx P tb w0 O0 nt) (VS P fn w0 O0 a) (.out e) [] σ:=A8y c b g f hp h
theorem fM {P:Program} {tb:Tb} {w0:World} {K O0:Nat->Prop} {nt:Nat} {stay:List Nat} {ρ0:Nat->Value} {fn:Func} {post:AV->List (Nat×Obj)->Prop} {σ:St} {e:Exit} (b:(cm P tb w0 K O0 nt (stay.map λn=>(n,ρ0 n))).Ok)
  (a:List ResultVar) (res:AV) (h:TD tb σ a res) (hp:post res σ.objs) (d:fn.results.toList=a:=by rfl) (c:e=.ret\/e=.normal:=by first|exact .inl rfl|exact .inr rfl) :
  Ev (cm P tb w0 K O0 nt (stay.map λn=>(n,ρ0 n))) (A65 P fn w0 K O0 stay ρ0 post) (.out e) [] σ:=A66 b a d c res h hp
end
section
open Go Go.RowKit
structure A1Y (X σ:St) (n:Nat):Prop where
 env:∀s v,lk s X.env=some v->v.trn n []=v
 arr:∀m o,lk m X.objs=some o->ML o=true
 new:∀m o,lk m X.objs=some o->lk m σ.objs=none
 nm:∀m o,lk m X.objs=some o->m≠n
section
variable {σ σ' X:St} {n:Nat}
theorem A1Y.obs (b:RL σ σ' X) (ha:A1Y X σ n):dX σ σ':=by
 intro m o hn;rw[b.objs];cases a:lk m X.objs with
 | none=>exact hn
 | some c=>rw[ha.new m c a]at hn;cases hn
def A8E (σ:St):Op->Option Nat
 | .call c=>match c.callee,c.args.toList,c.argTypes.toList with
  | .builtin .append,[x,_],[_,_]=>(match Ao σ x with|some (.nin n _ _ _)=>some n|_=>none)
  | _,_,_=>none
 | _=>none
end
def vN (n:Nat):EN->EN
 | []=>[]
 | (d,v,obs) :: r=>(d,v.trn n [],obs) :: vN n r
section
variable {c:Cx} {o:Oper} {σ:St} {ens:EN} {N:St->Prop}
end
end
section
open Go Go.RowKit
section
variable {P:Program} {tb:Tb} {w0:World} {K O0:Nat->Prop} {nt:Nat} {ds:Fp} {σ:St} {ρ:Nat->Value} {a:Act} {w:World}
end
section
variable {c:Cx} {R:Exit->Act->World->Prop} {k:List DT} {σ:St}
end
end
section
open Go Go.RowKit
section
variable {c:Cx} {R:Exit->Act->World->Prop} {k:List DT} {σ σ':St}
end
theorem CY {p:Prop} (h:p:=by first|exact trivial|((try dsimp only[Ty.den])<;>(repeat'(first|apply And.intro|intro _))<;>omega)|((try dsimp only[Ty.den]at *)<;>(repeat'(first|apply And.intro|intro _))<;>omega)):p:=h
end
section
open Go Go.RowKit
section
variable {c:Cx} {R:Exit->Act->World->Prop} {k:List DT} {σ σ':St}
def qY (a b:Ty) (k:a.den):List (a.den×b.den)->List (a.den×b.den)
 | []=>[]
 | x :: r=>if Hv a k x.1=true then r else x :: qY a b k r
end
end
section
open Go Go.RowKit
section
variable {c:Cx} {R:Exit->Act->World->Prop} {k:List DT} {σ σ':St}
theorem qZ (m:c.Ok) {ops:Array Oper} {rest:List Oper} {d:Nat} {t Q:TypeId} {x y:Operand} {ty:TypeId} {pos:String} {after:Array Edge} {i j:IntKind} {offs:List (Nat×Nat)} {z:Nat} {xv s:AV} {b f:Int×Int}
  (L:lk t c.tb.ty=some ⟨.agg (.prod (.int i) (.int j)),offs,0,z⟩) (M:Ao σ x=some xv) (N:Ao σ y=some s) (D:Kb false σ (.agg (.prod (.int i) (.int j))) xv=some b) (E:Kb false σ (.agg (.prod (.int i) (.int j))) s=some f)
  (hk:KC c R k ops rest ⟨(d,.p .bool (b.1==f.1&&b.2==f.2)) :: σ.env,σ.objs⟩) :
  KC c R k ops (⟨some d,.binOp .eql t x y Q,ty,pos,after,none⟩ :: rest) σ:=by
 intro q G a w J;unfold wpListIn;rw[BY (by simp[Region.wanted])];obtain⟨ρ,l⟩:=J;have r:Gv (vw w c.O0 σ ρ) σ a.eval:=FL l.env;have X:d<c.nt:=CK (q _ ADp) d rfl;have hp:M7 c.P t i j:=(m.T _ _ L).1.1.2.2;have h1:=I9 (V:=vw w c.O0 σ ρ) (O':=own c.O0 σ ρ) (λ_ h=>h) (λh=>by cases h) l.objs D (r x _ M);have g:=I9 (V:=vw w c.O0 σ ρ) (O':=own c.O0 σ ρ) (λ_ h=>h) (λh=>by cases h) l.objs E (r y _ N);have h1:a.eval x=.agg #[.int i b.1,.int j b.2]:=Fq h1;have g:a.eval y=.agg #[.int i f.1,.int j f.2]:=Fq g;have I:(binOp .eql t (a.eval x) (a.eval y)).run c.P w=.ok (.bool (b.1==f.1&&b.2==f.2)) w:=by
  rw[h1,g];have:=VP hp w b.1 b.2 f.1 f.2;simp only[binOp];simp[this]
 have F:(eqGuard .eql t x y (a.eval x) (a.eval y)).run c.P w=.ok () w:=by
  obtain⟨U,W,hu,-,-,⟨A,B⟩,-⟩:=hp;rw[h1,g];refine run_eqGuard_agg (P:=c.P) w .eql t x y _ _ ?_;have C:∃n,c.P.depth=n+2:=⟨_,rfl⟩;obtain⟨n,hn⟩:=C;rw[hn];simp[Program.eqGuardType,hu,A,B]
 refine Aw (u:=.bool (b.1==f.1&&b.2==f.2)) (w':=w) (by simp[execOp,F,I]) (hk (λo H=>q o (by simp[H])) G _ _ ⟨ρ,?_⟩);refine l.add m.K m.O (dst:=some d) (λS e=>by injection e with e;omega) (v:=.p .bool (b.1==f.1&&b.2==f.2)) (obs:=[]) (ρ':=ρ) rfl (QS.still ?_);exact⟨[.bool (b.1==f.1&&b.2==f.2)],rfl,rfl⟩
theorem AD8 (g:c.Ok) {ops:Array Oper} {rest:List Oper} {d:Nat} {t q:TypeId} {x y:Operand} {ty:TypeId} {pos:String} {after:Array Edge} {i j:IntKind} {offs:List (Nat×Nat)} {f:Nat} {xv e:AV} {a b:Int×Int}
  (hk:KC c R k ops rest ⟨(d,.p .bool (a.1==b.1&&a.2==b.2)) :: σ.env,σ.objs⟩) (m:lk t c.tb.ty=some ⟨.agg (.prod (.int i) (.int j)),offs,0,f⟩:=by rfl) (n:Ao σ x=some xv:=by simp only[go_sem,Nat.reduceEqDiff,reduceCtorEq,Nat.reduceAdd,Nat.reduceSub,Nat.reduceMul,Nat.reduceLeDiff,Nat.reduceLT,Int.reduceLE,Int.reduceToNat,Int.reduceNeg,↓reduceIte];rfl) (o:Ao σ y=some e:=by simp only[go_sem,Nat.reduceEqDiff,reduceCtorEq,Nat.reduceAdd,Nat.reduceSub,Nat.reduceMul,Nat.reduceLeDiff,Nat.reduceLT,Int.reduceLE,Int.reduceToNat,Int.reduceNeg,↓reduceIte];rfl)
  (h:Kb false σ (.agg (.prod (.int i) (.int j))) xv=some a:=by simp only[go_sem,Nat.reduceEqDiff,reduceCtorEq,Nat.reduceAdd,Nat.reduceSub,Nat.reduceMul,Nat.reduceLeDiff,Nat.reduceLT,Int.reduceLE,Int.reduceToNat,Int.reduceNeg,↓reduceIte];rfl) (l:Kb false σ (.agg (.prod (.int i) (.int j))) e=some b:=by simp only[go_sem,Nat.reduceEqDiff,reduceCtorEq,Nat.reduceAdd,Nat.reduceSub,Nat.reduceMul,Nat.reduceLeDiff,Nat.reduceLT,Int.reduceLE,Int.reduceToNat,Int.reduceNeg,↓reduceIte];rfl) :
  KC c R k ops (⟨some d,.binOp .eql t x y q,ty,pos,after,none⟩ :: rest) σ:=qZ g m n o h l hk
end
end
section
open Go Go.RowKit
section
variable {c:Cx} {σ:St} {ens:EN} {N:St->Prop}
end
end
section
open Go Go.RowKit
section
variable {c:Cx} {R:Exit->Act->World->Prop} {k:List DT} {σ:St}
end
end
section
open Go Go.RowKit
def siB (P:Program) (b:IntKind) (id:TypeId):Option TypeDesc->Bool
 | some (.struct ⟨[a, c]⟩) => (a.name != "_") && (c.name != "_") && a.offset == 0 && c.offset == 1 && (match P.underlying a.type with | some .string => true | _ => false) && isI b (P.underlying c.type) && P.stoodInHeld id == false && !(P.eqGuardType P.depth id)
 | _=>false
theorem A1Z {P:Program} {b:IntKind} {id:TypeId} (h:siB P b id (P.underlying id)=true) (w:World) (i k:ByteArray) (j l:Int) :
  (binOp .eql id (.agg #[.string i,.int b j]) (.agg #[.string k,.int b l])).run P w=.ok (.bool (AY i k&&(j==l))) w/\∀x y:Operand,∀u v:Array Value,(eqGuard .eql id x y (.agg u) (.agg v)).run P w=.ok () w:=by
 unfold siB at h;split at h
 ·rename_i a f hu;simp only[AT,UH,AEc,SZ]at h;obtain⟨⟨⟨⟨⟨⟨⟨h1,p⟩,q⟩,r⟩,d⟩,g⟩,s⟩,t⟩:=h;have d:P.underlying a.type=some .string:=by
   split at d
   ·assumption
   ·cases d
  have g:=VE g;have m:P.fieldsOf id=#[a,f]:=by simp[Program.fieldsOf,hu]
  refine⟨?_,λx y u v=>run_eqGuard_agg (P:=P) w .eql id x y u v t⟩;have z:P.plainKey a.type=true:=by simp[Program.plainKey,d]
  have A:P.plainKey f.type=true:=by simp[Program.plainKey,g]
  have B:∀x y:ByteArray,(Op.equalIn 9999 a.type (.string x) (.string y)).run P w=.ok (x.toList==y.toList) w:=λx y=>run_equalIn_string w 9998 _ x y d;have n:∀x y:Int,(Op.equalIn 9999 f.type (.int b x) (.int b y)).run P w=.ok (x==y) w:=λx y=>L7 g 9998 x y;have e:(Op.equalIn 10000 id (.agg #[.string i,.int b j]) (.agg #[.string k,.int b l])).run P w=_:=run_equalIn_struct (P:=P) w 9999 id _ _ (by rw[m];exact hu) s;rw[run_eql_struct,e,m];have p0:=λ(u v:Value)=>AE9 (P:=P) w z (xs:=#[u,v]) (off:=a.offset) (v:=u) (by rw[q];rfl);have o:=λ(u v:Value)=>AE9 (P:=P) w A (xs:=#[u,v]) (off:=f.offset) (v:=v) (by rw[r];rfl);unfold AY;simp only[Op.eqFields,h1,p,ne_eq,not_false_eq_true,ACF,ADb,p0,o,aT,B,n];by_cases c:i.toList=k.toList
  ·by_cases c2:j=l<;>simp[c,c2,AEQ,ADb,o,n,Op.eqFields]
  ·simp[c,AEQ]
 ·cases h
theorem vO {w:World} {O:Nat->Prop} {b:IntKind} {v:Value} {d:(Ty.agg (.prod .str (.int b))).den} (h:Bm w O (.agg (.prod .str (.int b))) v d):v=.agg #[.string d.1,.int b d.2]:=by
 obtain⟨cs,⟨c1,c2,rfl,⟨rfl,_⟩,⟨rfl,_⟩⟩,rfl⟩:=h;rfl
section
variable {c:Cx} {R:Exit->Act->World->Prop} {k:List DT} {σ σ':St}
theorem ADa (m:c.Ok) {ops:Array Oper} {rest:List Oper} {d:Nat} {t G:TypeId} {x y:Operand} {ty:TypeId} {pos:String} {after:Array Edge} {j:IntKind} {xv s:AV} {b f:ByteArray×Int}
  (hp:siB c.P j t (c.P.underlying t)=true) (hk:KC c R k ops rest ⟨(d,.p .bool (AY b.1 f.1&&b.2==f.2)) :: σ.env,σ.objs⟩) (E:Ao σ x=some xv:=by simp only[go_sem,Nat.reduceEqDiff,reduceCtorEq,Nat.reduceAdd,Nat.reduceSub,Nat.reduceMul,Nat.reduceLeDiff,Nat.reduceLT,Int.reduceLE,Int.reduceToNat,Int.reduceNeg,↓reduceIte];rfl) (F:Ao σ y=some s:=by simp only[go_sem,Nat.reduceEqDiff,reduceCtorEq,Nat.reduceAdd,Nat.reduceSub,Nat.reduceMul,Nat.reduceLeDiff,Nat.reduceLT,Int.reduceLE,Int.reduceToNat,Int.reduceNeg,↓reduceIte];rfl)
  (z:Kb false σ (.agg (.prod .str (.int j))) xv=some b:=by simp only[go_sem,Nat.reduceEqDiff,reduceCtorEq,Nat.reduceAdd,Nat.reduceSub,Nat.reduceMul,Nat.reduceLeDiff,Nat.reduceLT,Int.reduceLE,Int.reduceToNat,Int.reduceNeg,↓reduceIte];rfl) (A:Kb false σ (.agg (.prod .str (.int j))) s=some f:=by simp only[go_sem,Nat.reduceEqDiff,reduceCtorEq,Nat.reduceAdd,Nat.reduceSub,Nat.reduceMul,Nat.reduceLeDiff,Nat.reduceLT,Int.reduceLE,Int.reduceToNat,Int.reduceNeg,↓reduceIte];rfl) :
  KC c R k ops (⟨some d,.binOp .eql t x y G,ty,pos,after,none⟩ :: rest) σ:=by
 intro n B a w D;unfold wpListIn;rw[BY (by simp[Region.wanted])];obtain⟨ρ,i⟩:=D;have q:Gv (vw w c.O0 σ ρ) σ a.eval:=FL i.env;have I:d<c.nt:=CK (n _ ADp) d rfl;have h1:=I9 (V:=vw w c.O0 σ ρ) (O':=own c.O0 σ ρ) (λ_ h=>h) (λh=>by cases h) i.objs z (q x _ E);have l:=I9 (V:=vw w c.O0 σ ρ) (O':=own c.O0 σ ρ) (λ_ h=>h) (λh=>by cases h) i.objs A (q y _ F);have h1:a.eval x=.agg #[.string b.1,.int j b.2]:=vO h1;have l:a.eval y=.agg #[.string f.1,.int j f.2]:=vO l;obtain⟨r,g⟩:=A1Z hp w b.1 f.1 b.2 f.2;have g:=g x y #[.string b.1,.int j b.2] #[.string f.1,.int j f.2];rw[<-h1,<-l]at r g;refine Aw (u:=.bool (AY b.1 f.1&&b.2==f.2)) (w':=w) (by simp[execOp,g,r]) (hk (λo C=>n o (by simp[C])) B _ _ ⟨ρ,?_⟩);refine i.add m.K m.O (dst:=some d) (λH e=>by injection e with e;omega) (v:=.p .bool (AY b.1 f.1&&b.2==f.2)) (obs:=[]) (ρ':=ρ) rfl (QS.still ?_);exact⟨[.bool (AY b.1 f.1&&b.2==f.2)],rfl,rfl⟩
end
end
section
open Go Go.RowKit
theorem y4 {P:Program} {tb:Tb} {w0:World} {K O0:Nat->Prop} {nt:Nat} {stay:List Nat} {ρ0:Nat->Value} {fn:Func} {post:AV->List (Nat×Obj)->Prop} {σ:St} {e:Exit} (d:(cm P tb w0 K O0 nt (stay.map λn=>(n,ρ0 n))).Ok)
  (b:List ResultVar) (j:fn.results.toList=b) (g:e=.ret\/e=.normal) (res:AV) (h:TD tb σ b res) (hp:post res σ.objs) :
  Ev (cm P tb w0 K O0 nt (stay.map λn=>(n,ρ0 n))) (vK P fn w0 K O0 stay ρ0 post) (.out e) [] σ:=by
 intro _ _ a w hs;obtain⟨ρ,hs⟩:=hs;obtain⟨u,h1,c⟩:=Vc d.T hs (by rw[j];exact h);have i:MH K O0 stay w0 ρ0 post u w:=by
  refine⟨res,σ.objs,ρ,hp,hs.frm,⟨hs.objs,hs.free,hs.dist⟩,c,λn hn=>?_⟩;exact(hs.pin (n,ρ0 n) (IF.2 ⟨n,hn,rfl⟩)).2.1
 have f:a.defers=[]:=hs.defers;have key:LeavesInM (FR none) 0 P fn a.tmps (λe w'=>∃u,e=.returned u/\MH K O0 stay w0 ρ0 post u w') a.defers .returning w:=by
  rw[f];exact⟨u,h1,u,rfl,i⟩
 rcases g with rfl|rfl
 ·exact key
 ·exact key
section
variable {c:Cx} {R:Exit->Act->World->Prop} {k:List DT} {σ σ':St}
theorem cG (n:Nat) (d:c.Ok) {id:Nat} {l:List Oper} {vc:Prop} (f:vc) (hk:KC c R k l.toArray (l.drop n) σ') (h:Bq c.tb l (l.take n) σ=some (vc,σ'):=by simp only[tO,ACX,go_sem,Nat.reduceEqDiff,reduceCtorEq,Nat.reduceAdd,Nat.reduceSub,Nat.reduceMul,Nat.reduceLeDiff,Nat.reduceLT,Int.reduceLE,Int.reduceToNat,Int.reduceNeg,↓reduceIte];rfl) :
  Ev c R (.run (.region id l.toArray false)) k σ:=by
 intro h1 b a w hs;simp only[IL,Bu,IS]at h1;exact AEa (QA d n (by simpa using h) f hk (λo e=>h1 o e) b a w hs)
end
end
end Go.Proofs.YtapkhdkbkodbjaaGreat.Fw
