/- Range over a function; scopes; several steps in one. -/
import Derived.Test.YtapkhdkbkodbjaaGreatDZH
import Derived.RangeFuncFrom
import Derived.Scope
import Derived.Laws.IdiomRangeMap
import Derived.Laws.StructEq
set_option linter.unusedVariables false
set_option linter.unusedSimpArgs false
namespace Go.Proofs.YtapkhdkbkodbjaaGreat.Fw
section
open Go Go.RowKit
theorem fV {V:Vw} {f:FuncId} {ns:List Nat} {v:Value} (h:B3 V (.clo f ns) v):v=.func (.func f) #[] (ns.map V.ρ).toArray/\Il V (ns.map λn=>AV.bp n [] 0) (ns.map V.ρ):=by
 refine⟨h.1,?_⟩;have h0:∀l:List Nat,(∀n∈l,n∈ns)->Il V (l.map λn=>AV.bp n [] 0) (l.map V.ρ):=by
  intro l;induction l with
  | nil=>intro _;exact rfl
  | cons n r d =>
   intro hl;obtain⟨c,b,a⟩:=h.2 n (hl n (by simp));exact⟨V.ρ n,r.map V.ρ,rfl,⟨c,b,a,a⟩,d λx hx=>hl x (by simp[hx])⟩
 exact h0 ns λ_ h=>h
def V0 (P:Program) (yn:Nat) (A:List AV) (objs:List (Nat×Obj)) (stay:List Nat) (post:AV->List (Nat×Obj)->Prop):Prop :=
 ∀(w:World) (K O0:Nat->Prop) (ρ:Nat->Value) (a:List Value) (b:Nat),(∀b,K b->b<w.heap.size)->(∀b,O0 b->b<w.heap.size)->A01 K O0 objs ρ w->Il (vw w O0 ⟨[],objs⟩ ρ) A a ->
  ρ yn=.pointer (some ⟨b,0,none⟩)->YieldAt (FR none) 0 P b a.toArray w λe w'=>∃u,e=.returned u/\L7 K O0 stay w ρ post u w'
section
variable {c:Cx} {R:Exit->Act->World->Prop} {k:List DU} {σ:St}
def bE (n:Nat):Option AV->Bool
 | some (.yl m)=>m==n
 | _=>false
theorem A2H (N:c.Ok) (Y:c.r=none) {o:Oper} {dst:Option Nat} {g:Operand} {xs:List Operand} {ts:Array TypeId} (t:o.op=.call { callee:=.value g,args:=xs.toArray,argTypes:=ts }) (R:o.dst=dst)
  {n yn:Nat} (f:bE n (Ap σ g)=true) {as:List AV} (L:Im σ xs=some as)
  {A:List AV} {objs:List (Nat×Obj)} {stay:List Nat} {post:AV->List (Nat×Obj)->Prop} (H:V0 c.P yn A objs stay post)
  (ren:List (Nat×B1)) (ad:lk yn ren=some (.nm n)) (h1:B8 ren=true) (C:CO objs ren=true) (F:BJ σ ren as A) (I:Ad σ.objs ren objs)
  (hs:List Nat) (W:(c.ds.pin.all λp=>!Aa p.1 hs)=true) {next:Act->World->Prop} {Q:Exit->Act->World->Prop} {a:Act} {w:World} (aa:c.sat σ a w) (O:∀d,dst=some d->d<c.nt)
  (hk:∀res x,post res x->∃(i:List (Nat×B1)) (y:AV) (j:List (Nat×Obj)),B8 i=true/\CO j i=true/\Ad x i j/\Bi i res y /\
   JD ren i stay hs=true/\FK (Aj ren) j σ.objs=true/\∀l w',c.sat (CP σ (Aj ren) hs dst y j) l w'->next l w'):o.wpIn (FR c.r) 0 c.P a w next Q:=by
 obtain⟨ρ,v⟩:=aa;have s:Ha (vw w c.O0 σ ρ) σ a.eval:=Fv v.env;obtain⟨b,ae,S⟩:∃b:Nat,ρ n=.pointer (some ⟨b,0,none⟩)/\a.eval g=.func (.yield b) #[] #[]:=by
  cases k:Ap σ g with
  | none=>rw[k]at f;simp[bE]at f
  | some q =>
   rw[k]at f;have T:=s g q k;cases q<;>simp only[bE]at f<;>try(cases f;done)
   rename_i m;have U:m=n:=by simpa using f
   subst U;obtain⟨_,b,D,E⟩:=T;exact⟨b,D,E⟩
 obtain⟨z,B,ag,G,J,V,M,af,X⟩:=R0 N v (aV s L) stay post ren h1 C F I hs W O hk;obtain⟨fn,tmps,assign,body,ab,K⟩:=H w z B ag (xs.map a.eval) b G J V M ((af _ _ ad).trans ae);have Z:(execOp a.eval o).run c.P w=.ok (.round b fn tmps assign body) w:=by
  simp[execOp,t,resolve,Deferred.ofValue,S,invoke];simpa using ab
 refine⟨λ_ _=>trivial,?_⟩;rw[Gw _ _ _ (λcl e=>by rw[t]at e;cases e),Z,Oper.uponIn_round];refine⟨λh=>(by simp[FR]at h),?_⟩;rw[Y];refine K.mono λe w' hh=>?_;obtain⟨u,rfl,hh⟩:=hh;rw[R];exact X u w' hh
theorem A0d (C:c.Ok) (H:c.r=none) {ops:Array Oper} {rest:List Oper} {dst:Option Nat} {g:Operand} {xs:List Operand} {ts:Array TypeId} {ty:TypeId} {pos:String} {after:Array Edge}
  {n yn:Nat} (D:bE n (Ap σ g)=true) {as:List AV} (B:Im σ xs=some as)
  {A:List AV} {objs:List (Nat×Obj)} {stay:List Nat} {post:AV->List (Nat×Obj)->Prop} (y:V0 c.P yn A objs stay post)
  (ren:List (Nat×B1)) (hs:List Nat) (K:lk yn ren=some (.nm n)) (h1:B8 ren=true) (u:CO objs ren=true) (G:(c.ds.pin.all λp=>!Aa p.1 hs)=true) (v:BJ σ ren as A) (z:Ad σ.objs ren objs)
  (hk:∀res e,post res e->∃(b:List (Nat×B1)) (f:AV) (d:List (Nat×Obj)),B8 b=true/\CO d b=true/\Ad e b d/\Bi b res f /\
   JD ren b stay hs=true/\FK (Aj ren) d σ.objs=true/\Nh c R k ops rest (CP σ (Aj ren) hs dst f d)) :
  Nh c R k ops (⟨dst,.call ⟨.value g,xs.toArray,ts⟩,ty,pos,after,none⟩ :: rest) σ:=by
 intro h E a w J;unfold wpListIn;rw[BY (by simp[Region.wanted])];refine A2H C H (xs:=xs) (ts:=ts) rfl rfl D B y ren K h1 u v z hs G J (Cr (h _ (by simp))) λres e hp=>?_;obtain⟨b,f,d,j,l,m,q,s,t,x⟩:=hk res e hp;exact⟨b,f,d,j,l,m,q,s,t,λi w' I=>x (λo F=>h o (by simp[F])) E i w' I⟩
end
def Ga:List Nat->List AV->List (Nat×AV)->List (Nat×AV)
 | p :: a,x :: xs,e=>Ga a xs ((p,x) :: e)
 | _,_,e=>e
def cY (P:Program) (tb:Tb) (w0:World) (K O0:Nat->Prop) (nt l:Nat) (pin:List (Nat×Value)):Cx:={ P:=P,tb:=tb,w0:=w0,K:=K,O0:=O0,nt:=nt,ds:={ pin:=pin },r:=some l }
theorem qW {P:Program} {tb:Tb} {w0:World} {K O0:Nat->Prop} {nt l:Nat} {pin:List (Nat×Value)}:(cY P tb w0 K O0 nt l pin).tb=tb:=rfl
def mR (P:Program) (l:Nat) (w0:World) (K O0:Nat->Prop) (stay:List Nat) (ρ0:Nat->Value) (post:AV->List (Nat×Obj)->Prop):Exit->Act->World->Prop :=
 roundPost P l λe w'=>∃u,e=.returned u/\L7 K O0 stay w0 ρ0 post u w'
theorem qX {V:Vw}:∀(b:List Nat) (A:List AV) (c:List Value) (e:List (Nat×AV)) (a:Array Value),Il V A c->(∀p∈b,p<a.size)->A.length=b.length->(∀s x,lk s e=some x->B3 V x (a.getD s undef)) ->
  (∀s x,lk s (Ga b A e)=some x->B3 V x (((b.zip c).foldl (λt (p,v)=>t.setIfInBounds p v) a).getD s undef))/\((b.zip c).foldl (λt (p,v)=>t.setIfInBounds p v) a).size=a.size
 | [],_,_,e,a,_,_,_,h=>by simpa[Ga] using h
 | p :: b,[],_,e,a,_,_,hl,_=>by simp at hl
 | p :: b,x :: A,c,e,a,⟨v,r,j,h1,f⟩,hp,hl,h=>by
  subst j;simp only[AFf,RE,Ga];have k:=qX b A r ((p,x) :: e) (a.setIfInBounds p v) f (λq i=>by simpa using hp q (by simp[i])) (by simpa using hl) (λs y hs=>by
   have d:=M0 { tmps:=a,defers:=[] } p v s (hp p (by simp));have d:(a.setIfInBounds p v).getD s undef=if s=p then v else a.getD s undef:=d
   rw[d];simp only[lk]at hs;split at hs
   .grind
   rename_i g;rw[As g];exact h s y hs)
  grind
section
variable {P:Program} {tb:Tb} {w0:World} {K O0:Nat->Prop} {nt l:Nat} {stay:List Nat} {ρ0:Nat->Value} {post:AV->List (Nat×Obj)->Prop} {σ:St} {pin:List (Nat×Value)}
theorem QT {c:Cx} (h:c.Ok) {σ:St} {a:Act} {w:World} {ρ:Nat->Value} (hs:B9 c.w0 c.K c.O0 c.nt c.ds σ ρ a w) {yn b:Nat} {L:Go.Loop} (hl:lk yn σ.objs=some (.loop L)) (d:ρ yn=.pointer (some ⟨b,0,none⟩)) (e:Go.Loop) :
  w.heap[b]?=some (.loop L)/\B9 c.w0 c.K c.O0 c.nt c.ds ⟨σ.env,upd yn (.loop e) σ.objs⟩ ρ a (w.putObj b (.loop e)):=by
 obtain⟨b',h1,f⟩:=hs.objs yn _ hl;rw[d]at h1;injection h1 with h1
 injection h1 with h1
 injection h1 with h1
 subst h1;have i:b<w.heap.size:=CK f;refine⟨f,hs.upd h.K hl (g:=b) (by rw[d];rfl) (grownBy_putObj' w b _) ?_⟩;exact⟨b,d,World.putObj_heap_same i⟩
theorem NH (f:(cY P tb w0 K O0 nt l pin).Ok) {yn:Nat} {L:Go.Loop} (hl:lk yn σ.objs=some (.loop L)) (g:pin=stay.map λn=>(n,ρ0 n)) (h:yn∈stay) (e:ρ0 yn=.pointer (some ⟨l,0,none⟩))
  (hp:post (.p .bool true) (upd yn (.loop { L with state:=.ready,pending:=none }) σ.objs)) :
  Ev (cY P tb w0 K O0 nt l pin) (mR P l w0 K O0 stay ρ0 post) (.out .normal) [] σ:=by
 intro _ _ a w hs;obtain⟨ρ,hs⟩:=hs;have c:∀n∈stay,ρ n=ρ0 n:=λn hn=>(hs.pin (n,ρ0 n) (by rw[show (cY P tb w0 K O0 nt l pin).ds.pin=pin from rfl,g];exact GO.2 ⟨n,hn,rfl⟩)).2.1;obtain⟨d,b⟩:=QT f hs hl ((c _ h).trans e) { L with state:=.ready,pending:=none };refine⟨_,_,run_endRound none d,.bool true,rfl,.p .bool true,_,ρ,hp,b.frm,⟨b.objs,b.free,b.dist⟩,⟨_,rfl,rfl⟩,c⟩
theorem Hn (f:(cY P tb w0 K O0 nt l pin).Ok) {yn:Nat} {L:Go.Loop} (hl:lk yn σ.objs=some (.loop L)) (g:pin=stay.map λn=>(n,ρ0 n)) (h:yn∈stay) (e:ρ0 yn=.pointer (some ⟨l,0,none⟩))
  (hp:post (.p .bool false) (upd yn (.loop { L with state:=.done,pending:=some .ret }) σ.objs)) :
  Ev (cY P tb w0 K O0 nt l pin) (mR P l w0 K O0 stay ρ0 post) (.out .ret) [] σ:=by
 intro _ _ a w hs;obtain⟨ρ,hs⟩:=hs;have c:∀n∈stay,ρ n=ρ0 n:=λn hn=>(hs.pin (n,ρ0 n) (by rw[show (cY P tb w0 K O0 nt l pin).ds.pin=pin from rfl,g];exact GO.2 ⟨n,hn,rfl⟩)).2.1;obtain⟨d,b⟩:=QT f hs hl ((c _ h).trans e) { L with state:=.done,pending:=some .ret };refine⟨_,_,run_endRound (some .ret) d,.bool false,rfl,.p .bool false,_,ρ,hp,b.frm,⟨b.objs,b.free,b.dist⟩,⟨_,rfl,rfl⟩,c⟩
def AAF (c:Cx) (R:Exit->Act->World->Prop) (yn:Nat) (L:Go.Loop) (a:Code) (σ:St):Prop :=
 lk yn σ.objs=some (.loop L)/\Ev c R (.run a) [] ⟨σ.env,upd yn (.loop { L with state:=.busy }) σ.objs⟩
theorem WA {yn fr:Nat} {A:List AV} {objs:List (Nat×Obj)} {L:Go.Loop} {d:List Nat} {r s:Code} {fs:List (Nat×AV)} {g:Array Value}
  (hl:lk yn objs=some (.loop L)) (hf:lk fr objs=some (.frame g fs)) (h1:L.state=.ready) (H:L.params=d.toArray) (I:L.assign=r) (J:L.body=s) (ai:L.tmps=g) (D:g.size=nt)
  (z:A.length=d.length) (X:(d.all λp=>decide (p<nt))=true) (ae:yn∈stay) (aa:stay.all (TT objs)=true) (U:Ly objs=true) (R:Bl nt r=true) (S:Bl nt s=true) (hT:DH P tb) (hF:Iz P tb)
  (h:∀(w0:World) (K O0:Nat->Prop) (ρ0:Nat->Value) (l:Nat),(cY P tb w0 K O0 nt l (stay.map λn=>(n,ρ0 n))).Ok->QP A->Od objs->ρ0 yn=.pointer (some ⟨l,0,none⟩) ->
   Ev (cY P tb w0 K O0 nt l (stay.map λn=>(n,ρ0 n))) (λ_ _ _=>False) (.run r) [.inv (AAF (cY P tb w0 K O0 nt l (stay.map λn=>(n,ρ0 n))) (mR P l w0 K O0 stay ρ0 post) yn L s)] ⟨Ga d A fs,objs⟩) :
  V0 P yn A objs stay post:=by
 intro w K O0 ρ q b N O f x u;have ad:=JC x;obtain⟨b',c,hh⟩:=f.obj yn _ hl;rw[u]at c;injection c with c
 injection c with c
 injection c with c
 subst c;have Y:=run_yield (P:=P) (args:=q.toArray) hh (by rw[H];simp[ad,z]);refine⟨_,_,_,_,Y,roundIn_of_wpIn trivial ?_⟩;have y:(cY P tb w K O0 nt b (stay.map λn=>(n,ρ n))).Ok:=⟨N,O,hT,hF⟩;have T:=f.obj fr _ hf;have B:=qX (V:=vw w O0 ⟨[],objs⟩ ρ) d A q fs g x (λp hp=>by have:=(ON.1 X) p hp;rw[D];simpa using this) z T.2;have ab:(L.params.zip q.toArray).foldl (λt (p,v)=>t.setIfInBounds p v) L.tmps=(d.zip q).foldl (λt (p,v)=>t.setIfInBounds p v) g:=by grind
 rw[I,J,ab];have Z:(cY P tb w K O0 nt b (stay.map λn=>(n,ρ n))).sat ⟨Ga d A fs,objs⟩ { tmps:=(d.zip q).foldl (λt (p,v)=>t.setIfInBounds p v) g,defers:=[] } w:=by
  refine⟨ρ,⟨rfl,rfl,rfl,If _,λ_ _=>rfl⟩,by rw[B.2];exact D,rfl,λp hp=>?_,f.obj,f.free,f.dist,B.1⟩;obtain⟨n,hn,rfl⟩:=GO.1 hp;have:=(ON.1 aa) n hn;unfold TT at this;cases i:lk n objs with
  | none=>rw[i]at this;cases this
  | some o =>
   rw[i]at this;refine⟨⟨o,i⟩,rfl,?_⟩;have j:=f.obj n o i;cases o with
   | arr et e xs=>exact .inr this
   | nest et ak k e xs hl=>exact .inr this
   | box et st fs=>obtain⟨_,b,cs,a,_⟩:=j;rw[a];exact .inl rfl
   | mapo k v l=>obtain⟨b,ah,cl,a,_⟩:=j;rw[a];exact .inl rfl
   | frame g fs=>obtain⟨a,_⟩:=j;rw[a];exact .inl rfl
   | loop L=>obtain⟨b,a,_⟩:=j;rw[a];exact .inl rfl
   | itr al ao am an aj=>obtain⟨b,a,_⟩:=j;rw[a];exact .inl rfl
   | dfr=>obtain⟨b,a,_⟩:=j;rw[a];exact .inl rfl
 have M:=h w K O0 ρ b y (Ug x) (Uh U λn o i=>aU (f.obj n o i)) u (by simpa[H0,cY] using R) rfl _ _ Z;refine AFE (F:=FR (some b)) M ?_;intro e ag w' m;cases e with
 | normal =>
  obtain⟨σ',⟨ρ',C⟩,W,Q⟩:=m;have af:ρ' yn=.pointer (some ⟨b,0,none⟩):=(C.pin (yn,ρ yn) (GO.2 ⟨yn,ae,rfl⟩)).2.1.trans u;obtain⟨E,G⟩:=QT y C W af { L with state:=.busy };exact⟨_,run_beginRound E h1,Q (by simpa[H0,cY] using S) rfl _ _ ⟨ρ',G⟩⟩
 | exit id=>exact m.elim
 | goto t=>exact m.elim
 | ret=>exact m.elim
 | panic ch=>exact m.elim
 | outgrown=>exact m.elim
end
end
section
open Go Go.RowKit
def Cx.marked (c:Cx) (dn b:Nat):Cx:={ c with ds:={ ds:=⟨.collected b,#[]⟩ :: c.ds.ds,pin:=(dn,.pointer (some ⟨b,0,none⟩)) :: c.ds.pin } }
def Cx.marked2 (c:Cx) (yn dn b:Nat):Cx:={ c with ds:={ ds:=⟨.collected b,#[]⟩ :: c.ds.ds,pin:=(yn,.pointer (some ⟨b+1,0,none⟩)) :: (dn,.pointer (some ⟨b,0,none⟩)) :: c.ds.pin } }
theorem mS {c:Cx} {yn dn b:Nat} (h:c.Ok):(c.marked2 yn dn b).Ok:=⟨h.K,h.O,h.T,h.F⟩
theorem NI {c:Cx} {dn b:Nat}:(c.marked dn b).tb=c.tb:=rfl
theorem Ho {c:Cx} {dn b:Nat} (h:c.Ok):(c.marked dn b).Ok:=⟨h.K,h.O,h.T,h.F⟩
theorem A0e (ren:List (Nat×B1)) (x:AV):Bi ren x .top:=by grind [Bi,H7,Dw]
def fW:List DU->Bool
 | []=>true
 | .inv _ :: _=>false
 | _ :: k=>fW k
theorem Oj {c:Cx} {R:Exit->Act->World->Prop} {dn b:Nat}:∀ {k:List DU},fW k=true->VZ (c.marked dn b) R k=VZ c R k
 | [],_=>by funext e a w;simp[VZ]
 | .inv _ :: _,h=>by simp[fW]at h
 | .seq y :: k,h=>by
  have d:=Oj (c:=c) (R:=R) (dn:=dn) (b:=b) (k:=k) h;funext e a w;cases e<;>simp only[VZ,d]<;>rfl
 | .blk id :: k,h=>by
  have d:=Oj (c:=c) (R:=R) (dn:=dn) (b:=b) (k:=k) h;funext e a w;cases e<;>simp only[VZ,d]
def BA (σ:St) (yn dn fr:Nat) (L:Go.Loop) (a:Array Value):St:=⟨σ.env,(yn,.loop L) :: (dn,.dfr) :: (fr,.frame a σ.env) :: σ.objs⟩
section
variable {c:Cx} {R:Exit->Act->World->Prop} {k:List DU} {σ:St}
theorem A0f (k:c.Ok) {a:Act} {w:World} {ρ:Nat->Value} (hs:B9 c.w0 c.K c.O0 c.nt c.ds σ ρ a w) {yn dn fr:Nat} (l:yn≠dn) (B:yn≠fr) (C:dn≠fr) (D:lk yn σ.objs=none) (E:lk dn σ.objs=none) (F:lk fr σ.objs=none) (L:Go.Loop) :
  ∃e,B9 c.w0 c.K c.O0 c.nt (c.marked2 yn dn w.heap.size).ds (BA σ yn dn fr L a.tmps) e { a with defers:=[{ target:=.collected w.heap.size,args:=#[] }]++a.defers } ((w.alloc (.deferred (some []))).alloc (.loop L))/\e yn=.pointer (some ⟨w.heap.size+1,0,none⟩):=by
 let e:Nat->Value:=λm=>if m=yn then .pointer (some ⟨w.heap.size+1,0,none⟩) else if m=dn then .pointer (some ⟨w.heap.size,0,none⟩) else if m=fr then .pointer none else ρ m
 have e1:e yn=.pointer (some ⟨w.heap.size+1,0,none⟩):=by simp[e]
 have e2:e dn=.pointer (some ⟨w.heap.size,0,none⟩):=by simp[e,Ne.symm l]
 have u:e fr=.pointer none:=by simp[e,Ne.symm B,Ne.symm C]
 obtain⟨f,i⟩:∃f,(w.alloc (.deferred (some []))).alloc (.loop L)=f:=⟨_,rfl⟩;have y:f.heap[w.heap.size+1]?=some (.loop L):=by
  rw[<-i];have:=World.alloc_heap_new (w.alloc (.deferred (some []))) (.loop L);rwa [World.size_alloc]at this
 have v:f.heap[w.heap.size]?=some (.deferred (some [])):=by
  rw[<-i];exact(Below.heap_alloc _ _ _ (by simp)).trans (World.alloc_heap_new w _)
 have j:Below w.heap.size w f:=by
  rw[<-i];exact((Below.refl _ w).alloc (If _) _).alloc (by simp) _
 rw[i];have q:Bd [(yn,Obj.loop L),(dn,.dfr),(fr,.frame a.tmps σ.env)] σ=true:=by simp[Bd,D,E,F]
 have t:∀n,lk n [(yn,Obj.loop L),(dn,Obj.dfr),(fr,.frame a.tmps σ.env)]=none->e n=ρ n:=λn hn=>by grind [lk]
 have r:∀n o b,lk n [(yn,Obj.loop L),(dn,Obj.dfr),(fr,.frame a.tmps σ.env)]=some o->bk (e n) b->w.heap.size<=b:=λn o b hn z=>by grind [lk,bk,blk]
 have G:=Hy (O0:=c.O0) (ρ:=ρ) (ρ':=e) q j t r;have H:QS w c.O0 σ ρ .top [(yn,Obj.loop L),(dn,.dfr),(fr,.frame a.tmps σ.env)] undef e f:=by
  refine⟨j,t,trivial,λn o hn=>?_,r,λn m o M b hn J z I=>?_⟩
  .simp only[lk]at hn;split at hn
   .rename_i g;cases hn;subst g;exact⟨_,e1,y⟩
   split at hn
   .rename_i g;cases hn;subst g;exact⟨_,e2,v⟩
   split at hn
   .rename_i g;cases hn;subst g;exact⟨u,λs x hx=>(hs.env s x hx).keeps G⟩
   cases hn
  grind [lk,bk,blk]
 have h:=hs.add k.K k.O (dst:=none) (λd A=>by cases A) q H;refine⟨e,⟨h.frm,h.nt,?_,λp hp=>?_,h.objs,h.free,h.dist,h.env⟩,e1⟩
 .show _=_ :: c.ds.ds;rw[<-hs.defers];rfl
 rcases DO.1 hp with rfl|hp
 .exact⟨⟨.loop L,by simp[BA,lk]⟩,e1,.inl rfl⟩
 rcases DO.1 hp with rfl|hp
 .exact⟨⟨.dfr,by simp[BA,lk,Ne.symm l]⟩,e2,.inl rfl⟩
 exact h.pin p hp
def EvJ (c:Cx) (R:Exit->Act->World->Prop) (k:List DU) (σ:St):Option Code->Prop
 | none=>Ev c R (.out .normal) k σ
 | some a=>match a with
  | .ret=>Ev c R (.out .ret) k σ
  | .exit id=>Ev c R (.out (.exit id)) k σ
  | _=>False
def ADN (c:Cx) (R:Exit->Act->World->Prop) (k:List DU) (a:Act) (w:World):Option Code->Prop
 | none=>VZ c R k .normal a w
 | some cd=>cd.wpIn (FR c.r) 0 c.P (VZ c R k) a w
theorem A5Y {dn b:Nat} (g:fW k=true) (e:DB c.nt k=true) {p:Option Code} (d:EvJ (c.marked dn b) R k σ p) {a:Act} {w:World} (hs:(c.marked dn b).sat σ a w) :
  ADN c R k a w p:=by
 have f:=Oj (c:=c) (R:=R) (dn:=dn) (b:=b) g;cases p with
 | none =>
  have:=d rfl e _ _ hs;show VZ c R k .normal a w;rw[<-f];exact this
 | some cd =>
  cases cd<;>try exact d.elim
  .have:=d rfl e _ _ hs;refine wpIn_exit ?_;rw[<-f];exact this
  have:=d rfl e _ _ hs;refine wpIn_ret ?_;rw[<-f];exact this
theorem WB (T:c.Ok) (bj:c.r=none) (bd:fW k=true) {g:Operand} {N:Array Tmp} {G H:Code} {s:FuncId} {m:List Nat} (J:Ap σ g=some (.clo s m))
  (yn dn fr:Nat) (D:(yn != dn&&yn != fr&&dn != fr)=true) (ay:lk yn σ.objs=none) (az:lk dn σ.objs=none) (ba:lk fr σ.objs=none)
  (ak:∀(L:Go.Loop) (z:Array Value),L.state=.ready->L.pending=none->L.tmps=z->L.params=N->L.assign=G->L.body=H->z.size=c.nt ->
   ∃(A:List AV) (objs:List (Nat×Obj)) (stay:List Nat) (post:AV->List (Nat×Obj)->Prop) (ren:List (Nat×B1)) (hs:List Nat),A9 c.P s A objs stay post /\
    B8 ren=true/\CO objs ren=true/\BJ (BA σ yn dn fr L z) ren (.yl yn :: m.map λn=>AV.bp n [] 0) A/\Ad (BA σ yn dn fr L z).objs ren objs /\
    (((yn,undef) :: (dn,undef) :: c.ds.pin).all λp=>!Aa p.1 hs)=true /\
    ∀res y,post res y->∃(j:List (Nat×B1)) (i:List (Nat×Obj)) (l:Go.Loop),B8 j=true/\CO i j=true/\Ad y j i/\JD ren j stay hs=true/\FK (Aj ren) i (BA σ yn dn fr L z).objs=true /\
     lk yn i=some (.loop l)/\(l.state == .busy)=false /\
     ∀b,EvJ (c.marked dn b) R k ⟨(CP (BA σ yn dn fr L z) (Aj ren) hs none .top i).env,upd yn (.loop { l with state:=.exhausted }) (CP (BA σ yn dn fr L z) (Aj ren) hs none .top i).objs⟩ l.pending) :
  Ev c R (.run (.rangeFunc g N G H)) k σ:=by
 intro h1 ai a w bl;obtain⟨ρ,hs⟩:=bl;have ax:Ha (vw w c.O0 σ ρ) σ a.eval:=Fv hs.env;obtain⟨bb,_⟩:=fV (ax g _ J);simp only[An,AEY,ne_eq]at D;obtain⟨⟨ar,au⟩,av⟩:=D;refine wpIn_rangeFunc (F:=FR c.r) ?_;intro fn _;have bk:(FR c.r).round=none:=by rw[bj];rfl
 rw[bk];obtain⟨L,x⟩:∃L:Go.Loop,L={ state:=.ready,pending:=none,fn,tmps:=a.tmps,params:=N,assign:=G,body:=H,defers:=w.heap.size }:=⟨_,rfl⟩;obtain⟨Y,M,bn⟩:=A0f T hs ar au av ay az ba L;obtain⟨A,objs,stay,post,ren,B,I,ab,ad,ae,af,ag,ah⟩:=ak L a.tmps (by rw[x]) (by rw[x]) (by rw[x]) (by rw[x]) (by rw[x]) (by rw[x]) hs.nt;obtain⟨⟨O,aq,bg,an⟩,I⟩:=I;obtain⟨o,S⟩:∃o,(w.alloc (.deferred (some []))).alloc (.loop L)=o:=⟨_,rfl⟩;rw[S]at M;have U:(c.marked2 yn dn w.heap.size).Ok:=mS T;have ap:Il (vw o c.O0 (BA σ yn dn fr L a.tmps) Y) (.yl yn :: m.map λn=>AV.bp n [] 0) (.func (.yield (w.heap.size+1)) #[] #[] :: m.map ρ):=by
  refine⟨_,_,rfl,⟨⟨_,by simp[BA,lk];rfl⟩,_,bn,rfl⟩,?_⟩;have bz:=fV (V:=vw o c.O0 (BA σ yn dn fr L a.tmps) Y) (f:=s) (ns:=m) (v:=a.eval g) (by
   have:=Fv M.env;have bh:Ap (BA σ yn dn fr L a.tmps) g=some (.clo s m):=by
    cases g with
    | tmp t=>exact J
    | _=>exact J
   have Q:=this g _ bh;have aw:({ a with defers:=[{ target:=.collected w.heap.size,args:=#[] }]++a.defers }:Act).eval g=a.eval g:=by cases g<;>rfl
   rw[aw]at Q;exact Q)
  grind [vw]
 have be:∀res y,post res y->∃(j:List (Nat×B1)) (X:AV) (i:List (Nat×Obj)),B8 j=true/\CO i j=true/\Ad y j i/\Bi j res X /\
   JD ren j stay B=true/\FK (Aj ren) i (BA σ yn dn fr L a.tmps).objs=true/\∀C w',(c.marked2 yn dn w.heap.size).sat (CP (BA σ yn dn fr L a.tmps) (Aj ren) B none X i) C w' ->
    rangePost (FR c.r) 0 c.P (w.heap.size+1) (VZ c R k) C (.returned undef) w':=by
  intro res y hp;obtain⟨j,i,l,bq,br,bs,bt,bu,ca,W,bv⟩:=ah res y hp;refine⟨j,.top,i,bq,br,bs,A0e j res,bt,bu,λC w' E=>?_⟩;obtain⟨ρ',E⟩:=E;have bo:lk yn (CP (BA σ yn dn fr L a.tmps) (Aj ren) B none .top i).objs=some (.loop l):=by grind [CP,A5]
  have hyp:=(E.pin (yn,.pointer (some ⟨w.heap.size+1,0,none⟩)) (by simp[Cx.marked2])).2.1;obtain⟨bw,q⟩:=QT U E bo hyp { l with state:=.exhausted };refine⟨_,_,run_endLoop bw (by intro e;rw[e]at W;cases W),?_⟩;have bm:(c.marked dn w.heap.size).sat ⟨(CP (BA σ yn dn fr L a.tmps) (Aj ren) B none .top i).env,upd yn (.loop { l with state:=.exhausted }) (CP (BA σ yn dn fr L a.tmps) (Aj ren) B none .top i).objs⟩ C (w'.putObj (w.heap.size+1) (.loop { l with state:=.exhausted })) :=
   ⟨ρ',q.frm,q.nt,q.defers,λp hp=>q.pin p (IF _ hp),q.objs,q.free,q.dist,q.env⟩
  have K:=A5Y bd ai (bv w.heap.size) bm;revert K;generalize l.pending=p;intro K;cases p<;>exact K
 obtain⟨Z,aa,bx,aj,al,bf,am,_,bi⟩:=R0 U M ap stay post ren ab ad ae af B (by simpa[Cx.marked2] using ag) (dst:=none) (λd D=>by cases D) be;have ao:=I o Z aa bx _ aj al bf am;refine⟨w.heap.size+1,[{ target:=.collected w.heap.size,args:=#[] }],o,{ target:=.fn (.func s) (m.map ρ).toArray,args:=#[.func (.yield (w.heap.size+1)) #[] #[]] },o,s,
  (.func (.yield (w.heap.size+1)) #[] #[] :: m.map ρ).toArray,o,?_,?_,λ_ _=>trivial,?_,λh=>by simp[FR]at h,?_⟩
 .rw[<-S,x];exact run_enterLoop_outer _ _ _ _ _
 .have bc:a.eval g=.func (.func s) #[] (m.map ρ).toArray:=bb;simp only[resolve,bc];simp[go_sem]
 .have e1 : ¬ O.name = "runtime.NumGoroutine" := by simpa using bg
  have e2:¬O.body=none:=by intro e;simp[e]at an
  simp[invoke,callFunc,aq,e1,e2]
 refine OX (ao.mono λe w' hh=>?_);obtain⟨u,rfl,hh⟩:=hh;exact bi u w' hh
theorem A2I (N:c.Ok) {a:Act} {w:World} {ρ:Nat->Value} (hs:B9 c.w0 c.K c.O0 c.nt c.ds σ ρ a w) {dn b:Nat} (hl:lk dn σ.objs=some .dfr) (i:ρ dn=.pointer (some ⟨b,0,none⟩)) (X:_root_.Go.Obj) (pin:List (Nat×Value)) (F:∀p∈pin,p∈c.ds.pin/\p.1≠dn) :
  w.heap[b]?=some (.deferred (some []))/\B9 c.w0 c.K c.O0 c.nt { ds:=c.ds.ds,pin:=pin } ⟨CN [dn] σ.env,Ar [dn] [dn] σ.objs⟩ ρ a (w.putObj b X):=by
 obtain⟨b',h1,h⟩:=hs.objs dn _ hl;rw[i]at h1;injection h1 with h1
 injection h1 with h1
 injection h1 with h1
 subst h1;have O:b<w.heap.size:=CK h;refine⟨h,?_⟩;have z:own c.O0 σ ρ b:=.inr ⟨dn,⟨_,hl⟩,by rw[i];exact .inl rfl⟩;have f:∀n,HG ⟨CN [dn] σ.env,Ar [dn] [dn] σ.objs⟩ n->HG σ n/\n≠dn:=by
  rintro n ⟨o,hn⟩;have hn:lk n (Ar [dn] [dn] σ.objs)=some o:=hn;rw[B7]at hn;split at hn
  .cases hn
  rename_i q;simp only[OF]at hn;obtain⟨y,d,_⟩:=hn;exact⟨⟨y,d⟩,λe=>q (by subst e;simp[Aa])⟩
 have j:∀k,k≠b->(w.putObj b X).heap[k]?=w.heap[k]?:=λk hk=>World.putObj_heap_other hk;have l:Cq ((vw w c.O0 σ ρ).buts [dn]) (vw (w.putObj b X) c.O0 ⟨CN [dn] σ.env,Ar [dn] [dn] σ.objs⟩ ρ):=by
  refine⟨λk _ hk A=>?_,λn hn=>?_,λ_ _=>rfl,λk _ hk=>j k (λe=>?_)⟩
  .rcases A with h0|⟨n,hn,D⟩
   .exact hk (.inl h0)
   exact hk (.inr ⟨n,(f n hn).1,D⟩)
  .obtain⟨⟨o,E⟩,C⟩:=hn;exact⟨_,by show lk n (Ar [dn] [dn] σ.objs)=_;rw[B7,As (by rw[C];simp),E];rfl⟩
  subst e;exact hk z
 refine⟨⟨hs.frm.os,hs.frm.tape,hs.frm.output,by simpa using hs.frm.size,λk hk=>?_⟩,hs.nt,hs.defers,λp hp=>?_,λn x hn=>?_,λn k B hk=>hs.free n k (f n B).1 hk,λn m k h1 h t u=>hs.dist n m k (f n h1).1 (f m h).1 t u,λs v r=>?_⟩
 .refine(j k λe=>?_).trans (hs.frm.block k hk);subst e;exact(hs.free dn k ⟨_,hl⟩ (by rw[i];exact .inl rfl)).1 hk
 .obtain⟨G,H⟩:=F p hp;obtain⟨I,J,M⟩:=hs.pin p G;exact⟨l.L p.1 ⟨I,by simp[Aa,H]⟩,J,M⟩
 .have g:lk n (Ar [dn] [dn] σ.objs)=some x:=hn;have q:=(f n ⟨x,hn⟩).2;rw[B7]at g;split at g
  .cases g
  simp only[OF]at g;obtain⟨y,d,rfl⟩:=g;refine aM l (λk hk=>j k λe=>?_) (hs.objs n y d);subst e;exact q (hs.dist n dn k ⟨y,d⟩ ⟨_,hl⟩ hk (by rw[i];exact .inl rfl))
 rw[Es]at r;simp only[OF]at r;obtain⟨y,d,rfl⟩:=r;exact(Ua (hs.env s y d)).keeps l
end
def qY (P:Program) (fn:Func) (w0:World) (K O0:Nat->Prop) (stay:List Nat) (ρ0:Nat->Value) (post:AV->List (Nat×Obj)->Prop):Exit->Act->World->Prop :=
 bodyPostM (FR none) 0 P fn λe w'=>∃u,e=.returned u/\L7 K O0 stay w0 ρ0 post u w'
theorem A5Z {P:Program} {tb:Tb} {f:FuncId} {fn:Func} {cd:Code} {nt:Nat} {args:List AV} {objs:List (Nat×Obj)} {stay:List Nat} {post:AV->List (Nat×Obj)->Prop}
  (c : P.funcs[f]? = some fn) (k : (fn.name == "runtime.NumGoroutine") = false) (b : fn.body = some cd) (l : fn.ntmps = nt) (q : args.length <= nt)
  (i:Bl nt cd=true) (p:stay.all (TT objs)=true) (j:Ly objs=true) (hT:DH P tb) (hF:Iz P tb)
  (h:∀(w0:World) (K O0:Nat->Prop) (ρ0:Nat->Value),(cm P tb w0 K O0 nt (stay.map λn=>(n,ρ0 n))).Ok->QP args->Od objs ->
   Ev (cm P tb w0 K O0 nt (stay.map λn=>(n,ρ0 n))) (qY P fn w0 K O0 stay ρ0 post) (.run cd) [] ⟨Ak 0 args,objs⟩):A9 P f args objs stay post:=by
 refine⟨⟨fn,c,k,by simp[b]⟩,λw K O0 ρ s e g d a=>?_⟩;refine callsIn_wide.1 (callsIn_of_wp_marks (F:=FR none) (n:=0) c b trivial ?_ rfl);have r:=JC a;rw[l];exact h w K O0 ρ ⟨e,g,hT,hF⟩ (Ug a) (Uh j λn o m=>aU (d.obj n o m)) i rfl _ _ (Vj d a p (by omega))
theorem J8 {P:Program} {tb:Tb} {w0:World} {K O0:Nat->Prop} {nt:Nat} {stay:List Nat} {ρ0:Nat->Value} {fn:Func} {post:AV->List (Nat×Obj)->Prop} {σ:St} {e:Exit} {dn b:Nat} (d:((cm P tb w0 K O0 nt (stay.map λn=>(n,ρ0 n))).marked dn b).Ok)
  (g:List ResultVar) (r:fn.results.toList=g) (o:e=.ret\/e=.normal) (hl:lk dn σ.objs=some .dfr) (f:Aa dn stay=false) (res:AV) (h:TV tb ⟨CN [dn] σ.env,Ar [dn] [dn] σ.objs⟩ g res) (hp:post res (Ar [dn] [dn] σ.objs)) :
  Ev ((cm P tb w0 K O0 nt (stay.map λn=>(n,ρ0 n))).marked dn b) (qY P fn w0 K O0 stay ρ0 post) (.out e) [] σ:=by
 intro _ _ a w hs;obtain⟨ρ,hs⟩:=hs;have l:=(hs.pin (dn,.pointer (some ⟨b,0,none⟩)) (by simp[Cx.marked])).2.1;obtain⟨h1,i⟩:=A2I d hs hl l (.deferred none) (stay.map λn=>(n,ρ0 n)) (λp hp=>⟨IF _ hp,λe=>by
  obtain⟨n,hn,rfl⟩:=GO.1 hp;have e:n=dn:=e;subst e;rw[(Am _ _).2 hn]at f;cases f⟩)
 have c:B9 w0 K O0 nt { ds:=[⟨.collected b,#[]⟩],pin:=stay.map λn=>(n,ρ0 n) } ⟨CN [dn] σ.env,Ar [dn] [dn] σ.objs⟩ ρ a (w.putObj b (.deferred none)):=i;obtain⟨u,j,k⟩:=Vl d.T c (fn:=fn) (by rw[r];exact h);have q:L7 K O0 stay w0 ρ0 post u (w.putObj b (.deferred none)):=by
  refine⟨res,_,ρ,hp,c.frm,⟨c.objs,c.free,c.dist⟩,k,λn hn=>?_⟩;exact(c.pin (n,ρ0 n) (GO.2 ⟨n,hn,rfl⟩)).2.1
 have m:a.defers=[⟨.collected b,#[]⟩]:=hs.defers;have key:LeavesInM (FR none) 0 P fn a.tmps (λe w'=>∃u,e=.returned u/\L7 K O0 stay w0 ρ0 post u w') a.defers .returning w:=by
  rw[m];exact⟨by simp,.inl ⟨b,_,rfl,run_takeDeferred h1,u,j,u,rfl,q⟩⟩
 rcases o with rfl|rfl
 .exact key
 exact key
end
section
open Go Go.RowKit
section
variable {c:Cx} {R:Exit->Act->World->Prop} {k:List DU} {σ σ':St}
theorem rP (a:c.Ok) {id:Nat} {l:List Oper} {vc:Prop} (b:vc) (hk:Ev c R (.out .normal) k σ') (h0:(l.all λo=>o.guard.isNone)=true:=by rfl)
  (h:Df c.tb.live (Bn c.tb l l σ)=some (vc,σ'):=by simp only[go_sem,Nat.reduceEqDiff,reduceCtorEq,Nat.reduceAdd,Nat.reduceSub,Nat.reduceMul,Nat.reduceLeDiff,Nat.reduceLT,Int.reduceLE,Int.reduceToNat,Int.reduceNeg,↓reduceIte];rfl):Ev c R (.run (.region id l.toArray false)) k σ:=L8 _ a h0 h b hk
theorem rA (a:c.Ok) {id:Nat} {l:List Oper} {vc:Prop} (b:vc) (hk:Ev c R (.out .normal) k σ') (h0:mF l l.length=true:=by kernel_rfl)
  (h:Df c.tb.live (L4 c.tb l true σ.objs [] l 0 [] [] σ)=some (vc,σ'):=by simp only[go_sem,Nat.reduceEqDiff,reduceCtorEq,Nat.reduceAdd,Nat.reduceSub,Nat.reduceMul,Nat.reduceLeDiff,Nat.reduceLT,Int.reduceLE,Int.reduceToNat,Int.reduceNeg,↓reduceIte];rfl):Ev c R (.run (.region id l.toArray false)) k σ:=TW _ a h0 h b hk
theorem rC {o:Operand} {x y:Code} {b:Bool} {p q:Prop} (d:p->Ev c R (.run x) k σ) (hf:q->Ev c R (.run y) k σ) (h:Ap σ o=some (.p .bool b):=by simp only[go_sem,Nat.reduceEqDiff,reduceCtorEq,Nat.reduceAdd,Nat.reduceSub,Nat.reduceMul,Nat.reduceLeDiff,Nat.reduceLT,Int.reduceLE,Int.reduceToNat,Int.reduceNeg,↓reduceIte];rfl)
  (hp:(b=true)=p:=by first|(simp only[Do,On,An,Sx,Bool.and_eq_false_imp,oN,RH,ADE,S1,ADF,AEY,Bool.not_eq_eq_eq_not,Bool.not_true,Bool.not_false,AE3,AFG,ne_eq];rfl)|rfl) (a:(b=false)=q:=by first|(simp only[Do,On,An,Sx,Bool.and_eq_false_imp,oN,RH,ADE,S1,ADF,AEY,Bool.not_eq_eq_eq_not,Bool.not_true,Bool.not_false,AE3,AFG,ne_eq];rfl)|rfl):Ev c R (.run (.cond o x y)) k σ :=
 Dd h (λe=>d (hp▸e)) (λe=>hf (a▸e))
theorem rL (a:c.Ok) {ops:List Oper} {l:List Oper} {vc:Prop} (b:vc) (hk:Ev c R (.out .normal) k σ') (h:Df c.tb.live (Bn c.tb ops l σ)=some (vc,σ'):=by simp only[go_sem,Nat.reduceEqDiff,reduceCtorEq,Nat.reduceAdd,Nat.reduceSub,Nat.reduceMul,Nat.reduceLeDiff,Nat.reduceLT,Int.reduceLE,Int.reduceToNat,Int.reduceNeg,↓reduceIte];rfl):Nh c R k ops.toArray l σ:=IE _ a h b hk
theorem rN (n:Nat) (a:c.Ok) {ops:List Oper} {l:List Oper} {vc:Prop} (b:vc) (hk:Nh c R k ops.toArray (l.drop n) σ') (h:Bn c.tb ops (l.take n) σ=some (vc,σ'):=by simp only[ADw,ADl,go_sem,Nat.reduceEqDiff,reduceCtorEq,Nat.reduceAdd,Nat.reduceSub,Nat.reduceMul,Nat.reduceLeDiff,Nat.reduceLT,Int.reduceLE,Int.reduceToNat,Int.reduceNeg,↓reduceIte];rfl):Nh c R k ops.toArray l σ:=QM a n (by simpa using h) b hk
theorem cP (n:Nat) (a:c.Ok) {id:Nat} {l:List Oper} {vc:Prop} (b:vc) (hk:Nh c R k l.toArray (l.drop n) σ') (h0:(l.all λo=>o.guard.isNone)=true:=by rfl) (h:Bn c.tb l (l.take n) σ=some (vc,σ'):=by simp only[ADw,ADl,go_sem,Nat.reduceEqDiff,reduceCtorEq,Nat.reduceAdd,Nat.reduceSub,Nat.reduceMul,Nat.reduceLeDiff,Nat.reduceLT,Int.reduceLE,Int.reduceToNat,Int.reduceNeg,↓reduceIte];rfl) :
  Ev c R (.run (.region id l.toArray false)) k σ:=A2t a n h0 h b hk
theorem rM (q:c.Ok) {ops:Array Oper} {rest:List Oper} {dst:Option Nat} {g:Operand} {xs:List Operand} {ts:Array TypeId} {ty:TypeId} {pos:String} {after:Array Edge}
  {f:FuncId} {d:List Nat} {as:List AV} {A:List AV} {objs:List (Nat×Obj)} {stay:List Nat} {post:AV->List (Nat×Obj)->Prop} (l:A9 c.P f A objs stay post)
  (ren:List (Nat×B1)) (hs:List Nat) (j:BJ σ ren (as++d.map λn=>AV.bp n [] 0) A) (m:Ad σ.objs ren objs)
  (hk:∀res e,post res e->∃(a:List (Nat×B1)) (h:AV) (b:List (Nat×Obj)),B8 a=true/\CO b a=true/\Ad e a b/\Bi a res h /\
   JD ren a stay hs=true/\FK (Aj ren) b σ.objs=true/\Nh c R k ops rest (CP σ (Aj ren) hs dst h b))
  (r:DL (Ap σ g)=some (f,d):=by simp only[go_sem,Nat.reduceEqDiff,reduceCtorEq,Nat.reduceAdd,Nat.reduceSub,Nat.reduceMul,Nat.reduceLeDiff,Nat.reduceLT,Int.reduceLE,Int.reduceToNat,Int.reduceNeg,↓reduceIte];rfl) (o:Im σ xs=some as:=by simp only[go_sem,Nat.reduceEqDiff,reduceCtorEq,Nat.reduceAdd,Nat.reduceSub,Nat.reduceMul,Nat.reduceLeDiff,Nat.reduceLT,Int.reduceLE,Int.reduceToNat,Int.reduceNeg,↓reduceIte];rfl)
  (h1:B8 ren=true:=by rfl) (i:CO objs ren=true:=by rfl) (s:(c.ds.pin.all λp=>!Aa p.1 hs)=true:=by rfl) :
  Nh c R k ops (⟨dst,.call ⟨.value g,xs.toArray,ts⟩,ty,pos,after,none⟩ :: rest) σ:=A2s q r o l ren hs h1 i s j m hk
theorem rY (n yn:Nat) (m:c.Ok) {ops:Array Oper} {rest:List Oper} {dst:Option Nat} {g:Operand} {xs:List Operand} {ts:Array TypeId} {ty:TypeId} {pos:String} {after:Array Edge}
  {as:List AV} {A:List AV} {objs:List (Nat×Obj)} {stay:List Nat} {post:AV->List (Nat×Obj)->Prop} (i:V0 c.P yn A objs stay post)
  (ren:List (Nat×B1)) (hs:List Nat) (h:BJ σ ren as A) (j:Ad σ.objs ren objs)
  (hk:∀res d,post res d->∃(a:List (Nat×B1)) (e:AV) (b:List (Nat×Obj)),B8 a=true/\CO b a=true/\Ad d a b/\Bi a res e /\
   JD ren a stay hs=true/\FK (Aj ren) b σ.objs=true/\Nh c R k ops rest (CP σ (Aj ren) hs dst e b))
  (s:c.r=none:=by rfl) (o:bE n (Ap σ g)=true:=by simp only[go_sem,Nat.reduceEqDiff,reduceCtorEq,Nat.reduceAdd,Nat.reduceSub,Nat.reduceMul,Nat.reduceLeDiff,Nat.reduceLT,Int.reduceLE,Int.reduceToNat,Int.reduceNeg,↓reduceIte]) (l:Im σ xs=some as:=by simp only[go_sem,Nat.reduceEqDiff,reduceCtorEq,Nat.reduceAdd,Nat.reduceSub,Nat.reduceMul,Nat.reduceLeDiff,Nat.reduceLT,Int.reduceLE,Int.reduceToNat,Int.reduceNeg,↓reduceIte];rfl)
  (t:lk yn ren=some (.nm n):=by rfl) (h1:B8 ren=true:=by rfl) (f:CO objs ren=true:=by rfl) (q:(c.ds.pin.all λp=>!Aa p.1 hs)=true:=by rfl) :
  Nh c R k ops (⟨dst,.call ⟨.value g,xs.toArray,ts⟩,ty,pos,after,none⟩ :: rest) σ:=A0d m s o l i ren hs t h1 f q h j hk
end
end
section
open Go Go.RowKit
section
variable {P:Program} {b:Frame} {a:Act} {k:List Item} {cs:List Frame} {w:World}
end
section
variable {c:Cx} {R:Exit->Act->World->Prop} {k:List DU} {σ:St}
end
end
section
open Go Go.RowKit
def qZ:qI->List DU->Option (qI×List DU)
 | .run (.seq x y),k=>some (.run x,.seq y :: k)
 | .run .skip,k=>some (.out .normal,k)
 | .run .ret,k=>some (.out .ret,k)
 | .run (.exit id),k=>some (.out (.exit id),k)
 | .run (.block id b),k=>some (.run b,.blk id :: k)
 | .out .normal,.seq y :: k=>some (.run y,k)
 | .out .normal,.blk _ :: k=>some (.out .normal,k)
 | .out (.exit id),.seq _ :: k=>some (.out (.exit id),k)
 | .out (.exit a),.blk id :: k=>if a=id then some (.out .normal,k) else some (.out (.exit a),k)
 | .out (.exit id),.inv _ :: k=>some (.out (.exit id),k)
 | .out .ret,.seq _ :: k=>some (.out .ret,k)
 | .out .ret,.blk _ :: k=>some (.out .ret,k)
 | .out .ret,.inv _ :: k=>some (.out .ret,k)
 | _,_=>none
def WC:Nat->qI->List DU->qI×List DU
 | 0,n,k=>(n,k)
 | m+1,n,k=>match qZ n k with
  | some (b,a)=>WC m b a
  | none=>(n,k)
def q9 (n:qI) (k:List DU):Option (qI×List DU):=match qZ n k with
 | some (b,a)=>some (WC 200 b a)
 | none=>none
section
variable {c:Cx} {R:Exit->Act->World->Prop} {σ:St}
theorem fX {n b:qI} {k a:List DU} (e:qZ n k=some (b,a)) (h:Ev c R b a σ):Ev c R n k σ:=by
 unfold qZ at e;split at e<;>first
  | (cases e;done)
  | (split at e<;>(cases e;first|(rename_i d;rw[d];exact mC h)|exact mD (by assumption) h))
  | (cases e;first|exact A9m h|exact qJ h|exact A9n h|exact A5Q h|exact A2e h|exact H5 h|exact lZ h|exact eX h|exact eY h|exact lY h|exact l0 h|exact l9 h)
theorem Yv:∀(m:Nat) {n:qI} {k:List DU},Ev c R (WC m n k).1 (WC m n k).2 σ->Ev c R n k σ
 | 0,_,_,h=>h
 | m+1,n,k,h=>by
  unfold WC at h;split at h
  .rename_i b a e;exact fX e (Yv m h)
  exact h
theorem eS {n b:qI} {k a:List DU} (e:q9 n k=some (b,a)) (h:Ev c R b a σ):Ev c R n k σ:=by grind [q9,fX,Yv]
end
inductive RX (c:Cx) (lv:List Nat) (σ:St) (vc:Prop) (σ':St):Array Oper->Bool->Prop
 | p {l:List Oper} (h0:(l.all λo=>o.guard.isNone)=true) (h:Df lv (Bn c.tb l l σ)=some (vc,σ')):RX c lv σ vc σ' l.toArray false
 | a {l:List Oper} (h0:mF l l.length=true) (h:Df lv (L4 c.tb l true σ.objs [] l 0 [] [] σ)=some (vc,σ')):RX c lv σ vc σ' l.toArray false
 | d {l:List Oper} (h0:QH l l.length=true) (hm:c.P.follows .mixedOrders=true) (h:Df lv (L4 c.tb l false σ.objs [] l 0 [] [] σ)=some (vc,σ')):RX c lv σ vc σ' l.toArray true
 | t {l:List Oper} (m:Nat) (h0:QH l (l.take (l.length-m)).length=true) (hm:c.P.follows .mixedOrders=true) (h:Df lv (L4 c.tb l false σ.objs (l.drop (l.length-m)) (l.take (l.length-m)) 0 [] [] σ)=some (vc,σ')):RX c lv σ vc σ' l.toArray true
theorem AAG {c:Cx} {R:Exit->Act->World->Prop} {k:List DU} {σ σ':St} {b:List Nat} (e:c.Ok) {id:Nat} {ops:Array Oper} {i:Bool} {vc:Prop} (f:vc) (hk:Ev c R (.out .normal) k σ') (h:RX c b σ vc σ' ops i):Ev c R (.run (.region id ops i)) k σ:=by
 cases h with
 | p h0 h=>exact L8 b e h0 h f hk
 | a h0 h=>exact TW b e h0 h f hk
 | d h0 g h=>exact A03 b g e h0 h f hk
 | t m h0 g h=>exact A04 b m g e h0 h f hk
theorem rX {c:Cx} {R:Exit->Act->World->Prop} {k:List DU} {σ σ':St} (e:c.Ok) {id:Nat} {ops:Array Oper} {b:Bool} {vc:Prop} (f:vc) (hk:Ev c R (.out .normal) k σ')
  (h:RX c c.tb.live σ vc σ' ops b:=by
   first
   | exact .p rfl (by simp only[go_sem,Nat.reduceEqDiff,reduceCtorEq,Nat.reduceAdd,Nat.reduceSub,Nat.reduceMul,Nat.reduceLeDiff,Nat.reduceLT,Int.reduceLE,Int.reduceToNat,Int.reduceNeg,↓reduceIte];rfl)
   | exact .a (by kernel_rfl) (by simp only[go_sem,Nat.reduceEqDiff,reduceCtorEq,Nat.reduceAdd,Nat.reduceSub,Nat.reduceMul,Nat.reduceLeDiff,Nat.reduceLT,Int.reduceLE,Int.reduceToNat,Int.reduceNeg,↓reduceIte];rfl)
   | exact .d (by kernel_rfl) (by exact drawsAny) (by simp only[go_sem,Nat.reduceEqDiff,reduceCtorEq,Nat.reduceAdd,Nat.reduceSub,Nat.reduceMul,Nat.reduceLeDiff,Nat.reduceLT,Int.reduceLE,Int.reduceToNat,Int.reduceNeg,↓reduceIte];rfl)
   | exact .t 1 (by kernel_rfl) (by exact drawsAny) (by simp only[ADw,AE9,ADl,To,go_sem,Nat.reduceEqDiff,reduceCtorEq,Nat.reduceAdd,Nat.reduceSub,Nat.reduceMul,Nat.reduceLeDiff,Nat.reduceLT,Int.reduceLE,Int.reduceToNat,Int.reduceNeg,↓reduceIte];rfl)
   | exact .t 2 (by kernel_rfl) (by exact drawsAny) (by simp only[ADw,AE9,ADl,To,go_sem,Nat.reduceEqDiff,reduceCtorEq,Nat.reduceAdd,Nat.reduceSub,Nat.reduceMul,Nat.reduceLeDiff,Nat.reduceLT,Int.reduceLE,Int.reduceToNat,Int.reduceNeg,↓reduceIte];rfl)
   | exact .t 3 (by kernel_rfl) (by exact drawsAny) (by simp only[ADw,AE9,ADl,To,go_sem,Nat.reduceEqDiff,reduceCtorEq,Nat.reduceAdd,Nat.reduceSub,Nat.reduceMul,Nat.reduceLeDiff,Nat.reduceLT,Int.reduceLE,Int.reduceToNat,Int.reduceNeg,↓reduceIte];rfl)):Ev c R (.run (.region id ops b)) k σ:=AAG e f hk h
theorem eN {p:Prop} (h:p:=by simp only[go_sem,Nat.reduceEqDiff,reduceCtorEq,Nat.reduceAdd,Nat.reduceSub,Nat.reduceMul,Nat.reduceLeDiff,Nat.reduceLT,Int.reduceLE,Int.reduceToNat,Int.reduceNeg,↓reduceIte]<;>fail):p:=h
theorem eM {p q:Prop} (a:q) (h:p=q:=by simp only[go_sem,Nat.reduceEqDiff,reduceCtorEq,Nat.reduceAdd,Nat.reduceSub,Nat.reduceMul,Nat.reduceLeDiff,Nat.reduceLT,Int.reduceLE,Int.reduceToNat,Int.reduceNeg,↓reduceIte];rfl):p:=h▸a
theorem eR {p:Prop} (h:p:=by simp only[Nw,Nv,Kv,Ku,M7,Ja,Jv,go_sem,Nat.reduceEqDiff,reduceCtorEq,Nat.reduceAdd,Nat.reduceSub,Nat.reduceMul,Nat.reduceLeDiff,Nat.reduceLT,Int.reduceLE,Int.reduceToNat,Int.reduceNeg,↓reduceIte]<;>fail):p:=h
theorem Yw {p q:Prop} (a:q) (h:p=q:=by simp only[Nw,Nv,Kv,Ku,M7,Ja,Jv,go_sem,Nat.reduceEqDiff,reduceCtorEq,Nat.reduceAdd,Nat.reduceSub,Nat.reduceMul,Nat.reduceLeDiff,Nat.reduceLT,Int.reduceLE,Int.reduceToNat,Int.reduceNeg,↓reduceIte];rfl):p:=h▸a
theorem eV {p:Prop} (h:p:=by (try dsimp only[Ty.den]at *)<;>(repeat'(first|apply And.intro|intro _))<;>omega):p:=h
end
section
open Go Go.RowKit
section
variable {c:Cx} {R:Exit->Act->World->Prop} {k:List DU} {σ σ':St}
theorem A2J (d:c.Ok) {id:Nat} {l:List Oper} (n:Nat) {vc:Prop} (h:Bn c.tb l (l.take n) σ=some (vc,σ')) (f:vc) (hk:Nh c R k l.toArray (l.drop n) σ') :
  Ev c R (.run (.region id l.toArray false)) k σ:=by
 intro h1 b a w hs;simp only[H0,Bl,ON]at h1;exact AET (QM d n (by simpa using h) f hk (λo e=>h1 o e) b a w hs)
theorem A0g (F:c.Ok) {ops:Array Oper} {rest:List Oper} {dst:Option Nat} {g:Operand} {xs:List Operand} {ts:Array TypeId} {ty:TypeId} {pos:String} {after:Array Edge} {i:Option (Nat×Bool)}
  (H:Er ops.toList σ i=some true)
  {f:FuncId} {j:List Nat} (G:DL (Ap σ g)=some (f,j)) {as:List AV} (E:Im σ xs=some as)
  {A:List AV} {objs:List (Nat×Obj)} {stay:List Nat} {post:AV->List (Nat×Obj)->Prop} (C:A9 c.P f A objs stay post)
  (ren:List (Nat×B1)) (hs:List Nat) (h1:B8 ren=true) (y:CO objs ren=true) (K:(c.ds.pin.all λp=>!Aa p.1 hs)=true) (z:BJ σ ren (as++j.map λn=>AV.bp n [] 0) A) (D:Ad σ.objs ren objs)
  (hk:∀res e,post res e->∃(b:List (Nat×B1)) (h:AV) (d:List (Nat×Obj)),B8 b=true/\CO d b=true/\Ad e b d/\Bi b res h /\
   JD ren b stay hs=true/\FK (Aj ren) d σ.objs=true/\Nh c R k ops rest (CP σ (Aj ren) hs dst h d)) :
  Nh c R k ops (⟨dst,.call ⟨.value g,xs.toArray,ts⟩,ty,pos,after,i⟩ :: rest) σ:=by
 intro l I a w m;unfold wpListIn;rw[BY (Hc (o:=⟨dst,.call ⟨.value g,xs.toArray,ts⟩,ty,pos,after,i⟩) m H)];refine aW F (xs:=xs) (ts:=ts) rfl rfl G E C ren h1 y z D hs K m (Cr (l _ (by simp))) λres e hp=>?_;obtain⟨b,h,d,r,s,t,u,v,x,B⟩:=hk res e hp;exact⟨b,h,d,r,s,t,u,v,x,λq w' L=>B (λo J=>l o (by simp[J])) I q w' L⟩
end
end
section
open Go Go.RowKit
section
variable {c:Cx} {ops:List Oper} {Kf:St->Prop} {τ:St} {ens:EN} {vc:Prop}
theorem KX {A D:List Nat} {l:Nat} {b:List (List Nat×Nat)} {o:Oper} {d:St} {a:EN} (j:vc) (e:YI c o d a (λm=>Mix c ops Kf b D a m)) (h:mM c.tb ops τ.objs (A++qs b D) [] τ.env=some (vc,ens):=by simp only[go_sem,Nat.reduceEqDiff,reduceCtorEq,Nat.reduceAdd,Nat.reduceSub,Nat.reduceMul,Nat.reduceLeDiff,Nat.reduceLT,Int.reduceLE,Int.reduceToNat,Int.reduceNeg,↓reduceIte];rfl) (g:R1 ens τ.objs=true:=by rfl) (i:ops[l]?=some o:=by rfl)
  (k:L9 (ens.take A.length) τ=d:=by simp only[go_sem,Nat.reduceEqDiff,reduceCtorEq,Nat.reduceAdd,Nat.reduceSub,Nat.reduceMul,Nat.reduceLeDiff,Nat.reduceLT,Int.reduceLE,Int.reduceToNat,Int.reduceNeg,↓reduceIte];rfl) (f:ens.drop A.length=a:=by simp only[go_sem,Nat.reduceEqDiff,reduceCtorEq,Nat.reduceAdd,Nat.reduceSub,Nat.reduceMul,Nat.reduceLeDiff,Nat.reduceLT,Int.reduceLE,Int.reduceToNat,Int.reduceNeg,↓reduceIte];rfl):Mix c ops Kf ((A,l) :: b) D ens τ:=A2G h j g i k f e
theorem Re {R:Exit->Act->World->Prop} {k:List DU} {σ':St} (d:c.Ok) {D:List Nat} {l:List Oper} {a:Prop} (f:vc) (g:a) (hk:Ev c R (.out .normal) k σ') (h:mM c.tb ops τ.objs D [] τ.env=some (vc,ens):=by simp only[go_sem,Nat.reduceEqDiff,reduceCtorEq,Nat.reduceAdd,Nat.reduceSub,Nat.reduceMul,Nat.reduceLeDiff,Nat.reduceLT,Int.reduceLE,Int.reduceToNat,Int.reduceNeg,↓reduceIte];rfl) (e:R1 ens τ.objs=true:=by rfl)
  (b:Df c.tb.live (Bn c.tb ops l (L9 ens τ))=some (a,σ'):=by simp only[go_sem,Nat.reduceEqDiff,reduceCtorEq,Nat.reduceAdd,Nat.reduceSub,Nat.reduceMul,Nat.reduceLeDiff,Nat.reduceLT,Int.reduceLE,Int.reduceToNat,Int.reduceNeg,↓reduceIte];rfl):Mix c ops (fun τ=>Nh c R k ops.toArray l τ) [] D ens τ:=A2F h f e (IE _ d b g hk)
end
section
variable {c:Cx} {o:Oper} {σ:St} {ens:EN} {N:St->Prop} {R:Exit->Act->World->Prop} {k:List DU} {σ':St}
theorem NJ (b:c.Ok) {τ:St} {vc:Prop} (ns:List Nat) (i:vc) (a:N τ) (h:Hw c.tb o σ=some (vc,τ):=by simp only[go_sem,Nat.reduceEqDiff,reduceCtorEq,Nat.reduceAdd,Nat.reduceSub,Nat.reduceMul,Nat.reduceLeDiff,Nat.reduceLT,Int.reduceLE,Int.reduceToNat,Int.reduceNeg,↓reduceIte];rfl) (f:tn σ o.op=ns:=by simp only[go_sem,Nat.reduceEqDiff,reduceCtorEq,Nat.reduceAdd,Nat.reduceSub,Nat.reduceMul,Nat.reduceLeDiff,Nat.reduceLT,Int.reduceLE,Int.reduceToNat,Int.reduceNeg,↓reduceIte]) (g:MD o ens=true:=by rfl) (hn:II ns σ.objs ens=true:=by rfl) (e:TY τ.objs ens=true:=by rfl)
  (hf:HV ns ens=ens:=by simp only[go_sem,Nat.reduceEqDiff,reduceCtorEq,Nat.reduceAdd,Nat.reduceSub,Nat.reduceMul,Nat.reduceLeDiff,Nat.reduceLT,Int.reduceLE,Int.reduceToNat,Int.reduceNeg,↓reduceIte]) (d:I8 c.nt o=true:=by rfl):YI c o σ ens N:=Yu b ns h f g hn e hf d i a
theorem mxF (m:Nat) (d:c.Ok) {τ a:St} {vc:Prop} (ns:List Nat) (l:vc) (b:N a) (h:Hw c.tb o σ=some (vc,τ):=by simp only[go_sem,Nat.reduceEqDiff,reduceCtorEq,Nat.reduceAdd,Nat.reduceSub,Nat.reduceMul,Nat.reduceLeDiff,Nat.reduceLT,Int.reduceLE,Int.reduceToNat,Int.reduceNeg,↓reduceIte];rfl) (j:tn σ o.op=ns:=by simp only[go_sem,Nat.reduceEqDiff,reduceCtorEq,Nat.reduceAdd,Nat.reduceSub,Nat.reduceMul,Nat.reduceLeDiff,Nat.reduceLT,Int.reduceLE,Int.reduceToNat,Int.reduceNeg,↓reduceIte]) (k:MD o ens=true:=by rfl) (hn:II ns σ.objs ens=true:=by rfl) (g:TY τ.objs ens=true:=by rfl)
  (hf:HV ns ens=ens:=by simp only[go_sem,Nat.reduceEqDiff,reduceCtorEq,Nat.reduceAdd,Nat.reduceSub,Nat.reduceMul,Nat.reduceLeDiff,Nat.reduceLT,Int.reduceLE,Int.reduceToNat,Int.reduceNeg,↓reduceIte]) (e:I8 c.nt o=true:=by rfl) (i:II [m] τ.objs ens=true:=by rfl) (f:HV [m] ens=ens:=by simp only[go_sem,Nat.reduceEqDiff,reduceCtorEq,Nat.reduceAdd,Nat.reduceSub,Nat.reduceMul,Nat.reduceLeDiff,Nat.reduceLT,Int.reduceLE,Int.reduceToNat,Int.reduceNeg,↓reduceIte]) (n:frz m τ=a:=by simp only[go_sem,Nat.reduceEqDiff,reduceCtorEq,Nat.reduceAdd,Nat.reduceSub,Nat.reduceMul,Nat.reduceLeDiff,Nat.reduceLT,Int.reduceLE,Int.reduceToNat,Int.reduceNeg,↓reduceIte];rfl):YI c o σ ens N:=A2E m (Yu d ns h j k hn g hf e l rfl) i f n b
theorem mxC (o:c.Ok) {dst:Option Nat} {g:Operand} {xs:List Operand} {ts:Array TypeId} {ty:TypeId} {pos:String} {after:Array Edge} {f:FuncId} {d:List Nat} {as:List AV}
  {A:List AV} {objs:List (Nat×Obj)} {stay:List Nat} {post:AV->List (Nat×Obj)->Prop} (k:A9 c.P f A objs stay post) (ren:List (Nat×B1)) (hs:List Nat)
  (j:BJ σ ren (as++d.map λn=>AV.bp n [] 0) A) (l:Ad σ.objs ren objs)
  (hk:∀res e,post res e->∃(b:List (Nat×B1)) (h:AV) (a:List (Nat×Obj)),B8 b=true/\CO a b=true/\Ad e b a/\Bi b res h /\
   JD ren b stay hs=true/\FK (Aj ren) a σ.objs=true/\TY a ens=true/\N (CP σ (Aj ren) hs dst h a))
  (r:DL (Ap σ g)=some (f,d):=by simp only[go_sem,Nat.reduceEqDiff,reduceCtorEq,Nat.reduceAdd,Nat.reduceSub,Nat.reduceMul,Nat.reduceLeDiff,Nat.reduceLT,Int.reduceLE,Int.reduceToNat,Int.reduceNeg,↓reduceIte];rfl) (m:Im σ xs=some as:=by simp only[go_sem,Nat.reduceEqDiff,reduceCtorEq,Nat.reduceAdd,Nat.reduceSub,Nat.reduceMul,Nat.reduceLeDiff,Nat.reduceLT,Int.reduceLE,Int.reduceToNat,Int.reduceNeg,↓reduceIte];rfl) (h1:B8 ren=true:=by rfl) (i:CO objs ren=true:=by rfl) (s:(c.ds.pin.all λp=>!Aa p.1 hs)=true:=by rfl)
  (t:MD ⟨dst,.call ⟨.value g,xs.toArray,ts⟩,ty,pos,after,none⟩ ens=true:=by rfl) (hn:II (Aj ren) σ.objs ens=true:=by rfl) (hf:HV hs ens=ens:=by simp only[go_sem,Nat.reduceEqDiff,reduceCtorEq,Nat.reduceAdd,Nat.reduceSub,Nat.reduceMul,Nat.reduceLeDiff,Nat.reduceLT,Int.reduceLE,Int.reduceToNat,Int.reduceNeg,↓reduceIte]) (q:I8 c.nt ⟨dst,.call ⟨.value g,xs.toArray,ts⟩,ty,pos,after,none⟩=true:=by rfl) :
  YI c ⟨dst,.call ⟨.value g,xs.toArray,ts⟩,ty,pos,after,none⟩ σ ens N:=A0c o r m k ren hs h1 i s t hn hf q j l hk
theorem evP (a:c.Ok) {id:Nat} {l:List Oper} (n:Nat) {vc:Prop} (b:vc) (hk:Nh c R k l.toArray (l.drop n) σ') (h:Bn c.tb l (l.take n) σ=some (vc,σ'):=by simp only[ADw,ADl,go_sem,Nat.reduceEqDiff,reduceCtorEq,Nat.reduceAdd,Nat.reduceSub,Nat.reduceMul,Nat.reduceLeDiff,Nat.reduceLT,Int.reduceLE,Int.reduceToNat,Int.reduceNeg,↓reduceIte];rfl):Ev c R (.run (.region id l.toArray false)) k σ:=A2J a n h b hk
theorem clG (r:c.Ok) {ops:Array Oper} {rest:List Oper} {dst:Option Nat} {g:Operand} {xs:List Operand} {ts:Array TypeId} {ty:TypeId} {pos:String} {after:Array Edge} {e:Option (Nat×Bool)} {f:FuncId} {d:List Nat} {as:List AV}
  {A:List AV} {objs:List (Nat×Obj)} {stay:List Nat} {post:AV->List (Nat×Obj)->Prop} (m:A9 c.P f A objs stay post) (ren:List (Nat×B1)) (hs:List Nat) (l:BJ σ ren (as++d.map λn=>AV.bp n [] 0) A) (o:Ad σ.objs ren objs)
  (hk:∀res h,post res h->∃(a:List (Nat×B1)) (i:AV) (b:List (Nat×Obj)),B8 a=true/\CO b a=true/\Ad h a b/\Bi a res i /\
   JD ren a stay hs=true/\FK (Aj ren) b σ.objs=true/\Nh c R k ops rest (CP σ (Aj ren) hs dst i b))
  (t:Er ops.toList σ e=some true:=by simp only[go_sem,Nat.reduceEqDiff,reduceCtorEq,Nat.reduceAdd,Nat.reduceSub,Nat.reduceMul,Nat.reduceLeDiff,Nat.reduceLT,Int.reduceLE,Int.reduceToNat,Int.reduceNeg,↓reduceIte]) (s:DL (Ap σ g)=some (f,d):=by simp only[go_sem,Nat.reduceEqDiff,reduceCtorEq,Nat.reduceAdd,Nat.reduceSub,Nat.reduceMul,Nat.reduceLeDiff,Nat.reduceLT,Int.reduceLE,Int.reduceToNat,Int.reduceNeg,↓reduceIte];rfl) (q:Im σ xs=some as:=by simp only[go_sem,Nat.reduceEqDiff,reduceCtorEq,Nat.reduceAdd,Nat.reduceSub,Nat.reduceMul,Nat.reduceLeDiff,Nat.reduceLT,Int.reduceLE,Int.reduceToNat,Int.reduceNeg,↓reduceIte];rfl) (h1:B8 ren=true:=by rfl) (j:CO objs ren=true:=by rfl) (u:(c.ds.pin.all λp=>!Aa p.1 hs)=true:=by rfl) :
  Nh c R k ops (⟨dst,.call ⟨.value g,xs.toArray,ts⟩,ty,pos,after,e⟩ :: rest) σ:=A0g r t s q m ren hs h1 j u l o hk
theorem F0 (l:List Nat) {n:qI} {a:St} (hk:Ev c R n k a) (h:DG l σ=a:=by simp only[go_sem,Nat.reduceEqDiff,reduceCtorEq,Nat.reduceAdd,Nat.reduceSub,Nat.reduceMul,Nat.reduceLeDiff,Nat.reduceLT,Int.reduceLE,Int.reduceToNat,Int.reduceNeg,↓reduceIte];rfl):Ev c R n k σ:=Ev.ent hk (qN l h λ_ _ h=>h)
theorem AAI (l:List Nat) {a:St} (b:Ent c a σ') (h:DG l σ=a:=by simp only[go_sem,Nat.reduceEqDiff,reduceCtorEq,Nat.reduceAdd,Nat.reduceSub,Nat.reduceMul,Nat.reduceLeDiff,Nat.reduceLT,Int.reduceLE,Int.reduceToNat,Int.reduceNeg,↓reduceIte];rfl):Ent c σ σ':=qN l h b
end
theorem eW {c:Cx} {σ σ':St} (ren:List (Nat×B1)) (h1:B8 ren=true:=by rfl) (a:CO σ'.objs ren=true:=by rfl) (d:Ad σ.objs ren σ'.objs:=by exact eN) (b:FF σ.env ren σ'.env:=by exact eN) (hp:A9o c.ds.pin ren=true:=by rfl):Ent c σ σ':=AC ren h1 a d b hp
theorem eT {p:Prop} (h:p:=by simp only[TV,A02,Rz,Ym,Kv,Ku,Ja,go_sem,Nat.reduceEqDiff,reduceCtorEq,Nat.reduceAdd,Nat.reduceSub,Nat.reduceMul,Nat.reduceLeDiff,Nat.reduceLT,Int.reduceLE,Int.reduceToNat,Int.reduceNeg,↓reduceIte]<;>fail):p:=h
section
variable {P:Program} {ty:List (Nat×TI)} {fs:List (Nat×AZ)} {nt:Nat} {f:FuncId} {fn:Func} {cd:Code}
theorem fKP (a b:List Nat) (ne:List (Nat×TypeId)) {sp:AZ} (e:P.funcs[f]?=some fn) (j:fn.ntmps=nt) (hF:Iz P ⟨ty,fs,b,ne,a⟩)
  (h:∀(w0:World) (O0:Nat->Prop) (ds:Ka sp.ins),(cx P ⟨ty,fs,b,ne,a⟩ w0 O0 nt).Ok->oks sp.ins ds->sp.pre ds->Ev (cx P ⟨ty,fs,b,ne,a⟩ w0 O0 nt) (Va P fn w0 O0 (sp.out ds)) (.run cd) [] ⟨AM 0 sp.ins ds,[]⟩)
  (c : fn.body = some cd := by rfl) (hT : DH P ⟨ty, fs, b, ne, a⟩ := by exact tyTab_ok _ _ _ _) (i : (fn.name == "runtime.NumGoroutine") = false := by kernel_rfl) (g : sp.ins.length <= nt := by decide) (d : Bl nt cd = true := by kernel_rfl) : Af P f sp := A8J e i c j g d hT hF h
theorem fK (a:List Nat) {sp:AZ} (d:P.funcs[f]?=some fn) (i:fn.ntmps=nt) (hF:Iz P ⟨ty,fs,[],[],a⟩)
  (h:∀(w0:World) (O0:Nat->Prop) (ds:Ka sp.ins),(cx P ⟨ty,fs,[],[],a⟩ w0 O0 nt).Ok->oks sp.ins ds->sp.pre ds->Ev (cx P ⟨ty,fs,[],[],a⟩ w0 O0 nt) (Va P fn w0 O0 (sp.out ds)) (.run cd) [] ⟨AM 0 sp.ins ds,[]⟩)
  (b : fn.body = some cd := by rfl) (hT : DH P ⟨ty, fs, [], [], a⟩ := by exact tyTab_ok _ _ _ _) (g : (fn.name == "runtime.NumGoroutine") = false := by kernel_rfl) (e : sp.ins.length <= nt := by decide) (c : Bl nt cd = true := by kernel_rfl) : Af P f sp := A8J d g b i e c hT hF h
variable {args:List AV} {objs:List (Nat×Obj)} {stay:List Nat} {post:AV->List (Nat×Obj)->Prop}
theorem KY (a b:List Nat) (ne:List (Nat×TypeId)) (e:P.funcs[f]?=some fn) (k:fn.ntmps=nt) (hF:Iz P ⟨ty,fs,b,ne,a⟩)
  (h:∀(w0:World) (K O0:Nat->Prop) (ρ0:Nat->Value),(cm P ⟨ty,fs,b,ne,a⟩ w0 K O0 nt (stay.map λn=>(n,ρ0 n))).Ok->QP args->Od objs ->
   Ev (cm P ⟨ty,fs,b,ne,a⟩ w0 K O0 nt (stay.map λn=>(n,ρ0 n))) (A5U P fn w0 K O0 stay ρ0 post) (.run cd) [] ⟨Ak 0 args,objs⟩)
  (c : fn.body = some cd := by rfl) (hT : DH P ⟨ty, fs, b, ne, a⟩ := by exact tyTab_ok _ _ _ _) (j : (fn.name == "runtime.NumGoroutine") = false := by kernel_rfl) (i : args.length <= nt := by simp only [No, AAg]; omega) (d : Bl nt cd = true := by kernel_rfl) (l : stay.all (TT objs) = true := by rfl) (g : Ly objs = true := by rfl) : A9 P f args objs stay post := A9v e j c k i d l g hT hF h
theorem fKR (a b:List Nat) (ne:List (Nat×TypeId)) (e:P.funcs[f]?=some fn) (k:fn.ntmps=nt) (hF:Iz P ⟨ty,fs,b,ne,a⟩)
  (h:∀(w0:World) (K O0:Nat->Prop) (ρ0:Nat->Value),(cm P ⟨ty,fs,b,ne,a⟩ w0 K O0 nt (stay.map λn=>(n,ρ0 n))).Ok->QP args->Od objs ->
   Ev (cm P ⟨ty,fs,b,ne,a⟩ w0 K O0 nt (stay.map λn=>(n,ρ0 n))) (qY P fn w0 K O0 stay ρ0 post) (.run cd) [] ⟨Ak 0 args,objs⟩)
  (c : fn.body = some cd := by rfl) (hT : DH P ⟨ty, fs, b, ne, a⟩ := by exact tyTab_ok _ _ _ _) (j : (fn.name == "runtime.NumGoroutine") = false := by kernel_rfl) (i : args.length <= nt := by simp only [No, AAg]; omega) (d : Bl nt cd = true := by kernel_rfl) (l : stay.all (TT objs) = true := by rfl) (g : Ly objs = true := by rfl) : A9 P f args objs stay post := A5Z e j c k i d l g hT hF h
end
theorem fI {P:Program} {tb:Tb} {w0:World} {O0:Nat->Prop} {nt:Nat} (b:(cx P tb w0 O0 nt).Ok) {fn:Func} {outs:List RV} {σ:St} {e:Exit} (a:List ResultVar) (h:Nw tb σ a outs:=by exact eR) (f:fn.results.toList=a:=by rfl) (c:e=.ret\/e=.normal:=by exact .inl rfl) (hp:∀r∈outs,∃t d,r=.p t d:=by simp) :
  Ev (cx P tb w0 O0 nt) (Va P fn w0 O0 outs) (.out e) [] σ:=A9t b a f c hp h
theorem fM {P:Program} {tb:Tb} {w0:World} {K O0:Nat->Prop} {nt:Nat} {stay:List Nat} {ρ0:Nat->Value} {fn:Func} {post:AV->List (Nat×Obj)->Prop} {σ:St} {e:Exit} (b:(cm P tb w0 K O0 nt (stay.map λn=>(n,ρ0 n))).Ok)
  (a:List ResultVar) (res:AV) (h:TV tb σ a res) (hp:post res σ.objs) (d:fn.results.toList=a:=by rfl) (c:e=.ret\/e=.normal:=by first|exact .inl rfl|exact .inr rfl) :
  Ev (cm P tb w0 K O0 nt (stay.map λn=>(n,ρ0 n))) (A5U P fn w0 K O0 stay ρ0 post) (.out e) [] σ:=A5V b a d c res h hp
end
section
open Go Go.RowKit
structure A2K (X σ:St) (n:Nat):Prop where
 env:∀s v,lk s X.env=some v->v.trn n []=v
 arr:∀m o,lk m X.objs=some o->MB o=true
 new:∀m o,lk m X.objs=some o->lk m σ.objs=none
 nm:∀m o,lk m X.objs=some o->m≠n
section
variable {σ σ' X:St} {n:Nat}
theorem A2K.obs (hx:Rd σ σ' X) (ha:A2K X σ n):dU σ σ':=by
 intro m o hn;rw[hx.objs];cases a:lk m X.objs with
 | none=>exact hn
 | some b=>rw[ha.new m b a]at hn;cases hn
def AAJ (σ:St):Op->Option Nat
 | .call c=>match c.callee,c.args.toList,c.argTypes.toList with
  | .builtin .append,[x,_],[_,_]=>(match Ap σ x with|some (.nin n _ _ _)=>some n|_=>none)
  | _,_,_=>none
 | _=>none
end
def A2L (n:Nat):EN->EN
 | []=>[]
 | (d,v,obs) :: r=>(d,v.trn n [],obs) :: A2L n r
section
variable {c:Cx} {o:Oper} {σ:St} {ens:EN} {N:St->Prop}
end
end
section
open Go Go.RowKit
section
variable {P:Program} {tb:Tb} {w0:World} {K O0:Nat->Prop} {nt:Nat} {ds:Fp} {σ:St} {ρ:Nat->Value} {a:Act} {w:World}
end
section
variable {c:Cx} {R:Exit->Act->World->Prop} {k:List DU} {σ:St}
end
end
section
open Go Go.RowKit
section
variable {c:Cx} {R:Exit->Act->World->Prop} {k:List DU} {σ σ':St}
end
theorem CS {p:Prop} (h:p:=by first|exact trivial|((try dsimp only[Ty.den])<;>(repeat'(first|apply And.intro|intro _))<;>omega)|((try dsimp only[Ty.den]at *)<;>(repeat'(first|apply And.intro|intro _))<;>omega)):p:=h
end
section
open Go Go.RowKit
section
variable {c:Cx} {R:Exit->Act->World->Prop} {k:List DU} {σ σ':St}
def mT (a b:Ty) (k:a.den):List (a.den×b.den)->List (a.den×b.den)
 | []=>[]
 | x :: r=>if Ik a k x.1=true then r else x :: mT a b k r
end
end
section
open Go Go.RowKit
section
variable {c:Cx} {R:Exit->Act->World->Prop} {k:List DU} {σ σ':St}
end
end
section
open Go Go.RowKit
section
variable {c:Cx} {σ:St} {ens:EN} {N:St->Prop}
end
end
section
open Go Go.RowKit
section
variable {c:Cx} {R:Exit->Act->World->Prop} {k:List DU} {σ:St}
end
end
section
open Go Go.RowKit
def siB (P:Program) (b:IntKind) (id:TypeId):Option TypeDesc->Bool
 | some (.struct ⟨[a, c]⟩) => (a.name != "_") && (c.name != "_") && a.offset == 0 && c.offset == 1 && (match P.underlying a.type with | some .string => true | _ => false) && isI b (P.underlying c.type) && P.stoodInHeld id == false && !(P.eqGuardType P.depth id)
 | _=>false
theorem A2M {P:Program} {b:IntKind} {id:TypeId} (h:siB P b id (P.underlying id)=true) (w:World) (i k:ByteArray) (j l:Int) :
  (binOp .eql id (.agg #[.string i,.int b j]) (.agg #[.string k,.int b l])).run P w=.ok (.bool (Ac i k&&(j==l))) w/\∀x y:Operand,∀u v:Array Value,(eqGuard .eql id x y (.agg u) (.agg v)).run P w=.ok () w:=by
 unfold siB at h;split at h
 .rename_i a f hu;simp only[An,S1,AEY,RH]at h;obtain⟨⟨⟨⟨⟨⟨⟨h1,p⟩,q⟩,r⟩,d⟩,g⟩,s⟩,t⟩:=h;have d:P.underlying a.type=some .string:=by
   split at d
   .assumption
   cases d
  have g:=VO g;have m:P.fieldsOf id=#[a,f]:=by simp[Program.fieldsOf,hu]
  refine⟨?_,λx y u v=>run_eqGuard_agg (P:=P) w .eql id x y u v t⟩;have z:P.plainKey a.type=true:=by simp[Program.plainKey,d]
  have A:P.plainKey f.type=true:=by simp[Program.plainKey,g]
  have B:∀x y:ByteArray,(Op.equalIn 9999 a.type (.string x) (.string y)).run P w=.ok (x.toList==y.toList) w:=λx y=>run_equalIn_string w 9998 _ x y d;have n:∀x y:Int,(Op.equalIn 9999 f.type (.int b x) (.int b y)).run P w=.ok (x==y) w:=λx y=>Lv g 9998 x y;have e:(Op.equalIn 10000 id (.agg #[.string i,.int b j]) (.agg #[.string k,.int b l])).run P w=_:=run_equalIn_struct (P:=P) w 9999 id _ _ (by rw[m];exact hu) s;rw[run_eql_struct,e,m];have p0:=λ(u v:Value)=>AES (P:=P) w z (xs:=#[u,v]) (off:=a.offset) (v:=u) (by rw[q];rfl);have o:=λ(u v:Value)=>AES (P:=P) w A (xs:=#[u,v]) (off:=f.offset) (v:=v) (by rw[r];rfl);unfold Ac;simp only[Op.eqFields,h1,p,ne_eq,not_false_eq_true,ADv,ADx,p0,o,iF,B,n];by_cases c:i.toList=k.toList
  .by_cases c2:j=l<;>simp[c,c2,AFx,ADx,o,n,Op.eqFields]
  simp[c,AFx]
 cases h
theorem rB {w:World} {O:Nat->Prop} {b:IntKind} {v:Value} {d:(Ty.agg (.prod .str (.int b))).den} (h:BR w O (.agg (.prod .str (.int b))) v d):v=.agg #[.string d.1,.int b d.2]:=by
 obtain⟨cs,⟨c1,c2,rfl,⟨rfl,_⟩,⟨rfl,_⟩⟩,rfl⟩:=h;rfl
section
variable {c:Cx} {R:Exit->Act->World->Prop} {k:List DU} {σ σ':St}
theorem ADQ (m:c.Ok) {ops:Array Oper} {rest:List Oper} {d:Nat} {t F:TypeId} {x y:Operand} {ty:TypeId} {pos:String} {after:Array Edge} {j:IntKind} {xv s:AV} {b f:ByteArray×Int}
  (hp:siB c.P j t (c.P.underlying t)=true) (hk:Nh c R k ops rest ⟨(d,.p .bool (Ac b.1 f.1&&b.2==f.2)) :: σ.env,σ.objs⟩) (hx:Ap σ x=some xv:=by simp only[go_sem,Nat.reduceEqDiff,reduceCtorEq,Nat.reduceAdd,Nat.reduceSub,Nat.reduceMul,Nat.reduceLeDiff,Nat.reduceLT,Int.reduceLE,Int.reduceToNat,Int.reduceNeg,↓reduceIte];rfl) (E:Ap σ y=some s:=by simp only[go_sem,Nat.reduceEqDiff,reduceCtorEq,Nat.reduceAdd,Nat.reduceSub,Nat.reduceMul,Nat.reduceLeDiff,Nat.reduceLT,Int.reduceLE,Int.reduceToNat,Int.reduceNeg,↓reduceIte];rfl)
  (z:Mx false σ (.agg (.prod .str (.int j))) xv=some b:=by simp only[go_sem,Nat.reduceEqDiff,reduceCtorEq,Nat.reduceAdd,Nat.reduceSub,Nat.reduceMul,Nat.reduceLeDiff,Nat.reduceLT,Int.reduceLE,Int.reduceToNat,Int.reduceNeg,↓reduceIte];rfl) (A:Mx false σ (.agg (.prod .str (.int j))) s=some f:=by simp only[go_sem,Nat.reduceEqDiff,reduceCtorEq,Nat.reduceAdd,Nat.reduceSub,Nat.reduceMul,Nat.reduceLeDiff,Nat.reduceLT,Int.reduceLE,Int.reduceToNat,Int.reduceNeg,↓reduceIte];rfl) :
  Nh c R k ops (⟨some d,.binOp .eql t x y F,ty,pos,after,none⟩ :: rest) σ:=by
 intro n B a w D;unfold wpListIn;rw[BY (by simp[Region.wanted])];obtain⟨ρ,i⟩:=D;have q:Ha (vw w c.O0 σ ρ) σ a.eval:=Fv i.env;have H:d<c.nt:=Cr (n _ AAj) d rfl;have h1:=LU (V:=vw w c.O0 σ ρ) (O':=own c.O0 σ ρ) (λ_ h=>h) (λh=>by cases h) i.objs z (q x _ hx);have l:=LU (V:=vw w c.O0 σ ρ) (O':=own c.O0 σ ρ) (λ_ h=>h) (λh=>by cases h) i.objs A (q y _ E);have h1:a.eval x=.agg #[.string b.1,.int j b.2]:=rB h1;have l:a.eval y=.agg #[.string f.1,.int j f.2]:=rB l;obtain⟨r,g⟩:=A2M hp w b.1 f.1 b.2 f.2;have g:=g x y #[.string b.1,.int j b.2] #[.string f.1,.int j f.2];rw[<-h1,<-l]at r g;refine Aw (u:=.bool (Ac b.1 f.1&&b.2==f.2)) (w':=w) (by simp[execOp,g,r]) (hk (λo C=>n o (by simp[C])) B _ _ ⟨ρ,?_⟩);refine i.add m.K m.O (dst:=some d) (λG e=>by injection e with e;omega) (v:=.p .bool (Ac b.1 f.1&&b.2==f.2)) (obs:=[]) (ρ':=ρ) rfl (QS.still ?_);exact⟨[.bool (Ac b.1 f.1&&b.2==f.2)],rfl,rfl⟩
end
end
section
open Go Go.RowKit
theorem R5 {P:Program} {tb:Tb} {w0:World} {K O0:Nat->Prop} {nt:Nat} {stay:List Nat} {ρ0:Nat->Value} {fn:Func} {post:AV->List (Nat×Obj)->Prop} {σ:St} {e:Exit} (d:(cm P tb w0 K O0 nt (stay.map λn=>(n,ρ0 n))).Ok)
  (b:List ResultVar) (j:fn.results.toList=b) (g:e=.ret\/e=.normal) (res:AV) (h:TV tb σ b res) (hp:post res σ.objs) :
  Ev (cm P tb w0 K O0 nt (stay.map λn=>(n,ρ0 n))) (qY P fn w0 K O0 stay ρ0 post) (.out e) [] σ:=by
 intro _ _ a w hs;obtain⟨ρ,hs⟩:=hs;obtain⟨u,h1,c⟩:=Vl d.T hs (by rw[j];exact h);have i:L7 K O0 stay w0 ρ0 post u w:=by
  refine⟨res,σ.objs,ρ,hp,hs.frm,⟨hs.objs,hs.free,hs.dist⟩,c,λn hn=>?_⟩;exact(hs.pin (n,ρ0 n) (GO.2 ⟨n,hn,rfl⟩)).2.1
 have f:a.defers=[]:=hs.defers;have key:LeavesInM (FR none) 0 P fn a.tmps (λe w'=>∃u,e=.returned u/\L7 K O0 stay w0 ρ0 post u w') a.defers .returning w:=by
  rw[f];exact⟨u,h1,u,rfl,i⟩
 rcases g with rfl|rfl
 .exact key
 exact key
section
variable {c:Cx} {R:Exit->Act->World->Prop} {k:List DU} {σ σ':St}
theorem cG (n:Nat) (d:c.Ok) {id:Nat} {l:List Oper} {vc:Prop} (f:vc) (hk:Nh c R k l.toArray (l.drop n) σ') (h:Bn c.tb l (l.take n) σ=some (vc,σ'):=by simp only[ADw,ADl,go_sem,Nat.reduceEqDiff,reduceCtorEq,Nat.reduceAdd,Nat.reduceSub,Nat.reduceMul,Nat.reduceLeDiff,Nat.reduceLT,Int.reduceLE,Int.reduceToNat,Int.reduceNeg,↓reduceIte];rfl) :
  Ev c R (.run (.region id l.toArray false)) k σ:=by
 intro h1 b a w hs;simp only[H0,Bl,ON]at h1;exact AET (QM d n (by simpa using h) f hk (λo e=>h1 o e) b a w hs)
end
end
section
open Go Go.RowKit
theorem rD {O:Nat->Prop} {σ:St} {ρ ρ':Nat->Value} {b:Nat} (h:¬own O σ ρ b):¬own O ⟨[],[]⟩ ρ' b:=by
 rintro (q|⟨n,⟨o,a⟩,-⟩)
 .exact h (.inl q)
 cases a
theorem J9 {w:World} {O:Nat->Prop} {ρ:Nat->Value} {t:Ty} {v:Value} {d:t.den} (h:BR w O t v d):B3 (vw w O ⟨[],[]⟩ ρ) (.p t d) v:=by
 refine BR.mono (λb _ q=>?_) (λ_ _ _=>rfl) h;rintro (c|⟨n,⟨o,a⟩,-⟩)
 .exact q c
 cases a
theorem fY {w:World} {O:Nat->Prop} {σ:St} {ρ ρ':Nat->Value}:∀ {outs:List RV} {nm:Nat} {a:List Value},(∀r∈outs,∃t d,r=.p t d)->Hx (vw w O σ ρ) (Hr nm outs) a->Hx (vw w O ⟨[],[]⟩ ρ') (Hr nm outs) a
 | [],_,_,_,h=>h
 | r :: l,nm,a,hp,h=>by
  obtain⟨t,d,rfl⟩:=hp r (by simp);obtain⟨v,l',rfl,h1,c⟩:=h;exact⟨v,l',rfl,BR.mono (λb _ q=>rD q) (λ_ _ _=>rfl) (show BR _ _ t v d from h1),fY (λr e=>hp r (IF _ e)) c⟩
theorem Ta:∀ {outs:List RV} {nm:Nat},(∀r∈outs,∃t d,r=.p t d)->Cp nm outs=[]
 | [],_,_=>rfl
 | r :: l,nm,hp=>by
  obtain⟨t,d,rfl⟩:=hp r (by simp);exact Ta (outs:=l) (λr a=>hp r (IF _ a))
theorem WD:∀ {outs:List RV} {nm nm':Nat},(∀r∈outs,∃t d,r=.p t d)->Hr nm outs=Hr nm' outs
 | [],_,_,_=>rfl
 | r :: l,nm,nm',hp=>by
  obtain⟨t,d,rfl⟩:=hp r (by simp);show AV.p t d :: _=AV.p t d :: _;rw[WD (outs:=l) λr a=>hp r (IF _ a)]
theorem mU {w:World} {O:Nat->Prop} {σ:St} {ρ ρ':Nat->Value} {nm:Nat} {u:Value}:∀ {outs:List RV},(∀r∈outs,∃t d,r=.p t d)->B3 (vw w O σ ρ) (HS 0 outs) u->B3 (vw w O ⟨[],[]⟩ ρ') (HS nm outs) u
 | [],_,h=>h
 | [r],hp,h=>by
  obtain⟨t,d,rfl⟩:=hp r (by simp);exact BR.mono (λb _ q=>rD q) (λ_ _ _=>rfl) (show BR _ _ t u d from h)
 | r :: q :: l,hp,h=>by
  obtain⟨a,rfl,h1⟩:=h;refine⟨a,rfl,?_⟩;have h1:Hx (vw w O σ ρ) (Hr 0 (r :: q :: l)) a:=h1;rw[WD (nm':=nm) hp]at h1;exact fY hp h1
theorem N0 {P : Program} {f : FuncId} {sp : AZ} (hf : ∃ fn : Func, P.funcs[f]? = some fn /\ (fn.name == "runtime.NumGoroutine") = false /\ fn.body.isNone = false)
  (h:∀ds,sp.pre ds->∃args,(∀w O c,Pv w O sp.ins c ds->Il (vw w O ⟨[],[]⟩ λ_=>undef) args c)/\A9 P f args [] [] (λres _=>res=HS 0 (sp.out ds)))
  (hp:∀ds,∀r∈sp.out ds,∃t d,r=.p t d):Af P f sp:=by
 refine⟨hf,λw O c ds g x l=>?_⟩;obtain⟨args,ha,-,j⟩:=h ds l;have h1:=j w (λb=>b<w.heap.size) O (λ_=>undef) c (λb q=>q) g ⟨λn o q=>(by cases q),λn b q=>(by obtain⟨o,q⟩:=q;cases q),λn m b q=>(by obtain⟨o,q⟩:=q;cases q)⟩ (ha w O c x);refine h1.mono λe w' s=>?_;obtain⟨u,k,res,A,ρ',v,a,y,i,-⟩:=s;refine⟨u,k,λnm=>⟨λ_=>undef,?_⟩⟩;subst v;have hx:=mU (ρ':=λ_=>undef) (nm:=nm) (hp ds) i;rw[Ta (hp ds)];exact⟨⟨a.os,a.tape,a.output,a.size,λb q=>a.block b q⟩,λ_ _=>rfl,hx,λn o q=>(by cases q),λn o b q=>(by cases q),λn m o z b q=>(by cases q)⟩
end
end Go.Proofs.YtapkhdkbkodbjaaGreat.Fw
