/- Range over a function; scopes; several steps in one. -/
import Derived.Test.YtdapahgnpbehbaaGreatLZH
import Derived.RangeFuncFrom
import Derived.Scope
import Derived.Laws.IdiomRangeMap
import Derived.Laws.StructEq
set_option linter.unusedVariables false
set_option linter.unusedSimpArgs false
namespace Go.Proofs.YtdapahgnpbehbaaGreat.Fw
section
open Go Go.RowKit
theorem bR {V:Vw} {f:FuncId} {ns:List Nat} {v:Value} (h:B1 V (.clo f ns) v):v=.func (.func f) #[] (ns.map V.ρ).toArray∧JE V (ns.map fun n=>AV.bp n [] 0) (ns.map V.ρ):=by
 refine⟨h.1,?_⟩;have h0:∀l:List Nat,(∀n∈l,n∈ns)→JE V (l.map fun n=>AV.bp n [] 0) (l.map V.ρ):=by
  intro l;induction l with
  | nil=>intro _;exact rfl
  | cons n r g =>
   intro c;obtain⟨d,b,a⟩:=h.2 n (c n (by simp));exact⟨V.ρ n,r.map V.ρ,rfl,⟨d,b,a,a⟩,g fun x e=>c x (by simp[e])⟩
 exact h0 ns fun _ h=>h
def bS (P:Program) (yn:Nat) (A:List AV) (objs:List (Nat×Obj)) (stay:List Nat) (post:AV→List (Nat×Obj)→Prop):Prop :=
 ∀(w:World) (K O0:Nat→Prop) (ρ:Nat→Value) (a:List Value) (b:Nat),(∀b,K b→b<w.heap.size)→(∀b,O0 b→b<w.heap.size)→l9 K O0 objs ρ w→JE (vw w O0 ⟨[],objs⟩ ρ) A a →
  ρ yn=.pointer (some ⟨b,0,none⟩)→YieldAt (FR none) 0 P b a.toArray w fun e w'=>∃u,e=.returned u∧Pj K O0 stay w ρ post u w'
section
variable {c:Cx} {R:Exit→Act→World→Prop} {k:List Dp} {σ:St}
def Wh (n:Nat):Option AV→Bool
 | some (.yl m)=>m==n
 | _=>false
theorem zY (N:c.Ok) (Y:c.r=none) {o:Oper} {dst:Option Nat} {g:Operand} {xs:List Operand} {ts:Array TypeId} (t:o.op=.call { callee:=.value g,args:=xs.toArray,argTypes:=ts }) (R:o.dst=dst)
  {n yn:Nat} (f:Wh n (Aj σ g)=true) {as:List AV} (L:IW σ xs=some as)
  {A:List AV} {objs:List (Nat×Obj)} {stay:List Nat} {post:AV→List (Nat×Obj)→Prop} (H:bS c.P yn A objs stay post)
  (ren:List (Nat×Bw)) (ad:lk yn ren=some (.nm n)) (h1:B2 ren=true) (C:CO objs ren=true) (F:BH σ ren as A) (I:Aa σ.objs ren objs)
  (hs:List Nat) (W:(c.ds.pin.all fun p=>!AY p.1 hs)=true) {next:Act→World→Prop} {Q:Exit→Act→World→Prop} {a:Act} {w:World} (aa:c.sat σ a w) (O:∀d,dst=some d→d<c.nt)
  (hk:∀res x,post res x→∃(i:List (Nat×Bw)) (y:AV) (j:List (Nat×Obj)),B2 i=true∧CO j i=true∧Aa x i j∧Bg i res y ∧
   JV ren i stay hs=true∧Fb (Ai ren) j σ.objs=true∧∀l w',c.sat (CK σ (Ai ren) hs dst y j) l w'→next l w'):o.wpIn (FR c.r) 0 c.P a w next Q:=by
 obtain⟨ρ,v⟩:=aa;have s:GK (vw w c.O0 σ ρ) σ a.eval:=D5 v.env;obtain⟨b,ae,S⟩:∃b:Nat,ρ n=.pointer (some ⟨b,0,none⟩)∧a.eval g=.func (.yield b) #[] #[]:=by
  cases k:Aj σ g with
  | none=>rw[k]at f;simp[Wh]at f
  | some q =>
   rw[k]at f;have T:=s g q k;cases q<;>simp only[Wh]at f<;>try(cases f;done)
   rename_i m;have U:m=n:=by simpa using f
   subst U;obtain⟨_,b,D,E⟩:=T;exact⟨b,D,E⟩
 obtain⟨z,B,ag,G,J,V,M,af,X⟩:=Q6 N v (Y3 s L) stay post ren h1 C F I hs W O hk;obtain⟨fn,tmps,assign,body,ab,K⟩:=H w z B ag (xs.map a.eval) b G J V M ((af _ _ ad).trans ae);have Z:(execOp a.eval o).run c.P w=.ok (.round b fn tmps assign body) w:=by
  simp[execOp,t,resolve,Deferred.ofValue,S,invoke];simpa using ab
 refine⟨fun _ _=>trivial,?_⟩;rw[Fk _ _ _ (fun cl e=>by rw[t]at e;cases e),Z,Oper.uponIn_round];refine⟨fun h=>(by simp[FR]at h),?_⟩;rw[Y];refine K.mono fun e w' hh=>?_;obtain⟨u,rfl,hh⟩:=hh;rw[R];exact X u w' hh
theorem uU (C:c.Ok) (H:c.r=none) {ops:Array Oper} {rest:List Oper} {dst:Option Nat} {g:Operand} {xs:List Operand} {ts:Array TypeId} {ty:TypeId} {pos:String} {after:Array Edge}
  {n yn:Nat} (D:Wh n (Aj σ g)=true) {as:List AV} (B:IW σ xs=some as)
  {A:List AV} {objs:List (Nat×Obj)} {stay:List Nat} {post:AV→List (Nat×Obj)→Prop} (y:bS c.P yn A objs stay post)
  (ren:List (Nat×Bw)) (hs:List Nat) (K:lk yn ren=some (.nm n)) (h1:B2 ren=true) (u:CO objs ren=true) (G:(c.ds.pin.all fun p=>!AY p.1 hs)=true) (v:BH σ ren as A) (z:Aa σ.objs ren objs)
  (hk:∀res e,post res e→∃(b:List (Nat×Bw)) (f:AV) (d:List (Nat×Obj)),B2 b=true∧CO d b=true∧Aa e b d∧Bg b res f ∧
   JV ren b stay hs=true∧Fb (Ai ren) d σ.objs=true∧Hh c R k ops rest (CK σ (Ai ren) hs dst f d)) :
  Hh c R k ops (⟨dst,.call ⟨.value g,xs.toArray,ts⟩,ty,pos,after,none⟩ :: rest) σ:=by
 intro h E a w J;unfold wpListIn;rw[BY (by simp[Region.wanted])];refine zY C H (xs:=xs) (ts:=ts) rfl rfl D B y ren K h1 u v z hs G J (Be (h _ (by simp))) fun res e hp=>?_;obtain⟨b,f,d,j,l,m,q,s,t,x⟩:=hk res e hp;exact⟨b,f,d,j,l,m,q,s,t,fun i w' I=>x (fun o F=>h o (by simp[F])) E i w' I⟩
end
def HS:List Nat→List AV→List (Nat×AV)→List (Nat×AV)
 | p :: a,x :: xs,e=>HS a xs ((p,x) :: e)
 | _,_,e=>e
def cY (P:Program) (tb:Tb) (w0:World) (K O0:Nat→Prop) (nt l:Nat) (pin:List (Nat×Value)):Cx:={ P:=P,tb:=tb,w0:=w0,K:=K,O0:=O0,nt:=nt,ds:={ pin:=pin },r:=some l }
theorem bT {P:Program} {tb:Tb} {w0:World} {K O0:Nat→Prop} {nt l:Nat} {pin:List (Nat×Value)}:(cY P tb w0 K O0 nt l pin).tb=tb:=rfl
def zZ (P:Program) (l:Nat) (w0:World) (K O0:Nat→Prop) (stay:List Nat) (ρ0:Nat→Value) (post:AV→List (Nat×Obj)→Prop):Exit→Act→World→Prop :=
 roundPost P l fun e w'=>∃u,e=.returned u∧Pj K O0 stay w0 ρ0 post u w'
theorem qU {V:Vw}:∀(b:List Nat) (A:List AV) (c:List Value) (e:List (Nat×AV)) (a:Array Value),JE V A c→(∀p∈b,p<a.size)→A.length=b.length→(∀s x,lk s e=some x→B1 V x (a.getD s undef)) →
  (∀s x,lk s (HS b A e)=some x→B1 V x (((b.zip c).foldl (fun t (p,v)=>t.setIfInBounds p v) a).getD s undef))∧((b.zip c).foldl (fun t (p,v)=>t.setIfInBounds p v) a).size=a.size
 | [],_,_,e,a,_,_,_,h=>by simpa[HS] using h
 | p :: b,[],_,e,a,_,_,d,_=>by simp at d
 | p :: b,x :: A,c,e,a,⟨v,r,k,h1,g⟩,hp,d,h=>by
  subst k;simp only[ACy,O5,HS];have l:=qU b A r ((p,x) :: e) (a.setIfInBounds p v) g (fun q j=>by simpa using hp q (by simp[j])) (by simpa using d) (fun s y hs=>by
   have f:=K4 { tmps:=a,defers:=[] } p v s (hp p (by simp));have f:(a.setIfInBounds p v).getD s undef=if s=p then v else a.getD s undef:=f
   rw[f];simp only[lk]at hs;split at hs
   ·grind
   ·rename_i i;rw[At i];exact h s y hs)
  grind
section
variable {P:Program} {tb:Tb} {w0:World} {K O0:Nat→Prop} {nt l:Nat} {stay:List Nat} {ρ0:Nat→Value} {post:AV→List (Nat×Obj)→Prop} {σ:St} {pin:List (Nat×Value)}
theorem UU {c:Cx} (i:c.Ok) {σ:St} {a:Act} {w:World} {ρ:Nat→Value} (hs:Bn c.w0 c.K c.O0 c.nt c.ds σ ρ a w) {yn b:Nat} {L:Go.Loop} (h:lk yn σ.objs=some (.loop L)) (d:ρ yn=.pointer (some ⟨b,0,none⟩)) (e:Go.Loop) :
  w.heap[b]?=some (.loop L)∧Bn c.w0 c.K c.O0 c.nt c.ds ⟨σ.env,upd yn (.loop e) σ.objs⟩ ρ a (w.putObj b (.loop e)):=by
 obtain⟨b',h1,f⟩:=hs.objs yn _ h;rw[d]at h1;injection h1 with h1
 injection h1 with h1
 injection h1 with h1
 subst h1;have j:b<w.heap.size:=CR f;refine⟨f,hs.upd i.K h (g:=b) (by rw[d];rfl) (grownBy_putObj' w b _) ?_⟩;exact⟨b,d,World.putObj_heap_same j⟩
theorem uV (f:(cY P tb w0 K O0 nt l pin).Ok) {yn:Nat} {L:Go.Loop} (g:lk yn σ.objs=some (.loop L)) (h:pin=stay.map fun n=>(n,ρ0 n)) (i:yn∈stay) (e:ρ0 yn=.pointer (some ⟨l,0,none⟩))
  (hp:post (.p .bool true) (upd yn (.loop { L with state:=.ready,pending:=none }) σ.objs)) :
  Ev (cY P tb w0 K O0 nt l pin) (zZ P l w0 K O0 stay ρ0 post) (.out .normal) [] σ:=by
 intro _ _ a w hs;obtain⟨ρ,hs⟩:=hs;have c:∀n∈stay,ρ n=ρ0 n:=fun n hn=>(hs.pin (n,ρ0 n) (by rw[show (cY P tb w0 K O0 nt l pin).ds.pin=pin from rfl,h];exact GO.2 ⟨n,hn,rfl⟩)).2.1;obtain⟨d,b⟩:=UU f hs g ((c _ i).trans e) { L with state:=.ready,pending:=none };refine⟨_,_,run_endRound none d,.bool true,rfl,.p .bool true,_,ρ,hp,b.frm,⟨b.objs,b.free,b.dist⟩,⟨_,rfl,rfl⟩,c⟩
def A7B (c:Cx) (R:Exit→Act→World→Prop) (yn:Nat) (L:Go.Loop) (a:Code) (σ:St):Prop :=
 lk yn σ.objs=some (.loop L)∧Ev c R (.run a) [] ⟨σ.env,upd yn (.loop { L with state:=.busy }) σ.objs⟩
theorem z2 {yn fr:Nat} {A:List AV} {objs:List (Nat×Obj)} {L:Go.Loop} {d:List Nat} {r s:Code} {fs:List (Nat×AV)} {g:Array Value}
  (z:lk yn objs=some (.loop L)) (hf:lk fr objs=some (.frame g fs)) (h1:L.state=.ready) (I:L.params=d.toArray) (J:L.assign=r) (M:L.body=s) (aj:L.tmps=g) (E:g.size=nt)
  (B:A.length=d.length) (Y:(d.all fun p=>decide (p<nt))=true) (af:yn∈stay) (ab:stay.all (SE objs)=true) (W:MJ objs=true) (S:Bv nt r=true) (T:Bv nt s=true) (hT:DL P tb) (hF:JM P tb)
  (h:∀(w0:World) (K O0:Nat→Prop) (ρ0:Nat→Value) (l:Nat),(cY P tb w0 K O0 nt l (stay.map fun n=>(n,ρ0 n))).Ok→Pk A→OP objs→ρ0 yn=.pointer (some ⟨l,0,none⟩) →
   Ev (cY P tb w0 K O0 nt l (stay.map fun n=>(n,ρ0 n))) (fun _ _ _=>False) (.run r) [.inv (A7B (cY P tb w0 K O0 nt l (stay.map fun n=>(n,ρ0 n))) (zZ P l w0 K O0 stay ρ0 post) yn L s)] ⟨HS d A fs,objs⟩) :
  bS P yn A objs stay post:=by
 intro w K O0 ρ q b O Q f x u;have ae:=JU x;obtain⟨b',c,hh⟩:=f.obj yn _ z;rw[u]at c;injection c with c
 injection c with c
 injection c with c
 subst c;have Z:=run_yield (P:=P) (args:=q.toArray) hh (by rw[I];simp[ae,B]);refine⟨_,_,_,_,Z,roundIn_of_wpIn trivial ?_⟩;have y:(cY P tb w K O0 nt b (stay.map fun n=>(n,ρ n))).Ok:=⟨O,Q,hT,hF⟩;have U:=f.obj fr _ hf;have C:=qU (V:=vw w O0 ⟨[],objs⟩ ρ) d A q fs g x (fun p hp=>by have:=(IN.1 Y) p hp;rw[E];simpa using this) B U.2;have ad:(L.params.zip q.toArray).foldl (fun t (p,v)=>t.setIfInBounds p v) L.tmps=(d.zip q).foldl (fun t (p,v)=>t.setIfInBounds p v) g:=by grind
 rw[J,M,ad];have aa:(cY P tb w K O0 nt b (stay.map fun n=>(n,ρ n))).sat ⟨HS d A fs,objs⟩ { tmps:=(d.zip q).foldl (fun t (p,v)=>t.setIfInBounds p v) g,defers:=[] } w:=by
  refine⟨ρ,⟨rfl,rfl,rfl,Is _,fun _ _=>rfl⟩,by rw[C.2];exact E,rfl,fun p hp=>?_,f.obj,f.free,f.dist,C.1⟩;obtain⟨n,hn,rfl⟩:=GO.1 hp;have:=(IN.1 ab) n hn;unfold SE at this;cases i:lk n objs with
  | none=>rw[i]at this;cases this
  | some o =>
   rw[i]at this;refine⟨⟨o,i⟩,rfl,?_⟩;have j:=f.obj n o i;cases o with
   | arr et e xs=>exact .inr this
   | nest et al k e xs z=>exact .inr this
   | box et st fs=>obtain⟨_,b,cs,a,_⟩:=j;rw[a];exact .inl rfl
   | mapo k v l=>obtain⟨b,ai,cl,a,_⟩:=j;rw[a];exact .inl rfl
   | frame g fs=>obtain⟨a,_⟩:=j;rw[a];exact .inl rfl
   | loop L=>obtain⟨b,a,_⟩:=j;rw[a];exact .inl rfl
   | itr am ap an ao ak=>obtain⟨b,a,_⟩:=j;rw[a];exact .inl rfl
   | dfr=>obtain⟨b,a,_⟩:=j;rw[a];exact .inl rfl
 have N:=h w K O0 ρ b y (S6 x) (S7 W fun n o i=>Y2 (f.obj n o i)) u (by simpa[JP,cY] using S) rfl _ _ aa;refine ACV (F:=FR (some b)) N ?_;intro e ah w' m;cases e with
 | normal =>
  obtain⟨σ',⟨ρ',D⟩,X,R⟩:=m;have ag:ρ' yn=.pointer (some ⟨b,0,none⟩):=(D.pin (yn,ρ yn) (GO.2 ⟨yn,af,rfl⟩)).2.1.trans u;obtain⟨G,H⟩:=UU y D X ag { L with state:=.busy };exact⟨_,run_beginRound G h1,R (by simpa[JP,cY] using T) rfl _ _ ⟨ρ',H⟩⟩
 | exit id=>exact m.elim
 | goto t=>exact m.elim
 | ret=>exact m.elim
 | panic ch=>exact m.elim
 | outgrown=>exact m.elim
end
end
section
open Go Go.RowKit
def Cx.marked (c:Cx) (dn b:Nat):Cx:={ c with ds:={ ds:=⟨.collected b,#[]⟩ :: c.ds.ds,pin:=(dn,.pointer (some ⟨b,0,none⟩)) :: c.ds.pin } }
def Cx.marked2 (c:Cx) (yn dn b:Nat):Cx:={ c with ds:={ ds:=⟨.collected b,#[]⟩ :: c.ds.ds,pin:=(yn,.pointer (some ⟨b+1,0,none⟩)) :: (dn,.pointer (some ⟨b,0,none⟩)) :: c.ds.pin } }
theorem mF {c:Cx} {yn dn b:Nat} (h:c.Ok):(c.marked2 yn dn b).Ok:=⟨h.K,h.O,h.T,h.F⟩
theorem KU {c:Cx} {dn b:Nat}:(c.marked dn b).tb=c.tb:=rfl
theorem uW {c:Cx} {dn b:Nat} (h:c.Ok):(c.marked dn b).Ok:=⟨h.K,h.O,h.T,h.F⟩
theorem uX (ren:List (Nat×Bw)) (x:AV):Bg ren x .top:=by grind [Bg,HN,Dm]
def bU:List Dp→Bool
 | []=>true
 | .inv _ :: _=>false
 | _ :: k=>bU k
theorem OU {c:Cx} {R:Exit→Act→World→Prop} {dn b:Nat}:∀ {k:List Dp},bU k=true→Tt (c.marked dn b) R k=Tt c R k
 | [],_=>by funext e a w;simp[Tt]
 | .inv _ :: _,h=>by simp[bU]at h
 | .seq y :: k,h=>by
  have d:=OU (c:=c) (R:=R) (dn:=dn) (b:=b) (k:=k) h;funext e a w;cases e<;>simp only[Tt,d]<;>rfl
 | .blk id :: k,h=>by
  have d:=OU (c:=c) (R:=R) (dn:=dn) (b:=b) (k:=k) h;funext e a w;cases e<;>simp only[Tt,d]
def Bl (σ:St) (yn dn fr:Nat) (L:Go.Loop) (a:Array Value):St:=⟨σ.env,(yn,.loop L) :: (dn,.dfr) :: (fr,.frame a σ.env) :: σ.objs⟩
section
variable {c:Cx} {R:Exit→Act→World→Prop} {k:List Dp} {σ:St}
theorem uY (q:c.Ok) {a:Act} {w:World} {ρ:Nat→Value} (hs:Bn c.w0 c.K c.O0 c.nt c.ds σ ρ a w) {yn dn fr:Nat} (r:yn≠dn) (D:yn≠fr) (E:dn≠fr) (F:lk yn σ.objs=none) (G:lk dn σ.objs=none) (H:lk fr σ.objs=none) (L:Go.Loop) :
  ∃e,Bn c.w0 c.K c.O0 c.nt (c.marked2 yn dn w.heap.size).ds (Bl σ yn dn fr L a.tmps) e { a with defers:=[{ target:=.collected w.heap.size,args:=#[] }]++a.defers } ((w.alloc (.deferred (some []))).alloc (.loop L))∧e yn=.pointer (some ⟨w.heap.size+1,0,none⟩):=by
 let e:Nat→Value:=fun m=>if m=yn then .pointer (some ⟨w.heap.size+1,0,none⟩) else if m=dn then .pointer (some ⟨w.heap.size,0,none⟩) else if m=fr then .pointer none else ρ m
 have j:e yn=.pointer (some ⟨w.heap.size+1,0,none⟩):=by simp[e]
 have k:e dn=.pointer (some ⟨w.heap.size,0,none⟩):=by simp[e,ACX r]
 have y:e fr=.pointer none:=by simp[e,ACX D,ACX E]
 obtain⟨f,i⟩:∃f,(w.alloc (.deferred (some []))).alloc (.loop L)=f:=⟨_,rfl⟩;have A:f.heap[w.heap.size+1]?=some (.loop L):=by
  rw[←i];have:=World.alloc_heap_new (w.alloc (.deferred (some []))) (.loop L);rwa [World.size_alloc]at this
 have z:f.heap[w.heap.size]?=some (.deferred (some [])):=by
  rw[←i];exact(Below.heap_alloc _ _ _ (by simp)).trans (World.alloc_heap_new w _)
 have l:Below w.heap.size w f:=by
  rw[←i];exact((Below.refl _ w).alloc (Is _) _).alloc (by simp) _
 rw[i];have t:Bd [(yn,Obj.loop L),(dn,.dfr),(fr,.frame a.tmps σ.env)] σ=true:=by simp[Bd,F,G,H]
 have v:∀n,lk n [(yn,Obj.loop L),(dn,Obj.dfr),(fr,.frame a.tmps σ.env)]=none→e n=ρ n:=fun n hn=>by grind [lk]
 have u:∀n o b,lk n [(yn,Obj.loop L),(dn,Obj.dfr),(fr,.frame a.tmps σ.env)]=some o→bk (e n) b→w.heap.size≤b:=fun n o b hn B=>by grind [lk,bk,blk]
 have I:=IP (O0:=c.O0) (ρ:=ρ) (ρ':=e) t l v u;have J:QS w c.O0 σ ρ .top [(yn,Obj.loop L),(dn,.dfr),(fr,.frame a.tmps σ.env)] undef e f:=by
  refine⟨l,v,trivial,fun n o hn=>?_,u,fun n m o Q b hn P B N=>?_⟩
  ·simp only[lk]at hn;split at hn
   ·rename_i g;cases hn;subst g;exact⟨_,j,A⟩
   ·split at hn
    ·rename_i g;cases hn;subst g;exact⟨_,k,z⟩
    ·split at hn
     ·rename_i g;cases hn;subst g;exact⟨y,fun s x M=>(hs.env s x M).keeps I⟩
     ·cases hn
  ·grind [lk,bk,blk]
 have h:=hs.add q.K q.O (dst:=none) (fun d C=>by cases C) t J;refine⟨e,⟨h.frm,h.nt,?_,fun p hp=>?_,h.objs,h.free,h.dist,h.env⟩,j⟩
 ·show _=_ :: c.ds.ds;rw[←hs.defers];rfl
 ·rcases By.1 hp with rfl|hp
  ·exact⟨⟨.loop L,by simp[Bl,lk]⟩,j,.inl rfl⟩
  rcases By.1 hp with rfl|hp
  ·exact⟨⟨.dfr,by simp[Bl,lk,ACX r]⟩,k,.inl rfl⟩
  ·exact h.pin p hp
def EvJ (c:Cx) (R:Exit→Act→World→Prop) (k:List Dp) (σ:St):Option Code→Prop
 | none=>Ev c R (.out .normal) k σ
 | some a=>match a with
  | .ret=>Ev c R (.out .ret) k σ
  | .exit id=>Ev c R (.out (.exit id)) k σ
  | _=>False
def AA3 (c:Cx) (R:Exit→Act→World→Prop) (k:List Dp) (a:Act) (w:World):Option Code→Prop
 | none=>Tt c R k .normal a w
 | some cd=>cd.wpIn (FR c.r) 0 c.P (Tt c R k) a w
theorem A4o {dn b:Nat} (g:bU k=true) (e:DG c.nt k=true) {p:Option Code} (d:EvJ (c.marked dn b) R k σ p) {a:Act} {w:World} (hs:(c.marked dn b).sat σ a w) :
  AA3 c R k a w p:=by
 have f:=OU (c:=c) (R:=R) (dn:=dn) (b:=b) g;cases p with
 | none =>
  have:=d rfl e _ _ hs;show Tt c R k .normal a w;rw[←f];exact this
 | some cd =>
  cases cd<;>try exact d.elim
  ·have:=d rfl e _ _ hs;refine wpIn_exit ?_;rw[←f];exact this
  ·have:=d rfl e _ _ hs;refine wpIn_ret ?_;rw[←f];exact this
theorem z3 (T:c.Ok) (bl:c.r=none) (bf:bU k=true) {g:Operand} {N:Array Tmp} {G H:Code} {s:FuncId} {m:List Nat} (J:Aj σ g=some (.clo s m))
  (yn dn fr:Nat) (D:(yn != dn&&yn != fr&&dn != fr)=true) (ba:lk yn σ.objs=none) (bb:lk dn σ.objs=none) (bc:lk fr σ.objs=none)
  (am:∀(L:Go.Loop) (z:Array Value),L.state=.ready→L.pending=none→L.tmps=z→L.params=N→L.assign=G→L.body=H→z.size=c.nt →
   ∃(A:List AV) (objs:List (Nat×Obj)) (stay:List Nat) (post:AV→List (Nat×Obj)→Prop) (ren:List (Nat×Bw)) (hs:List Nat),BA c.P s A objs stay post ∧
    B2 ren=true∧CO objs ren=true∧BH (Bl σ yn dn fr L z) ren (.yl yn :: m.map fun n=>AV.bp n [] 0) A∧Aa (Bl σ yn dn fr L z).objs ren objs ∧
    (((yn,undef) :: (dn,undef) :: c.ds.pin).all fun p=>!AY p.1 hs)=true ∧
    ∀res y,post res y→∃(j:List (Nat×Bw)) (i:List (Nat×Obj)) (l:Go.Loop),B2 j=true∧CO i j=true∧Aa y j i∧JV ren j stay hs=true∧Fb (Ai ren) i (Bl σ yn dn fr L z).objs=true ∧
     lk yn i=some (.loop l)∧(l.state == .busy)=false ∧
     ∀b,EvJ (c.marked dn b) R k ⟨(CK (Bl σ yn dn fr L z) (Ai ren) hs none .top i).env,upd yn (.loop { l with state:=.exhausted }) (CK (Bl σ yn dn fr L z) (Ai ren) hs none .top i).objs⟩ l.pending) :
  Ev c R (.run (.rangeFunc g N G H)) k σ:=by
 intro h1 ak a w bn;obtain⟨ρ,hs⟩:=bn;have az:GK (vw w c.O0 σ ρ) σ a.eval:=D5 hs.env;obtain⟨bd,_⟩:=bR (az g _ J);simp only[As,ACr,ne_eq]at D;obtain⟨⟨av,aw⟩,ax⟩:=D;refine wpIn_rangeFunc (F:=FR c.r) ?_;intro fn _;have bm:(FR c.r).round=none:=by rw[bl];rfl
 rw[bm];obtain⟨L,x⟩:∃L:Go.Loop,L={ state:=.ready,pending:=none,fn,tmps:=a.tmps,params:=N,assign:=G,body:=H,defers:=w.heap.size }:=⟨_,rfl⟩;obtain⟨Y,M,bq⟩:=uY T hs av aw ax ba bb bc L;obtain⟨A,objs,stay,post,ren,B,I,ae,af,ag,ah,ai,aj⟩:=am L a.tmps (by rw[x]) (by rw[x]) (by rw[x]) (by rw[x]) (by rw[x]) (by rw[x]) hs.nt;obtain⟨⟨O,au,bi,ap⟩,I⟩:=I;obtain⟨o,S⟩:∃o,(w.alloc (.deferred (some []))).alloc (.loop L)=o:=⟨_,rfl⟩;rw[S]at M;have U:(c.marked2 yn dn w.heap.size).Ok:=mF T;have ar:JE (vw o c.O0 (Bl σ yn dn fr L a.tmps) Y) (.yl yn :: m.map fun n=>AV.bp n [] 0) (.func (.yield (w.heap.size+1)) #[] #[] :: m.map ρ):=by
  refine⟨_,_,rfl,⟨⟨_,by simp[Bl,lk];rfl⟩,_,bq,rfl⟩,?_⟩;have cb:=bR (V:=vw o c.O0 (Bl σ yn dn fr L a.tmps) Y) (f:=s) (ns:=m) (v:=a.eval g) (by
   have:=D5 M.env;have bj:Aj (Bl σ yn dn fr L a.tmps) g=some (.clo s m):=by
    cases g with
    | tmp t=>exact J
    | _=>exact J
   have Q:=this g _ bj;have ay:({ a with defers:=[{ target:=.collected w.heap.size,args:=#[] }]++a.defers }:Act).eval g=a.eval g:=by cases g<;>rfl
   rw[ay]at Q;exact Q)
  grind [vw]
 have bg:∀res y,post res y→∃(j:List (Nat×Bw)) (X:AV) (i:List (Nat×Obj)),B2 j=true∧CO i j=true∧Aa y j i∧Bg j res X ∧
   JV ren j stay B=true∧Fb (Ai ren) i (Bl σ yn dn fr L a.tmps).objs=true∧∀C w',(c.marked2 yn dn w.heap.size).sat (CK (Bl σ yn dn fr L a.tmps) (Ai ren) B none X i) C w' →
    rangePost (FR c.r) 0 c.P (w.heap.size+1) (Tt c R k) C (.returned undef) w':=by
  intro res y hp;obtain⟨j,i,l,bs,bt,bu,bv,bw,cc,W,bx⟩:=aj res y hp;refine⟨j,.top,i,bs,bt,bu,uX j res,bv,bw,fun C w' E=>?_⟩;obtain⟨ρ',E⟩:=E;have br:lk yn (CK (Bl σ yn dn fr L a.tmps) (Ai ren) B none .top i).objs=some (.loop l):=by grind [CK,A1]
  have hyp:=(E.pin (yn,.pointer (some ⟨w.heap.size+1,0,none⟩)) (by simp[Cx.marked2])).2.1;obtain⟨bz,q⟩:=UU U E br hyp { l with state:=.exhausted };refine⟨_,_,run_endLoop bz (by intro e;rw[e]at W;cases W),?_⟩;have bo:(c.marked dn w.heap.size).sat ⟨(CK (Bl σ yn dn fr L a.tmps) (Ai ren) B none .top i).env,upd yn (.loop { l with state:=.exhausted }) (CK (Bl σ yn dn fr L a.tmps) (Ai ren) B none .top i).objs⟩ C (w'.putObj (w.heap.size+1) (.loop { l with state:=.exhausted })) :=
   ⟨ρ',q.frm,q.nt,q.defers,fun p hp=>q.pin p (If _ hp),q.objs,q.free,q.dist,q.env⟩
  have K:=A4o bf ak (bx w.heap.size) bo;revert K;generalize l.pending=p;intro K;cases p<;>exact K
 obtain⟨Z,aa,ca,al,an,bh,ao,_,bk⟩:=Q6 U M ar stay post ren ae af ag ah B (by simpa[Cx.marked2] using ai) (dst:=none) (fun d D=>by cases D) bg;have aq:=I o Z aa ca _ al an bh ao;refine⟨w.heap.size+1,[{ target:=.collected w.heap.size,args:=#[] }],o,{ target:=.fn (.func s) (m.map ρ).toArray,args:=#[.func (.yield (w.heap.size+1)) #[] #[]] },o,s,
  (.func (.yield (w.heap.size+1)) #[] #[] :: m.map ρ).toArray,o,?_,?_,fun _ _=>trivial,?_,fun h=>by simp[FR]at h,?_⟩
 ·rw[←S,x];exact run_enterLoop_outer _ _ _ _ _
 ·have be:a.eval g=.func (.func s) #[] (m.map ρ).toArray:=bd;simp only[resolve,be];simp[go_sem]
 ·have ab : ¬ O.name = "runtime.NumGoroutine" := by simpa using bi
  have ad:¬O.body=none:=by intro e;simp[e]at ap
  simp[invoke,callFunc,au,ab,ad]
 ·refine K8 (aq.mono fun e w' hh=>?_);obtain⟨u,rfl,hh⟩:=hh;exact bk u w' hh
theorem z4 (O:c.Ok) {a:Act} {w:World} {ρ:Nat→Value} (hs:Bn c.w0 c.K c.O0 c.nt c.ds σ ρ a w) {dn b:Nat} (j:lk dn σ.objs=some .dfr) (i:ρ dn=.pointer (some ⟨b,0,none⟩)) (X:_root_.Go.Obj) (pin:List (Nat×Value)) (G:∀p∈pin,p∈c.ds.pin∧p.1≠dn) :
  w.heap[b]?=some (.deferred (some []))∧Bn c.w0 c.K c.O0 c.nt { ds:=c.ds.ds,pin:=pin } ⟨BV [dn] σ.env,Af [dn] [dn] σ.objs⟩ ρ a (w.putObj b X):=by
 obtain⟨b',h1,h⟩:=hs.objs dn _ j;rw[i]at h1;injection h1 with h1
 injection h1 with h1
 injection h1 with h1
 subst h1;have P:b<w.heap.size:=CR h;refine⟨h,?_⟩;have A:own c.O0 σ ρ b:=.inr ⟨dn,⟨_,j⟩,by rw[i];exact .inl rfl⟩;have f:∀n,Gt ⟨BV [dn] σ.env,Af [dn] [dn] σ.objs⟩ n→Gt σ n∧n≠dn:=by
  rintro n ⟨o,hn⟩;have hn:lk n (Af [dn] [dn] σ.objs)=some o:=hn;rw[BS]at hn;split at hn
  ·cases hn
  ·rename_i r;simp only[No]at hn;obtain⟨y,d,_⟩:=hn;exact⟨⟨y,d⟩,fun e=>r (by subst e;simp[AY])⟩
 have l:∀k,k≠b→(w.putObj b X).heap[k]?=w.heap[k]?:=fun k hk=>World.putObj_heap_other hk;have q:CW ((vw w c.O0 σ ρ).buts [dn]) (vw (w.putObj b X) c.O0 ⟨BV [dn] σ.env,Af [dn] [dn] σ.objs⟩ ρ):=by
  refine⟨fun k _ hk B=>?_,fun n hn=>?_,fun _ _=>rfl,fun k _ hk=>l k (fun e=>?_)⟩
  ·rcases B with h0|⟨n,hn,E⟩
   ·exact hk (.inl h0)
   ·exact hk (.inr ⟨n,(f n hn).1,E⟩)
  ·obtain⟨⟨o,F⟩,D⟩:=hn;exact⟨_,by show lk n (Af [dn] [dn] σ.objs)=_;rw[BS,At (by rw[D];simp),F];rfl⟩
  ·subst e;exact hk A
 refine⟨⟨hs.frm.os,hs.frm.tape,hs.frm.output,by simpa using hs.frm.size,fun k hk=>?_⟩,hs.nt,hs.defers,fun p hp=>?_,fun n x hn=>?_,fun n k C hk=>hs.free n k (f n C).1 hk,fun n m k h1 h u z=>hs.dist n m k (f n h1).1 (f m h).1 u z,fun s v t=>?_⟩
 ·refine(l k fun e=>?_).trans (hs.frm.block k hk);subst e;exact(hs.free dn k ⟨_,j⟩ (by rw[i];exact .inl rfl)).1 hk
 ·obtain⟨H,I⟩:=G p hp;obtain⟨J,M,N⟩:=hs.pin p H;exact⟨q.L p.1 ⟨J,by simp[AY,I]⟩,M,N⟩
 ·have g:lk n (Af [dn] [dn] σ.objs)=some x:=hn;have r:=(f n ⟨x,hn⟩).2;rw[BS]at g;split at g
  ·cases g
  ·simp only[No]at g;obtain⟨y,d,rfl⟩:=g;refine Sz q (fun k hk=>l k fun e=>?_) (hs.objs n y d);subst e;exact r (hs.dist n dn k ⟨y,d⟩ ⟨_,j⟩ hk (by rw[i];exact .inl rfl))
 ·rw[DQ]at t;simp only[No]at t;obtain⟨y,d,rfl⟩:=t;exact(PY (hs.env s y d)).keeps q
end
def z5 (P:Program) (fn:Func) (w0:World) (K O0:Nat→Prop) (stay:List Nat) (ρ0:Nat→Value) (post:AV→List (Nat×Obj)→Prop):Exit→Act→World→Prop :=
 bodyPostM (FR none) 0 P fn fun e w'=>∃u,e=.returned u∧Pj K O0 stay w0 ρ0 post u w'
theorem A4p {P:Program} {tb:Tb} {f:FuncId} {fn:Func} {cd:Code} {nt:Nat} {args:List AV} {objs:List (Nat×Obj)} {stay:List Nat} {post:AV→List (Nat×Obj)→Prop}
  (c : P.funcs[f]? = some fn) (k : (fn.name == "runtime.NumGoroutine") = false) (b : fn.body = some cd) (l : fn.ntmps = nt) (q : args.length ≤ nt)
  (i:Bv nt cd=true) (p:stay.all (SE objs)=true) (j:MJ objs=true) (hT:DL P tb) (hF:JM P tb)
  (h:∀(w0:World) (K O0:Nat→Prop) (ρ0:Nat→Value),(cm P tb w0 K O0 nt (stay.map fun n=>(n,ρ0 n))).Ok→Pk args→OP objs →
   Ev (cm P tb w0 K O0 nt (stay.map fun n=>(n,ρ0 n))) (z5 P fn w0 K O0 stay ρ0 post) (.run cd) [] ⟨Ah 0 args,objs⟩):BA P f args objs stay post:=by
 refine⟨⟨fn,c,k,by simp[b]⟩,fun w K O0 ρ s e g d a=>?_⟩;refine callsIn_wide.1 (callsIn_of_wp_marks (F:=FR none) (n:=0) c b trivial ?_ rfl);have r:=JU a;rw[l];exact h w K O0 ρ ⟨e,g,hT,hF⟩ (S6 a) (S7 j fun n o m=>Y2 (d.obj n o m)) i rfl _ _ (UD d a p (by omega))
theorem z6 {P:Program} {tb:Tb} {w0:World} {K O0:Nat→Prop} {nt:Nat} {stay:List Nat} {ρ0:Nat→Value} {fn:Func} {post:AV→List (Nat×Obj)→Prop} {σ:St} {e:Exit} {dn b:Nat} (d:((cm P tb w0 K O0 nt (stay.map fun n=>(n,ρ0 n))).marked dn b).Ok)
  (g:List ResultVar) (s:fn.results.toList=g) (o:e=.ret∨e=.normal) (q:lk dn σ.objs=some .dfr) (f:AY dn stay=false) (res:AV) (h:UE tb ⟨BV [dn] σ.env,Af [dn] [dn] σ.objs⟩ g res) (hp:post res (Af [dn] [dn] σ.objs)) :
  Ev ((cm P tb w0 K O0 nt (stay.map fun n=>(n,ρ0 n))).marked dn b) (z5 P fn w0 K O0 stay ρ0 post) (.out e) [] σ:=by
 intro _ _ a w hs;obtain⟨ρ,hs⟩:=hs;have l:=(hs.pin (dn,.pointer (some ⟨b,0,none⟩)) (by simp[Cx.marked])).2.1;obtain⟨h1,i⟩:=z4 d hs q l (.deferred none) (stay.map fun n=>(n,ρ0 n)) (fun p hp=>⟨If _ hp,fun e=>by
  obtain⟨n,hn,rfl⟩:=GO.1 hp;have e:n=dn:=e;subst e;rw[(AZ _ _).2 hn]at f;cases f⟩)
 have c:Bn w0 K O0 nt { ds:=[⟨.collected b,#[]⟩],pin:=stay.map fun n=>(n,ρ0 n) } ⟨BV [dn] σ.env,Af [dn] [dn] σ.objs⟩ ρ a (w.putObj b (.deferred none)):=i;obtain⟨u,j,k⟩:=bK d.T c (fn:=fn) (by rw[s];exact h);have r:Pj K O0 stay w0 ρ0 post u (w.putObj b (.deferred none)):=by
  refine⟨res,_,ρ,hp,c.frm,⟨c.objs,c.free,c.dist⟩,k,fun n hn=>?_⟩;exact(c.pin (n,ρ0 n) (GO.2 ⟨n,hn,rfl⟩)).2.1
 have m:a.defers=[⟨.collected b,#[]⟩]:=hs.defers;have key:LeavesInM (FR none) 0 P fn a.tmps (fun e w'=>∃u,e=.returned u∧Pj K O0 stay w0 ρ0 post u w') a.defers .returning w:=by
  rw[m];exact⟨by simp,.inl ⟨b,_,rfl,run_takeDeferred h1,u,j,u,rfl,r⟩⟩
 rcases o with rfl|rfl
 ·exact key
 ·exact key
end
section
open Go Go.RowKit
section
variable {c:Cx} {R:Exit→Act→World→Prop} {k:List Dp} {σ σ':St}
theorem rP (a:c.Ok) {id:Nat} {l:List Oper} {vc:Prop} (b:vc) (hk:Ev c R (.out .normal) k σ') (h0:(l.all fun o=>o.guard.isNone)=true:=by rfl)
  (h:De c.tb.live (Br c.tb l l σ)=some (vc,σ'):=by simp only[go_sem,Nat.reduceEqDiff,reduceCtorEq,Nat.reduceAdd,Nat.reduceSub,Nat.reduceMul,Nat.reduceLeDiff,Nat.reduceLT,Int.reduceLE,Int.reduceToNat,Int.reduceNeg,↓reduceIte];rfl):Ev c R (.run (.region id l.toArray false)) k σ:=MS _ a h0 h b hk
theorem rD (a:c.Ok) {id:Nat} {l:List Oper} {vc:Prop} (d:vc) (hk:Ev c R (.out .normal) k σ') (h0:Lp l l.length=true:=by kernel_rfl) (b:c.P.follows .mixedOrders=true:=by exact drawsAny)
  (h:De c.tb.live (Lr c.tb l false σ.objs [] l 0 [] [] σ)=some (vc,σ'):=by simp only[go_sem,Nat.reduceEqDiff,reduceCtorEq,Nat.reduceAdd,Nat.reduceSub,Nat.reduceMul,Nat.reduceLeDiff,Nat.reduceLT,Int.reduceLE,Int.reduceToNat,Int.reduceNeg,↓reduceIte];rfl):Ev c R (.run (.region id l.toArray true)) k σ:=XO _ b a h0 h d hk
theorem rC {o:Operand} {x y:Code} {b:Bool} {p q:Prop} (d:p→Ev c R (.run x) k σ) (hf:q→Ev c R (.run y) k σ) (h:Aj σ o=some (.p .bool b):=by simp only[go_sem,Nat.reduceEqDiff,reduceCtorEq,Nat.reduceAdd,Nat.reduceSub,Nat.reduceMul,Nat.reduceLeDiff,Nat.reduceLT,Int.reduceLE,Int.reduceToNat,Int.reduceNeg,↓reduceIte];rfl)
  (hp:(b=true)=p:=by first|(simp only[IS,On,As,AAi,Bool.and_eq_false_imp,AAC,bY,AB3,AAq,AB8,ACr,Bool.not_eq_eq_eq_not,AC7,ACg,ABc,Int.not_le,ne_eq];rfl)|rfl) (a:(b=false)=q:=by first|(simp only[IS,On,As,AAi,Bool.and_eq_false_imp,AAC,bY,AB3,AAq,AB8,ACr,Bool.not_eq_eq_eq_not,AC7,ACg,ABc,Int.not_le,ne_eq];rfl)|rfl):Ev c R (.run (.cond o x y)) k σ :=
 Dq h (fun e=>d (hp▸e)) (fun e=>hf (a▸e))
theorem rL (a:c.Ok) {ops:List Oper} {l:List Oper} {vc:Prop} (b:vc) (hk:Ev c R (.out .normal) k σ') (h:De c.tb.live (Br c.tb ops l σ)=some (vc,σ'):=by simp only[go_sem,Nat.reduceEqDiff,reduceCtorEq,Nat.reduceAdd,Nat.reduceSub,Nat.reduceMul,Nat.reduceLeDiff,Nat.reduceLT,Int.reduceLE,Int.reduceToNat,Int.reduceNeg,↓reduceIte];rfl):Hh c R k ops.toArray l σ:=IY _ a h b hk
theorem rN (n:Nat) (a:c.Ok) {ops:List Oper} {l:List Oper} {vc:Prop} (b:vc) (hk:Hh c R k ops.toArray (l.drop n) σ') (h:Br c.tb ops (l.take n) σ=some (vc,σ'):=by simp only[AAV,AAX,go_sem,Nat.reduceEqDiff,reduceCtorEq,Nat.reduceAdd,Nat.reduceSub,Nat.reduceMul,Nat.reduceLeDiff,Nat.reduceLT,Int.reduceLE,Int.reduceToNat,Int.reduceNeg,↓reduceIte];rfl):Hh c R k ops.toArray l σ:=S5 a n (by simpa using h) b hk
theorem cP (n:Nat) (a:c.Ok) {id:Nat} {l:List Oper} {vc:Prop} (b:vc) (hk:Hh c R k l.toArray (l.drop n) σ') (h0:(l.all fun o=>o.guard.isNone)=true:=by rfl) (h:Br c.tb l (l.take n) σ=some (vc,σ'):=by simp only[AAV,AAX,go_sem,Nat.reduceEqDiff,reduceCtorEq,Nat.reduceAdd,Nat.reduceSub,Nat.reduceMul,Nat.reduceLeDiff,Nat.reduceLT,Int.reduceLE,Int.reduceToNat,Int.reduceNeg,↓reduceIte];rfl) :
  Ev c R (.run (.region id l.toArray false)) k σ:=zJ a n h0 h b hk
theorem cD (n:Nat) (a:c.Ok) {id:Nat} {l:List Oper} {vc:Prop} (e:vc) (hk:Hh c R k l.toArray (l.drop n) σ') (b:Lp l (l.take n).length=true:=by kernel_rfl) (d:c.P.follows .mixedOrders=true:=by exact drawsAny)
  (h:Lr c.tb l false σ.objs [] (l.take n) 0 [] [] σ=some (vc,σ'):=by simp only[AAV,AAX,go_sem,Nat.reduceEqDiff,reduceCtorEq,Nat.reduceAdd,Nat.reduceSub,Nat.reduceMul,Nat.reduceLeDiff,Nat.reduceLT,Int.reduceLE,Int.reduceToNat,Int.reduceNeg,↓reduceIte];rfl):Ev c R (.run (.region id l.toArray true)) k σ:=zK d a n b h e hk
theorem rM (q:c.Ok) {ops:Array Oper} {rest:List Oper} {dst:Option Nat} {g:Operand} {xs:List Operand} {ts:Array TypeId} {ty:TypeId} {pos:String} {after:Array Edge}
  {f:FuncId} {d:List Nat} {as:List AV} {A:List AV} {objs:List (Nat×Obj)} {stay:List Nat} {post:AV→List (Nat×Obj)→Prop} (l:BA c.P f A objs stay post)
  (ren:List (Nat×Bw)) (hs:List Nat) (j:BH σ ren (as++d.map fun n=>AV.bp n [] 0) A) (m:Aa σ.objs ren objs)
  (hk:∀res e,post res e→∃(a:List (Nat×Bw)) (h:AV) (b:List (Nat×Obj)),B2 a=true∧CO b a=true∧Aa e a b∧Bg a res h ∧
   JV ren a stay hs=true∧Fb (Ai ren) b σ.objs=true∧Hh c R k ops rest (CK σ (Ai ren) hs dst h b))
  (r:Cu (Aj σ g)=some (f,d):=by simp only[go_sem,Nat.reduceEqDiff,reduceCtorEq,Nat.reduceAdd,Nat.reduceSub,Nat.reduceMul,Nat.reduceLeDiff,Nat.reduceLT,Int.reduceLE,Int.reduceToNat,Int.reduceNeg,↓reduceIte];rfl) (o:IW σ xs=some as:=by simp only[go_sem,Nat.reduceEqDiff,reduceCtorEq,Nat.reduceAdd,Nat.reduceSub,Nat.reduceMul,Nat.reduceLeDiff,Nat.reduceLT,Int.reduceLE,Int.reduceToNat,Int.reduceNeg,↓reduceIte];rfl)
  (h1:B2 ren=true:=by rfl) (i:CO objs ren=true:=by rfl) (s:(c.ds.pin.all fun p=>!AY p.1 hs)=true:=by rfl) :
  Hh c R k ops (⟨dst,.call ⟨.value g,xs.toArray,ts⟩,ty,pos,after,none⟩ :: rest) σ:=zI q r o l ren hs h1 i s j m hk
theorem rY (n yn:Nat) (m:c.Ok) {ops:Array Oper} {rest:List Oper} {dst:Option Nat} {g:Operand} {xs:List Operand} {ts:Array TypeId} {ty:TypeId} {pos:String} {after:Array Edge}
  {as:List AV} {A:List AV} {objs:List (Nat×Obj)} {stay:List Nat} {post:AV→List (Nat×Obj)→Prop} (i:bS c.P yn A objs stay post)
  (ren:List (Nat×Bw)) (hs:List Nat) (h:BH σ ren as A) (j:Aa σ.objs ren objs)
  (hk:∀res d,post res d→∃(a:List (Nat×Bw)) (e:AV) (b:List (Nat×Obj)),B2 a=true∧CO b a=true∧Aa d a b∧Bg a res e ∧
   JV ren a stay hs=true∧Fb (Ai ren) b σ.objs=true∧Hh c R k ops rest (CK σ (Ai ren) hs dst e b))
  (s:c.r=none:=by rfl) (o:Wh n (Aj σ g)=true:=by simp only[go_sem,Nat.reduceEqDiff,reduceCtorEq,Nat.reduceAdd,Nat.reduceSub,Nat.reduceMul,Nat.reduceLeDiff,Nat.reduceLT,Int.reduceLE,Int.reduceToNat,Int.reduceNeg,↓reduceIte]) (l:IW σ xs=some as:=by simp only[go_sem,Nat.reduceEqDiff,reduceCtorEq,Nat.reduceAdd,Nat.reduceSub,Nat.reduceMul,Nat.reduceLeDiff,Nat.reduceLT,Int.reduceLE,Int.reduceToNat,Int.reduceNeg,↓reduceIte];rfl)
  (t:lk yn ren=some (.nm n):=by rfl) (h1:B2 ren=true:=by rfl) (f:CO objs ren=true:=by rfl) (q:(c.ds.pin.all fun p=>!AY p.1 hs)=true:=by rfl) :
  Hh c R k ops (⟨dst,.call ⟨.value g,xs.toArray,ts⟩,ty,pos,after,none⟩ :: rest) σ:=uU m s o l i ren hs t h1 f q h j hk
end
end
section
open Go Go.RowKit
section
variable {P:Program} {b:Frame} {a:Act} {k:List Item} {cs:List Frame} {w:World}
end
section
variable {c:Cx} {R:Exit→Act→World→Prop} {k:List Dp} {σ:St}
end
end
section
open Go Go.RowKit
def qV:qG→List Dp→Option (qG×List Dp)
 | .run (.seq x y),k=>some (.run x,.seq y :: k)
 | .run .skip,k=>some (.out .normal,k)
 | .run .ret,k=>some (.out .ret,k)
 | .run (.exit id),k=>some (.out (.exit id),k)
 | .run (.block id b),k=>some (.run b,.blk id :: k)
 | .out .normal,.seq y :: k=>some (.run y,k)
 | .out .normal,.blk _ :: k=>some (.out .normal,k)
 | .out (.exit id),.seq _ :: k=>some (.out (.exit id),k)
 | .out (.exit a),.blk id :: k=>if a=id then some (.out .normal,k) else some (.out (.exit a),k)
 | .out (.exit id),.inv _ :: k=>some (.out (.exit id),k)
 | .out .ret,.seq _ :: k=>some (.out .ret,k)
 | .out .ret,.blk _ :: k=>some (.out .ret,k)
 | .out .ret,.inv _ :: k=>some (.out .ret,k)
 | _,_=>none
def UV:Nat→qG→List Dp→qG×List Dp
 | 0,n,k=>(n,k)
 | m+1,n,k=>match qV n k with
  | some (b,a)=>UV m b a
  | none=>(n,k)
def qW (n:qG) (k:List Dp):Option (qG×List Dp):=match qV n k with
 | some (b,a)=>some (UV 200 b a)
 | none=>none
section
variable {c:Cx} {R:Exit→Act→World→Prop} {σ:St}
theorem bV {n b:qG} {k a:List Dp} (e:qV n k=some (b,a)) (h:Ev c R b a σ):Ev c R n k σ:=by
 unfold qV at e;split at e<;>first
  | (cases e;done)
  | (split at e<;>(cases e;first|(rename_i d;rw[d];exact lU h)|exact lV (by assumption) h))
  | (cases e;first|exact A6o h|exact qH h|exact A6p h|exact A4g h|exact y7 h|exact IR h|exact lO h|exact bB h|exact bC h|exact lN h|exact lQ h|exact lR h)
theorem XU:∀(m:Nat) {n:qG} {k:List Dp},Ev c R (UV m n k).1 (UV m n k).2 σ→Ev c R n k σ
 | 0,_,_,h=>h
 | m+1,n,k,h=>by
  unfold UV at h;split at h
  ·rename_i b a e;exact bV e (XU m h)
  ·exact h
theorem eS {n b:qG} {k a:List Dp} (e:qW n k=some (b,a)) (h:Ev c R b a σ):Ev c R n k σ:=by grind [qW,bV,XU]
end
inductive RX (c:Cx) (lv:List Nat) (σ:St) (vc:Prop) (σ':St):Array Oper→Bool→Prop
 | p {l:List Oper} (h0:(l.all fun o=>o.guard.isNone)=true) (h:De lv (Br c.tb l l σ)=some (vc,σ')):RX c lv σ vc σ' l.toArray false
 | a {l:List Oper} (h0:uG l l.length=true) (h:De lv (Lr c.tb l true σ.objs [] l 0 [] [] σ)=some (vc,σ')):RX c lv σ vc σ' l.toArray false
 | d {l:List Oper} (h0:Lp l l.length=true) (hm:c.P.follows .mixedOrders=true) (h:De lv (Lr c.tb l false σ.objs [] l 0 [] [] σ)=some (vc,σ')):RX c lv σ vc σ' l.toArray true
 | t {l:List Oper} (m:Nat) (h0:Lp l (l.take (l.length-m)).length=true) (hm:c.P.follows .mixedOrders=true) (h:De lv (Lr c.tb l false σ.objs (l.drop (l.length-m)) (l.take (l.length-m)) 0 [] [] σ)=some (vc,σ')):RX c lv σ vc σ' l.toArray true
theorem A7C {c:Cx} {R:Exit→Act→World→Prop} {k:List Dp} {σ σ':St} {b:List Nat} (e:c.Ok) {id:Nat} {ops:Array Oper} {i:Bool} {vc:Prop} (f:vc) (hk:Ev c R (.out .normal) k σ') (h:RX c b σ vc σ' ops i):Ev c R (.run (.region id ops i)) k σ:=by
 cases h with
 | p h0 h=>exact MS b e h0 h f hk
 | a h0 h=>exact bL b e h0 h f hk
 | d h0 g h=>exact XO b g e h0 h f hk
 | t m h0 g h=>exact uL b m g e h0 h f hk
theorem rX {c:Cx} {R:Exit→Act→World→Prop} {k:List Dp} {σ σ':St} (e:c.Ok) {id:Nat} {ops:Array Oper} {b:Bool} {vc:Prop} (f:vc) (hk:Ev c R (.out .normal) k σ')
  (h:RX c c.tb.live σ vc σ' ops b:=by
   first
   | exact .p rfl (by simp only[go_sem,Nat.reduceEqDiff,reduceCtorEq,Nat.reduceAdd,Nat.reduceSub,Nat.reduceMul,Nat.reduceLeDiff,Nat.reduceLT,Int.reduceLE,Int.reduceToNat,Int.reduceNeg,↓reduceIte];rfl)
   | exact .a (by kernel_rfl) (by simp only[go_sem,Nat.reduceEqDiff,reduceCtorEq,Nat.reduceAdd,Nat.reduceSub,Nat.reduceMul,Nat.reduceLeDiff,Nat.reduceLT,Int.reduceLE,Int.reduceToNat,Int.reduceNeg,↓reduceIte];rfl)
   | exact .d (by kernel_rfl) (by exact drawsAny) (by simp only[go_sem,Nat.reduceEqDiff,reduceCtorEq,Nat.reduceAdd,Nat.reduceSub,Nat.reduceMul,Nat.reduceLeDiff,Nat.reduceLT,Int.reduceLE,Int.reduceToNat,Int.reduceNeg,↓reduceIte];rfl)
   | exact .t 1 (by kernel_rfl) (by exact drawsAny) (by simp only[AAV,ABl,AAX,AAv,go_sem,Nat.reduceEqDiff,reduceCtorEq,Nat.reduceAdd,Nat.reduceSub,Nat.reduceMul,Nat.reduceLeDiff,Nat.reduceLT,Int.reduceLE,Int.reduceToNat,Int.reduceNeg,↓reduceIte];rfl)
   | exact .t 2 (by kernel_rfl) (by exact drawsAny) (by simp only[AAV,ABl,AAX,AAv,go_sem,Nat.reduceEqDiff,reduceCtorEq,Nat.reduceAdd,Nat.reduceSub,Nat.reduceMul,Nat.reduceLeDiff,Nat.reduceLT,Int.reduceLE,Int.reduceToNat,Int.reduceNeg,↓reduceIte];rfl)
   | exact .t 3 (by kernel_rfl) (by exact drawsAny) (by simp only[AAV,ABl,AAX,AAv,go_sem,Nat.reduceEqDiff,reduceCtorEq,Nat.reduceAdd,Nat.reduceSub,Nat.reduceMul,Nat.reduceLeDiff,Nat.reduceLT,Int.reduceLE,Int.reduceToNat,Int.reduceNeg,↓reduceIte];rfl)):Ev c R (.run (.region id ops b)) k σ:=A7C e f hk h
theorem eN {p:Prop} (h:p:=by simp only[go_sem,Nat.reduceEqDiff,reduceCtorEq,Nat.reduceAdd,Nat.reduceSub,Nat.reduceMul,Nat.reduceLeDiff,Nat.reduceLT,Int.reduceLE,Int.reduceToNat,Int.reduceNeg,↓reduceIte]<;>fail):p:=h
theorem eM {p q:Prop} (a:q) (h:p=q:=by simp only[go_sem,Nat.reduceEqDiff,reduceCtorEq,Nat.reduceAdd,Nat.reduceSub,Nat.reduceMul,Nat.reduceLeDiff,Nat.reduceLT,Int.reduceLE,Int.reduceToNat,Int.reduceNeg,↓reduceIte];rfl):p:=h▸a
theorem eR {p:Prop} (h:p:=by simp only[Np,IT,Hv,LA,M5,Jx,GQ,go_sem,Nat.reduceEqDiff,reduceCtorEq,Nat.reduceAdd,Nat.reduceSub,Nat.reduceMul,Nat.reduceLeDiff,Nat.reduceLT,Int.reduceLE,Int.reduceToNat,Int.reduceNeg,↓reduceIte]<;>fail):p:=h
theorem bW {p q:Prop} (a:q) (h:p=q:=by simp only[Np,IT,Hv,LA,M5,Jx,GQ,go_sem,Nat.reduceEqDiff,reduceCtorEq,Nat.reduceAdd,Nat.reduceSub,Nat.reduceMul,Nat.reduceLeDiff,Nat.reduceLT,Int.reduceLE,Int.reduceToNat,Int.reduceNeg,↓reduceIte];rfl):p:=h▸a
theorem eV {p:Prop} (h:p:=by (try dsimp only[Ty.den]at *)<;>(repeat'(first|apply And.intro|intro _))<;>omega):p:=h
end
section
open Go Go.RowKit
section
variable {c:Cx} {R:Exit→Act→World→Prop} {k:List Dp} {σ σ':St}
theorem z7 (d:c.Ok) {id:Nat} {l:List Oper} (n:Nat) {vc:Prop} (h:Br c.tb l (l.take n) σ=some (vc,σ')) (f:vc) (hk:Hh c R k l.toArray (l.drop n) σ') :
  Ev c R (.run (.region id l.toArray false)) k σ:=by
 intro h1 b a w hs;simp only[JP,Bv,IN]at h1;exact ACm (S5 d n (by simpa using h) f hk (fun o e=>h1 o e) b a w hs)
theorem uZ (F:c.Ok) {ops:Array Oper} {rest:List Oper} {dst:Option Nat} {g:Operand} {xs:List Operand} {ts:Array TypeId} {ty:TypeId} {pos:String} {after:Array Edge} {i:Option (Nat×Bool)}
  (H:Ef ops.toList σ i=some true)
  {f:FuncId} {j:List Nat} (G:Cu (Aj σ g)=some (f,j)) {as:List AV} (E:IW σ xs=some as)
  {A:List AV} {objs:List (Nat×Obj)} {stay:List Nat} {post:AV→List (Nat×Obj)→Prop} (C:BA c.P f A objs stay post)
  (ren:List (Nat×Bw)) (hs:List Nat) (h1:B2 ren=true) (y:CO objs ren=true) (K:(c.ds.pin.all fun p=>!AY p.1 hs)=true) (z:BH σ ren (as++j.map fun n=>AV.bp n [] 0) A) (D:Aa σ.objs ren objs)
  (hk:∀res e,post res e→∃(b:List (Nat×Bw)) (h:AV) (d:List (Nat×Obj)),B2 b=true∧CO d b=true∧Aa e b d∧Bg b res h ∧
   JV ren b stay hs=true∧Fb (Ai ren) d σ.objs=true∧Hh c R k ops rest (CK σ (Ai ren) hs dst h d)) :
  Hh c R k ops (⟨dst,.call ⟨.value g,xs.toArray,ts⟩,ty,pos,after,i⟩ :: rest) σ:=by
 intro l I a w m;unfold wpListIn;rw[BY (Hu (o:=⟨dst,.call ⟨.value g,xs.toArray,ts⟩,ty,pos,after,i⟩) m H)];refine Y4 F (xs:=xs) (ts:=ts) rfl rfl G E C ren h1 y z D hs K m (Be (l _ (by simp))) fun res e hp=>?_;obtain⟨b,h,d,r,s,t,u,v,x,B⟩:=hk res e hp;exact⟨b,h,d,r,s,t,u,v,x,fun q w' L=>B (fun o J=>l o (by simp[J])) I q w' L⟩
end
end
section
open Go Go.RowKit
section
variable {c:Cx} {ops:List Oper} {Kf:St→Prop} {τ:St} {ens:EN} {vc:Prop}
theorem Ls {A D:List Nat} {l:Nat} {b:List (List Nat×Nat)} {o:Oper} {d:St} {a:EN} (j:vc) (e:UI c o d a (fun m=>zL c ops Kf b D a m)) (h:lD c.tb ops τ.objs (A++qs b D) [] τ.env=some (vc,ens):=by simp only[go_sem,Nat.reduceEqDiff,reduceCtorEq,Nat.reduceAdd,Nat.reduceSub,Nat.reduceMul,Nat.reduceLeDiff,Nat.reduceLT,Int.reduceLE,Int.reduceToNat,Int.reduceNeg,↓reduceIte];rfl) (g:Pl ens τ.objs=true:=by rfl) (i:ops[l]?=some o:=by rfl)
  (k:L6 (ens.take A.length) τ=d:=by simp only[go_sem,Nat.reduceEqDiff,reduceCtorEq,Nat.reduceAdd,Nat.reduceSub,Nat.reduceMul,Nat.reduceLeDiff,Nat.reduceLT,Int.reduceLE,Int.reduceToNat,Int.reduceNeg,↓reduceIte];rfl) (f:ens.drop A.length=a:=by simp only[go_sem,Nat.reduceEqDiff,reduceCtorEq,Nat.reduceAdd,Nat.reduceSub,Nat.reduceMul,Nat.reduceLeDiff,Nat.reduceLT,Int.reduceLE,Int.reduceToNat,Int.reduceNeg,↓reduceIte];rfl):zL c ops Kf ((A,l) :: b) D ens τ:=zX h j g i k f e
theorem Pp {R:Exit→Act→World→Prop} {k:List Dp} {σ':St} (d:c.Ok) {D:List Nat} {l:List Oper} {a:Prop} (f:vc) (g:a) (hk:Ev c R (.out .normal) k σ') (h:lD c.tb ops τ.objs D [] τ.env=some (vc,ens):=by simp only[go_sem,Nat.reduceEqDiff,reduceCtorEq,Nat.reduceAdd,Nat.reduceSub,Nat.reduceMul,Nat.reduceLeDiff,Nat.reduceLT,Int.reduceLE,Int.reduceToNat,Int.reduceNeg,↓reduceIte];rfl) (e:Pl ens τ.objs=true:=by rfl)
  (b:De c.tb.live (Br c.tb ops l (L6 ens τ))=some (a,σ'):=by simp only[go_sem,Nat.reduceEqDiff,reduceCtorEq,Nat.reduceAdd,Nat.reduceSub,Nat.reduceMul,Nat.reduceLeDiff,Nat.reduceLT,Int.reduceLE,Int.reduceToNat,Int.reduceNeg,↓reduceIte];rfl):zL c ops (fun τ=>Hh c R k ops.toArray l τ) [] D ens τ:=zW h f e (IY _ d b g hk)
end
section
variable {c:Cx} {o:Oper} {σ:St} {ens:EN} {N:St→Prop} {R:Exit→Act→World→Prop} {k:List Dp} {σ':St}
theorem Ns (b:c.Ok) {τ:St} {vc:Prop} (ns:List Nat) (i:vc) (a:N τ) (h:F7 c.tb o σ=some (vc,τ):=by simp only[go_sem,Nat.reduceEqDiff,reduceCtorEq,Nat.reduceAdd,Nat.reduceSub,Nat.reduceMul,Nat.reduceLeDiff,Nat.reduceLT,Int.reduceLE,Int.reduceToNat,Int.reduceNeg,↓reduceIte];rfl) (f:tn σ o.op=ns:=by simp only[go_sem,Nat.reduceEqDiff,reduceCtorEq,Nat.reduceAdd,Nat.reduceSub,Nat.reduceMul,Nat.reduceLeDiff,Nat.reduceLT,Int.reduceLE,Int.reduceToNat,Int.reduceNeg,↓reduceIte]) (g:Ia o ens=true:=by rfl) (hn:HR ns σ.objs ens=true:=by rfl) (e:MV τ.objs ens=true:=by rfl)
  (hf:Hj ns ens=ens:=by simp only[go_sem,Nat.reduceEqDiff,reduceCtorEq,Nat.reduceAdd,Nat.reduceSub,Nat.reduceMul,Nat.reduceLeDiff,Nat.reduceLT,Int.reduceLE,Int.reduceToNat,Int.reduceNeg,↓reduceIte]) (d:Hg c.nt o=true:=by rfl):UI c o σ ens N:=uS b ns h f g hn e hf d i a
theorem mxC (o:c.Ok) {dst:Option Nat} {g:Operand} {xs:List Operand} {ts:Array TypeId} {ty:TypeId} {pos:String} {after:Array Edge} {f:FuncId} {d:List Nat} {as:List AV}
  {A:List AV} {objs:List (Nat×Obj)} {stay:List Nat} {post:AV→List (Nat×Obj)→Prop} (k:BA c.P f A objs stay post) (ren:List (Nat×Bw)) (hs:List Nat)
  (j:BH σ ren (as++d.map fun n=>AV.bp n [] 0) A) (l:Aa σ.objs ren objs)
  (hk:∀res e,post res e→∃(b:List (Nat×Bw)) (h:AV) (a:List (Nat×Obj)),B2 b=true∧CO a b=true∧Aa e b a∧Bg b res h ∧
   JV ren b stay hs=true∧Fb (Ai ren) a σ.objs=true∧MV a ens=true∧N (CK σ (Ai ren) hs dst h a))
  (r:Cu (Aj σ g)=some (f,d):=by simp only[go_sem,Nat.reduceEqDiff,reduceCtorEq,Nat.reduceAdd,Nat.reduceSub,Nat.reduceMul,Nat.reduceLeDiff,Nat.reduceLT,Int.reduceLE,Int.reduceToNat,Int.reduceNeg,↓reduceIte];rfl) (m:IW σ xs=some as:=by simp only[go_sem,Nat.reduceEqDiff,reduceCtorEq,Nat.reduceAdd,Nat.reduceSub,Nat.reduceMul,Nat.reduceLeDiff,Nat.reduceLT,Int.reduceLE,Int.reduceToNat,Int.reduceNeg,↓reduceIte];rfl) (h1:B2 ren=true:=by rfl) (i:CO objs ren=true:=by rfl) (s:(c.ds.pin.all fun p=>!AY p.1 hs)=true:=by rfl)
  (t:Ia ⟨dst,.call ⟨.value g,xs.toArray,ts⟩,ty,pos,after,none⟩ ens=true:=by rfl) (hn:HR (Ai ren) σ.objs ens=true:=by rfl) (hf:Hj hs ens=ens:=by simp only[go_sem,Nat.reduceEqDiff,reduceCtorEq,Nat.reduceAdd,Nat.reduceSub,Nat.reduceMul,Nat.reduceLeDiff,Nat.reduceLT,Int.reduceLE,Int.reduceToNat,Int.reduceNeg,↓reduceIte]) (q:Hg c.nt ⟨dst,.call ⟨.value g,xs.toArray,ts⟩,ty,pos,after,none⟩=true:=by rfl) :
  UI c ⟨dst,.call ⟨.value g,xs.toArray,ts⟩,ty,pos,after,none⟩ σ ens N:=uT o r m k ren hs h1 i s t hn hf q j l hk
theorem evP (a:c.Ok) {id:Nat} {l:List Oper} (n:Nat) {vc:Prop} (b:vc) (hk:Hh c R k l.toArray (l.drop n) σ') (h:Br c.tb l (l.take n) σ=some (vc,σ'):=by simp only[AAV,AAX,go_sem,Nat.reduceEqDiff,reduceCtorEq,Nat.reduceAdd,Nat.reduceSub,Nat.reduceMul,Nat.reduceLeDiff,Nat.reduceLT,Int.reduceLE,Int.reduceToNat,Int.reduceNeg,↓reduceIte];rfl):Ev c R (.run (.region id l.toArray false)) k σ:=z7 a n h b hk
theorem clG (r:c.Ok) {ops:Array Oper} {rest:List Oper} {dst:Option Nat} {g:Operand} {xs:List Operand} {ts:Array TypeId} {ty:TypeId} {pos:String} {after:Array Edge} {e:Option (Nat×Bool)} {f:FuncId} {d:List Nat} {as:List AV}
  {A:List AV} {objs:List (Nat×Obj)} {stay:List Nat} {post:AV→List (Nat×Obj)→Prop} (m:BA c.P f A objs stay post) (ren:List (Nat×Bw)) (hs:List Nat) (l:BH σ ren (as++d.map fun n=>AV.bp n [] 0) A) (o:Aa σ.objs ren objs)
  (hk:∀res h,post res h→∃(a:List (Nat×Bw)) (i:AV) (b:List (Nat×Obj)),B2 a=true∧CO b a=true∧Aa h a b∧Bg a res i ∧
   JV ren a stay hs=true∧Fb (Ai ren) b σ.objs=true∧Hh c R k ops rest (CK σ (Ai ren) hs dst i b))
  (t:Ef ops.toList σ e=some true:=by simp only[go_sem,Nat.reduceEqDiff,reduceCtorEq,Nat.reduceAdd,Nat.reduceSub,Nat.reduceMul,Nat.reduceLeDiff,Nat.reduceLT,Int.reduceLE,Int.reduceToNat,Int.reduceNeg,↓reduceIte]) (s:Cu (Aj σ g)=some (f,d):=by simp only[go_sem,Nat.reduceEqDiff,reduceCtorEq,Nat.reduceAdd,Nat.reduceSub,Nat.reduceMul,Nat.reduceLeDiff,Nat.reduceLT,Int.reduceLE,Int.reduceToNat,Int.reduceNeg,↓reduceIte];rfl) (q:IW σ xs=some as:=by simp only[go_sem,Nat.reduceEqDiff,reduceCtorEq,Nat.reduceAdd,Nat.reduceSub,Nat.reduceMul,Nat.reduceLeDiff,Nat.reduceLT,Int.reduceLE,Int.reduceToNat,Int.reduceNeg,↓reduceIte];rfl) (h1:B2 ren=true:=by rfl) (j:CO objs ren=true:=by rfl) (u:(c.ds.pin.all fun p=>!AY p.1 hs)=true:=by rfl) :
  Hh c R k ops (⟨dst,.call ⟨.value g,xs.toArray,ts⟩,ty,pos,after,e⟩ :: rest) σ:=uZ r t s q m ren hs h1 j u l o hk
theorem Gg (l:List Nat) {n:qG} {a:St} (hk:Ev c R n k a) (h:Ck l σ=a:=by simp only[go_sem,Nat.reduceEqDiff,reduceCtorEq,Nat.reduceAdd,Nat.reduceSub,Nat.reduceMul,Nat.reduceLeDiff,Nat.reduceLT,Int.reduceLE,Int.reduceToNat,Int.reduceNeg,↓reduceIte];rfl):Ev c R n k σ:=Ev.ent hk (qL l h fun _ _ h=>h)
theorem A7D (l:List Nat) {a:St} (b:y6 c a σ') (h:Ck l σ=a:=by simp only[go_sem,Nat.reduceEqDiff,reduceCtorEq,Nat.reduceAdd,Nat.reduceSub,Nat.reduceMul,Nat.reduceLeDiff,Nat.reduceLT,Int.reduceLE,Int.reduceToNat,Int.reduceNeg,↓reduceIte];rfl):y6 c σ σ':=qL l h b
end
theorem eW {c:Cx} {σ σ':St} (ren:List (Nat×Bw)) (h1:B2 ren=true:=by rfl) (a:CO σ'.objs ren=true:=by rfl) (d:Aa σ.objs ren σ'.objs:=by exact eN) (b:Ex σ.env ren σ'.env:=by exact eN) (hp:A6q c.ds.pin ren=true:=by rfl):y6 c σ σ':=AC ren h1 a d b hp
theorem eT {p:Prop} (h:p:=by simp only[UE,uK,Q5,XL,Hv,LA,Jx,go_sem,Nat.reduceEqDiff,reduceCtorEq,Nat.reduceAdd,Nat.reduceSub,Nat.reduceMul,Nat.reduceLeDiff,Nat.reduceLT,Int.reduceLE,Int.reduceToNat,Int.reduceNeg,↓reduceIte]<;>fail):p:=h
section
variable {P:Program} {ty:List (Nat×TI)} {fs:List (Nat×Ad)} {nt:Nat} {f:FuncId} {fn:Func} {cd:Code}
theorem fKP (a b:List Nat) (ne:List (Nat×TypeId)) {sp:Ad} (e:P.funcs[f]?=some fn) (j:fn.ntmps=nt) (hF:JM P ⟨ty,fs,b,ne,a⟩)
  (h:∀(w0:World) (O0:Nat→Prop) (ds:Ku sp.ins),(cx P ⟨ty,fs,b,ne,a⟩ w0 O0 nt).Ok→oks sp.ins ds→sp.pre ds→Ev (cx P ⟨ty,fs,b,ne,a⟩ w0 O0 nt) (Tu P fn w0 O0 (sp.out ds)) (.run cd) [] ⟨AM 0 sp.ins ds,[]⟩)
  (c : fn.body = some cd := by rfl) (hT : DL P ⟨ty, fs, b, ne, a⟩ := by exact tyTab_ok _ _ _ _) (i : (fn.name == "runtime.NumGoroutine") = false := by kernel_rfl) (g : sp.ins.length ≤ nt := by decide) (d : Bv nt cd = true := by kernel_rfl) : Ag P f sp := A5N e i c j g d hT hF h
theorem fK (a:List Nat) {sp:Ad} (d:P.funcs[f]?=some fn) (i:fn.ntmps=nt) (hF:JM P ⟨ty,fs,[],[],a⟩)
  (h:∀(w0:World) (O0:Nat→Prop) (ds:Ku sp.ins),(cx P ⟨ty,fs,[],[],a⟩ w0 O0 nt).Ok→oks sp.ins ds→sp.pre ds→Ev (cx P ⟨ty,fs,[],[],a⟩ w0 O0 nt) (Tu P fn w0 O0 (sp.out ds)) (.run cd) [] ⟨AM 0 sp.ins ds,[]⟩)
  (b : fn.body = some cd := by rfl) (hT : DL P ⟨ty, fs, [], [], a⟩ := by exact tyTab_ok _ _ _ _) (g : (fn.name == "runtime.NumGoroutine") = false := by kernel_rfl) (e : sp.ins.length ≤ nt := by decide) (c : Bv nt cd = true := by kernel_rfl) : Ag P f sp := A5N d g b i e c hT hF h
variable {args:List AV} {objs:List (Nat×Obj)} {stay:List Nat} {post:AV→List (Nat×Obj)→Prop}
theorem J1 (a b:List Nat) (ne:List (Nat×TypeId)) (e:P.funcs[f]?=some fn) (k:fn.ntmps=nt) (hF:JM P ⟨ty,fs,b,ne,a⟩)
  (h:∀(w0:World) (K O0:Nat→Prop) (ρ0:Nat→Value),(cm P ⟨ty,fs,b,ne,a⟩ w0 K O0 nt (stay.map fun n=>(n,ρ0 n))).Ok→Pk args→OP objs →
   Ev (cm P ⟨ty,fs,b,ne,a⟩ w0 K O0 nt (stay.map fun n=>(n,ρ0 n))) (A4k P fn w0 K O0 stay ρ0 post) (.run cd) [] ⟨Ah 0 args,objs⟩)
  (c : fn.body = some cd := by rfl) (hT : DL P ⟨ty, fs, b, ne, a⟩ := by exact tyTab_ok _ _ _ _) (j : (fn.name == "runtime.NumGoroutine") = false := by kernel_rfl) (i : args.length ≤ nt := by simp only [OF, AAW]; omega) (d : Bv nt cd = true := by kernel_rfl) (l : stay.all (SE objs) = true := by rfl) (g : MJ objs = true := by rfl) : BA P f args objs stay post := A6x e j c k i d l g hT hF h
theorem fKR (a b:List Nat) (ne:List (Nat×TypeId)) (e:P.funcs[f]?=some fn) (k:fn.ntmps=nt) (hF:JM P ⟨ty,fs,b,ne,a⟩)
  (h:∀(w0:World) (K O0:Nat→Prop) (ρ0:Nat→Value),(cm P ⟨ty,fs,b,ne,a⟩ w0 K O0 nt (stay.map fun n=>(n,ρ0 n))).Ok→Pk args→OP objs →
   Ev (cm P ⟨ty,fs,b,ne,a⟩ w0 K O0 nt (stay.map fun n=>(n,ρ0 n))) (z5 P fn w0 K O0 stay ρ0 post) (.run cd) [] ⟨Ah 0 args,objs⟩)
  (c : fn.body = some cd := by rfl) (hT : DL P ⟨ty, fs, b, ne, a⟩ := by exact tyTab_ok _ _ _ _) (j : (fn.name == "runtime.NumGoroutine") = false := by kernel_rfl) (i : args.length ≤ nt := by simp only [OF, AAW]; omega) (d : Bv nt cd = true := by kernel_rfl) (l : stay.all (SE objs) = true := by rfl) (g : MJ objs = true := by rfl) : BA P f args objs stay post := A4p e j c k i d l g hT hF h
end
theorem fI {P:Program} {tb:Tb} {w0:World} {O0:Nat→Prop} {nt:Nat} (c:(cx P tb w0 O0 nt).Ok) {fn:Func} {a:List RV} {σ:St} {e:Exit} (b:List ResultVar) (h:Np tb σ b a:=by exact eR) (g:fn.results.toList=b:=by rfl) (f:e=.ret∨e=.normal:=by exact .inl rfl) (hp:∀r∈a,∃t d,r=.p t d:=by simp) :
  Ev (cx P tb w0 O0 nt) (Tu P fn w0 O0 a) (.out e) [] σ:=A6v c b g f hp h
theorem fM {P:Program} {tb:Tb} {w0:World} {K O0:Nat→Prop} {nt:Nat} {stay:List Nat} {ρ0:Nat→Value} {fn:Func} {post:AV→List (Nat×Obj)→Prop} {σ:St} {e:Exit} (b:(cm P tb w0 K O0 nt (stay.map fun n=>(n,ρ0 n))).Ok)
  (a:List ResultVar) (res:AV) (h:UE tb σ a res) (hp:post res σ.objs) (d:fn.results.toList=a:=by rfl) (c:e=.ret∨e=.normal:=by first|exact .inl rfl|exact .inr rfl) :
  Ev (cm P tb w0 K O0 nt (stay.map fun n=>(n,ρ0 n))) (A4k P fn w0 K O0 stay ρ0 post) (.out e) [] σ:=A4l b a d c res h hp
end
section
open Go Go.RowKit
structure UW (X σ:St) (n:Nat):Prop where
 env:∀s v,lk s X.env=some v→v.trn n []=v
 arr:∀m o,lk m X.objs=some o→LK o=true
 new:∀m o,lk m X.objs=some o→lk m σ.objs=none
 nm:∀m o,lk m X.objs=some o→m≠n
section
variable {σ σ' X:St} {n:Nat}
theorem UW.obs (b:Na σ σ' X) (ha:UW X σ n):Yz σ σ':=by
 intro m o hn;rw[b.objs];cases a:lk m X.objs with
 | none=>exact hn
 | some c=>rw[ha.new m c a]at hn;cases hn
theorem AA7 (b:Na σ σ' X) (ha:UW X σ n) {en:List (Nat×AV)} {new:List (Nat×Obj)} (c:∀s v,lk s en=some v→lk s X.env=none) (e:∀m o,lk m new=some o→lk m X.objs=none) :
  Na ⟨en++Dy n [] σ.env,new++CZ n [] σ.objs⟩ ⟨en++Dy n [] σ'.env,new++CZ n [] σ'.objs⟩ X:=by
 refine⟨fun s=>?_,fun m=>?_⟩
 ·simp only[A1];cases hs:lk s en with
  | some v=>rw[c s v hs];rfl
  | none =>
   rw[Fl,Fl,b.env];cases a:lk s X.env with
   | none=>rfl
   | some w=>simp[ha.env s w a]
 ·simp only[A1];cases d:lk m new with
  | some o=>rw[e m o d];rfl
  | none =>
   rw[Dd,Dd,b.objs];cases a:lk m X.objs with
   | none=>rfl
   | some w =>
    rw[At fun h=>ha.nm m w a (by simpa using (AZ _ _).1 h)];exact AB6 some (XT (ha.arr m w a))
def mG (σ:St):Op→Option Nat
 | .call c=>match c.callee,c.args.toList,c.argTypes.toList with
  | .builtin .append,[x,_],[_,_]=>(match Aj σ x with|some (.nin n _ _ _)=>some n|_=>none)
  | _,_,_=>none
 | _=>none
theorem A4q {tb:Tb} {op:Op} {d:Option Nat} {vc:Prop} {τ:St} (j:Na σ σ' X) (ha:UW X σ n) (r:mD σ σ' op.operands.toList) (a:mG σ op=some n) (G:∀t,d=some t→lk t X.env=none) (E:∀n,(∃u,lk n τ.objs=some u)→lk n X.objs=none) (h:FK tb σ d op=some (vc,τ)) :
  (∃B,FK tb σ' d op=some (vc,B)∧Na τ B X)∧(∀k,aq tb σ' k op=none)∧(∀k,aq tb σ k op=none)∧CG σ op=[]∧CG σ' op=[]:=by
 have p:=ha.obs j;cases op<;>try(cases a;done)
 rename_i cl;obtain⟨callee,⟨args⟩,⟨argTypes⟩⟩:=cl;simp only[mG]at a;split at a
 ·rename_i x y t u;cases f:Aj σ x with
  | none=>rw[f]at a;cases a
  | some xv =>
   rw[f]at a;cases xv<;>try(cases a;done)
   rename_i Q e i len;cases a;have z:Aj σ' x=Aj σ x:=r x (by simp[Op.operands,Call.operands]);have N:Aj σ' y=Aj σ y:=r y (by simp[Op.operands,Call.operands]);refine⟨?_,fun k=>by simp[aq,Cj,Cs,Ca,z,f],fun k=>by simp[aq,Cj,Cs,Ca,f],rfl,rfl⟩;simp only[FK,DF,DT,f]at h;simp only[FK,DF,DT,DE,z,f,N];cases A:Aj σ y with
   | none=>rw[A]at h;unfold DE at h;cases h
   | some v =>
    rw[A]at h;simp only[DE]at h;split at h
    ·rename_i b;have H:=G b rfl;simp only;split at h
     ·rename_i M;rw[BY M];unfold MC at h ⊢;split at h
      ·rename_i O R el b2 L;try rw[L]
       try simp only
       split at h
       ·rename_i J;rw[BY J];unfold Ni at h ⊢;split at h
        ·rename_i ti et P k c xs h1 K;try rw[h1]
         try rw[p _ _ K]
         try simp only
         split at h
         ·rename_i F;rw[BY F];unfold Ll at h ⊢;split at h
          ·rename_i ys C;rw[MM p C];try simp only
           split at h
           ·rename_i m;have l:lk b X.objs=none:=by
             refine E b ?_;cases h;exact⟨_,by simp only[lk,AAQ];rfl⟩
            have I:(lk b σ'.objs).isNone=true∧ys.isEmpty=false:=⟨by rw[j.objs,l];exact m.1,m.2⟩;rw[BY I];cases h;refine⟨_,rfl,AA7 (en:=[(b,_)]) (new:=[(b,_),(n,_)]) j ha (fun s v h=>?_) (fun q o g=>?_)⟩
            ·simp only[lk]at h;split at h
             ·rename_i c;rw[c];exact H
             ·cases h
            ·simp only[lk]at g;split at g
             ·rename_i c;rw[c];exact l
             ·split at g
              ·rename_i c;rw[c];cases D:lk n X.objs with
               | none=>rfl
               | some w=>exact absurd rfl (ha.nm n w D)
              ·cases g
           ·cases h
          ·cases h
         ·cases h
        ·cases h
       ·cases h
      ·cases h
     ·cases h
    ·cases h
 ·cases a
end
def UX (n:Nat):EN→EN
 | []=>[]
 | (d,v,obs) :: r=>(d,v.trn n [],obs) :: UX n r
theorem UY {n:Nat}:∀ {ens:EN},UX n ens=ens→∀e∈ens,e.2.1.trn n []=e.2.1
 | [],_,e,a=>by cases a
 | (d,v,obs) :: r,h,e,a=>by
  simp only[UX,ABw,ACI,and_true,true_and]at h;rcases By.1 a with rfl|a
  ·exact h.1
  ·exact UY h.2 e a
section
variable {c:Cx} {o:Oper} {σ:St} {ens:EN} {N:St→Prop}
theorem z8 (H:c.Ok) {τ:St} {vc:Prop} (n:Nat) (h:F7 c.tb o σ=some (vc,τ)) (b:mG σ o.op=some n) (y:Ia o ens=true) (hn:HR [n] σ.objs ens=true) (J:MV τ.objs ens=true) (hf:UX n ens=ens) (I:Hg c.nt o=true) (M:vc) (D:N τ):UI c o σ ens N:=by
 intro X σ' z g a w next Q hs hk
 have ha:UW X σ n:=by
  refine⟨fun s v hs=>?_,fun m o l=>?_,fun m o l=>?_,fun m o l=>?_⟩
  ·obtain⟨obs,i⟩:=g.env s v hs;exact UY hf _ i
  all_goals
   obtain⟨e,k,hp⟩:=g.objs m o l;have:=DW hn e k _ hp
  ·exact this.2.2
  ·exact this.1
  ·grind
 have F:∀t∈GL o.op,lk t X.env=none:=fun t p=>by
  cases f:lk t X.env with
  | none=>rfl
  | some v=>obtain⟨obs,i⟩:=g.env t v f;exact absurd p (DV y _ i).1
 have E:∀t,o.dst=some t→lk t X.env=none:=fun t p=>by
  cases f:lk t X.env with
  | none=>rfl
  | some v=>obtain⟨obs,i⟩:=g.env t v f;exact absurd p (DV y _ i).2
 have G:∀n,(∃u,lk n τ.objs=some u)→lk n X.objs=none:=fun n hu=>by
  cases f:lk n X.objs with
  | none=>rfl
  | some v =>
   obtain⟨e,k,hp⟩:=g.objs n v f;obtain⟨u,hu⟩:=hu;rw[Ib J e k _ hp]at hu;cases hu
 have K:=Pm z F;have key:∃d,F7 c.tb o σ'=some (vc,d)∧Na τ d X:=by
  have q:CG σ o.op=[]∧CG σ' o.op=[]:=by
   obtain⟨dst,op,ty,pos,after,B⟩:=o;simp only at b ⊢;cases op<;>first|exact⟨rfl,rfl⟩|cases b
  unfold F7 Nl at h ⊢;rw[q.1]at h;rw[q.2];simp only[Ck]at h ⊢;cases x:aq c.tb σ (o.dst.getD 0) o.op with
  | some r =>
   obtain⟨dst,op,ty,pos,after,B⟩:=o;simp only at b x;exfalso;cases op<;>try(cases b;done)
   rename_i cl;obtain⟨callee,⟨args⟩,⟨argTypes⟩⟩:=cl;simp only[mG]at b;split at b
   ·grind [Aj,aq,Cj,Cs,Ca]
   ·cases b
  | none =>
   rw[x]at h;simp only[KI]at h;obtain⟨⟨d,h1,j⟩,C,_⟩:=A4q z ha K b E G h;rw[C];simp only[KI];exact⟨d,h1,j⟩
 obtain⟨d,h1,j⟩:=key;exact Pd H hs h1 M (Be I) fun A w' L=>hk τ D A w' d j L
theorem mxN (b:c.Ok) {τ:St} {vc:Prop} (n:Nat) (i:vc) (a:N τ) (h:F7 c.tb o σ=some (vc,τ):=by simp only[go_sem,Nat.reduceEqDiff,reduceCtorEq,Nat.reduceAdd,Nat.reduceSub,Nat.reduceMul,Nat.reduceLeDiff,Nat.reduceLT,Int.reduceLE,Int.reduceToNat,Int.reduceNeg,↓reduceIte];rfl) (f:mG σ o.op=some n:=by simp only[go_sem,Nat.reduceEqDiff,reduceCtorEq,Nat.reduceAdd,Nat.reduceSub,Nat.reduceMul,Nat.reduceLeDiff,Nat.reduceLT,Int.reduceLE,Int.reduceToNat,Int.reduceNeg,↓reduceIte]) (g:Ia o ens=true:=by rfl) (hn:HR [n] σ.objs ens=true:=by rfl) (e:MV τ.objs ens=true:=by rfl)
  (hf:UX n ens=ens:=by simp only[go_sem,Nat.reduceEqDiff,reduceCtorEq,Nat.reduceAdd,Nat.reduceSub,Nat.reduceMul,Nat.reduceLeDiff,Nat.reduceLT,Int.reduceLE,Int.reduceToNat,Int.reduceNeg,↓reduceIte]) (d:Hg c.nt o=true:=by rfl):UI c o σ ens N:=z8 b n h f g hn e hf d i a
end
end
section
open Go Go.RowKit
section
variable {P:Program} {tb:Tb} {w0:World} {K O0:Nat→Prop} {nt:Nat} {ds:Fp} {σ:St} {ρ:Nat→Value} {a:Act} {w:World}
theorem Bn.swapP (h:Bn w0 K O0 nt ds σ ρ a w) (G:∀b,K b→b<w0.heap.size) (aa:∀b,O0 b→b<w0.heap.size) {T:Nat→Prop} (hT:∀n,T n→∃o,lk n σ.objs=some o) (H:∀p∈ds.pin,¬T p.1)
  {new:List (Nat×Obj)} {σ':St} {ρ':Nat→Value} {w':World} {dst:Option Nat} {u:Value}
  (V:w'.os=w.os) (Y:w'.tape=w.tape) (W:w'.output=w.output) (X:w.heap.size≤w'.heap.size)
  (M:∀b,b<w.heap.size→(∀n,T n→¬bk (ρ n) b)→w'.heap[b]?=w.heap[b]?)
  (q:∀n o,lk n σ'.objs=some o→lk n new=none→¬T n∧∃d,lk n σ.objs=some d)
  (N:∀n o,lk n σ.objs=some o→¬T n→lk n new=none∧∃d,lk n σ'.objs=some d)
  (j:∀n,lk n new=none→ρ' n=ρ n)
  (B:∀n o b,lk n new=some o→bk (ρ' n) b→(∃m,T m∧bk (ρ m) b)∨w.heap.size≤b)
  (I:∀n m o r b,lk n new=some o→lk m new=some r→bk (ρ' n) b→bk (ρ' m) b→n=m)
  (U:∀n o,lk n σ'.objs=some o→A2 (vw w' O0 σ' ρ') o (ρ' n))
  (J:∀s v,lk s σ'.env=some v→B1 (vw w' O0 σ' ρ') v ((a.put dst u).tmps.getD s undef)) :
  Bn w0 K O0 nt ds σ' ρ' (a.put dst u) w':=by
 have ab:∀m,T m→∀b,bk (ρ m) b→b<w.heap.size:=fun m c b i=>by
  obtain⟨o,f⟩:=hT m c;exact(h.objs m o f).block_lt i
 have y:∀m,T m→∀b,bk (ρ m) b→¬K b∧¬O0 b:=fun m c b i=>by
  obtain⟨o,f⟩:=hT m c;exact h.free m b ⟨o,f⟩ i
 refine⟨⟨V.trans h.frm.os,Y.trans h.frm.tape,W.trans h.frm.output,TO h.frm.size X,fun k hk=>?_⟩,by rw[KL];exact h.nt,by rw[Gb];exact h.defers,fun p hp=>?_,U,?_,?_,J⟩
 ·exact(M k (AAJ (G k hk) h.frm.size) fun n hn i=>(y n hn k i).1 hk).trans (h.frm.block k hk)
 ·obtain⟨⟨o,h1⟩,g,F⟩:=h.pin p hp;have P:¬T p.1:=H p hp;obtain⟨D,E⟩:=N p.1 o h1 P;exact⟨E,(j _ D).trans g,F⟩
 ·intro n b x i;obtain⟨o,f⟩:=x;cases hn:lk n new with
  | none =>
   obtain⟨_,d,h1⟩:=q n o f hn;rw[j n hn]at i;exact h.free n b ⟨d,h1⟩ i
  | some e =>
   rcases B n e b hn i with ⟨m,c,t⟩|L
   ·exact y m c b t
   ·have:=h.frm.size;grind
 ·have key:∀n m o e b,lk n σ'.objs=some o→lk n new=none→lk m new=some e→bk (ρ' n) b→bk (ρ' m) b→False:=by
   intro n m o e b f hn c h1 g;obtain⟨Q,d,l⟩:=q n o f hn;rw[j n hn]at h1;rcases B m e b c g with ⟨C,z,t⟩|L
   ·obtain⟨Z,S⟩:=hT C z;have:=h.dist n C b ⟨d,l⟩ ⟨Z,S⟩ h1 t;exact Q (this▸z)
   ·have ad:b<w.heap.size:=(h.objs n d l).block_lt h1;omega
  intro n m b x O h1 g;obtain⟨o,f⟩:=x;obtain⟨r,A⟩:=O;cases hn:lk n new with
  | none =>
   cases c:lk m new with
   | none =>
    obtain⟨_,d,l⟩:=q n o f hn;obtain⟨_,e,R⟩:=q m r A c;rw[j n hn]at h1;rw[j m c]at g;exact h.dist n m b ⟨d,l⟩ ⟨e,R⟩ h1 g
   | some e=>exact(key n m o e b f hn c h1 g).elim
  | some d =>
   cases c:lk m new with
   | none=>exact(key m n r d b A c hn g h1).elim
   | some e=>exact I n m d e b hn c h1 g
theorem Bn.swap1P (h:Bn w0 K O0 nt ds σ ρ a w) (W:∀b,K b→b<w0.heap.size) (C:∀b,O0 b→b<w0.heap.size) {tl:List Nat} (hT:∀n,n∈tl→∃o,lk n σ.objs=some o) (X:∀p∈ds.pin,¬p.1∈tl)
  {e:Nat} (ar:e∈tl∨lk e σ.objs=none) {l:Obj} {loc:Value} {w':World}
  (ag:w'.os=w.os) (ak:w'.tape=w.tape) (ah:w'.output=w.output) (ai:w.heap.size≤w'.heap.size)
  (F:∀b,b<w.heap.size→(∀n,n∈tl→¬bk (ρ n) b)→w'.heap[b]?=w.heap[b]?)
  (ad:∀b,bk loc b→(∃m,m∈tl∧bk (ρ m) b)∨w.heap.size≤b)
  (af:∀V':Vw,V'.w=w'→CW ⟨w,own O0 σ ρ,fun _=>False,ρ⟩ V'→(∀b m,m∈tl→bk (ρ m) b→¬bk loc b→¬V'.O b)→A2 V' l loc)
  {d:Nat} (aa:d<nt) {v:AV} {u:Value} (Z:∀V':Vw,V'.L e→V'.ρ e=loc→B1 V' v u) :
  Bn w0 K O0 nt ds ⟨(d,v) :: BV tl σ.env,(e,l) :: Af tl tl σ.objs⟩ (Ek ρ e loc) (a.put (some d) u) w':=by
 let S:St:=⟨(d,v) :: BV tl σ.env,(e,l) :: Af tl tl σ.objs⟩
 have D:∀m o,lk m S.objs=some o→(m=e∧o=l)∨(m≠e∧m∉tl∧∃c,lk m σ.objs=some c∧o=c.fgt tl):=by
  intro m o f;simp only[S,lk]at f;split at f
  ·grind
  ·rename_i ao;rw[BS]at f;split at f
   ·cases f
   ·rename_i ap;simp only[No]at f;grind [AZ]
 have Y:∀m,m≠e→m∉tl→∀c,lk m σ.objs=some c→lk m S.objs=some (c.fgt tl):=by grind [lk,BS,AZ]
 have M:∀m,m∉tl→(∃o,lk m σ.objs=some o)→m≠e:=by grind
 have A:Ek ρ e loc e=loc:=Bj _ _ _;have r:∀m,m≠e→Ek ρ e loc m=ρ m:=fun m h1=>by simp[Ek,h1]
 generalize Ek ρ e loc=ρ' at A r;have N:∀b,b<w.heap.size→¬own O0 σ ρ b→¬own O0 S ρ' b:=by
  intro b k q am;rcases am with h0|⟨m,⟨o,ae⟩,z⟩
  ·exact q (.inl h0)
  ·rcases D m o ae with ⟨rfl,_⟩|⟨h1,i,c,g,_⟩
   ·rw[A]at z;rcases ad b z with ⟨t,aj,H⟩|H
    ·obtain⟨c,j⟩:=hT t aj;exact q (.inr ⟨t,⟨c,j⟩,H⟩)
    ·omega
   ·rw[r m h1]at z;exact q (.inr ⟨m,⟨c,g⟩,z⟩)
 have J:∀b,b<w.heap.size→¬own O0 σ ρ b→w'.heap[b]?=w.heap[b]?:=fun b k q=>F b k fun n hn E=>by
  obtain⟨c,j⟩:=hT n hn;exact q (.inr ⟨n,⟨c,j⟩,E⟩)
 have ab:CW ⟨w,own O0 σ ρ,fun _=>False,ρ⟩ (vw w' O0 S ρ'):=⟨N,fun _ h=>h.elim,fun _ h=>h.elim,J⟩;have hk:CW ((vw w O0 σ ρ).buts tl) (vw w' O0 S ρ'):=by
  refine⟨N,fun m f=>?_,fun m f=>?_,J⟩
  ·obtain⟨⟨c,h1⟩,i⟩:=f;have g:m∉tl:=fun h=>by rw[(AZ _ _).2 h]at i;cases i
   exact⟨_,Y m (M m g ⟨c,h1⟩) g c h1⟩
  ·obtain⟨⟨c,h1⟩,i⟩:=f;have g:m∉tl:=fun h=>by rw[(AZ _ _).2 h]at i;cases i
   exact r m (M m g ⟨c,h1⟩)
 refine h.swapP W C (T:=fun m=>m∈tl) hT X (new:=[(e,l)]) ag ak ah ai F ?_ ?_ ?_ ?_ ?_ ?_ ?_
 ·grind [lk]
 ·grind [lk]
 ·grind [lk]
 ·grind [lk]
 ·grind [lk]
 ·intro m o f;rcases D m o f with ⟨rfl,rfl⟩|⟨h1,i,c,g,rfl⟩
  ·rw[A];refine af _ rfl ab fun b m f k aq C=>?_;obtain⟨P,j⟩:=hT m f;rcases C with h0|⟨G,⟨an,V⟩,I⟩
   ·exact(h.free m b ⟨P,j⟩ k).2 h0
   ·rcases D G an V with ⟨rfl,_⟩|⟨Q,R,c,U,_⟩
    ·grind
    ·rw[r G Q]at I;exact R ((h.dist G m b ⟨_,U⟩ ⟨_,j⟩ I k)▸f)
  ·rw[r m h1];refine Sz hk (fun b k=>F b ((h.objs m c g).block_lt k) fun n hn E=>?_) (h.objs m c g);obtain⟨P,j⟩:=hT n hn;exact i ((h.dist m n b ⟨_,g⟩ ⟨_,j⟩ k E)▸hn)
 ·intro s x hs;rw[K4 a d u s (by rw[h.nt];exact aa)];simp only[S,lk]at hs;split at hs
  ·rename_i B;cases hs;rw[BY B];exact Z _ ⟨l,by simp[S,lk]⟩ A
  ·rename_i B;rw[At B];rw[DQ]at hs;simp only[No]at hs;obtain⟨y,al,rfl⟩:=hs;exact(PY (h.env s y al)).keeps hk
end
theorem bX {w:World} {O:Nat→Prop} {k v:Ty}:∀ {a:List MapEntry} {l:List (k.den×v.den)},KK w O k v a l→a.length=l.length∧∀(i:Nat) (e:MapEntry),a[i]?=some e→∃x,l[i]?=some x∧Bb w O k e.key x.1∧Bb w O v e.val x.2
 | [],[],_=>⟨rfl,fun i e h=>by simp at h⟩
 | [],_ :: _,h=>h.elim
 | _ :: _,[],h=>h.elim
 | e :: a,x :: l,⟨h1,f,b⟩=>by
  obtain⟨c,d⟩:=bX b;grind
section
variable {c:Cx} {R:Exit→Act→World→Prop} {k:List Dp} {σ:St}
end
end
section
open Go Go.RowKit
section
variable {c:Cx} {R:Exit→Act→World→Prop} {k:List Dp} {σ σ':St}
end
theorem CY {p:Prop} (h:p:=by first|exact trivial|((try dsimp only[Ty.den])<;>(repeat'(first|apply And.intro|intro _))<;>omega)|((try dsimp only[Ty.den]at *)<;>(repeat'(first|apply And.intro|intro _))<;>omega)):p:=h
end
section
open Go Go.RowKit
section
variable {c:Cx} {R:Exit→Act→World→Prop} {k:List Dp} {σ σ':St}
theorem z9 (q:c.Ok) {d m len:Nat} {t:TypeId} {x:Operand} {ty:TypeId} {pos:String} {after:Array Edge} {f e:Ty} {offs:List (Nat×Nat)} {el H:TypeId} {W:Nat} {U:AV} {a0:f.den} {xs:List e.den}
  (ap:lk t c.tb.ty=some ⟨.slice (.agg (.prod f (.slice e))),offs,el,W⟩) (ar:Aj σ x=some (.ag [U,.sr m e 0 len])) (aa:EZ false σ f U=some a0) (A:lk m σ.objs=some (.arr H e xs)) (aj:len=xs.length)
  (ba:(c.ds.pin.all fun p=>!AY p.1 [m])=true) (ai:lk d σ.objs=none) (bc:f.size+1≤16777216)
  {a:Act} {w:World} {next:Act→World→Prop} {Q:Exit→Act→World→Prop} (an:c.sat σ a w) (ae:d<c.nt)
  (hk:∀I w',c.sat ⟨(d,.sr d (.agg (.prod f (.slice e))) 0 1) :: BV [m] σ.env,(d,.nest el H f e [(a0,xs)] none) :: Af [m] [m] σ.objs⟩ I w'→next I w') :
  (⟨some d,.buildSlice t 1 #[(0,x)],ty,pos,after,none⟩:Oper).wpIn (FR c.r) 0 c.P a w next Q:=by
 obtain⟨ρ,y⟩:=an;have af:GK (vw w c.O0 σ ρ) σ a.eval:=D5 y.env;obtain⟨hu,hs,te,ao,aq⟩:=CJ (q.T _ _ ap) q.T;obtain⟨z,au,be⟩:=MG (q.T _ _ ao) w;obtain⟨cs,ad,ab⟩:=af x _ ar;obtain⟨c1,c2,rfl,h1,C⟩:=ab;obtain⟨aw,X,rfl,Z,D⟩:=C;have D:X=[]:=D;subst D;obtain⟨S,rfl,_,ax,l⟩:=Z;have G:=y.objs m _ A;have l:DK (plc (ρ m)) e.size 0 len S:=l;rw[PO G,aj]at l;have al:OC (vw w c.O0 σ ρ) H e xs (ρ m):=G;obtain⟨ay,bf,av,bg⟩:=G;have l:S=ρ m:=JO av l;subst l;have B:=aH (O':=own c.O0 σ ρ) (fun _ h=>h) (fun h=>by cases h) y.objs aa h1;have B:Bq w (own c.O0 σ ρ) f c1 a0:=B;have F:=B.length;have bb:te.ty.size=f.size+1:=by rw[aq];rfl
 have hs:=hs w;rw[show (Ty.agg (.prod f (.slice e))).size=f.size+1 from rfl]at hs;have L:(a.eval x).cells.toList=c1++[ρ m]:=by rw[ad];simp[Value.cells]
 have am:Instr.fill (fun i=>some (i*(f.size+1),f.size+1)) ((Array.range (1*(f.size+1))).map (fun i=>z.cells[i % z.cells.size]!)) [(0,a.eval x)]=some (c1++[ρ m]).toArray:=by
  have M:(a.eval x).cells.size=f.size+1:=by rw[←ABM,L];simp[F]
  rw[PR (by rw[M]) (by rw[M];simp)];rw[L];simp only[Instr.fill,ACw,Az,AAX,ABo,AAS];rw[List.drop_of_length_le (by simp[F]),AAh]
 have s:=Sw (w:=w) (et:=el) (sz:=f.size+1) (n:=1) (cells:=(c1++[ρ m]).toArray) (by simp[F]) (by simp[AO]);have s:(w.alloc (.cells (c1++[ρ m]).toArray el)).ownsRow 0 el (f.size+1) (.slice (some ⟨w.heap.size,0,none⟩) 1 1) 1 (c1++[ρ m]):=⟨s.1,s.2.imp (fun h=>h) fun⟨g,cap,Y,e,_,r⟩=>⟨g,cap,Y,e,NO _,r⟩⟩;have ah:(Instr.buildSlice t 1 #[(0,a.eval x)]).run c.P w=.ok (.slice (some ⟨w.heap.size,0,none⟩) 1 1) (w.alloc (.cells (c1++[ρ m]).toArray el)):=by
  have ak:¬(1*(f.size+1) > 16777216):=by omega
  have h0:¬(1*(f.size+1)=0):=by omega
  simp only[Instr.buildSlice,AB2,iF hu,AAA,hs,At ak,At h0,au,ABC,am,newRow];rfl
 have R:∀b,bk (ρ m) b→b<w.heap.size:=fun b k=>(y.objs m _ A).block_lt k;refine Aq (u:=.slice (some ⟨w.heap.size,0,none⟩) 1 1) (w':=w.alloc (.cells (c1++[ρ m]).toArray el)) (by simp[execOp,ah]) (hk _ _ ⟨Ek ρ d (.tuple (.slice (some ⟨w.heap.size,0,none⟩) 1 1 :: [ρ m]).toArray),?_⟩);refine y.swap1P q.K q.O (tl:=[m]) (w':=w.alloc (.cells (c1++[ρ m]).toArray el)) (u:=.slice (some ⟨w.heap.size,0,none⟩) 1 1) (loc:=.tuple (.slice (some ⟨w.heap.size,0,none⟩) 1 1 :: [ρ m]).toArray) (by simpa using ⟨_,A⟩) (fun p hp A=>?_) (.inr ai) rfl rfl rfl ?_ ?_ ?_ ?_ ae ?_
 ·grind [AZ]
 ·simp_all
 ·intro b2 o _;exact heap_alloc_old w _ o
 ·intro b2 o;rcases A9.1 o with k|⟨i,u,hi,k⟩
  ·grind [blk]
  ·have:u=ρ m:=by
    rcases i with _|i
    ·simpa using hi.symm
    ·simp at hi
   subst this;exact .inl ⟨m,by simp,.inl k⟩
 ·intro V' J E az;refine⟨_,[ρ m],c1++[ρ m],.inl rfl,by simp[AO],rfl,by rw[J];exact s,fun i bh u hi hu=>?_,fun i j b u v hi N hu bd=>?_,fun i b u hi k o=>?_⟩
  ·rcases i with _|i
   ·simp only[ABg,AB9]at hi hu;subst hi hu;exact⟨c1,ρ m,fun j z N=>by simpa using N,B.mono E.O E.heap,.inr ⟨rfl,.inl rfl,OC.keeps (V:=⟨w,own c.O0 σ ρ,fun _=>False,ρ⟩) E (fun b k=>by rw[J];exact heap_alloc_old w _ (R b (.inl k))) al⟩⟩
   ·simp at hi
  ·grind
  ·rcases i with _|i
   ·simp only[ABg,AB9]at hi;subst hi;have:=R b (.inl k);simp[blk]at o;omega
   ·simp at hi
 ·intro V' h1 C;refine⟨h1,?_⟩;rw[C];exact Fh s
def Nb (a b:Ty) (k:a.den):List (a.den×b.den)→List (a.den×b.den)
 | []=>[]
 | x :: r=>if Jk a k x.1=true then r else x :: Nb a b k r
theorem bZ {w:World} {O:Nat→Prop} {a b:Ty} {k:a.den}:∀ {c:List MapEntry} {l:List (a.den×b.den)},KK w O a b c l→∀i,
  (Hf a b k c l i=none∧Nb a b k l=l)∨∃(j:Nat) (v:Value),Hf a b k c l i=some (i+j,v)∧j<c.length∧KK w O a b (c.eraseIdx j) (Nb a b k l)
 | [],[],_,i=>.inl ⟨rfl,rfl⟩
 | [],_ :: _,h,_=>h.elim
 | _ :: _,[],h,_=>h.elim
 | e :: c,x :: l,⟨h1,o,f⟩,i=>by
  cases d:Jk a k x.1 with
  | true =>
   refine .inr ⟨0,e.val,by simp[Hf,d],by simp,?_⟩;simp only[Nb,d,AAQ,List.eraseIdx_cons_zero];exact f
  | false =>
   rcases bZ (k:=k) f (i+1) with ⟨g,m⟩|⟨j,v,g,m,n⟩
   ·grind [Hf,Nb]
   ·refine .inr ⟨j+1,v,?_,by simp;omega,?_⟩
    ·grind [Hf]
    ·simp only[Nb,d,AAT,ABk,List.eraseIdx_cons_succ];exact⟨h1,o,n⟩
theorem mH {a:Array MapEntry} {cl:Nat} (h:Qt a cl) (j:Nat):Qt (a.eraseIdxIfInBounds j) cl:=by
 unfold Qt at h ⊢;rw[ACf];have hs:=(List.eraseIdx_sublist a.toList j).map (·.born);grind
theorem mI (O:c.Ok) {ops:Array Oper} {rest:List Oper} {n:Nat} {t u:TypeId} {m x:Operand} {ty:TypeId} {pos:String} {after:Array Edge} {d g:Ty} {l:List (d.den×g.den)} {xv:AV} {kd:d.den} {I J:TypeId}
  (X:Aj σ m=some (.mp n)) (ad:Aj σ x=some xv) (hn:lk n σ.objs=some (.mapo d g l)) (U:Kv false σ d xv=some kd) (hu:c.P.underlying t=some (.map I J)) (B:Tr c.P I d)
  (hk:Hh c R k ops rest ⟨σ.env,upd n (.mapo d g (Nb d g kd l)) σ.objs⟩) :
  Hh c R k ops (⟨none,.call ⟨.builtin .delete,#[m,x],#[t,u]⟩,ty,pos,after,none⟩ :: rest) σ:=by
 intro Q T a w ab;unfold wpListIn;rw[BY (by simp[Region.wanted])];obtain⟨ρ,z⟩:=ab;have F:GK (vw w c.O0 σ ρ) σ a.eval:=D5 z.env;obtain⟨ae,b,s,Y⟩:=F m _ X;have s:ρ n=_:=s;have r:=KM (V:=vw w c.O0 σ ρ) (O':=own c.O0 σ ρ) (fun _ h=>h) (fun h=>by cases h) z.objs U (F x _ ad);obtain⟨b',y,cl,p,hh,q,E⟩:=z.objs n _ hn;rw[s]at p;injection p with p
 injection p with p
 subst p;have hh:w.heap[b]?=some (.map y cl):=hh;have r:Bb w (own c.O0 σ ρ) d (a.eval x) kd:=r;have q:KK w (own c.O0 σ ρ) d g y.toList l:=q;have G:=B.find r q;obtain⟨f,aa,S,N⟩:∃f:Array MapEntry,(Builtin.delete_ #[t,u] ty #[.map (some b),a.eval x]).run c.P w=.ok (.tuple #[]) { w with heap:=w.heap.setIfInBounds b (.map f cl) }∧KK w (own c.O0 σ ρ) d g f.toList (Nb d g kd l)∧Qt f cl:=by
  rcases bZ (k:=kd) q 0 with ⟨A,C⟩|⟨j,v,A,C,L⟩
  ·refine⟨y,?_,by rw[C];exact q,E⟩;simp[Builtin.delete_,iF hu,AB5 hh,B.check _ r,G,A,ABQ _ hh]
  ·refine⟨y.eraseIdxIfInBounds j,?_,by rw[ACf];exact L,mH E j⟩;simp[Builtin.delete_,iF hu,AB5 hh,B.check _ r,G,A,ABQ _ hh]
 refine Aq (u:=.tuple #[]) (w':={ w with heap:=w.heap.setIfInBounds b (.map f cl) }) (by simp[execOp,resolve,invoke,builtin,Y,aa]) (hk (fun o Z=>Q o (by simp[Z])) T _ _ ⟨ρ,?_⟩);have D:blk (ρ n)=some b:=by rw[s];rfl
 have H:w.grownBy { w with heap:=w.heap.setIfInBounds b (.map f cl) } (some b) :=
  ⟨rfl,rfl,rfl,by simp,fun i _ hi=>(ACn hh).2 i (fun e=>hi (by rw[e]))⟩
 refine z.upd O.K hn D H ⟨b,f,cl,s,(ACn hh).1,?_,N⟩;exact S.mono (fun _ _ h=>h) (fun b2 W M=>H.block b2 W (fun e=>by injection e with e;subst e;exact M (.inr ⟨n,⟨_,hn⟩,.inl D⟩)))
theorem mJ (j:c.Ok) {ops:Array Oper} {rest:List Oper} {d n:Nat} {t:TypeId} {m:Operand} {ty:TypeId} {pos:String} {after:Array Edge} {r s:Ty} {l:List (r.den×s.den)} {I x:TypeId}
  (C:Aj σ m=some (.mp n)) (hn:lk n σ.objs=some (.mapo r s l)) (hu:c.P.underlying t=some (.map I x)) (B:l.length≤AO)
  (hk:Hh c R k ops rest ⟨(d,.p (.int .i64) (l.length:Int)) :: σ.env,σ.objs⟩) :
  Hh c R k ops (⟨some d,.call ⟨.builtin .len,#[m],#[t]⟩,ty,pos,after,none⟩ :: rest) σ:=by
 intro q A a w G;unfold wpListIn;rw[BY (by simp[Region.wanted])];obtain⟨ρ,g⟩:=G;have z:GK (vw w c.O0 σ ρ) σ a.eval:=D5 g.env;have N:d<c.nt:=Be (q _ ABq) d rfl;obtain⟨L,b,h,D⟩:=z m _ C;have h:ρ n=_:=h;obtain⟨b',i,cl,f,hh,y,M⟩:=g.objs n _ hn;rw[h]at f;injection f with f
 injection f with f
 subst f;have hh:w.heap[b]?=some (.map i cl):=hh;have H:i.size=l.length:=by rw[←ABM];exact(bX y).1
 have F:(Builtin.len_ #[t] ty #[.map (some b)]).run c.P w=.ok (.int .i64 (l.length:Int)) w:=by
  simp[Builtin.len_,iF hu,AB5 hh,goInt,H]
 refine Aq (u:=.int .i64 (l.length:Int)) (w':=w) (by simp[execOp,resolve,invoke,builtin,D,F]) (hk (fun o E=>q o (by simp[E])) A _ _ ⟨ρ,?_⟩);refine g.add j.K j.O (dst:=some d) (fun J e=>by injection e with e;omega) (v:=.p (.int .i64) (l.length:Int)) (obs:=[]) (ρ':=ρ) rfl (QS.still ?_);exact BN (by simp only[AO]at B;simp only[JQ];omega)
theorem AA8 (g:c.Ok) {ops:Array Oper} {rest:List Oper} {n:Nat} {t u:TypeId} {m x:Operand} {ty:TypeId} {pos:String} {after:Array Edge} {b:Ty} {a:IntKind} {l:List (Int×b.den)} {xv:AV} {kd:Int} {d f:TypeId} {e:St}
  (hu:c.P.underlying t=some (.map d f)) (j:c.P.underlying d=some (.int a)) (hk:Hh c R k ops rest e) (i:Aj σ m=some (.mp n):=by simp only[go_sem,Nat.reduceEqDiff,reduceCtorEq,Nat.reduceAdd,Nat.reduceSub,Nat.reduceMul,Nat.reduceLeDiff,Nat.reduceLT,Int.reduceLE,Int.reduceToNat,Int.reduceNeg,↓reduceIte];rfl) (o:Aj σ x=some xv:=by simp only[go_sem,Nat.reduceEqDiff,reduceCtorEq,Nat.reduceAdd,Nat.reduceSub,Nat.reduceMul,Nat.reduceLeDiff,Nat.reduceLT,Int.reduceLE,Int.reduceToNat,Int.reduceNeg,↓reduceIte];rfl) (hn:lk n σ.objs=some (.mapo (.int a) b l):=by simp only[go_sem,Nat.reduceEqDiff,reduceCtorEq,Nat.reduceAdd,Nat.reduceSub,Nat.reduceMul,Nat.reduceLeDiff,Nat.reduceLT,Int.reduceLE,Int.reduceToNat,Int.reduceNeg,↓reduceIte];rfl) (h:Kv false σ (.int a) xv=some kd:=by simp only[go_sem,Nat.reduceEqDiff,reduceCtorEq,Nat.reduceAdd,Nat.reduceSub,Nat.reduceMul,Nat.reduceLeDiff,Nat.reduceLT,Int.reduceLE,Int.reduceToNat,Int.reduceNeg,↓reduceIte];rfl)
  (p:⟨σ.env,upd n (.mapo (.int a) b (Nb (.int a) b kd l)) σ.objs⟩=e:=by simp only[go_sem,Nat.reduceEqDiff,reduceCtorEq,Nat.reduceAdd,Nat.reduceSub,Nat.reduceMul,Nat.reduceLeDiff,Nat.reduceLT,Int.reduceLE,Int.reduceToNat,Int.reduceNeg,↓reduceIte];rfl) :
  Hh c R k ops (⟨none,.call ⟨.builtin .delete,#[m,x],#[t,u]⟩,ty,pos,after,none⟩ :: rest) σ:=mI g i o hn h hu (Gu rfl j) (p▸hk)
theorem AA9 (f:c.Ok) {ops:Array Oper} {rest:List Oper} {d n:Nat} {t:TypeId} {m:Operand} {ty:TypeId} {pos:String} {after:Array Edge} {a b:Ty} {l:List (a.den×b.den)} {i e:TypeId}
  (hu:c.P.underlying t=some (.map i e)) (g:l.length≤AO) (hk:Hh c R k ops rest ⟨(d,.p (.int .i64) (l.length:Int)) :: σ.env,σ.objs⟩) (h:Aj σ m=some (.mp n):=by simp only[go_sem,Nat.reduceEqDiff,reduceCtorEq,Nat.reduceAdd,Nat.reduceSub,Nat.reduceMul,Nat.reduceLeDiff,Nat.reduceLT,Int.reduceLE,Int.reduceToNat,Int.reduceNeg,↓reduceIte];rfl) (hn:lk n σ.objs=some (.mapo a b l):=by simp only[go_sem,Nat.reduceEqDiff,reduceCtorEq,Nat.reduceAdd,Nat.reduceSub,Nat.reduceMul,Nat.reduceLeDiff,Nat.reduceLT,Int.reduceLE,Int.reduceToNat,Int.reduceNeg,↓reduceIte];rfl) :
  Hh c R k ops (⟨some d,.call ⟨.builtin .len,#[m],#[t]⟩,ty,pos,after,none⟩ :: rest) σ:=mJ f h hn hu g hk
end
end
section
open Go Go.RowKit
section
variable {c:Cx} {R:Exit→Act→World→Prop} {k:List Dp} {σ σ':St}
theorem mK (m:c.Ok) {ops:Array Oper} {rest:List Oper} {d:Nat} {t Q:TypeId} {x y:Operand} {ty:TypeId} {pos:String} {after:Array Edge} {i j:IntKind} {offs:List (Nat×Nat)} {z:Nat} {xv s:AV} {b f:Int×Int}
  (L:lk t c.tb.ty=some ⟨.agg (.prod (.int i) (.int j)),offs,0,z⟩) (M:Aj σ x=some xv) (N:Aj σ y=some s) (D:Kv false σ (.agg (.prod (.int i) (.int j))) xv=some b) (E:Kv false σ (.agg (.prod (.int i) (.int j))) s=some f)
  (hk:Hh c R k ops rest ⟨(d,.p .bool (b.1==f.1&&b.2==f.2)) :: σ.env,σ.objs⟩) :
  Hh c R k ops (⟨some d,.binOp .eql t x y Q,ty,pos,after,none⟩ :: rest) σ:=by
 intro q G a w J;unfold wpListIn;rw[BY (by simp[Region.wanted])];obtain⟨ρ,l⟩:=J;have r:GK (vw w c.O0 σ ρ) σ a.eval:=D5 l.env;have X:d<c.nt:=Be (q _ ABq) d rfl;have hp:Mz c.P t i j:=(m.T _ _ L).1.1.2.2;have h1:=KM (V:=vw w c.O0 σ ρ) (O':=own c.O0 σ ρ) (fun _ h=>h) (fun h=>by cases h) l.objs D (r x _ M);have g:=KM (V:=vw w c.O0 σ ρ) (O':=own c.O0 σ ρ) (fun _ h=>h) (fun h=>by cases h) l.objs E (r y _ N);have h1:a.eval x=.agg #[.int i b.1,.int j b.2]:=Fj h1;have g:a.eval y=.agg #[.int i f.1,.int j f.2]:=Fj g;have I:(binOp .eql t (a.eval x) (a.eval y)).run c.P w=.ok (.bool (b.1==f.1&&b.2==f.2)) w:=by
  rw[h1,g];have:=Ts hp w b.1 b.2 f.1 f.2;simp only[binOp];simp[this]
 have F:(eqGuard .eql t x y (a.eval x) (a.eval y)).run c.P w=.ok () w:=by
  obtain⟨U,W,hu,-,-,⟨A,B⟩,-⟩:=hp;rw[h1,g];refine run_eqGuard_agg (P:=c.P) w .eql t x y _ _ ?_;have C:∃n,c.P.depth=n+2:=⟨_,rfl⟩;obtain⟨n,hn⟩:=C;rw[hn];simp[Program.eqGuardType,hu,A,B]
 refine Aq (u:=.bool (b.1==f.1&&b.2==f.2)) (w':=w) (by simp[execOp,F,I]) (hk (fun o H=>q o (by simp[H])) G _ _ ⟨ρ,?_⟩);refine l.add m.K m.O (dst:=some d) (fun S e=>by injection e with e;omega) (v:=.p .bool (b.1==f.1&&b.2==f.2)) (obs:=[]) (ρ':=ρ) rfl (QS.still ?_);exact⟨[.bool (b.1==f.1&&b.2==f.2)],rfl,rfl⟩
theorem AAa (g:c.Ok) {ops:Array Oper} {rest:List Oper} {d:Nat} {t q:TypeId} {x y:Operand} {ty:TypeId} {pos:String} {after:Array Edge} {i j:IntKind} {offs:List (Nat×Nat)} {f:Nat} {xv e:AV} {a b:Int×Int}
  (hk:Hh c R k ops rest ⟨(d,.p .bool (a.1==b.1&&a.2==b.2)) :: σ.env,σ.objs⟩) (m:lk t c.tb.ty=some ⟨.agg (.prod (.int i) (.int j)),offs,0,f⟩:=by rfl) (n:Aj σ x=some xv:=by simp only[go_sem,Nat.reduceEqDiff,reduceCtorEq,Nat.reduceAdd,Nat.reduceSub,Nat.reduceMul,Nat.reduceLeDiff,Nat.reduceLT,Int.reduceLE,Int.reduceToNat,Int.reduceNeg,↓reduceIte];rfl) (o:Aj σ y=some e:=by simp only[go_sem,Nat.reduceEqDiff,reduceCtorEq,Nat.reduceAdd,Nat.reduceSub,Nat.reduceMul,Nat.reduceLeDiff,Nat.reduceLT,Int.reduceLE,Int.reduceToNat,Int.reduceNeg,↓reduceIte];rfl)
  (h:Kv false σ (.agg (.prod (.int i) (.int j))) xv=some a:=by simp only[go_sem,Nat.reduceEqDiff,reduceCtorEq,Nat.reduceAdd,Nat.reduceSub,Nat.reduceMul,Nat.reduceLeDiff,Nat.reduceLT,Int.reduceLE,Int.reduceToNat,Int.reduceNeg,↓reduceIte];rfl) (l:Kv false σ (.agg (.prod (.int i) (.int j))) e=some b:=by simp only[go_sem,Nat.reduceEqDiff,reduceCtorEq,Nat.reduceAdd,Nat.reduceSub,Nat.reduceMul,Nat.reduceLeDiff,Nat.reduceLT,Int.reduceLE,Int.reduceToNat,Int.reduceNeg,↓reduceIte];rfl) :
  Hh c R k ops (⟨some d,.binOp .eql t x y q,ty,pos,after,none⟩ :: rest) σ:=mK g m n o h l hk
end
end
section
open Go Go.RowKit
section
variable {c:Cx} {σ:St} {ens:EN} {N:St→Prop}
theorem mL (J:c.Ok) {d m len:Nat} {t:TypeId} {x:Operand} {ty:TypeId} {pos:String} {after:Array Edge} {j e:Ty} {offs:List (Nat×Nat)} {el q:TypeId} {C:Nat} {A:AV} {a0:j.den} {xs:List e.den}
  (ab:lk t c.tb.ty=some ⟨.slice (.agg (.prod j (.slice e))),offs,el,C⟩) (ad:Aj σ x=some (.ag [A,.sr m e 0 len])) (I:EZ false σ j A=some a0) (i:lk m σ.objs=some (.arr q e xs)) (P:len=xs.length)
  (V:(c.ds.pin.all fun p=>!AY p.1 [m])=true) (O:lk d σ.objs=none) (Z:j.size+1≤16777216)
  (z:Ia ⟨some d,.buildSlice t 1 #[(0,x)],ty,pos,after,none⟩ ens=true) (hn:HR [m] σ.objs ens=true) (hf:Hj [m] ens=ens) (M:MV [(d,.nest el q j e [(a0,xs)] none)] ens=true) (K:d<c.nt)
  (F:N ⟨(d,.sr d (.agg (.prod j (.slice e))) 0 1) :: BV [m] σ.env,(d,.nest el q j e [(a0,xs)] none) :: Af [m] [m] σ.objs⟩) :
  UI c ⟨some d,.buildSlice t 1 #[(0,x)],ty,pos,after,none⟩ σ ens N:=by
 intro X σ' k g a w next Q Y S
 have L:∀s v,lk s X.env=some v→v.fgt [m]=v:=fun s v hs=>by
  obtain⟨obs,i⟩:=g.env s v hs;exact LL hf _ i
 have y:Yz σ σ':=by
  intro n o l;rw[k.objs];cases b:lk n X.objs with
  | none=>exact l
  | some ae =>
   obtain⟨e,f,hp⟩:=g.objs n ae b;rw[(DW hn e f _ hp).1]at l;cases l
 have R:∀n o,lk n X.objs=some o→n ∉ [m]:=fun n o T=>by
  obtain⟨e,f,hp⟩:=g.objs n o T;exact(DW hn e f _ hp).2.1
 have H:∀t∈[x].filterMap MN,lk t X.env=none:=fun t aa=>by
  cases b:lk t X.env with
  | none=>rfl
  | some v =>
   obtain⟨obs,i⟩:=g.env t v b;refine absurd ?_ (DV z _ i).1;simpa[GL,Op.operands] using aa
 have af:lk d X.env=none:=by
  cases b:lk d X.env with
  | none=>rfl
  | some v=>obtain⟨obs,i⟩:=g.env d v b;exact absurd rfl (DV z _ i).2
 have G:lk d X.objs=none:=by
  cases b:lk d X.objs with
  | none=>rfl
  | some u =>
   obtain⟨e,f,hp⟩:=g.objs d u b;have:=Ib M e f _ hp;simp[lk]at this
 have U:=Pm k H;refine z9 J (xs:=xs) (a0:=a0) ab (by rw[U x (by simp)];exact ad) (H7 y I) (y m _ i) P V (by rw[k.objs,G,O];rfl) Z Y K fun B w' W=>S _ F B w' _ ⟨fun s=>?_,fun n=>?_⟩ W
 ·have ah:lk s (BV [m] σ'.env)=(lk s X.env).or (lk s (BV [m] σ.env)):=by
   rw[DQ,DQ,k.env];cases b:lk s X.env with
   | none=>rfl
   | some v=>simp[L s v b]
  grind [lk]
 ·simp only[lk,BS,k.objs];by_cases r:n=d
  ·grind
  ·rw[At r,At r];cases b:lk n X.objs with
   | none=>simp
   | some u =>
    have E:LK u=true:=by
     obtain⟨e,f,hp⟩:=g.objs n u b;exact(DW hn e f _ hp).2.2
    have D:¬AY n [m]=true:=fun h=>R n _ b ((AZ _ _).1 h);rw[At D];exact AB6 some (RA E)
theorem AAb (j:c.Ok) {d m len:Nat} {t:TypeId} {x:Operand} {ty:TypeId} {pos:String} {after:Array Edge} {a e:Ty} {offs:List (Nat×Nat)} {el b:TypeId} {g:Nat} {f:AV} {a0:a.den} {xs:List e.den} {τ:St}
  (o:len=xs.length) (h:N τ) (w:Aj σ x=some (.ag [f,.sr m e 0 len]):=by simp only[go_sem,Nat.reduceEqDiff,reduceCtorEq,Nat.reduceAdd,Nat.reduceSub,Nat.reduceMul,Nat.reduceLeDiff,Nat.reduceLT,Int.reduceLE,Int.reduceToNat,Int.reduceNeg,↓reduceIte];rfl) (v:lk t c.tb.ty=some ⟨.slice (.agg (.prod a (.slice e))),offs,el,g⟩:=by rfl) (i:EZ false σ a f=some a0:=by simp only[go_sem,Nat.reduceEqDiff,reduceCtorEq,Nat.reduceAdd,Nat.reduceSub,Nat.reduceMul,Nat.reduceLeDiff,Nat.reduceLT,Int.reduceLE,Int.reduceToNat,Int.reduceNeg,↓reduceIte];rfl) (q:lk m σ.objs=some (.arr b e xs):=by simp only[go_sem,Nat.reduceEqDiff,reduceCtorEq,Nat.reduceAdd,Nat.reduceSub,Nat.reduceMul,Nat.reduceLeDiff,Nat.reduceLT,Int.reduceLE,Int.reduceToNat,Int.reduceNeg,↓reduceIte];rfl)
  (r:(c.ds.pin.all fun p=>!AY p.1 [m])=true:=by rfl) (n:lk d σ.objs=none:=by simp only[go_sem,Nat.reduceEqDiff,reduceCtorEq,Nat.reduceAdd,Nat.reduceSub,Nat.reduceMul,Nat.reduceLeDiff,Nat.reduceLT,Int.reduceLE,Int.reduceToNat,Int.reduceNeg,↓reduceIte]) (u:a.size+1≤16777216:=by decide)
  (s:Ia ⟨some d,.buildSlice t 1 #[(0,x)],ty,pos,after,none⟩ ens=true:=by rfl) (hn:HR [m] σ.objs ens=true:=by rfl) (hf:Hj [m] ens=ens:=by simp only[go_sem,Nat.reduceEqDiff,reduceCtorEq,Nat.reduceAdd,Nat.reduceSub,Nat.reduceMul,Nat.reduceLeDiff,Nat.reduceLT,Int.reduceLE,Int.reduceToNat,Int.reduceNeg,↓reduceIte]) (l:MV [(d,.nest el b a e [(a0,xs)] none)] ens=true:=by rfl) (k:Hg c.nt ⟨some d,.buildSlice t 1 #[(0,x)],ty,pos,after,none⟩=true:=by rfl)
  (y:⟨(d,.sr d (.agg (.prod a (.slice e))) 0 1) :: BV [m] σ.env,(d,.nest el b a e [(a0,xs)] none) :: Af [m] [m] σ.objs⟩=τ:=by simp only[go_sem,Nat.reduceEqDiff,reduceCtorEq,Nat.reduceAdd,Nat.reduceSub,Nat.reduceMul,Nat.reduceLeDiff,Nat.reduceLT,Int.reduceLE,Int.reduceToNat,Int.reduceNeg,↓reduceIte];rfl) :
  UI c ⟨some d,.buildSlice t 1 #[(0,x)],ty,pos,after,none⟩ σ ens N:=mL j v w i q o r n u s hn hf l (Be k d rfl) (y▸h)
end
end
section
open Go Go.RowKit
def mM:AV→Bool
 | .p t _=>t.flat
 | _=>false
theorem XV {V V':Vw}:∀ {fs:List AV} {cs:List Value},fs.all mM=true→Db V fs cs→Db V' fs cs
 | [],_,_,h=>h
 | x :: r,cs,hf,h=>by
  rw[ABh,As]at hf;obtain⟨c1,c2,rfl,h1,a⟩:=h;refine⟨c1,c2,rfl,?_,XV hf.2 a⟩;cases x with
  | p t d=>exact KN hf.1 h1
  | _=>cases hf.1
section
variable {c:Cx} {R:Exit→Act→World→Prop} {k:List Dp} {σ:St}
theorem A00 (ag:c.Ok) {ops:Array Oper} {rest:List Oper} {d:Nat} {g x y:Operand} {ts:Array TypeId} {ty:TypeId} {pos:String} {after:Array Edge} {f q:FuncId} {n m i len:Nat} {e H:Ty} {et bp A:TypeId} {N:List (H.den×List e.den)} {st:Bool} {fs:List AV} {row:List e.den} {D:Bool}
  (J:BA c.P f [.p (.slice e) row,.clo q [1]] [(1,.box A st fs)] [1] (fun res W=>res=.p .bool D∧W=[(1,.box A st fs)]))
  (am:Aj σ g=some (.fn f)) (bl:Aj σ x=some (.nin n e i len)) (bm:Aj σ y=some (.clo q [m])) (hn:lk n σ.objs=some (.nest et bp H e N none)) (bd:(N.getD i (H.dflt,[])).2=row) (G:lk m σ.objs=some (.box A st fs)) (ak:fs.all mM=true)
  (hk:Hh c R k ops rest ⟨(d,.p .bool D) :: σ.env,σ.objs⟩) :
  Hh c R k ops (⟨some d,.call ⟨.value g,#[x,y],ts⟩,ty,pos,after,none⟩ :: rest) σ:=by
 intro M ap a w bf;unfold wpListIn;rw[BY (by simp[Region.wanted])];obtain⟨ρ,l⟩:=bf;have aj:∀E,some d=some E→E<c.nt:=fun E h=>Be (M _ ABq) E h;have L:GK (vw w c.O0 σ ρ) σ a.eval:=D5 l.env;obtain⟨⟨fn,al,az,ae⟩,J⟩:=J;have an:a.eval g=.func (.func f) #[] #[]:=L g _ am;obtain⟨-,bx,ad,bq,bw,U,T,av,bs⟩:=L x _ bl;obtain⟨bo,bn⟩:=L y _ bm;have B:Gt σ m:=⟨_,G⟩;have ar:Gt σ n:=⟨_,hn⟩;have ba:n≠m:=fun e=>by rw[e,G]at hn;cases hn
 let objs:List (Nat×Obj):=[(1,.box A st fs)]
 let C:Nat→Value:=fun _=>ρ m
 let I:Nat→Prop:=fun b=>b<w.heap.size∧¬bk (ρ m) b
 have S:∀b,own (fun _=>False) ⟨[],objs⟩ C b→bk (ρ m) b:=by
  rintro b (h|⟨t,-,h⟩)
  ·exact h.elim
  ·exact h
 have af:∀ {V V':Vw} {loc:Value},V'.w=V.w→A2 V (.box A st fs) loc→A2 V' (.box A st fs) loc:=by
  rintro V V' loc bj ⟨h0,b,cs,aq,hh,ai⟩;exact⟨h0,b,cs,aq,by rw[bj];exact hh,XV ak ai⟩
 have aw:l9 I (fun _=>False) objs C w:=by
  refine⟨fun t o r=>?_,fun t b _ j=>⟨fun Z=>Z.2 j,fun h=>h⟩,fun n1 bt b h1 F _ _=>?_⟩
  ·simp only[objs,lk]at r;split at r
   ·cases r;exact af (V:=vw w c.O0 σ ρ) rfl (l.objs m _ G)
   ·cases r
  ·obtain⟨bu,h1⟩:=h1;obtain⟨bv,F⟩:=F;grind [lk]
 have bb:Bq w (own (fun _=>False) ⟨[],objs⟩ C) (.slice e) [a.eval x] row:=by
  have ao:N[i]?=some (N.getD i (H.dflt,[])):=by
   exact Sv (l.objs n _ hn) U T
  rw[←bd];refine p6 (V:=vw w c.O0 σ ρ) (fun b j h=>j (.inr ⟨m,B,S b h⟩)) (fun b j h=>?_) (l.objs n _ hn) U T av ao;exact ba (l.dist n m b ar B j (S b h))
 have ab:JE (vw w (fun _=>False) ⟨[],objs⟩ C) [.p (.slice e) row,.clo q [1]] [a.eval x,a.eval y]:=by
  refine⟨_,_,rfl,⟨_,bb,rfl⟩,_,_,rfl,⟨bo,fun t ay=>?_⟩,rfl⟩;have:t=1:=AB1.1 ay;subst this;exact⟨⟨_,rfl⟩,(bn m (by simp)).2⟩
 have ah:=J w I (fun _=>False) C [a.eval x,a.eval y] (fun b j=>j.1) (fun b j=>j.elim) aw ab;have be:(execOp a.eval ⟨some d,.call ⟨.value g,#[x,y],ts⟩,ty,pos,after,none⟩).run c.P w=.ok (.enter f [a.eval x,a.eval y].toArray) w:=by
  have X : ¬ fn.name = "runtime.NumGoroutine" := by simpa using az
  have Y:¬fn.body=none:=by intro e;simp[e]at ae
  simp[execOp,resolve,Deferred.ofValue,an,invoke,callFunc,al,X,Y]
 refine⟨fun _ _=>trivial,?_⟩;rw[Fk _ _ _ (fun cl e=>by cases e),be,ACH];refine⟨fun h=>(by simp[FR]at h),K8 (ah.mono fun e w' hh=>?_)⟩;obtain⟨u,rfl,res,W,ρ',⟨rfl,rfl⟩,z,ax,bc,bg⟩:=hh;have br:ρ' 1=ρ m:=bg 1 (by simp);have O:CW (vw w c.O0 σ ρ) (vw w' c.O0 ⟨(d,.p .bool D) :: σ.env,σ.objs⟩ ρ):=by
  refine⟨fun b _ j=>j,fun t h=>h,fun _ _=>rfl,fun b au j=>z.block b ⟨au,fun h=>j (.inr ⟨m,B,h⟩)⟩⟩
 have aa:∀b,c.K b→I b:=fun b j=>⟨AAJ (ag.K b j) l.frm.size,fun h=>(l.free m b B h).1 j⟩;refine hk (fun o r=>M o (by simp[r])) ap _ _ ⟨ρ,⟨z.os.trans l.frm.os,z.tape.trans l.frm.tape,z.output.trans l.frm.output,TO l.frm.size z.size,fun b j=>(z.block b (aa b j)).trans (l.frm.block b j)⟩,by rw[KL];exact l.nt,by rw[Gb];exact l.defers,l.pin,fun t o r=>?_,l.free,l.dist,fun s v bh=>?_⟩
 ·by_cases Q:t=m
  ·subst Q;have r:lk t σ.objs=some o:=r;rw[G]at r;cases r;have h1:=ax.obj 1 _ rfl;grind [vw]
  ·refine A2.keeps O (fun b j=>?_) (l.objs t o r);exact z.block b ⟨(l.objs t o r).block_lt j,fun h=>Q (l.dist t m b ⟨o,r⟩ B j h)⟩
 ·refine qQ (c:=c) (dst:=some d) (res:=.p .bool D) l.nt aj ?_ (fun s v bi=>(l.env s v bi).keeps O) bh;obtain⟨cs,h1,F⟩:=bc;exact⟨cs,KN rfl h1,F⟩
theorem AAc (l:c.Ok) {ops:Array Oper} {rest:List Oper} {d:Nat} {g x y:Operand} {ts:Array TypeId} {ty:TypeId} {pos:String} {after:Array Edge} {f q:FuncId} {n m i len:Nat} {e b:Ty} {et w a:TypeId} {N:List (b.den×List e.den)} {st:Bool} {fs:List AV} {row:List e.den} {h:Bool}
  (j:BA c.P f [.p (.slice e) row,.clo q [1]] [(1,.box a st fs)] [1] (fun res z=>res=.p .bool h∧z=[(1,.box a st fs)])) (t:(N.getD i (b.dflt,[])).2=row)
  (hk:Hh c R k ops rest ⟨(d,.p .bool h) :: σ.env,σ.objs⟩) (r:Aj σ g=some (.fn f):=by simp only[go_sem,Nat.reduceEqDiff,reduceCtorEq,Nat.reduceAdd,Nat.reduceSub,Nat.reduceMul,Nat.reduceLeDiff,Nat.reduceLT,Int.reduceLE,Int.reduceToNat,Int.reduceNeg,↓reduceIte]<;>rfl) (u:Aj σ x=some (.nin n e i len):=by simp only[go_sem,Nat.reduceEqDiff,reduceCtorEq,Nat.reduceAdd,Nat.reduceSub,Nat.reduceMul,Nat.reduceLeDiff,Nat.reduceLT,Int.reduceLE,Int.reduceToNat,Int.reduceNeg,↓reduceIte];rfl) (v:Aj σ y=some (.clo q [m]):=by simp only[go_sem,Nat.reduceEqDiff,reduceCtorEq,Nat.reduceAdd,Nat.reduceSub,Nat.reduceMul,Nat.reduceLeDiff,Nat.reduceLT,Int.reduceLE,Int.reduceToNat,Int.reduceNeg,↓reduceIte];rfl)
  (hn:lk n σ.objs=some (.nest et w b e N none):=by simp only[go_sem,Nat.reduceEqDiff,reduceCtorEq,Nat.reduceAdd,Nat.reduceSub,Nat.reduceMul,Nat.reduceLeDiff,Nat.reduceLT,Int.reduceLE,Int.reduceToNat,Int.reduceNeg,↓reduceIte];rfl) (s:lk m σ.objs=some (.box a st fs):=by simp only[go_sem,Nat.reduceEqDiff,reduceCtorEq,Nat.reduceAdd,Nat.reduceSub,Nat.reduceMul,Nat.reduceLeDiff,Nat.reduceLT,Int.reduceLE,Int.reduceToNat,Int.reduceNeg,↓reduceIte]<;>rfl) (o:fs.all mM=true:=by rfl) :
  Hh c R k ops (⟨some d,.call ⟨.value g,#[x,y],ts⟩,ty,pos,after,none⟩ :: rest) σ:=A00 l j r u v hn t s o hk
end
end
end Go.Proofs.YtdapahgnpbehbaaGreat.Fw
