/- Range over a function; scopes; several steps in one. -/
import Derived.Test.YtdapahgnpbehbaaGreatIZH
import Derived.RangeFuncFrom
import Derived.Scope
import Derived.Laws.IdiomRangeMap
import Derived.Laws.StructEq
set_option linter.unusedVariables false
set_option linter.unusedSimpArgs false
namespace Go.Proofs.YtdapahgnpbehbaaGreat.Fw
section
open Go Go.RowKit
theorem Xf {V:Vw} {f:FuncId} {ns:List Nat} {v:Value} (h:Bm V (.clo f ns) v):v=.func (.func f) #[] (ns.map V.ρ).toArray∧Hb V (ns.map fun n=>AV.bp n [] 0) (ns.map V.ρ):=by
 refine⟨h.1,?_⟩;have h0:∀l:List Nat,(∀n∈l,n∈ns)→Hb V (l.map fun n=>AV.bp n [] 0) (l.map V.ρ):=by
  intro l;induction l with
  | nil=>intro _;exact rfl
  | cons n r g =>
   intro c;obtain⟨d,b,a⟩:=h.2 n (c n (by simp));exact⟨V.ρ n,r.map V.ρ,rfl,⟨d,b,a,a⟩,g fun x e=>c x (by simp[e])⟩
 exact h0 ns fun _ h=>h
def Xg (P:Program) (yn:Nat) (A:List AV) (objs:List (Nat×Obj)) (stay:List Nat) (post:AV→List (Nat×Obj)→Prop):Prop :=
 ∀(w:World) (K O0:Nat→Prop) (ρ:Nat→Value) (a:List Value) (b:Nat),(∀b,K b→b<w.heap.size)→(∀b,O0 b→b<w.heap.size)→Zg K O0 objs ρ w→Hb (vw w O0 ⟨[],objs⟩ ρ) A a →
  ρ yn=.pointer (some ⟨b,0,none⟩)→YieldAt (FR none) 0 P b a.toArray w fun e w'=>∃u,e=.returned u∧NI K O0 stay w ρ post u w'
section
variable {c:Cx} {R:Exit→Act→World→Prop} {k:List DG} {σ:St}
def V0 (n:Nat):Option AV→Bool
 | some (.yl m)=>m==n
 | _=>false
theorem pS (O:c.Ok) (Z:c.r=none) {o:Oper} {dst:Option Nat} {g:Operand} {xs:List Operand} {ts:Array TypeId} (v:o.op=.call { callee:=.value g,args:=xs.toArray,argTypes:=ts }) (S:o.dst=dst)
  {n yn:Nat} (f:V0 n (AZ σ g)=true) {as:List AV} (M:Kk σ xs=some as)
  {A:List AV} {objs:List (Nat×Obj)} {stay:List Nat} {post:AV→List (Nat×Obj)→Prop} (I:Xg c.P yn A objs stay post)
  (ren:List (Nat×B8)) (ae:lk yn ren=some (.nm n)) (h1:CG ren=true) (D:Cc objs ren=true) (G:Bg σ ren as A) (J:Al σ.objs ren objs)
  (hs:List Nat) (X:(c.ds.pin.all fun p=>!AU p.1 hs)=true) {next:Act→World→Prop} {Q:Exit→Act→World→Prop} {a:Act} {w:World} (ab:c.sat σ a w) (R:∀d,dst=some d→d<c.nt)
  (hk:∀res y,post res y→∃(i:List (Nat×B8)) (z:AV) (j:List (Nat×Obj)),CG i=true∧Cc j i=true∧Al y i j∧Bn i res z ∧
   J9 ren i stay hs=true∧GI (Ap ren) j σ.objs=true∧∀q w',c.sat (Ci σ (Ap ren) hs dst z j) q w'→next q w'):o.wpIn (FR c.r) 0 c.P a w next Q:=by
 obtain⟨ρ,x⟩:=ab;have t:FK (vw w c.O0 σ ρ) σ a.eval:=DU x.env;obtain⟨b,af,T⟩:∃b:Nat,ρ n=.pointer (some ⟨b,0,none⟩)∧a.eval g=.func (.yield b) #[] #[]:=by
  cases k:AZ σ g with
  | none=>rw[k]at f;simp[V0]at f
  | some s =>
   rw[k]at f;have U:=t g s k;cases s<;>simp only[V0]at f<;>try(cases f;done)
   rename_i m;have V:m=n:=by simpa using f
   subst V;obtain⟨_,b,E,F⟩:=U;exact⟨b,E,F⟩
 obtain⟨B,C,ah,H,K,W,N,ag,Y⟩:=Ol O x (Vr t M) stay post ren h1 D G J hs X R hk;obtain⟨fn,tmps,assign,body,ad,L⟩:=I w B C ah (xs.map a.eval) b H K W N ((ag _ _ ae).trans af);have aa:(execOp a.eval o).run c.P w=.ok (.round b fn tmps assign body) w:=by
  simp[execOp,v,resolve,Deferred.ofValue,T,invoke];simpa using ad
 refine⟨fun _ _=>trivial,?_⟩;rw[Er _ _ _ (fun cl e=>by rw[v]at e;cases e),aa,Oper.uponIn_round];refine⟨fun h=>(by simp[FR]at h),?_⟩;rw[Z];refine L.mono fun e w' l=>?_;obtain⟨u,rfl,l⟩:=l;rw[S];exact Y u w' l
theorem k9 (C:c.Ok) (H:c.r=none) {ops:Array Oper} {rest:List Oper} {dst:Option Nat} {g:Operand} {xs:List Operand} {ts:Array TypeId} {ty:TypeId} {pos:String} {after:Array Edge}
  {n yn:Nat} (D:V0 n (AZ σ g)=true) {as:List AV} (B:Kk σ xs=some as)
  {A:List AV} {objs:List (Nat×Obj)} {stay:List Nat} {post:AV→List (Nat×Obj)→Prop} (y:Xg c.P yn A objs stay post)
  (ren:List (Nat×B8)) (hs:List Nat) (K:lk yn ren=some (.nm n)) (h1:CG ren=true) (u:Cc objs ren=true) (G:(c.ds.pin.all fun p=>!AU p.1 hs)=true) (v:Bg σ ren as A) (z:Al σ.objs ren objs)
  (hk:∀res e,post res e→∃(b:List (Nat×B8)) (f:AV) (d:List (Nat×Obj)),CG b=true∧Cc d b=true∧Al e b d∧Bn b res f ∧
   J9 ren b stay hs=true∧GI (Ap ren) d σ.objs=true∧GQ c R k ops rest (Ci σ (Ap ren) hs dst f d)) :
  GQ c R k ops (⟨dst,.call ⟨.value g,xs.toArray,ts⟩,ty,pos,after,none⟩ :: rest) σ:=by
 intro h E a w J;unfold wpListIn;rw[BY (by simp[Region.wanted])];refine pS C H (xs:=xs) (ts:=ts) rfl rfl D B y ren K h1 u v z hs G J (Bd (h _ (by simp))) fun res e hp=>?_;obtain⟨b,f,d,j,l,m,q,s,t,x⟩:=hk res e hp;exact⟨b,f,d,j,l,m,q,s,t,fun i w' I=>x (fun o F=>h o (by simp[F])) E i w' I⟩
end
def G8:List Nat→List AV→List (Nat×AV)→List (Nat×AV)
 | p :: a,x :: xs,e=>G8 a xs ((p,x) :: e)
 | _,_,e=>e
def cY (P:Program) (tb:Tb) (w0:World) (K O0:Nat→Prop) (nt l:Nat) (pin:List (Nat×Value)):Cx:={ P:=P,tb:=tb,w0:=w0,K:=K,O0:=O0,nt:=nt,ds:={ pin:=pin },r:=some l }
theorem c9 {P:Program} {tb:Tb} {w0:World} {K O0:Nat→Prop} {nt l:Nat} {pin:List (Nat×Value)}:(cY P tb w0 K O0 nt l pin).tb=tb:=rfl
def pT (P:Program) (l:Nat) (w0:World) (K O0:Nat→Prop) (stay:List Nat) (ρ0:Nat→Value) (post:AV→List (Nat×Obj)→Prop):Exit→Act→World→Prop :=
 roundPost P l fun e w'=>∃u,e=.returned u∧NI K O0 stay w0 ρ0 post u w'
theorem dA {V:Vw}:∀(b:List Nat) (A:List AV) (c:List Value) (e:List (Nat×AV)) (a:Array Value),Hb V A c→(∀p∈b,p<a.size)→A.length=b.length→(∀s x,lk s e=some x→Bm V x (a.getD s undef)) →
  (∀s x,lk s (G8 b A e)=some x→Bm V x (((b.zip c).foldl (fun t (p,v)=>t.setIfInBounds p v) a).getD s undef))∧((b.zip c).foldl (fun t (p,v)=>t.setIfInBounds p v) a).size=a.size
 | [],_,_,e,a,_,_,_,h=>by simpa[G8] using h
 | p :: b,[],_,e,a,_,_,d,_=>by simp at d
 | p :: b,x :: A,c,e,a,⟨v,r,m,h1,j⟩,hp,d,h=>by
  subst m;simp only[ACa,TO,G8];have g:=dA b A r ((p,x) :: e) (a.setIfInBounds p v) j (fun q l=>by simpa using hp q (by simp[l])) (by simpa using d) (fun s y hs=>by
   have f:=JT { tmps:=a,defers:=[] } p v s (hp p (by simp));have f:(a.setIfInBounds p v).getD s undef=if s=p then v else a.getD s undef:=f
   rw[f];simp only[lk]at hs;split at hs
   ·rename_i i;cases hs;rw[BY i];exact h1
   ·rename_i k;rw[At k];exact h s y hs)
  exact⟨g.1,by rw[g.2];simp⟩
section
variable {P:Program} {tb:Tb} {w0:World} {K O0:Nat→Prop} {nt l:Nat} {stay:List Nat} {ρ0:Nat→Value} {post:AV→List (Nat×Obj)→Prop} {σ:St} {pin:List (Nat×Value)}
theorem R2 {c:Cx} (i:c.Ok) {σ:St} {a:Act} {w:World} {ρ:Nat→Value} (hs:Bb c.w0 c.K c.O0 c.nt c.ds σ ρ a w) {yn b:Nat} {L:Go.Loop} (h:lk yn σ.objs=some (.loop L)) (d:ρ yn=.pointer (some ⟨b,0,none⟩)) (e:Go.Loop) :
  w.heap[b]?=some (.loop L)∧Bb c.w0 c.K c.O0 c.nt c.ds ⟨σ.env,upd yn (.loop e) σ.objs⟩ ρ a (w.putObj b (.loop e)):=by
 obtain⟨b',h1,f⟩:=hs.objs yn _ h;rw[d]at h1;injection h1 with h1
 injection h1 with h1
 injection h1 with h1
 subst h1;have j:b<w.heap.size:=B5 f;refine⟨f,hs.upd i.K h (g:=b) (by rw[d];rfl) (grownBy_putObj' w b _) ?_⟩;exact⟨b,d,World.putObj_heap_same j⟩
theorem lA (f:(cY P tb w0 K O0 nt l pin).Ok) {yn:Nat} {L:Go.Loop} (g:lk yn σ.objs=some (.loop L)) (h:pin=stay.map fun n=>(n,ρ0 n)) (i:yn∈stay) (e:ρ0 yn=.pointer (some ⟨l,0,none⟩))
  (hp:post (.p .bool true) (upd yn (.loop { L with state:=.ready,pending:=none }) σ.objs)) :
  Ev (cY P tb w0 K O0 nt l pin) (pT P l w0 K O0 stay ρ0 post) (.out .normal) [] σ:=by
 intro _ _ a w hs;obtain⟨ρ,hs⟩:=hs;have c:∀n∈stay,ρ n=ρ0 n:=fun n hn=>(hs.pin (n,ρ0 n) (by rw[show (cY P tb w0 K O0 nt l pin).ds.pin=pin from rfl,h];exact Of.2 ⟨n,hn,rfl⟩)).2.1;obtain⟨d,b⟩:=R2 f hs g ((c _ i).trans e) { L with state:=.ready,pending:=none };refine⟨_,_,run_endRound none d,.bool true,rfl,.p .bool true,_,ρ,hp,b.frm,⟨b.objs,b.free,b.dist⟩,⟨_,rfl,rfl⟩,c⟩
def A1p (c:Cx) (R:Exit→Act→World→Prop) (yn:Nat) (L:Go.Loop) (a:Code) (σ:St):Prop :=
 lk yn σ.objs=some (.loop L)∧Ev c R (.run a) [] ⟨σ.env,upd yn (.loop { L with state:=.busy }) σ.objs⟩
theorem pU {yn fr:Nat} {A:List AV} {objs:List (Nat×Obj)} {L:Go.Loop} {d:List Nat} {r s:Code} {fs:List (Nat×AV)} {g:Array Value}
  (B:lk yn objs=some (.loop L)) (hf:lk fr objs=some (.frame g fs)) (h1:L.state=.ready) (y:L.params=d.toArray) (J:L.assign=r) (M:L.body=s) (N:L.tmps=g) (G:g.size=nt)
  (C:A.length=d.length) (aa:(d.all fun p=>decide (p<nt))=true) (ah:yn∈stay) (ae:stay.all (Pz objs)=true) (Y:Ka objs=true) (T:Bk nt r=true) (U:Bk nt s=true) (hT:Cg P tb) (hF:Hl P tb)
  (h:∀(w0:World) (K O0:Nat→Prop) (ρ0:Nat→Value) (l:Nat),(cY P tb w0 K O0 nt l (stay.map fun n=>(n,ρ0 n))).Ok→NJ A→MM objs→ρ0 yn=.pointer (some ⟨l,0,none⟩) →
   Ev (cY P tb w0 K O0 nt l (stay.map fun n=>(n,ρ0 n))) (fun _ _ _=>False) (.run r) [.inv (A1p (cY P tb w0 K O0 nt l (stay.map fun n=>(n,ρ0 n))) (pT P l w0 K O0 stay ρ0 post) yn L s)] ⟨G8 d A fs,objs⟩) :
  Xg P yn A objs stay post:=by
 intro w K O0 ρ q b Q R f x u;have ag:=Hv x;obtain⟨b',c,X⟩:=f.obj yn _ B;rw[u]at c;injection c with c
 injection c with c
 injection c with c
 subst c;have ab:=run_yield (P:=P) (args:=q.toArray) X (by rw[y];simp[ag,C]);refine⟨_,_,_,_,ab,roundIn_of_wpIn trivial ?_⟩;have z:(cY P tb w K O0 nt b (stay.map fun n=>(n,ρ n))).Ok:=⟨Q,R,hT,hF⟩;have W:=f.obj fr _ hf;have D:=dA (V:=vw w O0 ⟨[],objs⟩ ρ) d A q fs g x (fun p hp=>by have:=(DO.1 aa) p hp;rw[G];simpa using this) C W.2;have af:(L.params.zip q.toArray).foldl (fun t (p,v)=>t.setIfInBounds p v) L.tmps=(d.zip q).foldl (fun t (p,v)=>t.setIfInBounds p v) g:=by
  rw[y,N,List.zip_toArray];simp
 rw[J,M,af];have ad:(cY P tb w K O0 nt b (stay.map fun n=>(n,ρ n))).sat ⟨G8 d A fs,objs⟩ { tmps:=(d.zip q).foldl (fun t (p,v)=>t.setIfInBounds p v) g,defers:=[] } w:=by
  refine⟨ρ,⟨rfl,rfl,rfl,If _,fun _ _=>rfl⟩,by rw[D.2];exact G,rfl,fun p hp=>?_,f.obj,f.free,f.dist,D.1⟩;obtain⟨n,hn,rfl⟩:=Of.1 hp;have:=(DO.1 ae) n hn;unfold Pz at this;cases i:lk n objs with
  | none=>rw[i]at this;cases this
  | some o =>
   rw[i]at this;refine⟨⟨o,i⟩,rfl,?_⟩;have j:=f.obj n o i;cases o with
   | arr et e xs=>exact .inr this
   | nest et am k e xs B=>exact .inr this
   | box et ar fs=>obtain⟨_,b,cs,a,_⟩:=j;rw[a];exact .inl rfl
   | mapo k v l=>obtain⟨b,ak,cl,a,_⟩:=j;rw[a];exact .inl rfl
   | frame g fs=>obtain⟨a,_⟩:=j;rw[a];exact .inl rfl
   | loop L=>obtain⟨b,a,_⟩:=j;rw[a];exact .inl rfl
   | itr an aq ao ap al=>obtain⟨b,a,_⟩:=j;rw[a];exact .inl rfl
   | dfr=>obtain⟨b,a,_⟩:=j;rw[a];exact .inl rfl
 have O:=h w K O0 ρ b z (Qu x) (Qv Y fun n o i=>Vq (f.obj n o i)) u (by simpa[Hq,cY] using T) rfl _ _ ad;refine ACB (F:=FR (some b)) O ?_;intro e aj w' m;cases e with
 | normal =>
  obtain⟨σ',⟨ρ',E⟩,Z,S⟩:=m;have ai:ρ' yn=.pointer (some ⟨b,0,none⟩):=(E.pin (yn,ρ yn) (Of.2 ⟨yn,ah,rfl⟩)).2.1.trans u;obtain⟨H,I⟩:=R2 z E Z ai { L with state:=.busy };exact⟨_,run_beginRound H h1,S (by simpa[Hq,cY] using U) rfl _ _ ⟨ρ',I⟩⟩
 | exit id=>exact m.elim
 | goto t=>exact m.elim
 | ret=>exact m.elim
 | panic ch=>exact m.elim
 | outgrown=>exact m.elim
end
end
section
open Go Go.RowKit
def Cx.marked (c:Cx) (dn b:Nat):Cx:={ c with ds:={ ds:=⟨.collected b,#[]⟩ :: c.ds.ds,pin:=(dn,.pointer (some ⟨b,0,none⟩)) :: c.ds.pin } }
def Cx.marked2 (c:Cx) (yn dn b:Nat):Cx:={ c with ds:={ ds:=⟨.collected b,#[]⟩ :: c.ds.ds,pin:=(yn,.pointer (some ⟨b+1,0,none⟩)) :: (dn,.pointer (some ⟨b,0,none⟩)) :: c.ds.pin } }
theorem Zm {c:Cx} {yn dn b:Nat} (h:c.Ok):(c.marked2 yn dn b).Ok:=⟨h.K,h.O,h.T,h.F⟩
theorem LZ {c:Cx} {dn b:Nat}:(c.marked dn b).tb=c.tb:=rfl
theorem lB {c:Cx} {dn b:Nat} (h:c.Ok):(c.marked dn b).Ok:=⟨h.K,h.O,h.T,h.F⟩
theorem lC (ren:List (Nat×B8)) (x:AV):Bn ren x .top:=by
 unfold Bn;split
 ·simp_all
 ·unfold Gv;split
  ·simp_all
  ·unfold DV;split<;>simp_all
def Xh:List DG→Bool
 | []=>true
 | .inv _ :: _=>false
 | _ :: k=>Xh k
theorem MQ {c:Cx} {R:Exit→Act→World→Prop} {dn b:Nat}:∀ {k:List DG},Xh k=true→Rb (c.marked dn b) R k=Rb c R k
 | [],_=>by funext e a w;simp[Rb]
 | .inv _ :: _,h=>by simp[Xh]at h
 | .seq y :: k,h=>by
  have d:=MQ (c:=c) (R:=R) (dn:=dn) (b:=b) (k:=k) h;funext e a w;cases e<;>simp only[Rb,d]<;>rfl
 | .blk id :: k,h=>by
  have d:=MQ (c:=c) (R:=R) (dn:=dn) (b:=b) (k:=k) h;funext e a w;cases e<;>simp only[Rb,d]
def Bj (σ:St) (yn dn fr:Nat) (L:Go.Loop) (a:Array Value):St:=⟨σ.env,(yn,.loop L) :: (dn,.dfr) :: (fr,.frame a σ.env) :: σ.objs⟩
section
variable {c:Cx} {R:Exit→Act→World→Prop} {k:List DG} {σ:St}
theorem lD (y:c.Ok) {a:Act} {w:World} {ρ:Nat→Value} (hs:Bb c.w0 c.K c.O0 c.nt c.ds σ ρ a w) {yn dn fr:Nat} (z:yn≠dn) (J:yn≠fr) (M:dn≠fr) (N:lk yn σ.objs=none) (P:lk dn σ.objs=none) (Q:lk fr σ.objs=none) (L:Go.Loop) :
  ∃e,Bb c.w0 c.K c.O0 c.nt (c.marked2 yn dn w.heap.size).ds (Bj σ yn dn fr L a.tmps) e { a with defers:=[{ target:=.collected w.heap.size,args:=#[] }]++a.defers } ((w.alloc (.deferred (some []))).alloc (.loop L))∧e yn=.pointer (some ⟨w.heap.size+1,0,none⟩):=by
 let e:Nat→Value:=fun m=>if m=yn then .pointer (some ⟨w.heap.size+1,0,none⟩) else if m=dn then .pointer (some ⟨w.heap.size,0,none⟩) else if m=fr then .pointer none else ρ m
 have q:e yn=.pointer (some ⟨w.heap.size+1,0,none⟩):=by simp[e]
 have r:e dn=.pointer (some ⟨w.heap.size,0,none⟩):=by simp[e,ACE z]
 have t:e fr=.pointer none:=by simp[e,ACE J,ACE M]
 obtain⟨l,u⟩:∃l,(w.alloc (.deferred (some []))).alloc (.loop L)=l:=⟨_,rfl⟩;have H:l.heap[w.heap.size+1]?=some (.loop L):=by
  rw[←u];have:=World.alloc_heap_new (w.alloc (.deferred (some []))) (.loop L);rwa [World.size_alloc]at this
 have G:l.heap[w.heap.size]?=some (.deferred (some [])):=by
  rw[←u];exact(Below.heap_alloc _ _ _ (by simp)).trans (World.alloc_heap_new w _)
 have v:Below w.heap.size w l:=by
  rw[←u];exact((Below.refl _ w).alloc (If _) _).alloc (by simp) _
 rw[u];have A:BQ [(yn,Obj.loop L),(dn,.dfr),(fr,.frame a.tmps σ.env)] σ=true:=by simp[BQ,N,P,Q]
 have C:∀n,lk n [(yn,Obj.loop L),(dn,Obj.dfr),(fr,.frame a.tmps σ.env)]=none→e n=ρ n:=fun n hn=>by
  simp only[lk]at hn;split at hn
  ·cases hn
  ·split at hn
   ·cases hn
   ·split at hn
    ·cases hn
    ·rename_i D E F;simp[e,D,E,F]
 have B:∀n o b,lk n [(yn,Obj.loop L),(dn,Obj.dfr),(fr,.frame a.tmps σ.env)]=some o→bk (e n) b→w.heap.size≤b:=fun n o b hn f=>by
  simp only[lk]at hn;split at hn
  ·rename_i g;subst g;rw[q]at f;simp[bk,blk]at f;omega
  ·split at hn
   ·rename_i g;subst g;rw[r]at f;simp[bk,blk]at f;omega
   ·split at hn
    ·rename_i g;subst g;rw[t]at f;simp[bk,blk]at f
    ·cases hn
 have R:=Gn (O0:=c.O0) (ρ:=ρ) (ρ':=e) A v C B;have S:QS w c.O0 σ ρ .top [(yn,Obj.loop L),(dn,.dfr),(fr,.frame a.tmps σ.env)] undef e l:=by
  refine⟨v,C,trivial,fun n o hn=>?_,B,fun n m o U b hn j f k=>?_⟩
  ·simp only[lk]at hn;split at hn
   ·rename_i g;cases hn;subst g;exact⟨_,q,H⟩
   ·split at hn
    ·rename_i g;cases hn;subst g;exact⟨_,r,G⟩
    ·split at hn
     ·rename_i g;cases hn;subst g;exact⟨t,fun s x T=>(hs.env s x T).keeps R⟩
     ·cases hn
  ·simp only[lk]at hn j;split at hn
   ·rename_i g;rw[g,q]at f;simp[bk,blk]at f;split at j
    ·rename_i i;rw[g,i]
    ·split at j
     ·rename_i i;rw[i,r]at k;simp[bk,blk]at k;omega
     ·split at j
      ·rename_i i;rw[i,t]at k;simp[bk,blk]at k
      ·cases j
   ·split at hn
    ·rename_i g;rw[g,r]at f;simp[bk,blk]at f;split at j
     ·rename_i i;rw[i,q]at k;simp[bk,blk]at k;omega
     ·split at j
      ·rename_i i;rw[g,i]
      ·split at j
       ·rename_i i;rw[i,t]at k;simp[bk,blk]at k
       ·cases j
    ·split at hn
     ·rename_i g;rw[g,t]at f;simp[bk,blk]at f
     ·cases hn
 have h:=hs.add y.K y.O (dst:=none) (fun d I=>by cases I) A S;refine⟨e,⟨h.frm,h.nt,?_,fun p hp=>?_,h.objs,h.free,h.dist,h.env⟩,q⟩
 ·show _=_ :: c.ds.ds;rw[←hs.defers];rfl
 ·rcases Do.1 hp with rfl|hp
  ·exact⟨⟨.loop L,by simp[Bj,lk]⟩,q,.inl rfl⟩
  rcases Do.1 hp with rfl|hp
  ·exact⟨⟨.dfr,by simp[Bj,lk,ACE z]⟩,r,.inl rfl⟩
  ·exact h.pin p hp
def EvJ (c:Cx) (R:Exit→Act→World→Prop) (k:List DG) (σ:St):Option Code→Prop
 | none=>Ev c R (.out .normal) k σ
 | some a=>match a with
  | .ret=>Ev c R (.out .ret) k σ
  | .exit id=>Ev c R (.out (.exit id)) k σ
  | _=>False
def A3K (c:Cx) (R:Exit→Act→World→Prop) (k:List DG) (a:Act) (w:World):Option Code→Prop
 | none=>Rb c R k .normal a w
 | some cd=>cd.wpIn (FR c.r) 0 c.P (Rb c R k) a w
theorem vK {dn b:Nat} (g:Xh k=true) (e:CZ c.nt k=true) {p:Option Code} (d:EvJ (c.marked dn b) R k σ p) {a:Act} {w:World} (hs:(c.marked dn b).sat σ a w) :
  A3K c R k a w p:=by
 have f:=MQ (c:=c) (R:=R) (dn:=dn) (b:=b) g;cases p with
 | none =>
  have:=d rfl e _ _ hs;show Rb c R k .normal a w;rw[←f];exact this
 | some cd =>
  cases cd<;>try exact d.elim
  ·have:=d rfl e _ _ hs;refine wpIn_exit ?_;rw[←f];exact this
  ·have:=d rfl e _ _ hs;refine wpIn_ret ?_;rw[←f];exact this
theorem pV (X:c.Ok) (bn:c.r=none) (bh:Xh k=true) {g:Operand} {Q:Array Tmp} {G H:Code} {s:FuncId} {l:List Nat} (K:AZ σ g=some (.clo s l))
  (yn dn fr:Nat) (D:(yn != dn&&yn != fr&&dn != fr)=true) (bd:lk yn σ.objs=none) (be:lk dn σ.objs=none) (bf:lk fr σ.objs=none)
  (ap:∀(L:Go.Loop) (z:Array Value),L.state=.ready→L.pending=none→L.tmps=z→L.params=Q→L.assign=G→L.body=H→z.size=c.nt →
   ∃(A:List AV) (objs:List (Nat×Obj)) (stay:List Nat) (post:AV→List (Nat×Obj)→Prop) (ren:List (Nat×B8)) (hs:List Nat),BE c.P s A objs stay post ∧
    CG ren=true∧Cc objs ren=true∧Bg (Bj σ yn dn fr L z) ren (.yl yn :: l.map fun n=>AV.bp n [] 0) A∧Al (Bj σ yn dn fr L z).objs ren objs ∧
    (((yn,undef) :: (dn,undef) :: c.ds.pin).all fun p=>!AU p.1 hs)=true ∧
    ∀res y,post res y→∃(j:List (Nat×B8)) (i:List (Nat×Obj)) (m:Go.Loop),CG j=true∧Cc i j=true∧Al y j i∧J9 ren j stay hs=true∧GI (Ap ren) i (Bj σ yn dn fr L z).objs=true ∧
     lk yn i=some (.loop m)∧(m.state == .busy)=false ∧
     ∀b,EvJ (c.marked dn b) R k ⟨(Ci (Bj σ yn dn fr L z) (Ap ren) hs none .top i).env,upd yn (.loop { m with state:=.exhausted }) (Ci (Bj σ yn dn fr L z) (Ap ren) hs none .top i).objs⟩ m.pending) :
  Ev c R (.run (.rangeFunc g Q G H)) k σ:=by
 intro h1 an a w bq;obtain⟨ρ,hs⟩:=bq;have bc:FK (vw w c.O0 σ ρ) σ a.eval:=DU hs.env;obtain⟨aa,_⟩:=Xf (bc g _ K);simp only[An,ABR,ne_eq]at D;obtain⟨⟨ay,az⟩,ba⟩:=D;refine wpIn_rangeFunc (F:=FR c.r) ?_;intro fn _;have bo:(FR c.r).round=none:=by rw[bn];rfl
 rw[bo];obtain⟨L,x⟩:∃L:Go.Loop,L={ state:=.ready,pending:=none,fn,tmps:=a.tmps,params:=Q,assign:=G,body:=H,defers:=w.heap.size }:=⟨_,rfl⟩;obtain⟨S,O,bs⟩:=lD X hs ay az ba bd be bf L;obtain⟨A,objs,stay,post,ren,B,J,ah,ai,aj,ak,al,am⟩:=ap L a.tmps (by rw[x]) (by rw[x]) (by rw[x]) (by rw[x]) (by rw[x]) (by rw[x]) hs.nt;obtain⟨⟨T,ax,bk,au⟩,J⟩:=J;obtain⟨o,W⟩:∃o,(w.alloc (.deferred (some []))).alloc (.loop L)=o:=⟨_,rfl⟩;rw[W]at O;have Y:(c.marked2 yn dn w.heap.size).Ok:=Zm X;have aw:Hb (vw o c.O0 (Bj σ yn dn fr L a.tmps) S) (.yl yn :: l.map fun n=>AV.bp n [] 0) (.func (.yield (w.heap.size+1)) #[] #[] :: l.map ρ):=by
  refine⟨_,_,rfl,⟨⟨_,by simp[Bj,lk];rfl⟩,_,bs,rfl⟩,?_⟩;have Z:=Xf (V:=vw o c.O0 (Bj σ yn dn fr L a.tmps) S) (f:=s) (ns:=l) (v:=a.eval g) (by
   have:=DU O.env;have bl:AZ (Bj σ yn dn fr L a.tmps) g=some (.clo s l):=by
    cases g with
    | tmp t=>exact K
    | _=>exact K
   have U:=this g _ bl;have bb:({ a with defers:=[{ target:=.collected w.heap.size,args:=#[] }]++a.defers }:Act).eval g=a.eval g:=by cases g<;>rfl
   rw[bb]at U;exact U)
  have e:=Z.1;rw[aa]at e;have I:l.map ρ=l.map S:=by
   have e:=AB5 (fun v:Value=>match v with|.func _ _ cs=>cs.toList|_=>[]) e;simpa[vw] using e
  rw[I];exact Z.2
 have bi:∀res y,post res y→∃(j:List (Nat×B8)) (ad:AV) (i:List (Nat×Obj)),CG j=true∧Cc i j=true∧Al y j i∧Bn j res ad ∧
   J9 ren j stay B=true∧GI (Ap ren) i (Bj σ yn dn fr L a.tmps).objs=true∧∀C w',(c.marked2 yn dn w.heap.size).sat (Ci (Bj σ yn dn fr L a.tmps) (Ap ren) B none ad i) C w' →
    rangePost (FR c.r) 0 c.P (w.heap.size+1) (Rb c R k) C (.returned undef) w':=by
  intro res y hp;obtain⟨j,i,m,bu,bv,bw,bx,bz,ca,ab,cb⟩:=am res y hp;refine⟨j,.top,i,bu,bv,bw,lC j res,bx,bz,fun C w' E=>?_⟩;obtain⟨ρ',E⟩:=E;have bt:lk yn (Ci (Bj σ yn dn fr L a.tmps) (Ap ren) B none .top i).objs=some (.loop m):=by
   simp only[Ci,Av,ca];rfl
  have hyp:=(E.pin (yn,.pointer (some ⟨w.heap.size+1,0,none⟩)) (by simp[Cx.marked2])).2.1;obtain⟨cc,q⟩:=R2 Y E bt hyp { m with state:=.exhausted };refine⟨_,_,run_endLoop cc (by intro e;rw[e]at ab;cases ab),?_⟩;have br:(c.marked dn w.heap.size).sat ⟨(Ci (Bj σ yn dn fr L a.tmps) (Ap ren) B none .top i).env,upd yn (.loop { m with state:=.exhausted }) (Ci (Bj σ yn dn fr L a.tmps) (Ap ren) B none .top i).objs⟩ C (w'.putObj (w.heap.size+1) (.loop { m with state:=.exhausted })) :=
   ⟨ρ',q.frm,q.nt,q.defers,fun p hp=>q.pin p (bY _ hp),q.objs,q.free,q.dist,q.env⟩
  have N:=vK bh an (cb w.heap.size) br;revert N;generalize m.pending=p;intro N;cases p<;>exact N
 obtain⟨ae,af,cd,ao,aq,bj,ar,_,bm⟩:=Ol Y O aw stay post ren ah ai aj ak B (by simpa[Cx.marked2] using al) (dst:=none) (fun d D=>by cases D) bi;have av:=J o ae af cd _ ao aq bj ar;refine⟨w.heap.size+1,[{ target:=.collected w.heap.size,args:=#[] }],o,{ target:=.fn (.func s) (l.map ρ).toArray,args:=#[.func (.yield (w.heap.size+1)) #[] #[]] },o,s,
  (.func (.yield (w.heap.size+1)) #[] #[] :: l.map ρ).toArray,o,?_,?_,fun _ _=>trivial,?_,fun h=>by simp[FR]at h,?_⟩
 ·rw[←W,x];exact run_enterLoop_outer _ _ _ _ _
 ·have bg:a.eval g=.func (.func s) #[] (l.map ρ).toArray:=aa;simp only[resolve,bg];simp[go_sem]
 ·have ag : ¬ T.name = "runtime.NumGoroutine" := by simpa using bk
  have I:¬T.body=none:=by intro e;simp[e]at au
  simp[invoke,callFunc,ax,ag,I]
 ·refine JX (av.mono fun e w' M=>?_);obtain⟨u,rfl,M⟩:=M;exact bm u w' M
theorem pW (O:c.Ok) {a:Act} {w:World} {ρ:Nat→Value} (hs:Bb c.w0 c.K c.O0 c.nt c.ds σ ρ a w) {dn b:Nat} (j:lk dn σ.objs=some .dfr) (i:ρ dn=.pointer (some ⟨b,0,none⟩)) (X:_root_.Go.Obj) (pin:List (Nat×Value)) (G:∀p∈pin,p∈c.ds.pin∧p.1≠dn) :
  w.heap[b]?=some (.deferred (some []))∧Bb c.w0 c.K c.O0 c.nt { ds:=c.ds.ds,pin:=pin } ⟨Ba [dn] σ.env,Ab [dn] [dn] σ.objs⟩ ρ a (w.putObj b X):=by
 obtain⟨b',h1,h⟩:=hs.objs dn _ j;rw[i]at h1;injection h1 with h1
 injection h1 with h1
 injection h1 with h1
 subst h1;have P:b<w.heap.size:=B5 h;refine⟨h,?_⟩;have A:own c.O0 σ ρ b:=.inr ⟨dn,⟨_,j⟩,by rw[i];exact .inl rfl⟩;have f:∀n,Fl ⟨Ba [dn] σ.env,Ab [dn] [dn] σ.objs⟩ n→Fl σ n∧n≠dn:=by
  rintro n ⟨o,hn⟩;have hn:lk n (Ab [dn] [dn] σ.objs)=some o:=hn;rw[BR]at hn;split at hn
  ·cases hn
  ·rename_i r;simp only[IN]at hn;obtain⟨y,d,_⟩:=hn;exact⟨⟨y,d⟩,fun e=>r (by subst e;simp[AU])⟩
 have l:∀k,k≠b→(w.putObj b X).heap[k]?=w.heap[k]?:=fun k hk=>World.putObj_heap_other hk;have q:B7 ((vw w c.O0 σ ρ).buts [dn]) (vw (w.putObj b X) c.O0 ⟨Ba [dn] σ.env,Ab [dn] [dn] σ.objs⟩ ρ):=by
  refine⟨fun k _ hk B=>?_,fun n hn=>?_,fun _ _=>rfl,fun k _ hk=>l k (fun e=>?_)⟩
  ·rcases B with h0|⟨n,hn,E⟩
   ·exact hk (.inl h0)
   ·exact hk (.inr ⟨n,(f n hn).1,E⟩)
  ·obtain⟨⟨o,F⟩,D⟩:=hn;exact⟨_,by show lk n (Ab [dn] [dn] σ.objs)=_;rw[BR,At (by rw[D];simp),F];rfl⟩
  ·subst e;exact hk A
 refine⟨⟨hs.frm.os,hs.frm.tape,hs.frm.output,by simpa using hs.frm.size,fun k hk=>?_⟩,hs.nt,hs.defers,fun p hp=>?_,fun n x hn=>?_,fun n k C hk=>hs.free n k (f n C).1 hk,fun n m k h1 h u z=>hs.dist n m k (f n h1).1 (f m h).1 u z,fun s v t=>?_⟩
 ·refine(l k fun e=>?_).trans (hs.frm.block k hk);subst e;exact(hs.free dn k ⟨_,j⟩ (by rw[i];exact .inl rfl)).1 hk
 ·obtain⟨H,I⟩:=G p hp;obtain⟨J,M,N⟩:=hs.pin p H;exact⟨q.L p.1 ⟨J,by simp[AU,I]⟩,M,N⟩
 ·have g:lk n (Ab [dn] [dn] σ.objs)=some x:=hn;have r:=(f n ⟨x,hn⟩).2;rw[BR]at g;split at g
  ·cases g
  ·simp only[IN]at g;obtain⟨y,d,rfl⟩:=g;refine Qn q (fun k hk=>l k fun e=>?_) (hs.objs n y d);subst e;exact r (hs.dist n dn k ⟨y,d⟩ ⟨_,j⟩ hk (by rw[i];exact .inl rfl))
 ·rw[Dl]at t;simp only[IN]at t;obtain⟨y,d,rfl⟩:=t;exact(M0 (hs.env s y d)).keeps q
end
def pX (P:Program) (fn:Func) (w0:World) (K O0:Nat→Prop) (stay:List Nat) (ρ0:Nat→Value) (post:AV→List (Nat×Obj)→Prop):Exit→Act→World→Prop :=
 bodyPostM (FR none) 0 P fn fun e w'=>∃u,e=.returned u∧NI K O0 stay w0 ρ0 post u w'
theorem vL {P:Program} {tb:Tb} {f:FuncId} {fn:Func} {cd:Code} {nt:Nat} {args:List AV} {objs:List (Nat×Obj)} {stay:List Nat} {post:AV→List (Nat×Obj)→Prop}
  (c : P.funcs[f]? = some fn) (k : (fn.name == "runtime.NumGoroutine") = false) (b : fn.body = some cd) (l : fn.ntmps = nt) (q : args.length ≤ nt)
  (i:Bk nt cd=true) (p:stay.all (Pz objs)=true) (j:Ka objs=true) (hT:Cg P tb) (hF:Hl P tb)
  (h:∀(w0:World) (K O0:Nat→Prop) (ρ0:Nat→Value),(cm P tb w0 K O0 nt (stay.map fun n=>(n,ρ0 n))).Ok→NJ args→MM objs →
   Ev (cm P tb w0 K O0 nt (stay.map fun n=>(n,ρ0 n))) (pX P fn w0 K O0 stay ρ0 post) (.run cd) [] ⟨Ak 0 args,objs⟩):BE P f args objs stay post:=by
 refine⟨⟨fn,c,k,by simp[b]⟩,fun w K O0 ρ s e g d a=>?_⟩;refine callsIn_wide.1 (callsIn_of_wp_marks (F:=FR none) (n:=0) c b trivial ?_ rfl);have r:=Hv a;rw[l];exact h w K O0 ρ ⟨e,g,hT,hF⟩ (Qu a) (Qv j fun n o m=>Vq (d.obj n o m)) i rfl _ _ (Rl d a p (by omega))
theorem pY {P:Program} {tb:Tb} {w0:World} {K O0:Nat→Prop} {nt:Nat} {stay:List Nat} {ρ0:Nat→Value} {fn:Func} {post:AV→List (Nat×Obj)→Prop} {σ:St} {e:Exit} {dn b:Nat} (d:((cm P tb w0 K O0 nt (stay.map fun n=>(n,ρ0 n))).marked dn b).Ok)
  (g:List ResultVar) (s:fn.results.toList=g) (o:e=.ret∨e=.normal) (q:lk dn σ.objs=some .dfr) (f:AU dn stay=false) (res:AV) (h:Rm tb ⟨Ba [dn] σ.env,Ab [dn] [dn] σ.objs⟩ g res) (hp:post res (Ab [dn] [dn] σ.objs)) :
  Ev ((cm P tb w0 K O0 nt (stay.map fun n=>(n,ρ0 n))).marked dn b) (pX P fn w0 K O0 stay ρ0 post) (.out e) [] σ:=by
 intro _ _ a w hs;obtain⟨ρ,hs⟩:=hs;have l:=(hs.pin (dn,.pointer (some ⟨b,0,none⟩)) (by simp[Cx.marked])).2.1;obtain⟨h1,i⟩:=pW d hs q l (.deferred none) (stay.map fun n=>(n,ρ0 n)) (fun p hp=>⟨bY _ hp,fun e=>by
  obtain⟨n,hn,rfl⟩:=Of.1 hp;have e:n=dn:=e;subst e;rw[(AW _ _).2 hn]at f;cases f⟩)
 have c:Bb w0 K O0 nt { ds:=[⟨.collected b,#[]⟩],pin:=stay.map fun n=>(n,ρ0 n) } ⟨Ba [dn] σ.env,Ab [dn] [dn] σ.objs⟩ ρ a (w.putObj b (.deferred none)):=i;obtain⟨u,j,k⟩:=XW d.T c (fn:=fn) (by rw[s];exact h);have r:NI K O0 stay w0 ρ0 post u (w.putObj b (.deferred none)):=by
  refine⟨res,_,ρ,hp,c.frm,⟨c.objs,c.free,c.dist⟩,k,fun n hn=>?_⟩;exact(c.pin (n,ρ0 n) (Of.2 ⟨n,hn,rfl⟩)).2.1
 have m:a.defers=[⟨.collected b,#[]⟩]:=hs.defers;have key:LeavesInM (FR none) 0 P fn a.tmps (fun e w'=>∃u,e=.returned u∧NI K O0 stay w0 ρ0 post u w') a.defers .returning w:=by
  rw[m];exact⟨by simp,.inl ⟨b,_,rfl,run_takeDeferred h1,u,j,u,rfl,r⟩⟩
 rcases o with rfl|rfl
 ·exact key
 ·exact key
end
section
open Go Go.RowKit
section
variable {c:Cx} {R:Exit→Act→World→Prop} {k:List DG} {σ σ':St}
theorem rP (a:c.Ok) {id:Nat} {l:List Oper} {vc:Prop} (b:vc) (hk:Ev c R (.out .normal) k σ') (h0:(l.all fun o=>o.guard.isNone)=true:=by rfl)
  (h:DJ c.tb.live (Bl c.tb l l σ)=some (vc,σ'):=by simp only[go_sem,Nat.reduceEqDiff,reduceCtorEq,Nat.reduceAdd,Nat.reduceSub,Nat.reduceMul,Nat.reduceLeDiff,Nat.reduceLT,Int.reduceLE,Int.reduceToNat,Int.reduceNeg,↓reduceIte];rfl):Ev c R (.run (.region id l.toArray false)) k σ:=Km _ a h0 h b hk
theorem rD (a:c.Ok) {id:Nat} {l:List Oper} {vc:Prop} (d:vc) (hk:Ev c R (.out .normal) k σ') (h0:J6 l l.length=true:=by kernel_rfl) (b:c.P.follows .mixedOrders=true:=by exact drawsAny)
  (h:DJ c.tb.live (J8 c.tb l false σ.objs [] l 0 [] [] σ)=some (vc,σ'):=by simp only[go_sem,Nat.reduceEqDiff,reduceCtorEq,Nat.reduceAdd,Nat.reduceSub,Nat.reduceMul,Nat.reduceLeDiff,Nat.reduceLT,Int.reduceLE,Int.reduceToNat,Int.reduceNeg,↓reduceIte];rfl):Ev c R (.run (.region id l.toArray true)) k σ:=UK _ b a h0 h d hk
theorem rC {o:Operand} {x y:Code} {b:Bool} {p q:Prop} (d:p→Ev c R (.run x) k σ) (hf:q→Ev c R (.run y) k σ) (h:AZ σ o=some (.p .bool b):=by simp only[go_sem,Nat.reduceEqDiff,reduceCtorEq,Nat.reduceAdd,Nat.reduceSub,Nat.reduceMul,Nat.reduceLeDiff,Nat.reduceLT,Int.reduceLE,Int.reduceToNat,Int.reduceNeg,↓reduceIte];rfl)
  (hp:(b=true)=p:=by first|(simp only[GO,NO,An,AA1,Bool.and_eq_false_imp,AAi,To,AAI,AA0,ABu,ABR,Bool.not_eq_eq_eq_not,AC3,ACk,AAR,Int.not_le,ne_eq];rfl)|rfl) (a:(b=false)=q:=by first|(simp only[GO,NO,An,AA1,Bool.and_eq_false_imp,AAi,To,AAI,AA0,ABu,ABR,Bool.not_eq_eq_eq_not,AC3,ACk,AAR,Int.not_le,ne_eq];rfl)|rfl):Ev c R (.run (.cond o x y)) k σ :=
 DH h (fun e=>d (hp▸e)) (fun e=>hf (a▸e))
theorem rL (a:c.Ok) {ops:List Oper} {l:List Oper} {vc:Prop} (b:vc) (hk:Ev c R (.out .normal) k σ') (h:DJ c.tb.live (Bl c.tb ops l σ)=some (vc,σ'):=by simp only[go_sem,Nat.reduceEqDiff,reduceCtorEq,Nat.reduceAdd,Nat.reduceSub,Nat.reduceMul,Nat.reduceLeDiff,Nat.reduceLT,Int.reduceLE,Int.reduceToNat,Int.reduceNeg,↓reduceIte];rfl):GQ c R k ops.toArray l σ:=G2 _ a h b hk
theorem rN (n:Nat) (a:c.Ok) {ops:List Oper} {l:List Oper} {vc:Prop} (b:vc) (hk:GQ c R k ops.toArray (l.drop n) σ') (h:Bl c.tb ops (l.take n) σ=some (vc,σ'):=by simp only[AAu,AAL,go_sem,Nat.reduceEqDiff,reduceCtorEq,Nat.reduceAdd,Nat.reduceSub,Nat.reduceMul,Nat.reduceLeDiff,Nat.reduceLT,Int.reduceLE,Int.reduceToNat,Int.reduceNeg,↓reduceIte];rfl):GQ c R k ops.toArray l σ:=Qt a n (by simpa using h) b hk
theorem cP (n:Nat) (a:c.Ok) {id:Nat} {l:List Oper} {vc:Prop} (b:vc) (hk:GQ c R k l.toArray (l.drop n) σ') (h0:(l.all fun o=>o.guard.isNone)=true:=by rfl) (h:Bl c.tb l (l.take n) σ=some (vc,σ'):=by simp only[AAu,AAL,go_sem,Nat.reduceEqDiff,reduceCtorEq,Nat.reduceAdd,Nat.reduceSub,Nat.reduceMul,Nat.reduceLeDiff,Nat.reduceLT,Int.reduceLE,Int.reduceToNat,Int.reduceNeg,↓reduceIte];rfl) :
  Ev c R (.run (.region id l.toArray false)) k σ:=pD a n h0 h b hk
theorem cD (n:Nat) (a:c.Ok) {id:Nat} {l:List Oper} {vc:Prop} (e:vc) (hk:GQ c R k l.toArray (l.drop n) σ') (b:J6 l (l.take n).length=true:=by kernel_rfl) (d:c.P.follows .mixedOrders=true:=by exact drawsAny)
  (h:J8 c.tb l false σ.objs [] (l.take n) 0 [] [] σ=some (vc,σ'):=by simp only[AAu,AAL,go_sem,Nat.reduceEqDiff,reduceCtorEq,Nat.reduceAdd,Nat.reduceSub,Nat.reduceMul,Nat.reduceLeDiff,Nat.reduceLT,Int.reduceLE,Int.reduceToNat,Int.reduceNeg,↓reduceIte];rfl):Ev c R (.run (.region id l.toArray true)) k σ:=pE d a n b h e hk
theorem rM (q:c.Ok) {ops:Array Oper} {rest:List Oper} {dst:Option Nat} {g:Operand} {xs:List Operand} {ts:Array TypeId} {ty:TypeId} {pos:String} {after:Array Edge}
  {f:FuncId} {d:List Nat} {as:List AV} {A:List AV} {objs:List (Nat×Obj)} {stay:List Nat} {post:AV→List (Nat×Obj)→Prop} (l:BE c.P f A objs stay post)
  (ren:List (Nat×B8)) (hs:List Nat) (j:Bg σ ren (as++d.map fun n=>AV.bp n [] 0) A) (m:Al σ.objs ren objs)
  (hk:∀res e,post res e→∃(a:List (Nat×B8)) (h:AV) (b:List (Nat×Obj)),CG a=true∧Cc b a=true∧Al e a b∧Bn a res h ∧
   J9 ren a stay hs=true∧GI (Ap ren) b σ.objs=true∧GQ c R k ops rest (Ci σ (Ap ren) hs dst h b))
  (r:Df (AZ σ g)=some (f,d):=by simp only[go_sem,Nat.reduceEqDiff,reduceCtorEq,Nat.reduceAdd,Nat.reduceSub,Nat.reduceMul,Nat.reduceLeDiff,Nat.reduceLT,Int.reduceLE,Int.reduceToNat,Int.reduceNeg,↓reduceIte];rfl) (o:Kk σ xs=some as:=by simp only[go_sem,Nat.reduceEqDiff,reduceCtorEq,Nat.reduceAdd,Nat.reduceSub,Nat.reduceMul,Nat.reduceLeDiff,Nat.reduceLT,Int.reduceLE,Int.reduceToNat,Int.reduceNeg,↓reduceIte];rfl)
  (h1:CG ren=true:=by rfl) (i:Cc objs ren=true:=by rfl) (s:(c.ds.pin.all fun p=>!AU p.1 hs)=true:=by rfl) :
  GQ c R k ops (⟨dst,.call ⟨.value g,xs.toArray,ts⟩,ty,pos,after,none⟩ :: rest) σ:=pC q r o l ren hs h1 i s j m hk
theorem rY (n yn:Nat) (m:c.Ok) {ops:Array Oper} {rest:List Oper} {dst:Option Nat} {g:Operand} {xs:List Operand} {ts:Array TypeId} {ty:TypeId} {pos:String} {after:Array Edge}
  {as:List AV} {A:List AV} {objs:List (Nat×Obj)} {stay:List Nat} {post:AV→List (Nat×Obj)→Prop} (i:Xg c.P yn A objs stay post)
  (ren:List (Nat×B8)) (hs:List Nat) (h:Bg σ ren as A) (j:Al σ.objs ren objs)
  (hk:∀res d,post res d→∃(a:List (Nat×B8)) (e:AV) (b:List (Nat×Obj)),CG a=true∧Cc b a=true∧Al d a b∧Bn a res e ∧
   J9 ren a stay hs=true∧GI (Ap ren) b σ.objs=true∧GQ c R k ops rest (Ci σ (Ap ren) hs dst e b))
  (s:c.r=none:=by rfl) (o:V0 n (AZ σ g)=true:=by simp only[go_sem,Nat.reduceEqDiff,reduceCtorEq,Nat.reduceAdd,Nat.reduceSub,Nat.reduceMul,Nat.reduceLeDiff,Nat.reduceLT,Int.reduceLE,Int.reduceToNat,Int.reduceNeg,↓reduceIte]) (l:Kk σ xs=some as:=by simp only[go_sem,Nat.reduceEqDiff,reduceCtorEq,Nat.reduceAdd,Nat.reduceSub,Nat.reduceMul,Nat.reduceLeDiff,Nat.reduceLT,Int.reduceLE,Int.reduceToNat,Int.reduceNeg,↓reduceIte];rfl)
  (t:lk yn ren=some (.nm n):=by rfl) (h1:CG ren=true:=by rfl) (f:Cc objs ren=true:=by rfl) (q:(c.ds.pin.all fun p=>!AU p.1 hs)=true:=by rfl) :
  GQ c R k ops (⟨dst,.call ⟨.value g,xs.toArray,ts⟩,ty,pos,after,none⟩ :: rest) σ:=k9 m s o l i ren hs t h1 f q h j hk
end
end
section
open Go Go.RowKit
section
variable {P:Program} {b:Frame} {a:Act} {k:List Item} {cs:List Frame} {w:World}
end
section
variable {c:Cx} {R:Exit→Act→World→Prop} {k:List DG} {σ:St}
end
end
section
open Go Go.RowKit
def dB:cL→List DG→Option (cL×List DG)
 | .run (.seq x y),k=>some (.run x,.seq y :: k)
 | .run .skip,k=>some (.out .normal,k)
 | .run .ret,k=>some (.out .ret,k)
 | .run (.exit id),k=>some (.out (.exit id),k)
 | .run (.block id b),k=>some (.run b,.blk id :: k)
 | .out .normal,.seq y :: k=>some (.run y,k)
 | .out .normal,.blk _ :: k=>some (.out .normal,k)
 | .out (.exit id),.seq _ :: k=>some (.out (.exit id),k)
 | .out (.exit a),.blk id :: k=>if a=id then some (.out .normal,k) else some (.out (.exit a),k)
 | .out (.exit id),.inv _ :: k=>some (.out (.exit id),k)
 | .out .ret,.seq _ :: k=>some (.out .ret,k)
 | .out .ret,.blk _ :: k=>some (.out .ret,k)
 | .out .ret,.inv _ :: k=>some (.out .ret,k)
 | _,_=>none
def R3:Nat→cL→List DG→cL×List DG
 | 0,n,k=>(n,k)
 | m+1,n,k=>match dB n k with
  | some (b,a)=>R3 m b a
  | none=>(n,k)
def dC (n:cL) (k:List DG):Option (cL×List DG):=match dB n k with
 | some (b,a)=>some (R3 200 b a)
 | none=>none
section
variable {c:Cx} {R:Exit→Act→World→Prop} {σ:St}
theorem Xi {n b:cL} {k a:List DG} (e:dB n k=some (b,a)) (h:Ev c R b a σ):Ev c R n k σ:=by
 unfold dB at e;split at e<;>first
  | (cases e;done)
  | (split at e<;>(cases e;first|(rename_i d;rw[d];exact ZX h)|exact ZY (by assumption) h))
  | (cases e;first|exact A0m h|exact cM h|exact A0n h|exact vC h|exact oX h|exact Gq h|exact ZT h|exact XI h|exact XJ h|exact ZS h|exact ZU h|exact ZV h)
theorem UR:∀(m:Nat) {n:cL} {k:List DG},Ev c R (R3 m n k).1 (R3 m n k).2 σ→Ev c R n k σ
 | 0,_,_,h=>h
 | m+1,n,k,h=>by
  unfold R3 at h;split at h
  ·rename_i b a e;exact Xi e (UR m h)
  ·exact h
theorem eS {n b:cL} {k a:List DG} (e:dC n k=some (b,a)) (h:Ev c R b a σ):Ev c R n k σ:=by
 unfold dC at e;split at e
 ·rename_i n1 f d;refine Xi d (UR 200 ?_);have:=ACw e;rw[this];exact h
 ·cases e
end
inductive RX (c:Cx) (lv:List Nat) (σ:St) (vc:Prop) (σ':St):Array Oper→Bool→Prop
 | p {l:List Oper} (h0:(l.all fun o=>o.guard.isNone)=true) (h:DJ lv (Bl c.tb l l σ)=some (vc,σ')):RX c lv σ vc σ' l.toArray false
 | a {l:List Oper} (h0:kS l l.length=true) (h:DJ lv (J8 c.tb l true σ.objs [] l 0 [] [] σ)=some (vc,σ')):RX c lv σ vc σ' l.toArray false
 | d {l:List Oper} (h0:J6 l l.length=true) (hm:c.P.follows .mixedOrders=true) (h:DJ lv (J8 c.tb l false σ.objs [] l 0 [] [] σ)=some (vc,σ')):RX c lv σ vc σ' l.toArray true
 | t {l:List Oper} (m:Nat) (h0:J6 l (l.take (l.length-m)).length=true) (hm:c.P.follows .mixedOrders=true) (h:DJ lv (J8 c.tb l false σ.objs (l.drop (l.length-m)) (l.take (l.length-m)) 0 [] [] σ)=some (vc,σ')):RX c lv σ vc σ' l.toArray true
theorem A1q {c:Cx} {R:Exit→Act→World→Prop} {k:List DG} {σ σ':St} {b:List Nat} (e:c.Ok) {id:Nat} {ops:Array Oper} {i:Bool} {vc:Prop} (f:vc) (hk:Ev c R (.out .normal) k σ') (h:RX c b σ vc σ' ops i):Ev c R (.run (.region id ops i)) k σ:=by
 cases h with
 | p h0 h=>exact Km b e h0 h f hk
 | a h0 h=>exact XX b e h0 h f hk
 | d h0 g h=>exact UK b g e h0 h f hk
 | t m h0 g h=>exact kX b m g e h0 h f hk
theorem rX {c:Cx} {R:Exit→Act→World→Prop} {k:List DG} {σ σ':St} (e:c.Ok) {id:Nat} {ops:Array Oper} {b:Bool} {vc:Prop} (f:vc) (hk:Ev c R (.out .normal) k σ')
  (h:RX c c.tb.live σ vc σ' ops b:=by
   first
   | exact .p rfl (by simp only[go_sem,Nat.reduceEqDiff,reduceCtorEq,Nat.reduceAdd,Nat.reduceSub,Nat.reduceMul,Nat.reduceLeDiff,Nat.reduceLT,Int.reduceLE,Int.reduceToNat,Int.reduceNeg,↓reduceIte];rfl)
   | exact .a (by kernel_rfl) (by simp only[go_sem,Nat.reduceEqDiff,reduceCtorEq,Nat.reduceAdd,Nat.reduceSub,Nat.reduceMul,Nat.reduceLeDiff,Nat.reduceLT,Int.reduceLE,Int.reduceToNat,Int.reduceNeg,↓reduceIte];rfl)
   | exact .d (by kernel_rfl) (by exact drawsAny) (by simp only[go_sem,Nat.reduceEqDiff,reduceCtorEq,Nat.reduceAdd,Nat.reduceSub,Nat.reduceMul,Nat.reduceLeDiff,Nat.reduceLT,Int.reduceLE,Int.reduceToNat,Int.reduceNeg,↓reduceIte];rfl)
   | exact .t 1 (by kernel_rfl) (by exact drawsAny) (by simp only[AAu,AC5,AAL,AAm,go_sem,Nat.reduceEqDiff,reduceCtorEq,Nat.reduceAdd,Nat.reduceSub,Nat.reduceMul,Nat.reduceLeDiff,Nat.reduceLT,Int.reduceLE,Int.reduceToNat,Int.reduceNeg,↓reduceIte];rfl)
   | exact .t 2 (by kernel_rfl) (by exact drawsAny) (by simp only[AAu,AC5,AAL,AAm,go_sem,Nat.reduceEqDiff,reduceCtorEq,Nat.reduceAdd,Nat.reduceSub,Nat.reduceMul,Nat.reduceLeDiff,Nat.reduceLT,Int.reduceLE,Int.reduceToNat,Int.reduceNeg,↓reduceIte];rfl)
   | exact .t 3 (by kernel_rfl) (by exact drawsAny) (by simp only[AAu,AC5,AAL,AAm,go_sem,Nat.reduceEqDiff,reduceCtorEq,Nat.reduceAdd,Nat.reduceSub,Nat.reduceMul,Nat.reduceLeDiff,Nat.reduceLT,Int.reduceLE,Int.reduceToNat,Int.reduceNeg,↓reduceIte];rfl)):Ev c R (.run (.region id ops b)) k σ:=A1q e f hk h
theorem eN {p:Prop} (h:p:=by simp only[go_sem,Nat.reduceEqDiff,reduceCtorEq,Nat.reduceAdd,Nat.reduceSub,Nat.reduceMul,Nat.reduceLeDiff,Nat.reduceLT,Int.reduceLE,Int.reduceToNat,Int.reduceNeg,↓reduceIte]<;>fail):p:=h
theorem eM {p q:Prop} (a:q) (h:p=q:=by simp only[go_sem,Nat.reduceEqDiff,reduceCtorEq,Nat.reduceAdd,Nat.reduceSub,Nat.reduceMul,Nat.reduceLeDiff,Nat.reduceLT,Int.reduceLE,Int.reduceToNat,Int.reduceNeg,↓reduceIte];rfl):p:=h▸a
theorem eR {p:Prop} (h:p:=by simp only[Lz,Hr,Gr,JZ,LR,ID,F0,go_sem,Nat.reduceEqDiff,reduceCtorEq,Nat.reduceAdd,Nat.reduceSub,Nat.reduceMul,Nat.reduceLeDiff,Nat.reduceLT,Int.reduceLE,Int.reduceToNat,Int.reduceNeg,↓reduceIte]<;>fail):p:=h
theorem lE {p q:Prop} (a:q) (h:p=q:=by simp only[Lz,Hr,Gr,JZ,LR,ID,F0,go_sem,Nat.reduceEqDiff,reduceCtorEq,Nat.reduceAdd,Nat.reduceSub,Nat.reduceMul,Nat.reduceLeDiff,Nat.reduceLT,Int.reduceLE,Int.reduceToNat,Int.reduceNeg,↓reduceIte];rfl):p:=h▸a
theorem eV {p:Prop} (h:p:=by (try dsimp only[Ty.den]at *)<;>(repeat'(first|apply And.intro|intro _))<;>omega):p:=h
end
section
open Go Go.RowKit
section
variable {c:Cx} {R:Exit→Act→World→Prop} {k:List DG} {σ σ':St}
theorem pZ (d:c.Ok) {id:Nat} {l:List Oper} (n:Nat) {vc:Prop} (h:Bl c.tb l (l.take n) σ=some (vc,σ')) (f:vc) (hk:GQ c R k l.toArray (l.drop n) σ') :
  Ev c R (.run (.region id l.toArray false)) k σ:=by
 intro h1 b a w hs;simp only[Hq,Bk,DO]at h1;exact ABZ (Qt d n (by simpa using h) f hk (fun o e=>h1 o e) b a w hs)
theorem lF (F:c.Ok) {ops:Array Oper} {rest:List Oper} {dst:Option Nat} {g:Operand} {xs:List Operand} {ts:Array TypeId} {ty:TypeId} {pos:String} {after:Array Edge} {i:Option (Nat×Bool)}
  (H:EH ops.toList σ i=some true)
  {f:FuncId} {j:List Nat} (G:Df (AZ σ g)=some (f,j)) {as:List AV} (E:Kk σ xs=some as)
  {A:List AV} {objs:List (Nat×Obj)} {stay:List Nat} {post:AV→List (Nat×Obj)→Prop} (C:BE c.P f A objs stay post)
  (ren:List (Nat×B8)) (hs:List Nat) (h1:CG ren=true) (y:Cc objs ren=true) (K:(c.ds.pin.all fun p=>!AU p.1 hs)=true) (z:Bg σ ren (as++j.map fun n=>AV.bp n [] 0) A) (D:Al σ.objs ren objs)
  (hk:∀res e,post res e→∃(b:List (Nat×B8)) (h:AV) (d:List (Nat×Obj)),CG b=true∧Cc d b=true∧Al e b d∧Bn b res h ∧
   J9 ren b stay hs=true∧GI (Ap ren) d σ.objs=true∧GQ c R k ops rest (Ci σ (Ap ren) hs dst h d)) :
  GQ c R k ops (⟨dst,.call ⟨.value g,xs.toArray,ts⟩,ty,pos,after,i⟩ :: rest) σ:=by
 intro l I a w m;unfold wpListIn;rw[BY (GV (o:=⟨dst,.call ⟨.value g,xs.toArray,ts⟩,ty,pos,after,i⟩) m H)];refine cZ F (xs:=xs) (ts:=ts) rfl rfl G E C ren h1 y z D hs K m (Bd (l _ (by simp))) fun res e hp=>?_;obtain⟨b,h,d,r,s,t,u,v,x,B⟩:=hk res e hp;exact⟨b,h,d,r,s,t,u,v,x,fun q w' L=>B (fun o J=>l o (by simp[J])) I q w' L⟩
end
end
section
open Go Go.RowKit
section
variable {c:Cx} {ops:List Oper} {Kf:St→Prop} {τ:St} {ens:EN} {vc:Prop}
theorem R4 {A D:List Nat} {l:Nat} {b:List (List Nat×Nat)} {o:Oper} {d:St} {a:EN} (j:vc) (e:Vu c o d a (fun m=>pF c ops Kf b D a m)) (h:Zh c.tb ops τ.objs (A++qs b D) [] τ.env=some (vc,ens):=by simp only[go_sem,Nat.reduceEqDiff,reduceCtorEq,Nat.reduceAdd,Nat.reduceSub,Nat.reduceMul,Nat.reduceLeDiff,Nat.reduceLT,Int.reduceLE,Int.reduceToNat,Int.reduceNeg,↓reduceIte];rfl) (g:Om ens τ.objs=true:=by rfl) (i:ops[l]?=some o:=by rfl)
  (k:Kn (ens.take A.length) τ=d:=by simp only[go_sem,Nat.reduceEqDiff,reduceCtorEq,Nat.reduceAdd,Nat.reduceSub,Nat.reduceMul,Nat.reduceLeDiff,Nat.reduceLT,Int.reduceLE,Int.reduceToNat,Int.reduceNeg,↓reduceIte];rfl) (f:ens.drop A.length=a:=by simp only[go_sem,Nat.reduceEqDiff,reduceCtorEq,Nat.reduceAdd,Nat.reduceSub,Nat.reduceMul,Nat.reduceLeDiff,Nat.reduceLT,Int.reduceLE,Int.reduceToNat,Int.reduceNeg,↓reduceIte];rfl):pF c ops Kf ((A,l) :: b) D ens τ:=pR h j g i k f e
theorem TT {R:Exit→Act→World→Prop} {k:List DG} {σ':St} (d:c.Ok) {D:List Nat} {l:List Oper} {a:Prop} (f:vc) (g:a) (hk:Ev c R (.out .normal) k σ') (h:Zh c.tb ops τ.objs D [] τ.env=some (vc,ens):=by simp only[go_sem,Nat.reduceEqDiff,reduceCtorEq,Nat.reduceAdd,Nat.reduceSub,Nat.reduceMul,Nat.reduceLeDiff,Nat.reduceLT,Int.reduceLE,Int.reduceToNat,Int.reduceNeg,↓reduceIte];rfl) (e:Om ens τ.objs=true:=by rfl)
  (b:DJ c.tb.live (Bl c.tb ops l (Kn ens τ))=some (a,σ'):=by simp only[go_sem,Nat.reduceEqDiff,reduceCtorEq,Nat.reduceAdd,Nat.reduceSub,Nat.reduceMul,Nat.reduceLeDiff,Nat.reduceLT,Int.reduceLE,Int.reduceToNat,Int.reduceNeg,↓reduceIte];rfl):pF c ops (fun τ=>GQ c R k ops.toArray l τ) [] D ens τ:=pQ h f e (G2 _ d b g hk)
end
section
variable {c:Cx} {o:Oper} {σ:St} {ens:EN} {N:St→Prop} {R:Exit→Act→World→Prop} {k:List DG} {σ':St}
theorem Td (b:c.Ok) {τ:St} {vc:Prop} (ns:List Nat) (i:vc) (a:N τ) (h:FM c.tb o σ=some (vc,τ):=by simp only[go_sem,Nat.reduceEqDiff,reduceCtorEq,Nat.reduceAdd,Nat.reduceSub,Nat.reduceMul,Nat.reduceLeDiff,Nat.reduceLT,Int.reduceLE,Int.reduceToNat,Int.reduceNeg,↓reduceIte];rfl) (f:tn σ o.op=ns:=by simp only[go_sem,Nat.reduceEqDiff,reduceCtorEq,Nat.reduceAdd,Nat.reduceSub,Nat.reduceMul,Nat.reduceLeDiff,Nat.reduceLT,Int.reduceLE,Int.reduceToNat,Int.reduceNeg,↓reduceIte]) (g:Jh o ens=true:=by rfl) (hn:II ns σ.objs ens=true:=by rfl) (e:NL τ.objs ens=true:=by rfl)
  (hf:It ns ens=ens:=by simp only[go_sem,Nat.reduceEqDiff,reduceCtorEq,Nat.reduceAdd,Nat.reduceSub,Nat.reduceMul,Nat.reduceLeDiff,Nat.reduceLT,Int.reduceLE,Int.reduceToNat,Int.reduceNeg,↓reduceIte]) (d:Ho c.nt o=true:=by rfl):Vu c o σ ens N:=k8 b ns h f g hn e hf d i a
theorem evP (a:c.Ok) {id:Nat} {l:List Oper} (n:Nat) {vc:Prop} (b:vc) (hk:GQ c R k l.toArray (l.drop n) σ') (h:Bl c.tb l (l.take n) σ=some (vc,σ'):=by simp only[AAu,AAL,go_sem,Nat.reduceEqDiff,reduceCtorEq,Nat.reduceAdd,Nat.reduceSub,Nat.reduceMul,Nat.reduceLeDiff,Nat.reduceLT,Int.reduceLE,Int.reduceToNat,Int.reduceNeg,↓reduceIte];rfl):Ev c R (.run (.region id l.toArray false)) k σ:=pZ a n h b hk
theorem clG (r:c.Ok) {ops:Array Oper} {rest:List Oper} {dst:Option Nat} {g:Operand} {xs:List Operand} {ts:Array TypeId} {ty:TypeId} {pos:String} {after:Array Edge} {e:Option (Nat×Bool)} {f:FuncId} {d:List Nat} {as:List AV}
  {A:List AV} {objs:List (Nat×Obj)} {stay:List Nat} {post:AV→List (Nat×Obj)→Prop} (m:BE c.P f A objs stay post) (ren:List (Nat×B8)) (hs:List Nat) (l:Bg σ ren (as++d.map fun n=>AV.bp n [] 0) A) (o:Al σ.objs ren objs)
  (hk:∀res h,post res h→∃(a:List (Nat×B8)) (i:AV) (b:List (Nat×Obj)),CG a=true∧Cc b a=true∧Al h a b∧Bn a res i ∧
   J9 ren a stay hs=true∧GI (Ap ren) b σ.objs=true∧GQ c R k ops rest (Ci σ (Ap ren) hs dst i b))
  (t:EH ops.toList σ e=some true:=by simp only[go_sem,Nat.reduceEqDiff,reduceCtorEq,Nat.reduceAdd,Nat.reduceSub,Nat.reduceMul,Nat.reduceLeDiff,Nat.reduceLT,Int.reduceLE,Int.reduceToNat,Int.reduceNeg,↓reduceIte]) (s:Df (AZ σ g)=some (f,d):=by simp only[go_sem,Nat.reduceEqDiff,reduceCtorEq,Nat.reduceAdd,Nat.reduceSub,Nat.reduceMul,Nat.reduceLeDiff,Nat.reduceLT,Int.reduceLE,Int.reduceToNat,Int.reduceNeg,↓reduceIte];rfl) (q:Kk σ xs=some as:=by simp only[go_sem,Nat.reduceEqDiff,reduceCtorEq,Nat.reduceAdd,Nat.reduceSub,Nat.reduceMul,Nat.reduceLeDiff,Nat.reduceLT,Int.reduceLE,Int.reduceToNat,Int.reduceNeg,↓reduceIte];rfl) (h1:CG ren=true:=by rfl) (j:Cc objs ren=true:=by rfl) (u:(c.ds.pin.all fun p=>!AU p.1 hs)=true:=by rfl) :
  GQ c R k ops (⟨dst,.call ⟨.value g,xs.toArray,ts⟩,ty,pos,after,e⟩ :: rest) σ:=lF r t s q m ren hs h1 j u l o hk
theorem GJ (l:List Nat) {n:cL} {a:St} (hk:Ev c R n k a) (h:CS l σ=a:=by simp only[go_sem,Nat.reduceEqDiff,reduceCtorEq,Nat.reduceAdd,Nat.reduceSub,Nat.reduceMul,Nat.reduceLeDiff,Nat.reduceLT,Int.reduceLE,Int.reduceToNat,Int.reduceNeg,↓reduceIte];rfl):Ev c R n k σ:=Ev.ent hk (cR l h fun _ _ h=>h)
theorem A1r (l:List Nat) {a:St} (b:t9 c a σ') (h:CS l σ=a:=by simp only[go_sem,Nat.reduceEqDiff,reduceCtorEq,Nat.reduceAdd,Nat.reduceSub,Nat.reduceMul,Nat.reduceLeDiff,Nat.reduceLT,Int.reduceLE,Int.reduceToNat,Int.reduceNeg,↓reduceIte];rfl):t9 c σ σ':=cR l h b
end
theorem eT {p:Prop} (h:p:=by simp only[Rm,kW,Oj,UH,Gr,JZ,ID,go_sem,Nat.reduceEqDiff,reduceCtorEq,Nat.reduceAdd,Nat.reduceSub,Nat.reduceMul,Nat.reduceLeDiff,Nat.reduceLT,Int.reduceLE,Int.reduceToNat,Int.reduceNeg,↓reduceIte]<;>fail):p:=h
section
variable {P:Program} {ty:List (Nat×TI)} {fs:List (Nat×Ad)} {nt:Nat} {f:FuncId} {fn:Func} {cd:Code}
theorem fKP (b c:List Nat) (ne:List (Nat×TypeId)) {a:Ad} (g:P.funcs[f]?=some fn) (k:fn.ntmps=nt) (hF:Hl P ⟨ty,fs,c,ne,b⟩)
  (h:∀(w0:World) (O0:Nat→Prop) (ds:JG a.ins),(cx P ⟨ty,fs,c,ne,b⟩ w0 O0 nt).Ok→oks a.ins ds→a.pre ds→Ev (cx P ⟨ty,fs,c,ne,b⟩ w0 O0 nt) (Rc P fn w0 O0 (a.out ds)) (.run cd) [] ⟨AL 0 a.ins ds,[]⟩)
  (d : fn.body = some cd := by rfl) (hT : Cg P ⟨ty, fs, c, ne, b⟩ := by exact tyTab_ok _ _ _ _) (j : (fn.name == "runtime.NumGoroutine") = false := by kernel_rfl) (i : a.ins.length ≤ nt := by decide) (e : Bk nt cd = true := by kernel_rfl) : Aj P f a := zY g j d k i e hT hF h
theorem fK (b:List Nat) {a:Ad} (e:P.funcs[f]?=some fn) (j:fn.ntmps=nt) (hF:Hl P ⟨ty,fs,[],[],b⟩)
  (h:∀(w0:World) (O0:Nat→Prop) (ds:JG a.ins),(cx P ⟨ty,fs,[],[],b⟩ w0 O0 nt).Ok→oks a.ins ds→a.pre ds→Ev (cx P ⟨ty,fs,[],[],b⟩ w0 O0 nt) (Rc P fn w0 O0 (a.out ds)) (.run cd) [] ⟨AL 0 a.ins ds,[]⟩)
  (c : fn.body = some cd := by rfl) (hT : Cg P ⟨ty, fs, [], [], b⟩ := by exact tyTab_ok _ _ _ _) (i : (fn.name == "runtime.NumGoroutine") = false := by kernel_rfl) (g : a.ins.length ≤ nt := by decide) (d : Bk nt cd = true := by kernel_rfl) : Aj P f a := zY e i c j g d hT hF h
variable {args:List AV} {objs:List (Nat×Obj)} {stay:List Nat} {post:AV→List (Nat×Obj)→Prop}
theorem KK (a b:List Nat) (ne:List (Nat×TypeId)) (e:P.funcs[f]?=some fn) (k:fn.ntmps=nt) (hF:Hl P ⟨ty,fs,b,ne,a⟩)
  (h:∀(w0:World) (K O0:Nat→Prop) (ρ0:Nat→Value),(cm P ⟨ty,fs,b,ne,a⟩ w0 K O0 nt (stay.map fun n=>(n,ρ0 n))).Ok→NJ args→MM objs →
   Ev (cm P ⟨ty,fs,b,ne,a⟩ w0 K O0 nt (stay.map fun n=>(n,ρ0 n))) (vG P fn w0 K O0 stay ρ0 post) (.run cd) [] ⟨Ak 0 args,objs⟩)
  (c : fn.body = some cd := by rfl) (hT : Cg P ⟨ty, fs, b, ne, a⟩ := by exact tyTab_ok _ _ _ _) (j : (fn.name == "runtime.NumGoroutine") = false := by kernel_rfl) (i : args.length ≤ nt := by simp only [Is, AAS]; omega) (d : Bk nt cd = true := by kernel_rfl) (l : stay.all (Pz objs) = true := by rfl) (g : Ka objs = true := by rfl) : BE P f args objs stay post := A0u e j c k i d l g hT hF h
theorem fKR (a b:List Nat) (ne:List (Nat×TypeId)) (e:P.funcs[f]?=some fn) (k:fn.ntmps=nt) (hF:Hl P ⟨ty,fs,b,ne,a⟩)
  (h:∀(w0:World) (K O0:Nat→Prop) (ρ0:Nat→Value),(cm P ⟨ty,fs,b,ne,a⟩ w0 K O0 nt (stay.map fun n=>(n,ρ0 n))).Ok→NJ args→MM objs →
   Ev (cm P ⟨ty,fs,b,ne,a⟩ w0 K O0 nt (stay.map fun n=>(n,ρ0 n))) (pX P fn w0 K O0 stay ρ0 post) (.run cd) [] ⟨Ak 0 args,objs⟩)
  (c : fn.body = some cd := by rfl) (hT : Cg P ⟨ty, fs, b, ne, a⟩ := by exact tyTab_ok _ _ _ _) (j : (fn.name == "runtime.NumGoroutine") = false := by kernel_rfl) (i : args.length ≤ nt := by simp only [Is, AAS]; omega) (d : Bk nt cd = true := by kernel_rfl) (l : stay.all (Pz objs) = true := by rfl) (g : Ka objs = true := by rfl) : BE P f args objs stay post := vL e j c k i d l g hT hF h
end
theorem fI {P:Program} {tb:Tb} {w0:World} {O0:Nat→Prop} {nt:Nat} (c:(cx P tb w0 O0 nt).Ok) {fn:Func} {a:List RV} {σ:St} {e:Exit} (b:List ResultVar) (h:Lz tb σ b a:=by exact eR) (g:fn.results.toList=b:=by rfl) (f:e=.ret∨e=.normal:=by exact .inl rfl) (hp:∀r∈a,∃t d,r=.p t d:=by simp) :
  Ev (cx P tb w0 O0 nt) (Rc P fn w0 O0 a) (.out e) [] σ:=A0s c b g f hp h
theorem fM {P:Program} {tb:Tb} {w0:World} {K O0:Nat→Prop} {nt:Nat} {stay:List Nat} {ρ0:Nat→Value} {fn:Func} {post:AV→List (Nat×Obj)→Prop} {σ:St} {e:Exit} (b:(cm P tb w0 K O0 nt (stay.map fun n=>(n,ρ0 n))).Ok)
  (a:List ResultVar) (res:AV) (h:Rm tb σ a res) (hp:post res σ.objs) (d:fn.results.toList=a:=by rfl) (c:e=.ret∨e=.normal:=by first|exact .inl rfl|exact .inr rfl) :
  Ev (cm P tb w0 K O0 nt (stay.map fun n=>(n,ρ0 n))) (vG P fn w0 K O0 stay ρ0 post) (.out e) [] σ:=vH b a d c res h hp
end
section
open Go Go.RowKit
structure R5 (X σ:St) (n:Nat):Prop where
 env:∀s v,lk s X.env=some v→v.trn n []=v
 arr:∀m o,lk m X.objs=some o→Kp o=true
 new:∀m o,lk m X.objs=some o→lk m σ.objs=none
 nm:∀m o,lk m X.objs=some o→m≠n
section
variable {σ σ' X:St} {n:Nat}
theorem R5.obs (b:Lp σ σ' X) (ha:R5 X σ n):ZE σ σ':=by
 intro m o hn;rw[b.objs];cases a:lk m X.objs with
 | none=>exact hn
 | some c=>rw[ha.new m c a]at hn;cases hn
theorem A3L (b:Lp σ σ' X) (ha:R5 X σ n) {en:List (Nat×AV)} {new:List (Nat×Obj)} (c:∀s v,lk s en=some v→lk s X.env=none) (e:∀m o,lk m new=some o→lk m X.objs=none) :
  Lp ⟨en++Dp n [] σ.env,new++CJ n [] σ.objs⟩ ⟨en++Dp n [] σ'.env,new++CJ n [] σ'.objs⟩ X:=by
 refine⟨fun s=>?_,fun m=>?_⟩
 ·simp only[Av];cases hs:lk s en with
  | some v=>rw[c s v hs];rfl
  | none =>
   rw[Es,Es,b.env];cases a:lk s X.env with
   | none=>rfl
   | some w=>simp[ha.env s w a]
 ·simp only[Av];cases d:lk m new with
  | some o=>rw[e m o d];rfl
  | none =>
   rw[Cy,Cy,b.objs];cases a:lk m X.objs with
   | none=>rfl
   | some w =>
    rw[At fun h=>ha.nm m w a (by simpa using (AW _ _).1 h)];exact AB5 some (UQ (ha.arr m w a))
def Zn (σ:St):Op→Option Nat
 | .call c=>match c.callee,c.args.toList,c.argTypes.toList with
  | .builtin .append,[x,_],[_,_]=>(match AZ σ x with|some (.nin n _ _ _)=>some n|_=>none)
  | _,_,_=>none
 | _=>none
theorem vM {tb:Tb} {op:Op} {d:Option Nat} {vc:Prop} {τ:St} (j:Lp σ σ' X) (ha:R5 X σ n) (r:k6 σ σ' op.operands.toList) (a:Zn σ op=some n) (G:∀t,d=some t→lk t X.env=none) (E:∀n,(∃u,lk n τ.objs=some u)→lk n X.objs=none) (h:Em tb σ d op=some (vc,τ)) :
  (∃B,Em tb σ' d op=some (vc,B)∧Lp τ B X)∧(∀k,aq tb σ' k op=none)∧(∀k,aq tb σ k op=none)∧B4 σ op=[]∧B4 σ' op=[]:=by
 have p:=ha.obs j;cases op<;>try(cases a;done)
 rename_i cl;obtain⟨callee,⟨args⟩,⟨argTypes⟩⟩:=cl;simp only[Zn]at a;split at a
 ·rename_i x y t u;cases f:AZ σ x with
  | none=>rw[f]at a;cases a
  | some xv =>
   rw[f]at a;cases xv<;>try(cases a;done)
   rename_i Q e i len;cases a;have z:AZ σ' x=AZ σ x:=r x (by simp[Op.operands,Call.operands]);have N:AZ σ' y=AZ σ y:=r y (by simp[Op.operands,Call.operands]);refine⟨?_,fun k=>by simp[aq,CY,Cn,CK,z,f],fun k=>by simp[aq,CY,Cn,CK,f],rfl,rfl⟩;simp only[Em,Cp,DF,f]at h;simp only[Em,Cp,DF,Co,z,f,N];cases A:AZ σ y with
   | none=>rw[A]at h;unfold Co at h;cases h
   | some v =>
    rw[A]at h;simp only[Co]at h;split at h
    ·rename_i b;have H:=G b rfl;simp only;split at h
     ·rename_i M;rw[BY M];unfold Lw at h ⊢;split at h
      ·rename_i O R el b2 L;try rw[L]
       try simp only
       split at h
       ·rename_i J;rw[BY J];unfold Mo at h ⊢;split at h
        ·rename_i ti et P k c xs h1 K;try rw[h1]
         try rw[p _ _ K]
         try simp only
         split at h
         ·rename_i F;rw[BY F];unfold KR at h ⊢;split at h
          ·rename_i ys C;rw[Ke p C];try simp only
           split at h
           ·rename_i m;have l:lk b X.objs=none:=by
             refine E b ?_;cases h;exact⟨_,by simp only[lk,AAv];rfl⟩
            have I:(lk b σ'.objs).isNone=true∧ys.isEmpty=false:=⟨by rw[j.objs,l];exact m.1,m.2⟩;rw[BY I];cases h;refine⟨_,rfl,A3L (en:=[(b,_)]) (new:=[(b,_),(n,_)]) j ha (fun s v h=>?_) (fun q o g=>?_)⟩
            ·simp only[lk]at h;split at h
             ·rename_i c;rw[c];exact H
             ·cases h
            ·simp only[lk]at g;split at g
             ·rename_i c;rw[c];exact l
             ·split at g
              ·rename_i c;rw[c];cases D:lk n X.objs with
               | none=>rfl
               | some w=>exact absurd rfl (ha.nm n w D)
              ·cases g
           ·cases h
          ·cases h
         ·cases h
        ·cases h
       ·cases h
      ·cases h
     ·cases h
    ·cases h
 ·cases a
end
def R6 (n:Nat):EN→EN
 | []=>[]
 | (d,v,obs) :: r=>(d,v.trn n [],obs) :: R6 n r
theorem R7 {n:Nat}:∀ {ens:EN},R6 n ens=ens→∀e∈ens,e.2.1.trn n []=e.2.1
 | [],_,e,a=>by cases a
 | (d,v,obs) :: r,h,e,a=>by
  simp only[R6,ABa,ACn,and_true,true_and]at h;rcases Do.1 a with rfl|a
  ·exact h.1
  ·exact R7 h.2 e a
section
variable {c:Cx} {o:Oper} {σ:St} {ens:EN} {N:St→Prop}
theorem p4 (M:c.Ok) {τ:St} {vc:Prop} (n:Nat) (h:FM c.tb o σ=some (vc,τ)) (b:Zn σ o.op=some n) (C:Jh o ens=true) (hn:II [n] σ.objs ens=true) (P:NL τ.objs ens=true) (hf:R6 n ens=ens) (O:Ho c.nt o=true) (T:vc) (I:N τ):Vu c o σ ens N:=by
 intro X σ' D g a w next Q hs hk
 have ha:R5 X σ n:=by
  refine⟨fun s v hs=>?_,fun m o p=>?_,fun m o p=>?_,fun m o p=>?_⟩
  ·obtain⟨obs,i⟩:=g.env s v hs;exact R7 hf _ i
  all_goals
   obtain⟨e,l,hp⟩:=g.objs m o p;have:=Ew hn e l _ hp
  ·exact this.2.2
  ·exact this.1
  ·exact fun F=>this.2.1 (by simp[F])
 have K:∀t∈F2 o.op,lk t X.env=none:=fun t z=>by
  cases f:lk t X.env with
  | none=>rfl
  | some v=>obtain⟨obs,i⟩:=g.env t v f;exact absurd z (EA C _ i).1
 have J:∀t,o.dst=some t→lk t X.env=none:=fun t z=>by
  cases f:lk t X.env with
  | none=>rfl
  | some v=>obtain⟨obs,i⟩:=g.env t v f;exact absurd z (EA C _ i).2
 have L:∀n,(∃u,lk n τ.objs=some u)→lk n X.objs=none:=fun n j=>by
  cases f:lk n X.objs with
  | none=>rfl
  | some v =>
   obtain⟨e,l,hp⟩:=g.objs n v f;obtain⟨u,j⟩:=j;rw[Ji P e l _ hp]at j;cases j
 have R:=Qw D K;have key:∃d,FM c.tb o σ'=some (vc,d)∧Lp τ d X:=by
  have B:B4 σ o.op=[]∧B4 σ' o.op=[]:=by
   obtain⟨dst,op,ty,pos,after,G⟩:=o;simp only at b ⊢;cases op<;>first|exact⟨rfl,rfl⟩|cases b
  unfold FM Mr at h ⊢;rw[B.1]at h;rw[B.2];simp only[CS]at h ⊢;cases q:aq c.tb σ (o.dst.getD 0) o.op with
  | some r =>
   obtain⟨dst,op,ty,pos,after,G⟩:=o;simp only at b q;exfalso;cases op<;>try(cases b;done)
   rename_i cl;obtain⟨callee,⟨args⟩,⟨argTypes⟩⟩:=cl;simp only[Zn]at b;split at b
   ·rename_i x y t u;cases A:AZ σ x with
    | none=>rw[A]at b;cases b
    | some xv =>
     rw[A]at b;cases xv<;>try(cases b;done)
     simp[aq,CY,Cn,CK,A]at q
   ·cases b
  | none =>
   rw[q]at h;simp only[J2]at h;obtain⟨⟨d,h1,k⟩,H,_⟩:=vM D ha R b J L h;rw[H];simp only[J2];exact⟨d,h1,k⟩
 obtain⟨d,h1,k⟩:=key;exact M6 M hs h1 T (Bd O) fun E w' S=>hk τ I E w' d k S
theorem mxN (b:c.Ok) {τ:St} {vc:Prop} (n:Nat) (i:vc) (a:N τ) (h:FM c.tb o σ=some (vc,τ):=by simp only[go_sem,Nat.reduceEqDiff,reduceCtorEq,Nat.reduceAdd,Nat.reduceSub,Nat.reduceMul,Nat.reduceLeDiff,Nat.reduceLT,Int.reduceLE,Int.reduceToNat,Int.reduceNeg,↓reduceIte];rfl) (f:Zn σ o.op=some n:=by simp only[go_sem,Nat.reduceEqDiff,reduceCtorEq,Nat.reduceAdd,Nat.reduceSub,Nat.reduceMul,Nat.reduceLeDiff,Nat.reduceLT,Int.reduceLE,Int.reduceToNat,Int.reduceNeg,↓reduceIte]) (g:Jh o ens=true:=by rfl) (hn:II [n] σ.objs ens=true:=by rfl) (e:NL τ.objs ens=true:=by rfl)
  (hf:R6 n ens=ens:=by simp only[go_sem,Nat.reduceEqDiff,reduceCtorEq,Nat.reduceAdd,Nat.reduceSub,Nat.reduceMul,Nat.reduceLeDiff,Nat.reduceLT,Int.reduceLE,Int.reduceToNat,Int.reduceNeg,↓reduceIte]) (d:Ho c.nt o=true:=by rfl):Vu c o σ ens N:=p4 b n h f g hn e hf d i a
end
end
section
open Go Go.RowKit
section
variable {P:Program} {tb:Tb} {w0:World} {K O0:Nat→Prop} {nt:Nat} {ds:Fp} {σ:St} {ρ:Nat→Value} {a:Act} {w:World}
theorem Bb.swapP (h:Bb w0 K O0 nt ds σ ρ a w) (z:∀b,K b→b<w0.heap.size) (I:∀b,O0 b→b<w0.heap.size) {T:Nat→Prop} (hT:∀n,T n→∃o,lk n σ.objs=some o) (J:∀p∈ds.pin,¬T p.1)
  {new:List (Nat×Obj)} {σ':St} {ρ':Nat→Value} {w':World} {dst:Option Nat} {u:Value}
  (X:w'.os=w.os) (aa:w'.tape=w.tape) (Y:w'.output=w.output) (Z:w.heap.size≤w'.heap.size)
  (O:∀b,b<w.heap.size→(∀n,T n→¬bk (ρ n) b)→w'.heap[b]?=w.heap[b]?)
  (q:∀n o,lk n σ'.objs=some o→lk n new=none→¬T n∧∃d,lk n σ.objs=some d)
  (P:∀n o,lk n σ.objs=some o→¬T n→lk n new=none∧∃d,lk n σ'.objs=some d)
  (j:∀n,lk n new=none→ρ' n=ρ n)
  (D:∀n o b,lk n new=some o→bk (ρ' n) b→(∃m,T m∧bk (ρ m) b)∨w.heap.size≤b)
  (L:∀n m o r b,lk n new=some o→lk m new=some r→bk (ρ' n) b→bk (ρ' m) b→n=m)
  (W:∀n o,lk n σ'.objs=some o→Aw (vw w' O0 σ' ρ') o (ρ' n))
  (M:∀s v,lk s σ'.env=some v→Bm (vw w' O0 σ' ρ') v ((a.put dst u).tmps.getD s undef)) :
  Bb w0 K O0 nt ds σ' ρ' (a.put dst u) w':=by
 have ad:∀m,T m→∀b,bk (ρ m) b→b<w.heap.size:=fun m c b i=>by
  obtain⟨o,f⟩:=hT m c;exact(h.objs m o f).block_lt i
 have A:∀m,T m→∀b,bk (ρ m) b→¬K b∧¬O0 b:=fun m c b i=>by
  obtain⟨o,f⟩:=hT m c;exact h.free m b ⟨o,f⟩ i
 refine⟨⟨X.trans h.frm.os,aa.trans h.frm.tape,Y.trans h.frm.output,f4 h.frm.size Z,fun k hk=>?_⟩,by rw[Id];exact h.nt,by rw[FX];exact h.defers,fun p hp=>?_,W,?_,?_,M⟩
 ·exact(O k (AAq (z k hk) h.frm.size) fun n hn i=>(A n hn k i).1 hk).trans (h.frm.block k hk)
 ·obtain⟨⟨o,h1⟩,g,H⟩:=h.pin p hp;have R:¬T p.1:=J p hp;obtain⟨F,G⟩:=P p.1 o h1 R;exact⟨G,(j _ F).trans g,H⟩
 ·intro n b y i;obtain⟨o,f⟩:=y;cases hn:lk n new with
  | none =>
   obtain⟨_,d,h1⟩:=q n o f hn;rw[j n hn]at i;exact h.free n b ⟨d,h1⟩ i
  | some e =>
   rcases D n e b hn i with ⟨m,c,t⟩|N
   ·exact A m c b t
   ·have:=h.frm.size;exact⟨fun x=>by have:=z b x;omega,fun x=>by have:=I b x;omega⟩
 ·have key:∀n m o e b,lk n σ'.objs=some o→lk n new=none→lk m new=some e→bk (ρ' n) b→bk (ρ' m) b→False:=by
   intro n m o e b f hn c h1 g;obtain⟨S,d,l⟩:=q n o f hn;rw[j n hn]at h1;rcases D m e b c g with ⟨E,B,t⟩|N
   ·obtain⟨ab,V⟩:=hT E B;have:=h.dist n E b ⟨d,l⟩ ⟨ab,V⟩ h1 t;exact S (this▸B)
   ·have ae:b<w.heap.size:=(h.objs n d l).block_lt h1;omega
  intro n m b y Q h1 g;obtain⟨o,f⟩:=y;obtain⟨r,C⟩:=Q;cases hn:lk n new with
  | none =>
   cases c:lk m new with
   | none =>
    obtain⟨_,d,l⟩:=q n o f hn;obtain⟨_,e,U⟩:=q m r C c;rw[j n hn]at h1;rw[j m c]at g;exact h.dist n m b ⟨d,l⟩ ⟨e,U⟩ h1 g
   | some e=>exact(key n m o e b f hn c h1 g).elim
  | some d =>
   cases c:lk m new with
   | none=>exact(key m n r d b C c hn g h1).elim
   | some e=>exact L n m d e b hn c h1 g
theorem Bb.swap1P (h:Bb w0 K O0 nt ds σ ρ a w) (ad:∀b,K b→b<w0.heap.size) (H:∀b,O0 b→b<w0.heap.size) {tl:List Nat} (hT:∀n,n∈tl→∃o,lk n σ.objs=some o) (ae:∀p∈ds.pin,¬p.1∈tl)
  {f:Nat} (am:f∈tl∨lk f σ.objs=none) {q:Obj} {loc:Value} {w':World}
  (ap:w'.os=w.os) (av:w'.tape=w.tape) (aq:w'.output=w.output) (ar:w.heap.size≤w'.heap.size)
  (J:∀b,b<w.heap.size→(∀n,n∈tl→¬bk (ρ n) b)→w'.heap[b]?=w.heap[b]?)
  (R:∀b,bk loc b→(∃m,m∈tl∧bk (ρ m) b)∨w.heap.size≤b)
  (ao:∀V':Vw,V'.w=w'→B7 ⟨w,own O0 σ ρ,fun _=>False,ρ⟩ V'→(∀b m,m∈tl→bk (ρ m) b→¬bk loc b→¬V'.O b)→Aw V' q loc)
  {d:Nat} (ag:d<nt) {v:AV} {u:Value} (af:∀V':Vw,V'.L f→V'.ρ f=loc→Bm V' v u) :
  Bb w0 K O0 nt ds ⟨(d,v) :: Ba tl σ.env,(f,q) :: Ab tl tl σ.objs⟩ (Dr ρ f loc) (a.put (some d) u) w':=by
 let S:St:=⟨(d,v) :: Ba tl σ.env,(f,q) :: Ab tl tl σ.objs⟩
 have E:∀m o,lk m S.objs=some o→(m=f∧o=q)∨(m≠f∧m∉tl∧∃e,lk m σ.objs=some e∧o=e.fgt tl):=by
  intro m o c;simp only[S,lk]at c;split at c
  ·rename_i A;cases c;exact .inl ⟨A,rfl⟩
  ·rename_i A;rw[BR]at c;split at c
   ·cases c
   ·rename_i X;simp only[IN]at c;obtain⟨e,h1,rfl⟩:=c;exact .inr ⟨A,fun h=>X ((AW _ _).2 h),e,h1,rfl⟩
 have P:∀m,m≠f→m∉tl→∀e,lk m σ.objs=some e→lk m S.objs=some (e.fgt tl):=by
  intro m h1 i e g;simp only[S,lk,At h1,BR,g];rw[At fun h=>i ((AW _ _).1 h)];rfl
 have M:∀m,m∉tl→(∃o,lk m σ.objs=some o)→m≠f:=by
  rintro m h1 ⟨o,i⟩ rfl;rcases am with g|g
  ·exact h1 g
  ·rw[g]at i;cases i
 have r:Dr ρ f loc f=loc:=BU _ _ _;have z:∀m,m≠f→Dr ρ f loc m=ρ m:=fun m h1=>by simp[Dr,h1]
 generalize Dr ρ f loc=ρ' at r z;have V:∀b,b<w.heap.size→¬own O0 σ ρ b→¬own O0 S ρ' b:=by
  intro b k B ax;rcases ax with h0|⟨m,⟨o,an⟩,F⟩
  ·exact B (.inl h0)
  ·rcases E m o an with ⟨rfl,_⟩|⟨h1,i,e,g,_⟩
   ·rw[r]at F;rcases R b F with ⟨t,au,N⟩|N
    ·obtain⟨e,l⟩:=hT t au;exact B (.inr ⟨t,⟨e,l⟩,N⟩)
    ·omega
   ·rw[z m h1]at F;exact B (.inr ⟨m,⟨e,g⟩,F⟩)
 have Q:∀b,b<w.heap.size→¬own O0 σ ρ b→w'.heap[b]?=w.heap[b]?:=fun b k B=>J b k fun n hn I=>by
  obtain⟨e,l⟩:=hT n hn;exact B (.inr ⟨n,⟨e,l⟩,I⟩)
 have ai:B7 ⟨w,own O0 σ ρ,fun _=>False,ρ⟩ (vw w' O0 S ρ'):=⟨V,fun _ h=>h.elim,fun _ h=>h.elim,Q⟩;have hk:B7 ((vw w O0 σ ρ).buts tl) (vw w' O0 S ρ'):=by
  refine⟨V,fun m c=>?_,fun m c=>?_,Q⟩
  ·obtain⟨⟨e,h1⟩,i⟩:=c;have g:m∉tl:=fun h=>by rw[(AW _ _).2 h]at i;cases i
   exact⟨_,P m (M m g ⟨e,h1⟩) g e h1⟩
  ·obtain⟨⟨e,h1⟩,i⟩:=c;have g:m∉tl:=fun h=>by rw[(AW _ _).2 h]at i;cases i
   exact z m (M m g ⟨e,h1⟩)
 refine h.swapP ad H (T:=fun m=>m∈tl) hT ae (new:=[(f,q)]) ap av aq ar J ?_ ?_ ?_ ?_ ?_ ?_ ?_
 ·intro m o c ak;rcases E m o c with ⟨rfl,_⟩|⟨h1,i,e,g,_⟩
  ·simp[lk]at ak
  ·exact⟨i,e,g⟩
 ·intro m e c U;have h1:=M m U ⟨e,c⟩;exact⟨by simp[lk,h1],_,P m h1 U e c⟩
 ·intro m c;exact z m fun A=>by simp[lk,A]at c
 ·intro m o b c k;have h1:m=f:=by
   by_cases h1:m=f
   ·exact h1
   ·simp[lk,h1]at c
  rw[h1,r]at k;exact R b k
 ·intro m C o ay b c aj _ _;have key:∀j o,lk j [(f,q)]=some o→j=f:=fun j o ah=>by
   by_cases h1:j=f
   ·exact h1
   ·simp[lk,h1]at ah
  rw[key m o c,key C ay aj]
 ·intro m o c;rcases E m o c with ⟨rfl,rfl⟩|⟨h1,i,e,g,rfl⟩
  ·rw[r];refine ao _ rfl ai fun b m c k al H=>?_;obtain⟨W,l⟩:=hT m c;rcases H with h0|⟨C,⟨az,ab⟩,D⟩
   ·exact(h.free m b ⟨W,l⟩ k).2 h0
   ·rcases E C az ab with ⟨rfl,_⟩|⟨Y,Z,e,aa,_⟩
    ·rw[r]at D;exact al D
    ·rw[z C Y]at D;exact Z ((h.dist C m b ⟨_,aa⟩ ⟨_,l⟩ D k)▸c)
  ·rw[z m h1];refine Qn hk (fun b k=>J b ((h.objs m e g).block_lt k) fun n hn I=>?_) (h.objs m e g);obtain⟨W,l⟩:=hT n hn;exact i ((h.dist m n b ⟨_,g⟩ ⟨_,l⟩ k I)▸hn)
 ·intro s x hs;rw[JT a d u s (by rw[h.nt];exact ag)];simp only[S,lk]at hs;split at hs
  ·rename_i G;cases hs;rw[BY G];exact af _ ⟨q,by simp[S,lk]⟩ r
  ·rename_i G;rw[At G];rw[Dl]at hs;simp only[IN]at hs;obtain⟨y,aw,rfl⟩:=hs;exact(M0 (h.env s y aw)).keeps hk
end
theorem Xj {w:World} {O:Nat→Prop} {k v:Ty}:∀ {a:List MapEntry} {l:List (k.den×v.den)},Ic w O k v a l→a.length=l.length∧∀(i:Nat) (e:MapEntry),a[i]?=some e→∃x,l[i]?=some x∧BM w O k e.key x.1∧BM w O v e.val x.2
 | [],[],_=>⟨rfl,fun i e h=>by simp at h⟩
 | [],_ :: _,h=>h.elim
 | _ :: _,[],h=>h.elim
 | e :: a,x :: l,⟨h1,f,g⟩=>by
  obtain⟨c,d⟩:=Xj g;refine⟨by simp[c],fun i b h=>?_⟩;cases i with
  | zero=>simp at h;subst h;exact⟨x,by simp,h1,f⟩
  | succ i=>simp at h;simpa using d i b h
section
variable {c:Cx} {R:Exit→Act→World→Prop} {k:List DG} {σ:St}
end
end
section
open Go Go.RowKit
section
variable {c:Cx} {R:Exit→Act→World→Prop} {k:List DG} {σ σ':St}
end
theorem CA {p:Prop} (h:p:=by first|exact trivial|((try dsimp only[Ty.den])<;>(repeat'(first|apply And.intro|intro _))<;>omega)|((try dsimp only[Ty.den]at *)<;>(repeat'(first|apply And.intro|intro _))<;>omega)):p:=h
end
section
open Go Go.RowKit
section
variable {c:Cx} {R:Exit→Act→World→Prop} {k:List DG} {σ σ':St}
theorem p5 (q:c.Ok) {d m len:Nat} {t:TypeId} {x:Operand} {ty:TypeId} {pos:String} {after:Array Edge} {f e:Ty} {offs:List (Nat×Nat)} {el J:TypeId} {X:Nat} {W:AV} {a0:f.den} {xs:List e.den}
  (ar:lk t c.tb.ty=some ⟨.slice (.agg (.prod f (.slice e))),offs,el,X⟩) (av:AZ σ x=some (.ag [W,.sr m e 0 len])) (ab:Dy false σ f W=some a0) (s:lk m σ.objs=some (.arr J e xs)) (ak:len=xs.length)
  (an:(c.ds.pin.all fun p=>!AU p.1 [m])=true) (aj:lk d σ.objs=none) (bd:f.size+1≤16777216)
  {a:Act} {w:World} {next:Act→World→Prop} {Q:Exit→Act→World→Prop} (ap:c.sat σ a w) (af:d<c.nt)
  (hk:∀L w',c.sat ⟨(d,.sr d (.agg (.prod f (.slice e))) 0 1) :: Ba [m] σ.env,(d,.nest el J f e [(a0,xs)] none) :: Ab [m] [m] σ.objs⟩ L w'→next L w') :
  (⟨some d,.buildSlice t 1 #[(0,x)],ty,pos,after,none⟩:Oper).wpIn (FR c.r) 0 c.P a w next Q:=by
 obtain⟨ρ,A⟩:=ap;have ah:FK (vw w c.O0 σ ρ) σ a.eval:=DU A.env;obtain⟨B,hs,te,aq,au⟩:=B1 (q.T _ _ ar) q.T;obtain⟨z,aw,bf⟩:=KY (q.T _ _ aq) w;obtain⟨cs,ae,ad⟩:=ah x _ av;obtain⟨c1,c2,rfl,h1,D⟩:=ad;obtain⟨ay,Y,rfl,aa,E⟩:=D;have E:Y=[]:=E;subst E;obtain⟨U,rfl,_,az,l⟩:=aa;have I:=A.objs m _ s;have l:Cf (plc (ρ m)) e.size 0 len U:=l;rw[Ms I,ak]at l;have am:MA (vw w c.O0 σ ρ) J e xs (ρ m):=I;obtain⟨ba,bg,ax,bh⟩:=I;have l:U=ρ m:=Hn ax l;subst l;have C:=Ws (O':=own c.O0 σ ρ) (fun _ h=>h) (fun h=>by cases h) A.objs ab h1;have C:Be w (own c.O0 σ ρ) f c1 a0:=C;have H:=C.length;have bc:te.ty.size=f.size+1:=by rw[au];rfl
 have hs:=hs w;rw[show (Ty.agg (.prod f (.slice e))).size=f.size+1 from rfl]at hs;have N:(a.eval x).cells.toList=c1++[ρ m]:=by rw[ae];simp[Value.cells]
 have ao:Instr.fill (fun i=>some (i*(f.size+1),f.size+1)) ((Array.range (1*(f.size+1))).map (fun i=>z.cells[i % z.cells.size]!)) [(0,a.eval x)]=some (c1++[ρ m]).toArray:=by
  have R:(a.eval x).cells.size=f.size+1:=by rw[←ABb,N];simp[H]
  rw[Mv (by rw[R]) (by rw[R];simp)];rw[N];simp only[Instr.fill,ABV,Au,AAL,AB9,AAC];rw[List.drop_of_length_le (by simp[H]),AAl]
 have y:=Qk (w:=w) (et:=el) (sz:=f.size+1) (n:=1) (cells:=(c1++[ρ m]).toArray) (by simp[H]) (by simp[AO]);have y:(w.alloc (.cells (c1++[ρ m]).toArray el)).ownsRow 0 el (f.size+1) (.slice (some ⟨w.heap.size,0,none⟩) 1 1) 1 (c1++[ρ m]):=⟨y.1,y.2.imp (fun h=>h) fun⟨g,cap,Z,e,_,r⟩=>⟨g,cap,Z,e,IS _,r⟩⟩;have ai:(Instr.buildSlice t 1 #[(0,a.eval x)]).run c.P w=.ok (.slice (some ⟨w.heap.size,0,none⟩) 1 1) (w.alloc (.cells (c1++[ρ m]).toArray el)):=by
  have al:¬(1*(f.size+1) > 16777216):=by omega
  have h0:¬(1*(f.size+1)=0):=by omega
  simp only[Instr.buildSlice,AAA,aS B,AA6,hs,At al,At h0,aw,AB1,ao,newRow];rfl
 have S:∀b,bk (ρ m) b→b<w.heap.size:=fun b k=>(A.objs m _ s).block_lt k;refine Ag (u:=.slice (some ⟨w.heap.size,0,none⟩) 1 1) (w':=w.alloc (.cells (c1++[ρ m]).toArray el)) (by simp[execOp,ai]) (hk _ _ ⟨Dr ρ d (.tuple (.slice (some ⟨w.heap.size,0,none⟩) 1 1 :: [ρ m]).toArray),?_⟩);refine A.swap1P q.K q.O (tl:=[m]) (w':=w.alloc (.cells (c1++[ρ m]).toArray el)) (u:=.slice (some ⟨w.heap.size,0,none⟩) 1 1) (loc:=.tuple (.slice (some ⟨w.heap.size,0,none⟩) 1 1 :: [ρ m]).toArray) (by simpa using ⟨_,s⟩) (fun p hp s=>?_) (.inr aj) rfl rfl rfl ?_ ?_ ?_ ?_ af ?_
 ·have:=(DO.1 an) p hp;rw[(AW _ _).2 s]at this;cases this
 ·show w.heap.size≤(w.heap.push _).size;simp
 ·intro b2 o _;exact heap_alloc_old w _ o
 ·intro b2 o;rcases Az.1 o with k|⟨i,u,hi,k⟩
  ·simp[blk]at k;exact .inr (by omega)
  ·have:u=ρ m:=by
    rcases i with _|i
    ·simpa using hi.symm
    ·simp at hi
   subst this;exact .inl ⟨m,by simp,.inl k⟩
 ·intro V' M F bb;refine⟨_,[ρ m],c1++[ρ m],.inl rfl,by simp[AO],rfl,by rw[M];exact y,fun i bi u hi B=>?_,fun i j b u v hi G B be=>?_,fun i b u hi k o=>?_⟩
  ·rcases i with _|i
   ·simp only[AAj,AAo]at hi B;subst hi B;exact⟨c1,ρ m,fun j z G=>by simpa using G,C.mono F.O F.heap,.inr ⟨rfl,.inl rfl,MA.keeps (V:=⟨w,own c.O0 σ ρ,fun _=>False,ρ⟩) F (fun b k=>by rw[M];exact heap_alloc_old w _ (S b (.inl k))) am⟩⟩
   ·simp at hi
  ·rcases i with _|i
   ·rcases j with _|j
    ·rfl
    ·simp at G
   ·simp at hi
  ·rcases i with _|i
   ·simp only[AAj,AAo]at hi;subst hi;have:=S b (.inl k);simp[blk]at o;omega
   ·simp at hi
 ·intro V' h1 D;refine⟨h1,?_⟩;rw[D];exact Eo y
def Lq (a b:Ty) (k:a.den):List (a.den×b.den)→List (a.den×b.den)
 | []=>[]
 | x :: r=>if IR a k x.1=true then r else x :: Lq a b k r
theorem Xk {w:World} {O:Nat→Prop} {a b:Ty} {k:a.den}:∀ {c:List MapEntry} {l:List (a.den×b.den)},Ic w O a b c l→∀i,
  (GP a b k c l i=none∧Lq a b k l=l)∨∃(j:Nat) (v:Value),GP a b k c l i=some (i+j,v)∧j<c.length∧Ic w O a b (c.eraseIdx j) (Lq a b k l)
 | [],[],_,i=>.inl ⟨rfl,rfl⟩
 | [],_ :: _,h,_=>h.elim
 | _ :: _,[],h,_=>h.elim
 | e :: c,x :: l,⟨h1,o,m⟩,i=>by
  cases d:IR a k x.1 with
  | true =>
   refine .inr ⟨0,e.val,by simp[GP,d],by simp,?_⟩;simp only[Lq,d,AAv,List.eraseIdx_cons_zero];exact m
  | false =>
   rcases Xk (k:=k) m (i+1) with ⟨f,g⟩|⟨j,v,f,g,n⟩
   ·exact .inl ⟨by simp[GP,d,f],by simp[Lq,d,g]⟩
   ·refine .inr ⟨j+1,v,?_,by simp;omega,?_⟩
    ·simp only[GP,d,f,AAB,AAN]
     congr 2
     omega
    ·simp only[Lq,d,AAB,AAN,List.eraseIdx_cons_succ];exact⟨h1,o,n⟩
theorem Zo {a:Array MapEntry} {cl:Nat} (h:OW a cl) (j:Nat):OW (a.eraseIdxIfInBounds j) cl:=by
 unfold OW at h ⊢;rw[ABU];have hs:=(List.eraseIdx_sublist a.toList j).map (·.born);exact⟨h.1.sublist hs,fun b c=>h.2 b (hs.subset c)⟩
theorem Zp (S:c.Ok) {ops:Array Oper} {rest:List Oper} {n:Nat} {t u:TypeId} {m x:Operand} {ty:TypeId} {pos:String} {after:Array Edge} {d p:Ty} {l:List (d.den×p.den)} {xv:AV} {kd:d.den} {L M:TypeId}
  (Z:AZ σ m=some (.mp n)) (af:AZ σ x=some xv) (hn:lk n σ.objs=some (.mapo d p l)) (X:J0 false σ d xv=some kd) (J:c.P.underlying t=some (.map L M)) (C:RZ c.P L d)
  (hk:GQ c R k ops rest ⟨σ.env,upd n (.mapo d p (Lq d p kd l)) σ.objs⟩) :
  GQ c R k ops (⟨none,.call ⟨.builtin .delete,#[m,x],#[t,u]⟩,ty,pos,after,none⟩ :: rest) σ:=by
 intro T W a w ae;unfold wpListIn;rw[BY (by simp[Region.wanted])];obtain⟨ρ,A⟩:=ae;have G:FK (vw w c.O0 σ ρ) σ a.eval:=DU A.env;obtain⟨ag,b,y,aa⟩:=G m _ Z;have y:ρ n=_:=y;have s:=Ie (V:=vw w c.O0 σ ρ) (O':=own c.O0 σ ρ) (fun _ h=>h) (fun h=>by cases h) A.objs X (G x _ af);obtain⟨b',z,cl,q,f,r,F⟩:=A.objs n _ hn;rw[y]at q;injection q with q
 injection q with q
 subst q;have f:w.heap[b]?=some (.map z cl):=f;have s:BM w (own c.O0 σ ρ) d (a.eval x) kd:=s;have r:Ic w (own c.O0 σ ρ) d p z.toList l:=r;have H:=C.find s r;obtain⟨g,ad,U,Q⟩:∃g:Array MapEntry,(Builtin.delete_ #[t,u] ty #[.map (some b),a.eval x]).run c.P w=.ok (.tuple #[]) { w with heap:=w.heap.setIfInBounds b (.map g cl) }∧Ic w (own c.O0 σ ρ) d p g.toList (Lq d p kd l)∧OW g cl:=by
  rcases Xk (k:=kd) r 0 with ⟨B,D⟩|⟨j,v,B,D,N⟩
  ·refine⟨z,?_,by rw[D];exact r,F⟩;simp[Builtin.delete_,aS J,AAK f,C.check _ s,H,B,ABw _ f]
  ·refine⟨z.eraseIdxIfInBounds j,?_,by rw[ABU];exact N,Zo F j⟩;simp[Builtin.delete_,aS J,AAK f,C.check _ s,H,B,ABw _ f]
 refine Ag (u:=.tuple #[]) (w':={ w with heap:=w.heap.setIfInBounds b (.map g cl) }) (by simp[execOp,resolve,invoke,builtin,aa,ad]) (hk (fun o ab=>T o (by simp[ab])) W _ _ ⟨ρ,?_⟩);have E:blk (ρ n)=some b:=by rw[y];rfl
 have I:w.grownBy { w with heap:=w.heap.setIfInBounds b (.map g cl) } (some b) :=
  ⟨rfl,rfl,rfl,by simp,fun i _ hi=>(AC0 f).2 i (fun e=>hi (by rw[e]))⟩
 refine A.upd S.K hn E I ⟨b,g,cl,y,(AC0 f).1,?_,Q⟩;exact U.mono (fun _ _ h=>h) (fun b2 Y O=>I.block b2 Y (fun e=>by injection e with e;subst e;exact O (.inr ⟨n,⟨_,hn⟩,.inl E⟩)))
theorem Zq (q:c.Ok) {ops:Array Oper} {rest:List Oper} {d n:Nat} {t:TypeId} {m:Operand} {ty:TypeId} {pos:String} {after:Array Edge} {s x:Ty} {l:List (s.den×x.den)} {L y:TypeId}
  (D:AZ σ m=some (.mp n)) (hn:lk n σ.objs=some (.mapo s x l)) (J:c.P.underlying t=some (.map L y)) (C:l.length≤AO)
  (hk:GQ c R k ops rest ⟨(d,.p (.int .i64) (l.length:Int)) :: σ.env,σ.objs⟩) :
  GQ c R k ops (⟨some d,.call ⟨.builtin .len,#[m],#[t]⟩,ty,pos,after,none⟩ :: rest) σ:=by
 intro r B a w H;unfold wpListIn;rw[BY (by simp[Region.wanted])];obtain⟨ρ,h⟩:=H;have A:FK (vw w c.O0 σ ρ) σ a.eval:=DU h.env;have S:d<c.nt:=Bd (r _ ABh) d rfl;obtain⟨N,b,i,E⟩:=A m _ D;have i:ρ n=_:=i;obtain⟨b',j,cl,f,g,z,Q⟩:=h.objs n _ hn;rw[i]at f;injection f with f
 injection f with f
 subst f;have g:w.heap[b]?=some (.map j cl):=g;have I:j.size=l.length:=by rw[←ABb];exact(Xj z).1
 have G:(Builtin.len_ #[t] ty #[.map (some b)]).run c.P w=.ok (.int .i64 (l.length:Int)) w:=by
  simp[Builtin.len_,aS J,AAK g,goInt,I]
 refine Ag (u:=.int .i64 (l.length:Int)) (w':=w) (by simp[execOp,resolve,invoke,builtin,E,G]) (hk (fun o F=>r o (by simp[F])) B _ _ ⟨ρ,?_⟩);refine h.add q.K q.O (dst:=some d) (fun M e=>by injection e with e;omega) (v:=.p (.int .i64) (l.length:Int)) (obs:=[]) (ρ':=ρ) rfl (QS.still ?_);exact BF (by simp only[AO]at C;simp only[Jb];omega)
theorem A3M (g:c.Ok) {ops:Array Oper} {rest:List Oper} {n:Nat} {t u:TypeId} {m x:Operand} {ty:TypeId} {pos:String} {after:Array Edge} {b:Ty} {a:IntKind} {l:List (Int×b.den)} {xv:AV} {kd:Int} {d f:TypeId} {e:St}
  (j:c.P.underlying t=some (.map d f)) (o:c.P.underlying d=some (.int a)) (hk:GQ c R k ops rest e) (i:AZ σ m=some (.mp n):=by simp only[go_sem,Nat.reduceEqDiff,reduceCtorEq,Nat.reduceAdd,Nat.reduceSub,Nat.reduceMul,Nat.reduceLeDiff,Nat.reduceLT,Int.reduceLE,Int.reduceToNat,Int.reduceNeg,↓reduceIte];rfl) (p:AZ σ x=some xv:=by simp only[go_sem,Nat.reduceEqDiff,reduceCtorEq,Nat.reduceAdd,Nat.reduceSub,Nat.reduceMul,Nat.reduceLeDiff,Nat.reduceLT,Int.reduceLE,Int.reduceToNat,Int.reduceNeg,↓reduceIte];rfl) (hn:lk n σ.objs=some (.mapo (.int a) b l):=by simp only[go_sem,Nat.reduceEqDiff,reduceCtorEq,Nat.reduceAdd,Nat.reduceSub,Nat.reduceMul,Nat.reduceLeDiff,Nat.reduceLT,Int.reduceLE,Int.reduceToNat,Int.reduceNeg,↓reduceIte];rfl) (h:J0 false σ (.int a) xv=some kd:=by simp only[go_sem,Nat.reduceEqDiff,reduceCtorEq,Nat.reduceAdd,Nat.reduceSub,Nat.reduceMul,Nat.reduceLeDiff,Nat.reduceLT,Int.reduceLE,Int.reduceToNat,Int.reduceNeg,↓reduceIte];rfl)
  (q:⟨σ.env,upd n (.mapo (.int a) b (Lq (.int a) b kd l)) σ.objs⟩=e:=by simp only[go_sem,Nat.reduceEqDiff,reduceCtorEq,Nat.reduceAdd,Nat.reduceSub,Nat.reduceMul,Nat.reduceLeDiff,Nat.reduceLT,Int.reduceLE,Int.reduceToNat,Int.reduceNeg,↓reduceIte];rfl) :
  GQ c R k ops (⟨none,.call ⟨.builtin .delete,#[m,x],#[t,u]⟩,ty,pos,after,none⟩ :: rest) σ:=Zp g i p hn h j (Fm rfl o) (q▸hk)
theorem A3N (f:c.Ok) {ops:Array Oper} {rest:List Oper} {d n:Nat} {t:TypeId} {m:Operand} {ty:TypeId} {pos:String} {after:Array Edge} {a b:Ty} {l:List (a.den×b.den)} {j e:TypeId}
  (i:c.P.underlying t=some (.map j e)) (g:l.length≤AO) (hk:GQ c R k ops rest ⟨(d,.p (.int .i64) (l.length:Int)) :: σ.env,σ.objs⟩) (h:AZ σ m=some (.mp n):=by simp only[go_sem,Nat.reduceEqDiff,reduceCtorEq,Nat.reduceAdd,Nat.reduceSub,Nat.reduceMul,Nat.reduceLeDiff,Nat.reduceLT,Int.reduceLE,Int.reduceToNat,Int.reduceNeg,↓reduceIte];rfl) (hn:lk n σ.objs=some (.mapo a b l):=by simp only[go_sem,Nat.reduceEqDiff,reduceCtorEq,Nat.reduceAdd,Nat.reduceSub,Nat.reduceMul,Nat.reduceLeDiff,Nat.reduceLT,Int.reduceLE,Int.reduceToNat,Int.reduceNeg,↓reduceIte];rfl) :
  GQ c R k ops (⟨some d,.call ⟨.builtin .len,#[m],#[t]⟩,ty,pos,after,none⟩ :: rest) σ:=Zq f h hn i g hk
end
end
section
open Go Go.RowKit
section
variable {c:Cx} {R:Exit→Act→World→Prop} {k:List DG} {σ σ':St}
theorem Zr (m:c.Ok) {ops:Array Oper} {rest:List Oper} {d:Nat} {t S:TypeId} {x y:Operand} {ty:TypeId} {pos:String} {after:Array Edge} {i j:IntKind} {offs:List (Nat×Nat)} {z:Nat} {xv s:AV} {b f:Int×Int}
  (L:lk t c.tb.ty=some ⟨.agg (.prod (.int i) (.int j)),offs,0,z⟩) (N:AZ σ x=some xv) (Q:AZ σ y=some s) (D:J0 false σ (.agg (.prod (.int i) (.int j))) xv=some b) (E:J0 false σ (.agg (.prod (.int i) (.int j))) s=some f)
  (hk:GQ c R k ops rest ⟨(d,.p .bool (b.1==f.1&&b.2==f.2)) :: σ.env,σ.objs⟩) :
  GQ c R k ops (⟨some d,.binOp .eql t x y S,ty,pos,after,none⟩ :: rest) σ:=by
 intro q G a w J;unfold wpListIn;rw[BY (by simp[Region.wanted])];obtain⟨ρ,l⟩:=J;have r:FK (vw w c.O0 σ ρ) σ a.eval:=DU l.env;have Y:d<c.nt:=Bd (q _ ABh) d rfl;have hp:LM c.P t i j:=(m.T _ _ L).1.1.2.2;have h1:=Ie (V:=vw w c.O0 σ ρ) (O':=own c.O0 σ ρ) (fun _ h=>h) (fun h=>by cases h) l.objs D (r x _ N);have g:=Ie (V:=vw w c.O0 σ ρ) (O':=own c.O0 σ ρ) (fun _ h=>h) (fun h=>by cases h) l.objs E (r y _ Q);have h1:a.eval x=.agg #[.int i b.1,.int j b.2]:=Eq h1;have g:a.eval y=.agg #[.int i f.1,.int j f.2]:=Eq g;have I:(binOp .eql t (a.eval x) (a.eval y)).run c.P w=.ok (.bool (b.1==f.1&&b.2==f.2)) w:=by
  rw[h1,g];have:=Ra hp w b.1 b.2 f.1 f.2;simp only[binOp];simp[this]
 have F:(eqGuard .eql t x y (a.eval x) (a.eval y)).run c.P w=.ok () w:=by
  obtain⟨W,X,M,-,-,⟨A,B⟩,-⟩:=hp;rw[h1,g];refine run_eqGuard_agg (P:=c.P) w .eql t x y _ _ ?_;have C:∃n,c.P.depth=n+2:=⟨_,rfl⟩;obtain⟨n,hn⟩:=C;rw[hn];simp[Program.eqGuardType,M,A,B]
 refine Ag (u:=.bool (b.1==f.1&&b.2==f.2)) (w':=w) (by simp[execOp,F,I]) (hk (fun o H=>q o (by simp[H])) G _ _ ⟨ρ,?_⟩);refine l.add m.K m.O (dst:=some d) (fun U e=>by injection e with e;omega) (v:=.p .bool (b.1==f.1&&b.2==f.2)) (obs:=[]) (ρ':=ρ) rfl (QS.still ?_);exact⟨[.bool (b.1==f.1&&b.2==f.2)],rfl,rfl⟩
theorem A3O (g:c.Ok) {ops:Array Oper} {rest:List Oper} {d:Nat} {t q:TypeId} {x y:Operand} {ty:TypeId} {pos:String} {after:Array Edge} {i j:IntKind} {offs:List (Nat×Nat)} {f:Nat} {xv e:AV} {a b:Int×Int}
  (hk:GQ c R k ops rest ⟨(d,.p .bool (a.1==b.1&&a.2==b.2)) :: σ.env,σ.objs⟩) (m:lk t c.tb.ty=some ⟨.agg (.prod (.int i) (.int j)),offs,0,f⟩:=by rfl) (n:AZ σ x=some xv:=by simp only[go_sem,Nat.reduceEqDiff,reduceCtorEq,Nat.reduceAdd,Nat.reduceSub,Nat.reduceMul,Nat.reduceLeDiff,Nat.reduceLT,Int.reduceLE,Int.reduceToNat,Int.reduceNeg,↓reduceIte];rfl) (o:AZ σ y=some e:=by simp only[go_sem,Nat.reduceEqDiff,reduceCtorEq,Nat.reduceAdd,Nat.reduceSub,Nat.reduceMul,Nat.reduceLeDiff,Nat.reduceLT,Int.reduceLE,Int.reduceToNat,Int.reduceNeg,↓reduceIte];rfl)
  (h:J0 false σ (.agg (.prod (.int i) (.int j))) xv=some a:=by simp only[go_sem,Nat.reduceEqDiff,reduceCtorEq,Nat.reduceAdd,Nat.reduceSub,Nat.reduceMul,Nat.reduceLeDiff,Nat.reduceLT,Int.reduceLE,Int.reduceToNat,Int.reduceNeg,↓reduceIte];rfl) (l:J0 false σ (.agg (.prod (.int i) (.int j))) e=some b:=by simp only[go_sem,Nat.reduceEqDiff,reduceCtorEq,Nat.reduceAdd,Nat.reduceSub,Nat.reduceMul,Nat.reduceLeDiff,Nat.reduceLT,Int.reduceLE,Int.reduceToNat,Int.reduceNeg,↓reduceIte];rfl) :
  GQ c R k ops (⟨some d,.binOp .eql t x y q,ty,pos,after,none⟩ :: rest) σ:=Zr g m n o h l hk
end
end
section
open Go Go.RowKit
section
variable {c:Cx} {σ:St} {ens:EN} {N:St→Prop}
theorem Zs (L:c.Ok) {d m len:Nat} {t:TypeId} {x:Operand} {ty:TypeId} {pos:String} {after:Array Edge} {j e:Ty} {offs:List (Nat×Nat)} {el y:TypeId} {E:Nat} {C:AV} {a0:j.den} {xs:List e.den}
  (af:lk t c.tb.ty=some ⟨.slice (.agg (.prod j (.slice e))),offs,el,E⟩) (ah:AZ σ x=some (.ag [C,.sr m e 0 len])) (K:Dy false σ j C=some a0) (i:lk m σ.objs=some (.arr y e xs)) (T:len=xs.length)
  (Z:(c.ds.pin.all fun p=>!AU p.1 [m])=true) (S:lk d σ.objs=none) (ad:j.size+1≤16777216)
  (B:Jh ⟨some d,.buildSlice t 1 #[(0,x)],ty,pos,after,none⟩ ens=true) (hn:II [m] σ.objs ens=true) (hf:It [m] ens=ens) (P:NL [(d,.nest el y j e [(a0,xs)] none)] ens=true) (M:d<c.nt)
  (H:N ⟨(d,.sr d (.agg (.prod j (.slice e))) 0 1) :: Ba [m] σ.env,(d,.nest el y j e [(a0,xs)] none) :: Ab [m] [m] σ.objs⟩) :
  Vu c ⟨some d,.buildSlice t 1 #[(0,x)],ty,pos,after,none⟩ σ ens N:=by
 intro X σ' q g a w next Q ab V
 have O:∀s v,lk s X.env=some v→v.fgt [m]=v:=fun s v hs=>by
  obtain⟨obs,i⟩:=g.env s v hs;exact MP hf _ i
 have A:ZE σ σ':=by
  intro n o r;rw[q.objs];cases b:lk n X.objs with
  | none=>exact r
  | some ai =>
   obtain⟨e,f,hp⟩:=g.objs n ai b;rw[(Ew hn e f _ hp).1]at r;cases r
 have U:∀n o,lk n X.objs=some o→n ∉ [m]:=fun n o W=>by
  obtain⟨e,f,hp⟩:=g.objs n o W;exact(Ew hn e f _ hp).2.1
 have J:∀t∈[x].filterMap NB,lk t X.env=none:=fun t ae=>by
  cases b:lk t X.env with
  | none=>rfl
  | some v =>
   obtain⟨obs,i⟩:=g.env t v b;refine absurd ?_ (EA B _ i).1;simpa[F2,Op.operands] using ae
 have I:lk d X.env=none:=by
  cases b:lk d X.env with
  | none=>rfl
  | some v=>obtain⟨obs,i⟩:=g.env d v b;exact absurd rfl (EA B _ i).2
 have z:lk d X.objs=none:=by
  cases b:lk d X.objs with
  | none=>rfl
  | some u =>
   obtain⟨e,f,hp⟩:=g.objs d u b;have:=Ji P e f _ hp;simp[lk]at this
 have Y:=Qw q J;refine p5 L (xs:=xs) (a0:=a0) af (by rw[Y x (by simp)];exact ah) (Gd A K) (A m _ i) T Z (by rw[q.objs,z,S];rfl) ad ab M fun D w' aa=>V _ H D w' _ ⟨fun s=>?_,fun n=>?_⟩ aa
 ·have R:lk s (Ba [m] σ'.env)=(lk s X.env).or (lk s (Ba [m] σ.env)):=by
   rw[Dl,Dl,q.env];cases b:lk s X.env with
   | none=>rfl
   | some v=>simp[O s v b]
  simp only[lk];by_cases l:s=d
  ·rw[BY l,BY l,l,I];rfl
  ·rw[At l,At l];exact R
 ·simp only[lk,BR,q.objs];by_cases k:n=d
  ·rw[BY k,BY k,k,z];rfl
  ·rw[At k,At k];cases b:lk n X.objs with
   | none=>simp
   | some u =>
    have G:Kp u=true:=by
     obtain⟨e,f,hp⟩:=g.objs n u b;exact(Ew hn e f _ hp).2.2
    have F:¬AU n [m]=true:=fun h=>U n _ b ((AW _ _).1 h);rw[At F];exact AB5 some (UP G)
theorem A3P (j:c.Ok) {d m len:Nat} {t:TypeId} {x:Operand} {ty:TypeId} {pos:String} {after:Array Edge} {a e:Ty} {offs:List (Nat×Nat)} {el b:TypeId} {g:Nat} {f:AV} {a0:a.den} {xs:List e.den} {τ:St}
  (o:len=xs.length) (h:N τ) (w:AZ σ x=some (.ag [f,.sr m e 0 len]):=by simp only[go_sem,Nat.reduceEqDiff,reduceCtorEq,Nat.reduceAdd,Nat.reduceSub,Nat.reduceMul,Nat.reduceLeDiff,Nat.reduceLT,Int.reduceLE,Int.reduceToNat,Int.reduceNeg,↓reduceIte];rfl) (v:lk t c.tb.ty=some ⟨.slice (.agg (.prod a (.slice e))),offs,el,g⟩:=by rfl) (i:Dy false σ a f=some a0:=by simp only[go_sem,Nat.reduceEqDiff,reduceCtorEq,Nat.reduceAdd,Nat.reduceSub,Nat.reduceMul,Nat.reduceLeDiff,Nat.reduceLT,Int.reduceLE,Int.reduceToNat,Int.reduceNeg,↓reduceIte];rfl) (q:lk m σ.objs=some (.arr b e xs):=by simp only[go_sem,Nat.reduceEqDiff,reduceCtorEq,Nat.reduceAdd,Nat.reduceSub,Nat.reduceMul,Nat.reduceLeDiff,Nat.reduceLT,Int.reduceLE,Int.reduceToNat,Int.reduceNeg,↓reduceIte];rfl)
  (r:(c.ds.pin.all fun p=>!AU p.1 [m])=true:=by rfl) (n:lk d σ.objs=none:=by simp only[go_sem,Nat.reduceEqDiff,reduceCtorEq,Nat.reduceAdd,Nat.reduceSub,Nat.reduceMul,Nat.reduceLeDiff,Nat.reduceLT,Int.reduceLE,Int.reduceToNat,Int.reduceNeg,↓reduceIte]) (u:a.size+1≤16777216:=by decide)
  (s:Jh ⟨some d,.buildSlice t 1 #[(0,x)],ty,pos,after,none⟩ ens=true:=by rfl) (hn:II [m] σ.objs ens=true:=by rfl) (hf:It [m] ens=ens:=by simp only[go_sem,Nat.reduceEqDiff,reduceCtorEq,Nat.reduceAdd,Nat.reduceSub,Nat.reduceMul,Nat.reduceLeDiff,Nat.reduceLT,Int.reduceLE,Int.reduceToNat,Int.reduceNeg,↓reduceIte]) (l:NL [(d,.nest el b a e [(a0,xs)] none)] ens=true:=by rfl) (k:Ho c.nt ⟨some d,.buildSlice t 1 #[(0,x)],ty,pos,after,none⟩=true:=by rfl)
  (y:⟨(d,.sr d (.agg (.prod a (.slice e))) 0 1) :: Ba [m] σ.env,(d,.nest el b a e [(a0,xs)] none) :: Ab [m] [m] σ.objs⟩=τ:=by simp only[go_sem,Nat.reduceEqDiff,reduceCtorEq,Nat.reduceAdd,Nat.reduceSub,Nat.reduceMul,Nat.reduceLeDiff,Nat.reduceLT,Int.reduceLE,Int.reduceToNat,Int.reduceNeg,↓reduceIte];rfl) :
  Vu c ⟨some d,.buildSlice t 1 #[(0,x)],ty,pos,after,none⟩ σ ens N:=Zs j v w i q o r n u s hn hf l (Bd k d rfl) (y▸h)
end
end
section
open Go Go.RowKit
def Zt:AV→Bool
 | .p t _=>t.flat
 | _=>false
theorem US {V V':Vw}:∀ {fs:List AV} {cs:List Value},fs.all Zt=true→Cw V fs cs→Cw V' fs cs
 | [],_,_,h=>h
 | x :: r,cs,hf,h=>by
  rw[AAU,An]at hf;obtain⟨c1,c2,rfl,h1,a⟩:=h;refine⟨c1,c2,rfl,?_,US hf.2 a⟩;cases x with
  | p t d=>exact Ig hf.1 h1
  | _=>cases hf.1
section
variable {c:Cx} {R:Exit→Act→World→Prop} {k:List DG} {σ:St}
theorem p6 (ak:c.Ok) {ops:Array Oper} {rest:List Oper} {d:Nat} {g x y:Operand} {ts:Array TypeId} {ty:TypeId} {pos:String} {after:Array Edge} {f q:FuncId} {n m i len:Nat} {e I:Ty} {et bu B:TypeId} {N:List (I.den×List e.den)} {C:Bool} {fs:List AV} {row:List e.den} {D:Bool}
  (L:BE c.P f [.p (.slice e) row,.clo q [1]] [(1,.box B C fs)] [1] (fun res Z=>res=.p .bool D∧Z=[(1,.box B C fs)]))
  (aq:AZ σ g=some (.fn f)) (bq:AZ σ x=some (.nin n e i len)) (br:AZ σ y=some (.clo q [m])) (hn:lk n σ.objs=some (.nest et bu I e N none)) (bh:(N.getD i (I.dflt,[])).2=row) (H:lk m σ.objs=some (.box B C fs)) (ao:fs.all Zt=true)
  (hk:GQ c R k ops rest ⟨(d,.p .bool D) :: σ.env,σ.objs⟩) :
  GQ c R k ops (⟨some d,.call ⟨.value g,#[x,y],ts⟩,ty,pos,after,none⟩ :: rest) σ:=by
 intro S av a w bj;unfold wpListIn;rw[BY (by simp[Region.wanted])];obtain⟨ρ,l⟩:=bj;have an:∀G,some d=some G→G<c.nt:=fun G h=>Bd (S _ ABh) G h;have M:FK (vw w c.O0 σ ρ) σ a.eval:=DU l.env;obtain⟨⟨fn,ap,bd,aj⟩,L⟩:=L;have ar:a.eval g=.func (.func f) #[] #[]:=M g _ aq;obtain⟨-,cc,ad,bv,cb,Y,X,az,bw⟩:=M x _ bq;obtain⟨bt,bs⟩:=M y _ br;have E:Fl σ m:=⟨_,H⟩;have ax:Fl σ n:=⟨_,hn⟩;have be:n≠m:=fun e=>by rw[e,H]at hn;cases hn
 let objs:List (Nat×Obj):=[(1,.box B C fs)]
 let F:Nat→Value:=fun _=>ρ m
 let J:Nat→Prop:=fun b=>b<w.heap.size∧¬bk (ρ m) b
 have W:∀b,own (fun _=>False) ⟨[],objs⟩ F b→bk (ρ m) b:=by
  rintro b (h|⟨t,-,h⟩)
  ·exact h.elim
  ·exact h
 have Q:∀ {V V':Vw} {loc:Value},V'.w=V.w→Aw V (.box B C fs) loc→Aw V' (.box B C fs) loc:=by
  rintro V V' loc bp ⟨h0,b,cs,aw,O,am⟩;exact⟨h0,b,cs,aw,by rw[bp];exact O,US ao am⟩
 have ba:Zg J (fun _=>False) objs F w:=by
  refine⟨fun t o r=>?_,fun t b _ j=>⟨fun ag=>ag.2 j,fun h=>h⟩,fun n1 bx b h1 z _ _=>?_⟩
  ·simp only[objs,lk]at r;split at r
   ·cases r;exact Q (V:=vw w c.O0 σ ρ) rfl (l.objs m _ H)
   ·cases r
  ·obtain⟨bz,h1⟩:=h1;obtain⟨ca,z⟩:=z;simp only[objs,lk]at h1 z;split at h1
   ·split at z
    ·rename_i aa ab;rw[aa,ab]
    ·cases z
   ·cases h1
 have bf:Be w (own (fun _=>False) ⟨[],objs⟩ F) (.slice e) [a.eval x] row:=by
  have au:N[i]?=some (N.getD i (I.dflt,[])):=by
   exact Qj (l.objs n _ hn) Y X
  rw[←bh];refine cA (V:=vw w c.O0 σ ρ) (fun b j h=>j (.inr ⟨m,E,W b h⟩)) (fun b j h=>?_) (l.objs n _ hn) Y X az au;exact be (l.dist n m b ax E j (W b h))
 have ai:Hb (vw w (fun _=>False) ⟨[],objs⟩ F) [.p (.slice e) row,.clo q [1]] [a.eval x,a.eval y]:=by
  refine⟨_,_,rfl,⟨_,bf,rfl⟩,_,_,rfl,⟨bt,fun t bc=>?_⟩,rfl⟩;have:t=1:=AAs.1 bc;subst this;exact⟨⟨_,rfl⟩,(bs m (by simp)).2⟩
 have al:=L w J (fun _=>False) F [a.eval x,a.eval y] (fun b j=>j.1) (fun b j=>j.elim) ba ai;have bi:(execOp a.eval ⟨some d,.call ⟨.value g,#[x,y],ts⟩,ty,pos,after,none⟩).run c.P w=.ok (.enter f [a.eval x,a.eval y].toArray) w:=by
  have ae : ¬ fn.name = "runtime.NumGoroutine" := by simpa using bd
  have af:¬fn.body=none:=by intro e;simp[e]at aj
  simp[execOp,resolve,Deferred.ofValue,ar,invoke,callFunc,ap,ae,af]
 refine⟨fun _ _=>trivial,?_⟩;rw[Er _ _ _ (fun cl e=>by cases e),bi,ACm];refine⟨fun h=>(by simp[FR]at h),JX (al.mono fun e w' O=>?_)⟩;obtain⟨u,rfl,res,Z,ρ',⟨rfl,rfl⟩,A,bb,bg,bm⟩:=O;have bl:ρ' 1=ρ m:=bm 1 (by simp);have T:B7 (vw w c.O0 σ ρ) (vw w' c.O0 ⟨(d,.p .bool D) :: σ.env,σ.objs⟩ ρ):=by
  refine⟨fun b _ j=>j,fun t h=>h,fun _ _=>rfl,fun b ay j=>A.block b ⟨ay,fun h=>j (.inr ⟨m,E,h⟩)⟩⟩
 have ah:∀b,c.K b→J b:=fun b j=>⟨AAq (ak.K b j) l.frm.size,fun h=>(l.free m b E h).1 j⟩;refine hk (fun o r=>S o (by simp[r])) av _ _ ⟨ρ,⟨A.os.trans l.frm.os,A.tape.trans l.frm.tape,A.output.trans l.frm.output,f4 l.frm.size A.size,fun b j=>(A.block b (ah b j)).trans (l.frm.block b j)⟩,by rw[Id];exact l.nt,by rw[FX];exact l.defers,l.pin,fun t o r=>?_,l.free,l.dist,fun s v bn=>?_⟩
 ·by_cases U:t=m
  ·subst U;have r:lk t σ.objs=some o:=r;rw[H]at r;cases r;have h1:=bb.obj 1 _ rfl;rw[bl]at h1;exact Q (V:=vw w' (fun _=>False) ⟨[],objs⟩ ρ') (V':=vw w' c.O0 ⟨(d,.p .bool D) :: σ.env,σ.objs⟩ ρ) rfl h1
  ·refine Aw.keeps T (fun b j=>?_) (l.objs t o r);exact A.block b ⟨(l.objs t o r).block_lt j,fun h=>U (l.dist t m b ⟨o,r⟩ E j h)⟩
 ·refine cX (c:=c) (dst:=some d) (res:=.p .bool D) l.nt an ?_ (fun s v bo=>(l.env s v bo).keeps T) bn;obtain⟨cs,h1,z⟩:=bg;exact⟨cs,Ig rfl h1,z⟩
theorem A3Q (o:c.Ok) {ops:Array Oper} {rest:List Oper} {d:Nat} {g x y:Operand} {ts:Array TypeId} {ty:TypeId} {pos:String} {after:Array Edge} {f q:FuncId} {n m i len:Nat} {e b:Ty} {et z a:TypeId} {N:List (b.den×List e.den)} {h:Bool} {fs:List AV} {row:List e.den} {j:Bool}
  (l:BE c.P f [.p (.slice e) row,.clo q [1]] [(1,.box a h fs)] [1] (fun res A=>res=.p .bool j∧A=[(1,.box a h fs)])) (u:(N.getD i (b.dflt,[])).2=row)
  (hk:GQ c R k ops rest ⟨(d,.p .bool j) :: σ.env,σ.objs⟩) (s:AZ σ g=some (.fn f):=by simp only[go_sem,Nat.reduceEqDiff,reduceCtorEq,Nat.reduceAdd,Nat.reduceSub,Nat.reduceMul,Nat.reduceLeDiff,Nat.reduceLT,Int.reduceLE,Int.reduceToNat,Int.reduceNeg,↓reduceIte]<;>rfl) (v:AZ σ x=some (.nin n e i len):=by simp only[go_sem,Nat.reduceEqDiff,reduceCtorEq,Nat.reduceAdd,Nat.reduceSub,Nat.reduceMul,Nat.reduceLeDiff,Nat.reduceLT,Int.reduceLE,Int.reduceToNat,Int.reduceNeg,↓reduceIte];rfl) (w:AZ σ y=some (.clo q [m]):=by simp only[go_sem,Nat.reduceEqDiff,reduceCtorEq,Nat.reduceAdd,Nat.reduceSub,Nat.reduceMul,Nat.reduceLeDiff,Nat.reduceLT,Int.reduceLE,Int.reduceToNat,Int.reduceNeg,↓reduceIte];rfl)
  (hn:lk n σ.objs=some (.nest et z b e N none):=by simp only[go_sem,Nat.reduceEqDiff,reduceCtorEq,Nat.reduceAdd,Nat.reduceSub,Nat.reduceMul,Nat.reduceLeDiff,Nat.reduceLT,Int.reduceLE,Int.reduceToNat,Int.reduceNeg,↓reduceIte];rfl) (t:lk m σ.objs=some (.box a h fs):=by simp only[go_sem,Nat.reduceEqDiff,reduceCtorEq,Nat.reduceAdd,Nat.reduceSub,Nat.reduceMul,Nat.reduceLeDiff,Nat.reduceLT,Int.reduceLE,Int.reduceToNat,Int.reduceNeg,↓reduceIte]<;>rfl) (r:fs.all Zt=true:=by rfl) :
  GQ c R k ops (⟨some d,.call ⟨.value g,#[x,y],ts⟩,ty,pos,after,none⟩ :: rest) σ:=p6 o l s v w hn u t r hk
end
end
end Go.Proofs.YtdapahgnpbehbaaGreat.Fw
