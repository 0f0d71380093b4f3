/- Range over a function; scopes; several steps in one. -/
import Derived.Test.YtdapahgnpbehbaaGreatKZH
import Derived.RangeFuncFrom
import Derived.Scope
import Derived.Laws.IdiomRangeMap
import Derived.Laws.StructEq
set_option linter.unusedVariables false
set_option linter.unusedSimpArgs false
namespace Go.Proofs.YtdapahgnpbehbaaGreat.Fw
section
open Go Go.RowKit
theorem Zm {V:Vw} {f:FuncId} {ns:List Nat} {v:Value} (h:B2 V (.clo f ns) v):v=.func (.func f) #[] (ns.map V.ρ).toArray∧Ij V (ns.map fun n=>AV.bp n [] 0) (ns.map V.ρ):=by
 refine⟨h.1,?_⟩;have h0:∀l:List Nat,(∀n∈l,n∈ns)→Ij V (l.map fun n=>AV.bp n [] 0) (l.map V.ρ):=by
  intro l;induction l with
  | nil=>intro _;exact rfl
  | cons n r g =>
   intro c;obtain⟨d,b,a⟩:=h.2 n (c n (by simp));exact⟨V.ρ n,r.map V.ρ,rfl,⟨d,b,a,a⟩,g fun x e=>c x (by simp[e])⟩
 exact h0 ns fun _ h=>h
def Zn (P:Program) (yn:Nat) (A:List AV) (objs:List (Nat×Obj)) (stay:List Nat) (post:AV→List (Nat×Obj)→Prop):Prop :=
 ∀(w:World) (K O0:Nat→Prop) (ρ:Nat→Value) (a:List Value) (b:Nat),(∀b,K b→b<w.heap.size)→(∀b,O0 b→b<w.heap.size)→jC K O0 objs ρ w→Ij (vw w O0 ⟨[],objs⟩ ρ) A a →
  ρ yn=.pointer (some ⟨b,0,none⟩)→YieldAt (FR none) 0 P b a.toArray w fun e w'=>∃u,e=.returned u∧Ov K O0 stay w ρ post u w'
section
variable {c:Cx} {R:Exit→Act→World→Prop} {k:List DX} {σ:St}
def Vh (n:Nat):Option AV→Bool
 | some (.yl m)=>m==n
 | _=>false
theorem vQ (N:c.Ok) (Y:c.r=none) {o:Oper} {dst:Option Nat} {g:Operand} {xs:List Operand} {ts:Array TypeId} (t:o.op=.call { callee:=.value g,args:=xs.toArray,argTypes:=ts }) (R:o.dst=dst)
  {n yn:Nat} (f:Vh n (Ae σ g)=true) {as:List AV} (L:LY σ xs=some as)
  {A:List AV} {objs:List (Nat×Obj)} {stay:List Nat} {post:AV→List (Nat×Obj)→Prop} (H:Zn c.P yn A objs stay post)
  (ren:List (Nat×CO)) (ad:lk yn ren=some (.nm n)) (h1:CT ren=true) (C:Cm objs ren=true) (F:Bh σ ren as A) (I:Ak σ.objs ren objs)
  (hs:List Nat) (W:(c.ds.pin.all fun p=>!AX p.1 hs)=true) {next:Act→World→Prop} {Q:Exit→Act→World→Prop} {a:Act} {w:World} (aa:c.sat σ a w) (O:∀d,dst=some d→d<c.nt)
  (hk:∀res x,post res x→∃(i:List (Nat×CO)) (y:AV) (j:List (Nat×Obj)),CT i=true∧Cm j i=true∧Ak x i j∧Bx i res y ∧
   LI ren i stay hs=true∧HD (Au ren) j σ.objs=true∧∀l w',c.sat (Cn σ (Au ren) hs dst y j) l w'→next l w'):o.wpIn (FR c.r) 0 c.P a w next Q:=by
 obtain⟨ρ,v⟩:=aa;have s:F4 (vw w c.O0 σ ρ) σ a.eval:=Dn v.env;obtain⟨b,ae,S⟩:∃b:Nat,ρ n=.pointer (some ⟨b,0,none⟩)∧a.eval g=.func (.yield b) #[] #[]:=by
  cases k:Ae σ g with
  | none=>rw[k]at f;simp[Vh]at f
  | some q =>
   rw[k]at f;have T:=s g q k;cases q<;>simp only[Vh]at f<;>try(cases f;done)
   rename_i m;have U:m=n:=by simpa using f
   subst U;obtain⟨_,b,D,E⟩:=T;exact⟨b,D,E⟩
 obtain⟨z,B,ag,G,J,V,M,af,X⟩:=QV N v (X4 s L) stay post ren h1 C F I hs W O hk;obtain⟨fn,tmps,assign,body,ab,K⟩:=H w z B ag (xs.map a.eval) b G J V M ((af _ _ ad).trans ae);have Z:(execOp a.eval o).run c.P w=.ok (.round b fn tmps assign body) w:=by
  simp[execOp,t,resolve,Deferred.ofValue,S,invoke];simpa using ab
 refine⟨fun _ _=>trivial,?_⟩;rw[FQ _ _ _ (fun cl e=>by rw[t]at e;cases e),Z,Oper.uponIn_round];refine⟨fun h=>(by simp[FR]at h),?_⟩;rw[Y];refine K.mono fun e w' hh=>?_;obtain⟨u,rfl,hh⟩:=hh;rw[R];exact X u w' hh
theorem qH (C:c.Ok) (H:c.r=none) {ops:Array Oper} {rest:List Oper} {dst:Option Nat} {g:Operand} {xs:List Operand} {ts:Array TypeId} {ty:TypeId} {pos:String} {after:Array Edge}
  {n yn:Nat} (D:Vh n (Ae σ g)=true) {as:List AV} (B:LY σ xs=some as)
  {A:List AV} {objs:List (Nat×Obj)} {stay:List Nat} {post:AV→List (Nat×Obj)→Prop} (y:Zn c.P yn A objs stay post)
  (ren:List (Nat×CO)) (hs:List Nat) (K:lk yn ren=some (.nm n)) (h1:CT ren=true) (u:Cm objs ren=true) (G:(c.ds.pin.all fun p=>!AX p.1 hs)=true) (v:Bh σ ren as A) (z:Ak σ.objs ren objs)
  (hk:∀res e,post res e→∃(b:List (Nat×CO)) (f:AV) (d:List (Nat×Obj)),CT b=true∧Cm d b=true∧Ak e b d∧Bx b res f ∧
   LI ren b stay hs=true∧HD (Au ren) d σ.objs=true∧HN c R k ops rest (Cn σ (Au ren) hs dst f d)) :
  HN c R k ops (⟨dst,.call ⟨.value g,xs.toArray,ts⟩,ty,pos,after,none⟩ :: rest) σ:=by
 intro h E a w J;unfold wpListIn;rw[BY (by simp[Region.wanted])];refine vQ C H (xs:=xs) (ts:=ts) rfl rfl D B y ren K h1 u v z hs G J (Bq (h _ (by simp))) fun res e hp=>?_;obtain⟨b,f,d,j,l,m,q,s,t,x⟩:=hk res e hp;exact⟨b,f,d,j,l,m,q,s,t,fun i w' I=>x (fun o F=>h o (by simp[F])) E i w' I⟩
end
def HE:List Nat→List AV→List (Nat×AV)→List (Nat×AV)
 | p :: a,x :: xs,e=>HE a xs ((p,x) :: e)
 | _,_,e=>e
def cY (P:Program) (tb:Tb) (w0:World) (K O0:Nat→Prop) (nt l:Nat) (pin:List (Nat×Value)):Cx:={ P:=P,tb:=tb,w0:=w0,K:=K,O0:=O0,nt:=nt,ds:={ pin:=pin },r:=some l }
theorem Zo {P:Program} {tb:Tb} {w0:World} {K O0:Nat→Prop} {nt l:Nat} {pin:List (Nat×Value)}:(cY P tb w0 K O0 nt l pin).tb=tb:=rfl
def vR (P:Program) (l:Nat) (w0:World) (K O0:Nat→Prop) (stay:List Nat) (ρ0:Nat→Value) (post:AV→List (Nat×Obj)→Prop):Exit→Act→World→Prop :=
 roundPost P l fun e w'=>∃u,e=.returned u∧Ov K O0 stay w0 ρ0 post u w'
theorem nG {V:Vw}:∀(b:List Nat) (A:List AV) (c:List Value) (e:List (Nat×AV)) (a:Array Value),Ij V A c→(∀p∈b,p<a.size)→A.length=b.length→(∀s x,lk s e=some x→B2 V x (a.getD s undef)) →
  (∀s x,lk s (HE b A e)=some x→B2 V x (((b.zip c).foldl (fun t (p,v)=>t.setIfInBounds p v) a).getD s undef))∧((b.zip c).foldl (fun t (p,v)=>t.setIfInBounds p v) a).size=a.size
 | [],_,_,e,a,_,_,_,h=>by simpa[HE] using h
 | p :: b,[],_,e,a,_,_,d,_=>by simp at d
 | p :: b,x :: A,c,e,a,⟨v,r,m,h1,j⟩,hp,d,h=>by
  subst m;simp only[ACj,TO,HE];have g:=nG b A r ((p,x) :: e) (a.setIfInBounds p v) j (fun q l=>by simpa using hp q (by simp[l])) (by simpa using d) (fun s y hs=>by
   have f:=KR { tmps:=a,defers:=[] } p v s (hp p (by simp));have f:(a.setIfInBounds p v).getD s undef=if s=p then v else a.getD s undef:=f
   rw[f];simp only[lk]at hs;split at hs
   ·rename_i i;cases hs;rw[BY i];exact h1
   ·rename_i k;rw[At k];exact h s y hs)
  exact⟨g.1,by rw[g.2];simp⟩
section
variable {P:Program} {tb:Tb} {w0:World} {K O0:Nat→Prop} {nt l:Nat} {stay:List Nat} {ρ0:Nat→Value} {post:AV→List (Nat×Obj)→Prop} {σ:St} {pin:List (Nat×Value)}
theorem Ta {c:Cx} (i:c.Ok) {σ:St} {a:Act} {w:World} {ρ:Nat→Value} (hs:Bo c.w0 c.K c.O0 c.nt c.ds σ ρ a w) {yn b:Nat} {L:Go.Loop} (h:lk yn σ.objs=some (.loop L)) (d:ρ yn=.pointer (some ⟨b,0,none⟩)) (e:Go.Loop) :
  w.heap[b]?=some (.loop L)∧Bo c.w0 c.K c.O0 c.nt c.ds ⟨σ.env,upd yn (.loop e) σ.objs⟩ ρ a (w.putObj b (.loop e)):=by
 obtain⟨b',h1,f⟩:=hs.objs yn _ h;rw[d]at h1;injection h1 with h1
 injection h1 with h1
 injection h1 with h1
 subst h1;have j:b<w.heap.size:=CH f;refine⟨f,hs.upd i.K h (g:=b) (by rw[d];rfl) (grownBy_putObj' w b _) ?_⟩;exact⟨b,d,World.putObj_heap_same j⟩
theorem qI (f:(cY P tb w0 K O0 nt l pin).Ok) {yn:Nat} {L:Go.Loop} (g:lk yn σ.objs=some (.loop L)) (h:pin=stay.map fun n=>(n,ρ0 n)) (i:yn∈stay) (e:ρ0 yn=.pointer (some ⟨l,0,none⟩))
  (hp:post (.p .bool true) (upd yn (.loop { L with state:=.ready,pending:=none }) σ.objs)) :
  Ev (cY P tb w0 K O0 nt l pin) (vR P l w0 K O0 stay ρ0 post) (.out .normal) [] σ:=by
 intro _ _ a w hs;obtain⟨ρ,hs⟩:=hs;have c:∀n∈stay,ρ n=ρ0 n:=fun n hn=>(hs.pin (n,ρ0 n) (by rw[show (cY P tb w0 K O0 nt l pin).ds.pin=pin from rfl,h];exact If.2 ⟨n,hn,rfl⟩)).2.1;obtain⟨d,b⟩:=Ta f hs g ((c _ i).trans e) { L with state:=.ready,pending:=none };refine⟨_,_,run_endRound none d,.bool true,rfl,.p .bool true,_,ρ,hp,b.frm,⟨b.objs,b.free,b.dist⟩,⟨_,rfl,rfl⟩,c⟩
def A4C (c:Cx) (R:Exit→Act→World→Prop) (yn:Nat) (L:Go.Loop) (a:Code) (σ:St):Prop :=
 lk yn σ.objs=some (.loop L)∧Ev c R (.run a) [] ⟨σ.env,upd yn (.loop { L with state:=.busy }) σ.objs⟩
theorem vS {yn fr:Nat} {A:List AV} {objs:List (Nat×Obj)} {L:Go.Loop} {d:List Nat} {r s:Code} {fs:List (Nat×AV)} {g:Array Value}
  (B:lk yn objs=some (.loop L)) (hf:lk fr objs=some (.frame g fs)) (h1:L.state=.ready) (y:L.params=d.toArray) (J:L.assign=r) (M:L.body=s) (N:L.tmps=g) (G:g.size=nt)
  (C:A.length=d.length) (Z:(d.all fun p=>decide (p<nt))=true) (ag:yn∈stay) (ad:stay.all (Rd objs)=true) (X:Ln objs=true) (T:Bk nt r=true) (U:Bk nt s=true) (hT:DB P tb) (hF:Iq P tb)
  (h:∀(w0:World) (K O0:Nat→Prop) (ρ0:Nat→Value) (l:Nat),(cY P tb w0 K O0 nt l (stay.map fun n=>(n,ρ0 n))).Ok→Ow A→Nk objs→ρ0 yn=.pointer (some ⟨l,0,none⟩) →
   Ev (cY P tb w0 K O0 nt l (stay.map fun n=>(n,ρ0 n))) (fun _ _ _=>False) (.run r) [.inv (A4C (cY P tb w0 K O0 nt l (stay.map fun n=>(n,ρ0 n))) (vR P l w0 K O0 stay ρ0 post) yn L s)] ⟨HE d A fs,objs⟩) :
  Zn P yn A objs stay post:=by
 intro w K O0 ρ q b Q R f x u;have af:=I0 x;obtain⟨b',c,hh⟩:=f.obj yn _ B;rw[u]at c;injection c with c
 injection c with c
 injection c with c
 subst c;have aa:=run_yield (P:=P) (args:=q.toArray) hh (by rw[y];simp[af,C]);refine⟨_,_,_,_,aa,roundIn_of_wpIn trivial ?_⟩;have z:(cY P tb w K O0 nt b (stay.map fun n=>(n,ρ n))).Ok:=⟨Q,R,hT,hF⟩;have W:=f.obj fr _ hf;have D:=nG (V:=vw w O0 ⟨[],objs⟩ ρ) d A q fs g x (fun p hp=>by have:=(Do.1 Z) p hp;rw[G];simpa using this) C W.2;have ae:(L.params.zip q.toArray).foldl (fun t (p,v)=>t.setIfInBounds p v) L.tmps=(d.zip q).foldl (fun t (p,v)=>t.setIfInBounds p v) g:=by
  rw[y,N,List.zip_toArray];simp
 rw[J,M,ae];have ab:(cY P tb w K O0 nt b (stay.map fun n=>(n,ρ n))).sat ⟨HE d A fs,objs⟩ { tmps:=(d.zip q).foldl (fun t (p,v)=>t.setIfInBounds p v) g,defers:=[] } w:=by
  refine⟨ρ,⟨rfl,rfl,rfl,NO _,fun _ _=>rfl⟩,by rw[D.2];exact G,rfl,fun p hp=>?_,f.obj,f.free,f.dist,D.1⟩;obtain⟨n,hn,rfl⟩:=If.1 hp;have:=(Do.1 ad) n hn;unfold Rd at this;cases i:lk n objs with
  | none=>rw[i]at this;cases this
  | some o =>
   rw[i]at this;refine⟨⟨o,i⟩,rfl,?_⟩;have j:=f.obj n o i;cases o with
   | arr et e xs=>exact .inr this
   | nest et al k e xs B=>exact .inr this
   | box et aq fs=>obtain⟨_,b,cs,a,_⟩:=j;rw[a];exact .inl rfl
   | mapo k v l=>obtain⟨b,aj,cl,a,_⟩:=j;rw[a];exact .inl rfl
   | frame g fs=>obtain⟨a,_⟩:=j;rw[a];exact .inl rfl
   | loop L=>obtain⟨b,a,_⟩:=j;rw[a];exact .inl rfl
   | itr am ap an ao ak=>obtain⟨b,a,_⟩:=j;rw[a];exact .inl rfl
   | dfr=>obtain⟨b,a,_⟩:=j;rw[a];exact .inl rfl
 have O:=h w K O0 ρ b z (SW x) (SX X fun n o i=>X3 (f.obj n o i)) u (by simpa[H2,cY] using T) rfl _ _ ab;refine ACt (F:=FR (some b)) O ?_;intro e ai w' m;cases e with
 | normal =>
  obtain⟨σ',⟨ρ',E⟩,Y,S⟩:=m;have ah:ρ' yn=.pointer (some ⟨b,0,none⟩):=(E.pin (yn,ρ yn) (If.2 ⟨yn,ag,rfl⟩)).2.1.trans u;obtain⟨H,I⟩:=Ta z E Y ah { L with state:=.busy };exact⟨_,run_beginRound H h1,S (by simpa[H2,cY] using U) rfl _ _ ⟨ρ',I⟩⟩
 | exit id=>exact m.elim
 | goto t=>exact m.elim
 | ret=>exact m.elim
 | panic ch=>exact m.elim
 | outgrown=>exact m.elim
end
end
section
open Go Go.RowKit
def Cx.marked (c:Cx) (dn b:Nat):Cx:={ c with ds:={ ds:=⟨.collected b,#[]⟩ :: c.ds.ds,pin:=(dn,.pointer (some ⟨b,0,none⟩)) :: c.ds.pin } }
def Cx.marked2 (c:Cx) (yn dn b:Nat):Cx:={ c with ds:={ ds:=⟨.collected b,#[]⟩ :: c.ds.ds,pin:=(yn,.pointer (some ⟨b+1,0,none⟩)) :: (dn,.pointer (some ⟨b,0,none⟩)) :: c.ds.pin } }
theorem jH {c:Cx} {yn dn b:Nat} (h:c.Ok):(c.marked2 yn dn b).Ok:=⟨h.K,h.O,h.T,h.F⟩
theorem Jw {c:Cx} {dn b:Nat}:(c.marked dn b).tb=c.tb:=rfl
theorem qJ {c:Cx} {dn b:Nat} (h:c.Ok):(c.marked dn b).Ok:=⟨h.K,h.O,h.T,h.F⟩
theorem qK (ren:List (Nat×CO)) (x:AV):Bx ren x .top:=by
 unfold Bx;split
 ·simp_all
 ·unfold HA;split
  ·simp_all
  ·unfold Db;split<;>simp_all
def Zp:List DX→Bool
 | []=>true
 | .inv _ :: _=>false
 | _ :: k=>Zp k
theorem Np {c:Cx} {R:Exit→Act→World→Prop} {dn b:Nat}:∀ {k:List DX},Zp k=true→SQ (c.marked dn b) R k=SQ c R k
 | [],_=>by funext e a w;simp[SQ]
 | .inv _ :: _,h=>by simp[Zp]at h
 | .seq y :: k,h=>by
  have d:=Np (c:=c) (R:=R) (dn:=dn) (b:=b) (k:=k) h;funext e a w;cases e<;>simp only[SQ,d]<;>rfl
 | .blk id :: k,h=>by
  have d:=Np (c:=c) (R:=R) (dn:=dn) (b:=b) (k:=k) h;funext e a w;cases e<;>simp only[SQ,d]
def Bn (σ:St) (yn dn fr:Nat) (L:Go.Loop) (a:Array Value):St:=⟨σ.env,(yn,.loop L) :: (dn,.dfr) :: (fr,.frame a σ.env) :: σ.objs⟩
section
variable {c:Cx} {R:Exit→Act→World→Prop} {k:List DX} {σ:St}
theorem qL (y:c.Ok) {a:Act} {w:World} {ρ:Nat→Value} (hs:Bo c.w0 c.K c.O0 c.nt c.ds σ ρ a w) {yn dn fr:Nat} (z:yn≠dn) (J:yn≠fr) (M:dn≠fr) (N:lk yn σ.objs=none) (P:lk dn σ.objs=none) (Q:lk fr σ.objs=none) (L:Go.Loop) :
  ∃e,Bo c.w0 c.K c.O0 c.nt (c.marked2 yn dn w.heap.size).ds (Bn σ yn dn fr L a.tmps) e { a with defers:=[{ target:=.collected w.heap.size,args:=#[] }]++a.defers } ((w.alloc (.deferred (some []))).alloc (.loop L))∧e yn=.pointer (some ⟨w.heap.size+1,0,none⟩):=by
 let e:Nat→Value:=fun m=>if m=yn then .pointer (some ⟨w.heap.size+1,0,none⟩) else if m=dn then .pointer (some ⟨w.heap.size,0,none⟩) else if m=fr then .pointer none else ρ m
 have q:e yn=.pointer (some ⟨w.heap.size+1,0,none⟩):=by simp[e]
 have r:e dn=.pointer (some ⟨w.heap.size,0,none⟩):=by simp[e,ACJ z]
 have t:e fr=.pointer none:=by simp[e,ACJ J,ACJ M]
 obtain⟨l,u⟩:∃l,(w.alloc (.deferred (some []))).alloc (.loop L)=l:=⟨_,rfl⟩;have H:l.heap[w.heap.size+1]?=some (.loop L):=by
  rw[←u];have:=World.alloc_heap_new (w.alloc (.deferred (some []))) (.loop L);rwa [World.size_alloc]at this
 have G:l.heap[w.heap.size]?=some (.deferred (some [])):=by
  rw[←u];exact(Below.heap_alloc _ _ _ (by simp)).trans (World.alloc_heap_new w _)
 have v:Below w.heap.size w l:=by
  rw[←u];exact((Below.refl _ w).alloc (NO _) _).alloc (by simp) _
 rw[u];have A:BZ [(yn,Obj.loop L),(dn,.dfr),(fr,.frame a.tmps σ.env)] σ=true:=by simp[BZ,N,P,Q]
 have C:∀n,lk n [(yn,Obj.loop L),(dn,Obj.dfr),(fr,.frame a.tmps σ.env)]=none→e n=ρ n:=fun n hn=>by
  simp only[lk]at hn;split at hn
  ·cases hn
  ·split at hn
   ·cases hn
   ·split at hn
    ·cases hn
    ·rename_i D E F;simp[e,D,E,F]
 have B:∀n o b,lk n [(yn,Obj.loop L),(dn,Obj.dfr),(fr,.frame a.tmps σ.env)]=some o→bk (e n) b→w.heap.size≤b:=fun n o b hn f=>by
  simp only[lk]at hn;split at hn
  ·rename_i g;subst g;rw[q]at f;simp[bk,blk]at f;omega
  ·split at hn
   ·rename_i g;subst g;rw[r]at f;simp[bk,blk]at f;omega
   ·split at hn
    ·rename_i g;subst g;rw[t]at f;simp[bk,blk]at f
    ·cases hn
 have R:=Hz (O0:=c.O0) (ρ:=ρ) (ρ':=e) A v C B;have S:QS w c.O0 σ ρ .top [(yn,Obj.loop L),(dn,.dfr),(fr,.frame a.tmps σ.env)] undef e l:=by
  refine⟨v,C,trivial,fun n o hn=>?_,B,fun n m o U b hn j f k=>?_⟩
  ·simp only[lk]at hn;split at hn
   ·rename_i g;cases hn;subst g;exact⟨_,q,H⟩
   ·split at hn
    ·rename_i g;cases hn;subst g;exact⟨_,r,G⟩
    ·split at hn
     ·rename_i g;cases hn;subst g;exact⟨t,fun s x T=>(hs.env s x T).keeps R⟩
     ·cases hn
  ·simp only[lk]at hn j;split at hn
   ·rename_i g;rw[g,q]at f;simp[bk,blk]at f;split at j
    ·rename_i i;rw[g,i]
    ·split at j
     ·rename_i i;rw[i,r]at k;simp[bk,blk]at k;omega
     ·split at j
      ·rename_i i;rw[i,t]at k;simp[bk,blk]at k
      ·cases j
   ·split at hn
    ·rename_i g;rw[g,r]at f;simp[bk,blk]at f;split at j
     ·rename_i i;rw[i,q]at k;simp[bk,blk]at k;omega
     ·split at j
      ·rename_i i;rw[g,i]
      ·split at j
       ·rename_i i;rw[i,t]at k;simp[bk,blk]at k
       ·cases j
    ·split at hn
     ·rename_i g;rw[g,t]at f;simp[bk,blk]at f
     ·cases hn
 have h:=hs.add y.K y.O (dst:=none) (fun d I=>by cases I) A S;refine⟨e,⟨h.frm,h.nt,?_,fun p hp=>?_,h.objs,h.free,h.dist,h.env⟩,q⟩
 ·show _=_ :: c.ds.ds;rw[←hs.defers];rfl
 ·rcases GO.1 hp with rfl|hp
  ·exact⟨⟨.loop L,by simp[Bn,lk]⟩,q,.inl rfl⟩
  rcases GO.1 hp with rfl|hp
  ·exact⟨⟨.dfr,by simp[Bn,lk,ACJ z]⟩,r,.inl rfl⟩
  ·exact h.pin p hp
def EvJ (c:Cx) (R:Exit→Act→World→Prop) (k:List DX) (σ:St):Option Code→Prop
 | none=>Ev c R (.out .normal) k σ
 | some a=>match a with
  | .ret=>Ev c R (.out .ret) k σ
  | .exit id=>Ev c R (.out (.exit id)) k σ
  | _=>False
def A6Z (c:Cx) (R:Exit→Act→World→Prop) (k:List DX) (a:Act) (w:World):Option Code→Prop
 | none=>SQ c R k .normal a w
 | some cd=>cd.wpIn (FR c.r) 0 c.P (SQ c R k) a w
theorem A1J {dn b:Nat} (g:Zp k=true) (e:Cw c.nt k=true) {p:Option Code} (d:EvJ (c.marked dn b) R k σ p) {a:Act} {w:World} (hs:(c.marked dn b).sat σ a w) :
  A6Z c R k a w p:=by
 have f:=Np (c:=c) (R:=R) (dn:=dn) (b:=b) g;cases p with
 | none =>
  have:=d rfl e _ _ hs;show SQ c R k .normal a w;rw[←f];exact this
 | some cd =>
  cases cd<;>try exact d.elim
  ·have:=d rfl e _ _ hs;refine wpIn_exit ?_;rw[←f];exact this
  ·have:=d rfl e _ _ hs;refine wpIn_ret ?_;rw[←f];exact this
theorem vT (W:c.Ok) (bm:c.r=none) (bg:Zp k=true) {g:Operand} {O:Array Tmp} {G H:Code} {s:FuncId} {l:List Nat} (K:Ae σ g=some (.clo s l))
  (yn dn fr:Nat) (D:(yn != dn&&yn != fr&&dn != fr)=true) (bc:lk yn σ.objs=none) (bd:lk dn σ.objs=none) (be:lk fr σ.objs=none)
  (ao:∀(L:Go.Loop) (z:Array Value),L.state=.ready→L.pending=none→L.tmps=z→L.params=O→L.assign=G→L.body=H→z.size=c.nt →
   ∃(A:List AV) (objs:List (Nat×Obj)) (stay:List Nat) (post:AV→List (Nat×Obj)→Prop) (ren:List (Nat×CO)) (hs:List Nat),BL c.P s A objs stay post ∧
    CT ren=true∧Cm objs ren=true∧Bh (Bn σ yn dn fr L z) ren (.yl yn :: l.map fun n=>AV.bp n [] 0) A∧Ak (Bn σ yn dn fr L z).objs ren objs ∧
    (((yn,undef) :: (dn,undef) :: c.ds.pin).all fun p=>!AX p.1 hs)=true ∧
    ∀res y,post res y→∃(j:List (Nat×CO)) (i:List (Nat×Obj)) (m:Go.Loop),CT j=true∧Cm i j=true∧Ak y j i∧LI ren j stay hs=true∧HD (Au ren) i (Bn σ yn dn fr L z).objs=true ∧
     lk yn i=some (.loop m)∧(m.state == .busy)=false ∧
     ∀b,EvJ (c.marked dn b) R k ⟨(Cn (Bn σ yn dn fr L z) (Au ren) hs none .top i).env,upd yn (.loop { m with state:=.exhausted }) (Cn (Bn σ yn dn fr L z) (Au ren) hs none .top i).objs⟩ m.pending) :
  Ev c R (.run (.rangeFunc g O G H)) k σ:=by
 intro h1 am a w bo;obtain⟨ρ,hs⟩:=bo;have bb:F4 (vw w c.O0 σ ρ) σ a.eval:=Dn hs.env;obtain⟨Z,_⟩:=Zm (bb g _ K);simp only[An,ABS,ne_eq]at D;obtain⟨⟨ax,ay⟩,az⟩:=D;refine wpIn_rangeFunc (F:=FR c.r) ?_;intro fn _;have bn:(FR c.r).round=none:=by rw[bm];rfl
 rw[bn];obtain⟨L,x⟩:∃L:Go.Loop,L={ state:=.ready,pending:=none,fn,tmps:=a.tmps,params:=O,assign:=G,body:=H,defers:=w.heap.size }:=⟨_,rfl⟩;obtain⟨Q,N,br⟩:=qL W hs ax ay az bc bd be L;obtain⟨A,objs,stay,post,ren,B,J,ag,ah,ai,aj,ak,al⟩:=ao L a.tmps (by rw[x]) (by rw[x]) (by rw[x]) (by rw[x]) (by rw[x]) (by rw[x]) hs.nt;obtain⟨⟨S,aw,bj,ar⟩,J⟩:=J;obtain⟨o,U⟩:∃o,(w.alloc (.deferred (some []))).alloc (.loop L)=o:=⟨_,rfl⟩;rw[U]at N;have X:(c.marked2 yn dn w.heap.size).Ok:=jH W;have av:Ij (vw o c.O0 (Bn σ yn dn fr L a.tmps) Q) (.yl yn :: l.map fun n=>AV.bp n [] 0) (.func (.yield (w.heap.size+1)) #[] #[] :: l.map ρ):=by
  refine⟨_,_,rfl,⟨⟨_,by simp[Bn,lk];rfl⟩,_,br,rfl⟩,?_⟩;have Y:=Zm (V:=vw o c.O0 (Bn σ yn dn fr L a.tmps) Q) (f:=s) (ns:=l) (v:=a.eval g) (by
   have:=Dn N.env;have bk:Ae (Bn σ yn dn fr L a.tmps) g=some (.clo s l):=by
    cases g with
    | tmp t=>exact K
    | _=>exact K
   have T:=this g _ bk;have ba:({ a with defers:=[{ target:=.collected w.heap.size,args:=#[] }]++a.defers }:Act).eval g=a.eval g:=by cases g<;>rfl
   rw[ba]at T;exact T)
  have e:=Y.1;rw[Z]at e;have I:l.map ρ=l.map Q:=by
   have e:=AAX (fun v:Value=>match v with|.func _ _ cs=>cs.toList|_=>[]) e;simpa[vw] using e
  rw[I];exact Y.2
 have bh:∀res y,post res y→∃(j:List (Nat×CO)) (ab:AV) (i:List (Nat×Obj)),CT j=true∧Cm i j=true∧Ak y j i∧Bx j res ab ∧
   LI ren j stay B=true∧HD (Au ren) i (Bn σ yn dn fr L a.tmps).objs=true∧∀C w',(c.marked2 yn dn w.heap.size).sat (Cn (Bn σ yn dn fr L a.tmps) (Au ren) B none ab i) C w' →
    rangePost (FR c.r) 0 c.P (w.heap.size+1) (SQ c R k) C (.returned undef) w':=by
  intro res y hp;obtain⟨j,i,m,bt,bu,bv,bw,bx,bz,aa,ca⟩:=al res y hp;refine⟨j,.top,i,bt,bu,bv,qK j res,bw,bx,fun C w' E=>?_⟩;obtain⟨ρ',E⟩:=E;have bs:lk yn (Cn (Bn σ yn dn fr L a.tmps) (Au ren) B none .top i).objs=some (.loop m):=by
   simp only[Cn,A0,bz];rfl
  have hyp:=(E.pin (yn,.pointer (some ⟨w.heap.size+1,0,none⟩)) (by simp[Cx.marked2])).2.1;obtain⟨cb,q⟩:=Ta X E bs hyp { m with state:=.exhausted };refine⟨_,_,run_endLoop cb (by intro e;rw[e]at aa;cases aa),?_⟩;have bq:(c.marked dn w.heap.size).sat ⟨(Cn (Bn σ yn dn fr L a.tmps) (Au ren) B none .top i).env,upd yn (.loop { m with state:=.exhausted }) (Cn (Bn σ yn dn fr L a.tmps) (Au ren) B none .top i).objs⟩ C (w'.putObj (w.heap.size+1) (.loop { m with state:=.exhausted })) :=
   ⟨ρ',q.frm,q.nt,q.defers,fun p hp=>q.pin p (bY _ hp),q.objs,q.free,q.dist,q.env⟩
  have M:=A1J bg am (ca w.heap.size) bq;revert M;generalize m.pending=p;intro M;cases p<;>exact M
 obtain⟨ad,ae,cc,an,ap,bi,aq,_,bl⟩:=QV X N av stay post ren ag ah ai aj B (by simpa[Cx.marked2] using ak) (dst:=none) (fun d D=>by cases D) bh;have au:=J o ad ae cc _ an ap bi aq;refine⟨w.heap.size+1,[{ target:=.collected w.heap.size,args:=#[] }],o,{ target:=.fn (.func s) (l.map ρ).toArray,args:=#[.func (.yield (w.heap.size+1)) #[] #[]] },o,s,
  (.func (.yield (w.heap.size+1)) #[] #[] :: l.map ρ).toArray,o,?_,?_,fun _ _=>trivial,?_,fun h=>by simp[FR]at h,?_⟩
 ·rw[←U,x];exact run_enterLoop_outer _ _ _ _ _
 ·have bf:a.eval g=.func (.func s) #[] (l.map ρ).toArray:=Z;simp only[resolve,bf];simp[go_sem]
 ·have af : ¬ S.name = "runtime.NumGoroutine" := by simpa using bj
  have I:¬S.body=none:=by intro e;simp[e]at ar
  simp[invoke,callFunc,aw,af,I]
 ·refine KV (au.mono fun e w' hh=>?_);obtain⟨u,rfl,hh⟩:=hh;exact bl u w' hh
theorem vU (O:c.Ok) {a:Act} {w:World} {ρ:Nat→Value} (hs:Bo c.w0 c.K c.O0 c.nt c.ds σ ρ a w) {dn b:Nat} (j:lk dn σ.objs=some .dfr) (i:ρ dn=.pointer (some ⟨b,0,none⟩)) (X:_root_.Go.Obj) (pin:List (Nat×Value)) (G:∀p∈pin,p∈c.ds.pin∧p.1≠dn) :
  w.heap[b]?=some (.deferred (some []))∧Bo c.w0 c.K c.O0 c.nt { ds:=c.ds.ds,pin:=pin } ⟨Bi [dn] σ.env,Ad [dn] [dn] σ.objs⟩ ρ a (w.putObj b X):=by
 obtain⟨b',h1,h⟩:=hs.objs dn _ j;rw[i]at h1;injection h1 with h1
 injection h1 with h1
 injection h1 with h1
 subst h1;have P:b<w.heap.size:=CH h;refine⟨h,?_⟩;have A:own c.O0 σ ρ b:=.inr ⟨dn,⟨_,j⟩,by rw[i];exact .inl rfl⟩;have f:∀n,Gb ⟨Bi [dn] σ.env,Ad [dn] [dn] σ.objs⟩ n→Gb σ n∧n≠dn:=by
  rintro n ⟨o,hn⟩;have hn:lk n (Ad [dn] [dn] σ.objs)=some o:=hn;rw[Bb]at hn;split at hn
  ·cases hn
  ·rename_i r;simp only[Is]at hn;obtain⟨y,d,_⟩:=hn;exact⟨⟨y,d⟩,fun e=>r (by subst e;simp[AX])⟩
 have l:∀k,k≠b→(w.putObj b X).heap[k]?=w.heap[k]?:=fun k hk=>World.putObj_heap_other hk;have q:CN ((vw w c.O0 σ ρ).buts [dn]) (vw (w.putObj b X) c.O0 ⟨Bi [dn] σ.env,Ad [dn] [dn] σ.objs⟩ ρ):=by
  refine⟨fun k _ hk B=>?_,fun n hn=>?_,fun _ _=>rfl,fun k _ hk=>l k (fun e=>?_)⟩
  ·rcases B with h0|⟨n,hn,E⟩
   ·exact hk (.inl h0)
   ·exact hk (.inr ⟨n,(f n hn).1,E⟩)
  ·obtain⟨⟨o,F⟩,D⟩:=hn;exact⟨_,by show lk n (Ad [dn] [dn] σ.objs)=_;rw[Bb,At (by rw[D];simp),F];rfl⟩
  ·subst e;exact hk A
 refine⟨⟨hs.frm.os,hs.frm.tape,hs.frm.output,by simpa using hs.frm.size,fun k hk=>?_⟩,hs.nt,hs.defers,fun p hp=>?_,fun n x hn=>?_,fun n k C hk=>hs.free n k (f n C).1 hk,fun n m k h1 h u z=>hs.dist n m k (f n h1).1 (f m h).1 u z,fun s v t=>?_⟩
 ·refine(l k fun e=>?_).trans (hs.frm.block k hk);subst e;exact(hs.free dn k ⟨_,j⟩ (by rw[i];exact .inl rfl)).1 hk
 ·obtain⟨H,I⟩:=G p hp;obtain⟨J,M,N⟩:=hs.pin p H;exact⟨q.L p.1 ⟨J,by simp[AX,I]⟩,M,N⟩
 ·have g:lk n (Ad [dn] [dn] σ.objs)=some x:=hn;have r:=(f n ⟨x,hn⟩).2;rw[Bb]at g;split at g
  ·cases g
  ·simp only[Is]at g;obtain⟨y,d,rfl⟩:=g;refine SM q (fun k hk=>l k fun e=>?_) (hs.objs n y d);subst e;exact r (hs.dist n dn k ⟨y,d⟩ ⟨_,j⟩ hk (by rw[i];exact .inl rfl))
 ·rw[ED]at t;simp only[Is]at t;obtain⟨y,d,rfl⟩:=t;exact(Oe (hs.env s y d)).keeps q
end
def vV (P:Program) (fn:Func) (w0:World) (K O0:Nat→Prop) (stay:List Nat) (ρ0:Nat→Value) (post:AV→List (Nat×Obj)→Prop):Exit→Act→World→Prop :=
 bodyPostM (FR none) 0 P fn fun e w'=>∃u,e=.returned u∧Ov K O0 stay w0 ρ0 post u w'
theorem A1K {P:Program} {tb:Tb} {f:FuncId} {fn:Func} {cd:Code} {nt:Nat} {args:List AV} {objs:List (Nat×Obj)} {stay:List Nat} {post:AV→List (Nat×Obj)→Prop}
  (c : P.funcs[f]? = some fn) (k : (fn.name == "runtime.NumGoroutine") = false) (b : fn.body = some cd) (l : fn.ntmps = nt) (q : args.length ≤ nt)
  (i:Bk nt cd=true) (p:stay.all (Rd objs)=true) (j:Ln objs=true) (hT:DB P tb) (hF:Iq P tb)
  (h:∀(w0:World) (K O0:Nat→Prop) (ρ0:Nat→Value),(cm P tb w0 K O0 nt (stay.map fun n=>(n,ρ0 n))).Ok→Ow args→Nk objs →
   Ev (cm P tb w0 K O0 nt (stay.map fun n=>(n,ρ0 n))) (vV P fn w0 K O0 stay ρ0 post) (.run cd) [] ⟨Ao 0 args,objs⟩):BL P f args objs stay post:=by
 refine⟨⟨fn,c,k,by simp[b]⟩,fun w K O0 ρ s e g d a=>?_⟩;refine callsIn_wide.1 (callsIn_of_wp_marks (F:=FR none) (n:=0) c b trivial ?_ rfl);have r:=I0 a;rw[l];exact h w K O0 ρ ⟨e,g,hT,hF⟩ (SW a) (SX j fun n o m=>X3 (d.obj n o m)) i rfl _ _ (TH d a p (by omega))
theorem vW {P:Program} {tb:Tb} {w0:World} {K O0:Nat→Prop} {nt:Nat} {stay:List Nat} {ρ0:Nat→Value} {fn:Func} {post:AV→List (Nat×Obj)→Prop} {σ:St} {e:Exit} {dn b:Nat} (d:((cm P tb w0 K O0 nt (stay.map fun n=>(n,ρ0 n))).marked dn b).Ok)
  (g:List ResultVar) (hr:fn.results.toList=g) (o:e=.ret∨e=.normal) (q:lk dn σ.objs=some .dfr) (f:AX dn stay=false) (res:AV) (h:TJ tb ⟨Bi [dn] σ.env,Ad [dn] [dn] σ.objs⟩ g res) (hp:post res (Ad [dn] [dn] σ.objs)) :
  Ev ((cm P tb w0 K O0 nt (stay.map fun n=>(n,ρ0 n))).marked dn b) (vV P fn w0 K O0 stay ρ0 post) (.out e) [] σ:=by
 intro _ _ a w hs;obtain⟨ρ,hs⟩:=hs;have l:=(hs.pin (dn,.pointer (some ⟨b,0,none⟩)) (by simp[Cx.marked])).2.1;obtain⟨h1,i⟩:=vU d hs q l (.deferred none) (stay.map fun n=>(n,ρ0 n)) (fun p hp=>⟨bY _ hp,fun e=>by
  obtain⟨n,hn,rfl⟩:=If.1 hp;have e:n=dn:=e;subst e;rw[(AZ _ _).2 hn]at f;cases f⟩)
 have c:Bo w0 K O0 nt { ds:=[⟨.collected b,#[]⟩],pin:=stay.map fun n=>(n,ρ0 n) } ⟨Bi [dn] σ.env,Ad [dn] [dn] σ.objs⟩ ρ a (w.putObj b (.deferred none)):=i;obtain⟨u,j,k⟩:=Zg d.T c (fn:=fn) (by rw[hr];exact h);have r:Ov K O0 stay w0 ρ0 post u (w.putObj b (.deferred none)):=by
  refine⟨res,_,ρ,hp,c.frm,⟨c.objs,c.free,c.dist⟩,k,fun n hn=>?_⟩;exact(c.pin (n,ρ0 n) (If.2 ⟨n,hn,rfl⟩)).2.1
 have m:a.defers=[⟨.collected b,#[]⟩]:=hs.defers;have key:LeavesInM (FR none) 0 P fn a.tmps (fun e w'=>∃u,e=.returned u∧Ov K O0 stay w0 ρ0 post u w') a.defers .returning w:=by
  rw[m];exact⟨by simp,.inl ⟨b,_,rfl,run_takeDeferred h1,u,j,u,rfl,r⟩⟩
 rcases o with rfl|rfl
 ·exact key
 ·exact key
end
section
open Go Go.RowKit
section
variable {c:Cx} {R:Exit→Act→World→Prop} {k:List DX} {σ σ':St}
theorem rP (a:c.Ok) {id:Nat} {l:List Oper} {vc:Prop} (b:vc) (hk:Ev c R (.out .normal) k σ') (h0:(l.all fun o=>o.guard.isNone)=true:=by rfl)
  (h:DS c.tb.live (Bt c.tb l l σ)=some (vc,σ'):=by simp only[go_sem,Nat.reduceEqDiff,reduceCtorEq,Nat.reduceAdd,Nat.reduceSub,Nat.reduceMul,Nat.reduceLeDiff,Nat.reduceLT,Int.reduceLE,Int.reduceToNat,Int.reduceNeg,↓reduceIte];rfl):Ev c R (.run (.region id l.toArray false)) k σ:=Lv _ a h0 h b hk
theorem rD (a:c.Ok) {id:Nat} {l:List Oper} {vc:Prop} (d:vc) (hk:Ev c R (.out .normal) k σ') (h0:LG l l.length=true:=by kernel_rfl) (b:c.P.follows .mixedOrders=true:=by exact drawsAny)
  (h:DS c.tb.live (Kd c.tb l false σ.objs [] l 0 [] [] σ)=some (vc,σ'):=by simp only[go_sem,Nat.reduceEqDiff,reduceCtorEq,Nat.reduceAdd,Nat.reduceSub,Nat.reduceMul,Nat.reduceLeDiff,Nat.reduceLT,Int.reduceLE,Int.reduceToNat,Int.reduceNeg,↓reduceIte];rfl):Ev c R (.run (.region id l.toArray true)) k σ:=WS _ b a h0 h d hk
theorem rC {o:Operand} {x y:Code} {b:Bool} {p q:Prop} (d:p→Ev c R (.run x) k σ) (hf:q→Ev c R (.run y) k σ) (h:Ae σ o=some (.p .bool b):=by simp only[go_sem,Nat.reduceEqDiff,reduceCtorEq,Nat.reduceAdd,Nat.reduceSub,Nat.reduceMul,Nat.reduceLeDiff,Nat.reduceLT,Int.reduceLE,Int.reduceToNat,Int.reduceNeg,↓reduceIte];rfl)
  (hp:(b=true)=p:=by first|(simp only[By,On,An,iN,Bool.and_eq_false_imp,AAl,OF,AAI,AA1,AAK,ABS,Bool.not_eq_eq_eq_not,ACa,ACr,AAO,Int.not_le,ne_eq];rfl)|rfl) (a:(b=false)=q:=by first|(simp only[By,On,An,iN,Bool.and_eq_false_imp,AAl,OF,AAI,AA1,AAK,ABS,Bool.not_eq_eq_eq_not,ACa,ACr,AAO,Int.not_le,ne_eq];rfl)|rfl):Ev c R (.run (.cond o x y)) k σ :=
 De h (fun e=>d (hp▸e)) (fun e=>hf (a▸e))
theorem rL (a:c.Ok) {ops:List Oper} {l:List Oper} {vc:Prop} (b:vc) (hk:Ev c R (.out .normal) k σ') (h:DS c.tb.live (Bt c.tb ops l σ)=some (vc,σ'):=by simp only[go_sem,Nat.reduceEqDiff,reduceCtorEq,Nat.reduceAdd,Nat.reduceSub,Nat.reduceMul,Nat.reduceLeDiff,Nat.reduceLT,Int.reduceLE,Int.reduceToNat,Int.reduceNeg,↓reduceIte];rfl):HN c R k ops.toArray l σ:=IC _ a h b hk
theorem rN (n:Nat) (a:c.Ok) {ops:List Oper} {l:List Oper} {vc:Prop} (b:vc) (hk:HN c R k ops.toArray (l.drop n) σ') (h:Bt c.tb ops (l.take n) σ=some (vc,σ'):=by simp only[AAA,AAS,go_sem,Nat.reduceEqDiff,reduceCtorEq,Nat.reduceAdd,Nat.reduceSub,Nat.reduceMul,Nat.reduceLeDiff,Nat.reduceLT,Int.reduceLE,Int.reduceToNat,Int.reduceNeg,↓reduceIte];rfl):HN c R k ops.toArray l σ:=SV a n (by simpa using h) b hk
theorem cP (n:Nat) (a:c.Ok) {id:Nat} {l:List Oper} {vc:Prop} (b:vc) (hk:HN c R k l.toArray (l.drop n) σ') (h0:(l.all fun o=>o.guard.isNone)=true:=by rfl) (h:Bt c.tb l (l.take n) σ=some (vc,σ'):=by simp only[AAA,AAS,go_sem,Nat.reduceEqDiff,reduceCtorEq,Nat.reduceAdd,Nat.reduceSub,Nat.reduceMul,Nat.reduceLeDiff,Nat.reduceLT,Int.reduceLE,Int.reduceToNat,Int.reduceNeg,↓reduceIte];rfl) :
  Ev c R (.run (.region id l.toArray false)) k σ:=vB a n h0 h b hk
theorem cD (n:Nat) (a:c.Ok) {id:Nat} {l:List Oper} {vc:Prop} (e:vc) (hk:HN c R k l.toArray (l.drop n) σ') (b:LG l (l.take n).length=true:=by kernel_rfl) (d:c.P.follows .mixedOrders=true:=by exact drawsAny)
  (h:Kd c.tb l false σ.objs [] (l.take n) 0 [] [] σ=some (vc,σ'):=by simp only[AAA,AAS,go_sem,Nat.reduceEqDiff,reduceCtorEq,Nat.reduceAdd,Nat.reduceSub,Nat.reduceMul,Nat.reduceLeDiff,Nat.reduceLT,Int.reduceLE,Int.reduceToNat,Int.reduceNeg,↓reduceIte];rfl):Ev c R (.run (.region id l.toArray true)) k σ:=vC d a n b h e hk
theorem rM (q:c.Ok) {ops:Array Oper} {rest:List Oper} {dst:Option Nat} {g:Operand} {xs:List Operand} {ts:Array TypeId} {ty:TypeId} {pos:String} {after:Array Edge}
  {f:FuncId} {d:List Nat} {as:List AV} {A:List AV} {objs:List (Nat×Obj)} {stay:List Nat} {post:AV→List (Nat×Obj)→Prop} (l:BL c.P f A objs stay post)
  (ren:List (Nat×CO)) (hs:List Nat) (j:Bh σ ren (as++d.map fun n=>AV.bp n [] 0) A) (m:Ak σ.objs ren objs)
  (hk:∀res e,post res e→∃(a:List (Nat×CO)) (h:AV) (b:List (Nat×Obj)),CT a=true∧Cm b a=true∧Ak e a b∧Bx a res h ∧
   LI ren a stay hs=true∧HD (Au ren) b σ.objs=true∧HN c R k ops rest (Cn σ (Au ren) hs dst h b))
  (r:Dg (Ae σ g)=some (f,d):=by simp only[go_sem,Nat.reduceEqDiff,reduceCtorEq,Nat.reduceAdd,Nat.reduceSub,Nat.reduceMul,Nat.reduceLeDiff,Nat.reduceLT,Int.reduceLE,Int.reduceToNat,Int.reduceNeg,↓reduceIte];rfl) (o:LY σ xs=some as:=by simp only[go_sem,Nat.reduceEqDiff,reduceCtorEq,Nat.reduceAdd,Nat.reduceSub,Nat.reduceMul,Nat.reduceLeDiff,Nat.reduceLT,Int.reduceLE,Int.reduceToNat,Int.reduceNeg,↓reduceIte];rfl)
  (h1:CT ren=true:=by rfl) (i:Cm objs ren=true:=by rfl) (s:(c.ds.pin.all fun p=>!AX p.1 hs)=true:=by rfl) :
  HN c R k ops (⟨dst,.call ⟨.value g,xs.toArray,ts⟩,ty,pos,after,none⟩ :: rest) σ:=vA q r o l ren hs h1 i s j m hk
theorem rY (n yn:Nat) (m:c.Ok) {ops:Array Oper} {rest:List Oper} {dst:Option Nat} {g:Operand} {xs:List Operand} {ts:Array TypeId} {ty:TypeId} {pos:String} {after:Array Edge}
  {as:List AV} {A:List AV} {objs:List (Nat×Obj)} {stay:List Nat} {post:AV→List (Nat×Obj)→Prop} (i:Zn c.P yn A objs stay post)
  (ren:List (Nat×CO)) (hs:List Nat) (h:Bh σ ren as A) (j:Ak σ.objs ren objs)
  (hk:∀res d,post res d→∃(a:List (Nat×CO)) (e:AV) (b:List (Nat×Obj)),CT a=true∧Cm b a=true∧Ak d a b∧Bx a res e ∧
   LI ren a stay hs=true∧HD (Au ren) b σ.objs=true∧HN c R k ops rest (Cn σ (Au ren) hs dst e b))
  (s:c.r=none:=by rfl) (o:Vh n (Ae σ g)=true:=by simp only[go_sem,Nat.reduceEqDiff,reduceCtorEq,Nat.reduceAdd,Nat.reduceSub,Nat.reduceMul,Nat.reduceLeDiff,Nat.reduceLT,Int.reduceLE,Int.reduceToNat,Int.reduceNeg,↓reduceIte]) (l:LY σ xs=some as:=by simp only[go_sem,Nat.reduceEqDiff,reduceCtorEq,Nat.reduceAdd,Nat.reduceSub,Nat.reduceMul,Nat.reduceLeDiff,Nat.reduceLT,Int.reduceLE,Int.reduceToNat,Int.reduceNeg,↓reduceIte];rfl)
  (t:lk yn ren=some (.nm n):=by rfl) (h1:CT ren=true:=by rfl) (f:Cm objs ren=true:=by rfl) (q:(c.ds.pin.all fun p=>!AX p.1 hs)=true:=by rfl) :
  HN c R k ops (⟨dst,.call ⟨.value g,xs.toArray,ts⟩,ty,pos,after,none⟩ :: rest) σ:=qH m s o l i ren hs t h1 f q h j hk
end
end
section
open Go Go.RowKit
section
variable {P:Program} {b:Frame} {a:Act} {k:List Item} {cs:List Frame} {w:World}
theorem FY {c:Code}:step P (lone (b.atR a (.code (.scope c) :: k)) cs w)=.next (lone (b.atR a (.code c :: .inScope c :: k)) cs w) :=
 step_lone_go (by simp[stepG,stepG.exec,Frame.atR])
theorem Vi {c:Code}:step P (lone (b.atR a (.inScope c :: k)) cs w)=.next (lone (b.atR a k) cs w) :=
 step_lone_go (by simp[stepG,stepG.exec,Frame.atR])
end
theorem M4 {F:Fence} {n:Nat} {P:Program} {Q:Exit→Act→World→Prop} {a:Act} {w:World} {c:Code} (h:c.wpIn F n P (Exit.noGoto Q) a w):(Code.scope c).wpIn F n P Q a w:=by
 intro b k cs q j hr;have h0:(lone (b.atR a (.code (.scope c) :: k)) cs w).fenced P F:=fenced_calm j hr rfl;obtain⟨e,g,i,f,d⟩:=h b (.inScope c :: k) cs q j hr;cases e with
 | normal=>exact⟨.normal,g,i,f,.head h0 FY (StepsIn.trans d (.one (fenced_calm j hr rfl) Vi))⟩
 | exit id =>
  have m:exitTo id (.inScope c :: k)=exitTo id k:=by simp[exitTo]
  exact⟨.exit id,g,i,f,fun r hk=>.head h0 FY (d.1 r (by rw[m];exact hk)),
   fun p hk=>let ⟨s,h1,o⟩:=d.2 p (by rw[m];exact hk);⟨s,h1,.head h0 FY o⟩⟩
 | goto l=>exact f.elim
 | ret=>exact⟨_,g,i,f,.of_steps (.one h0 FY) d⟩
 | panic ch=>exact⟨_,g,i,f,.of_steps (.one h0 FY) d⟩
 | outgrown=>exact⟨_,g,i,f,.of_steps (.one h0 FY) d⟩
section
variable {c:Cx} {R:Exit→Act→World→Prop} {k:List DX} {σ:St}
theorem O3 (b:∀l a w,¬R (.goto l) a w):∀(k:List DX) (l:Nat) (a:Act) (w:World),¬SQ c R k (.goto l) a w
 | [],l,a,w=>b l a w
 | .seq _ :: k,l,a,w=>O3 b k l a w
 | .blk _ :: k,l,a,w=>O3 b k l a w
 | .inv _ :: k,l,a,w=>O3 b k l a w
theorem vX (i:∀l a w,¬R (.goto l) a w) {b:Code} (h:Ev c R (.run b) k σ):Ev c R (.run (.scope b)) k σ:=by
 intro h1 g a w hs;have h1:Bk c.nt b=true:=by simpa[H2,Bk] using h1
 refine M4 (ACt (h h1 g a w hs) ?_);intro e f w' d;cases e with
 | goto l=>exact absurd d (O3 i k l f w')
 | _=>exact d
theorem vY {l:Nat} (h:Ev c R (.out .normal) k σ):Ev c R (.run (.label l)) k σ:=fun _ b a w hs=>wpIn_label (h rfl b a w hs)
theorem vZ {P:Program} {fn:Func} {w0:World} {O0:Nat→Prop} {b:List RV}:∀l a w,¬Rb P fn w0 O0 b (.goto l) a w:=fun _ _ _ h=>h
end
end
section
open Go Go.RowKit
def nH:mW→List DX→Option (mW×List DX)
 | .run (.seq x y),k=>some (.run x,.seq y :: k)
 | .run .skip,k=>some (.out .normal,k)
 | .run .ret,k=>some (.out .ret,k)
 | .run (.exit id),k=>some (.out (.exit id),k)
 | .run (.block id b),k=>some (.run b,.blk id :: k)
 | .out .normal,.seq y :: k=>some (.run y,k)
 | .out .normal,.blk _ :: k=>some (.out .normal,k)
 | .out (.exit id),.seq _ :: k=>some (.out (.exit id),k)
 | .out (.exit a),.blk id :: k=>if a=id then some (.out .normal,k) else some (.out (.exit a),k)
 | .out (.exit id),.inv _ :: k=>some (.out (.exit id),k)
 | .out .ret,.seq _ :: k=>some (.out .ret,k)
 | .out .ret,.blk _ :: k=>some (.out .ret,k)
 | .out .ret,.inv _ :: k=>some (.out .ret,k)
 | _,_=>none
def Tc:Nat→mW→List DX→mW×List DX
 | 0,n,k=>(n,k)
 | m+1,n,k=>match nH n k with
  | some (b,a)=>Tc m b a
  | none=>(n,k)
def nI (n:mW) (k:List DX):Option (mW×List DX):=match nH n k with
 | some (b,a)=>some (Tc 200 b a)
 | none=>none
section
variable {c:Cx} {R:Exit→Act→World→Prop} {σ:St}
theorem Zq {n b:mW} {k a:List DX} (e:nH n k=some (b,a)) (h:Ev c R b a σ):Ev c R n k σ:=by
 unfold nH at e;split at e<;>first
  | (cases e;done)
  | (split at e<;>(cases e;first|(rename_i d;rw[d];exact i3 h)|exact i4 (by assumption) h))
  | (cases e;first|exact A3o h|exact mX h|exact A3p h|exact A1B h|exact uW h|exact H3 h|exact iW h|exact ZW h|exact ZX h|exact iV h|exact iX h|exact iY h)
theorem WZ:∀(m:Nat) {n:mW} {k:List DX},Ev c R (Tc m n k).1 (Tc m n k).2 σ→Ev c R n k σ
 | 0,_,_,h=>h
 | m+1,n,k,h=>by
  unfold Tc at h;split at h
  ·rename_i b a e;exact Zq e (WZ m h)
  ·exact h
theorem eS {n b:mW} {k a:List DX} (e:nI n k=some (b,a)) (h:Ev c R b a σ):Ev c R n k σ:=by
 unfold nI at e;split at e
 ·rename_i n1 f d;refine Zq d (WZ 200 ?_);have:=ABL e;rw[this];exact h
 ·cases e
end
inductive RX (c:Cx) (lv:List Nat) (σ:St) (vc:Prop) (σ':St):Array Oper→Bool→Prop
 | p {l:List Oper} (h0:(l.all fun o=>o.guard.isNone)=true) (h:DS lv (Bt c.tb l l σ)=some (vc,σ')):RX c lv σ vc σ' l.toArray false
 | a {l:List Oper} (h0:p4 l l.length=true) (h:DS lv (Kd c.tb l true σ.objs [] l 0 [] [] σ)=some (vc,σ')):RX c lv σ vc σ' l.toArray false
 | d {l:List Oper} (h0:LG l l.length=true) (hm:c.P.follows .mixedOrders=true) (h:DS lv (Kd c.tb l false σ.objs [] l 0 [] [] σ)=some (vc,σ')):RX c lv σ vc σ' l.toArray true
 | t {l:List Oper} (m:Nat) (h0:LG l (l.take (l.length-m)).length=true) (hm:c.P.follows .mixedOrders=true) (h:DS lv (Kd c.tb l false σ.objs (l.drop (l.length-m)) (l.take (l.length-m)) 0 [] [] σ)=some (vc,σ')):RX c lv σ vc σ' l.toArray true
theorem A4D {c:Cx} {R:Exit→Act→World→Prop} {k:List DX} {σ σ':St} {b:List Nat} (e:c.Ok) {id:Nat} {ops:Array Oper} {i:Bool} {vc:Prop} (f:vc) (hk:Ev c R (.out .normal) k σ') (h:RX c b σ vc σ' ops i):Ev c R (.run (.region id ops i)) k σ:=by
 cases h with
 | p h0 h=>exact Lv b e h0 h f hk
 | a h0 h=>exact Zh b e h0 h f hk
 | d h0 g h=>exact WS b g e h0 h f hk
 | t m h0 g h=>exact p9 b m g e h0 h f hk
theorem rX {c:Cx} {R:Exit→Act→World→Prop} {k:List DX} {σ σ':St} (e:c.Ok) {id:Nat} {ops:Array Oper} {b:Bool} {vc:Prop} (f:vc) (hk:Ev c R (.out .normal) k σ')
  (h:RX c c.tb.live σ vc σ' ops b:=by
   first
   | exact .p rfl (by simp only[go_sem,Nat.reduceEqDiff,reduceCtorEq,Nat.reduceAdd,Nat.reduceSub,Nat.reduceMul,Nat.reduceLeDiff,Nat.reduceLT,Int.reduceLE,Int.reduceToNat,Int.reduceNeg,↓reduceIte];rfl)
   | exact .a (by kernel_rfl) (by simp only[go_sem,Nat.reduceEqDiff,reduceCtorEq,Nat.reduceAdd,Nat.reduceSub,Nat.reduceMul,Nat.reduceLeDiff,Nat.reduceLT,Int.reduceLE,Int.reduceToNat,Int.reduceNeg,↓reduceIte];rfl)
   | exact .d (by kernel_rfl) (by exact drawsAny) (by simp only[go_sem,Nat.reduceEqDiff,reduceCtorEq,Nat.reduceAdd,Nat.reduceSub,Nat.reduceMul,Nat.reduceLeDiff,Nat.reduceLT,Int.reduceLE,Int.reduceToNat,Int.reduceNeg,↓reduceIte];rfl)
   | exact .t 1 (by kernel_rfl) (by exact drawsAny) (by simp only[AAA,ACc,AAS,AAj,go_sem,Nat.reduceEqDiff,reduceCtorEq,Nat.reduceAdd,Nat.reduceSub,Nat.reduceMul,Nat.reduceLeDiff,Nat.reduceLT,Int.reduceLE,Int.reduceToNat,Int.reduceNeg,↓reduceIte];rfl)
   | exact .t 2 (by kernel_rfl) (by exact drawsAny) (by simp only[AAA,ACc,AAS,AAj,go_sem,Nat.reduceEqDiff,reduceCtorEq,Nat.reduceAdd,Nat.reduceSub,Nat.reduceMul,Nat.reduceLeDiff,Nat.reduceLT,Int.reduceLE,Int.reduceToNat,Int.reduceNeg,↓reduceIte];rfl)
   | exact .t 3 (by kernel_rfl) (by exact drawsAny) (by simp only[AAA,ACc,AAS,AAj,go_sem,Nat.reduceEqDiff,reduceCtorEq,Nat.reduceAdd,Nat.reduceSub,Nat.reduceMul,Nat.reduceLeDiff,Nat.reduceLT,Int.reduceLE,Int.reduceToNat,Int.reduceNeg,↓reduceIte];rfl)):Ev c R (.run (.region id ops b)) k σ:=A4D e f hk h
theorem eN {p:Prop} (h:p:=by simp only[go_sem,Nat.reduceEqDiff,reduceCtorEq,Nat.reduceAdd,Nat.reduceSub,Nat.reduceMul,Nat.reduceLeDiff,Nat.reduceLT,Int.reduceLE,Int.reduceToNat,Int.reduceNeg,↓reduceIte]<;>fail):p:=h
theorem eM {p q:Prop} (a:q) (h:p=q:=by simp only[go_sem,Nat.reduceEqDiff,reduceCtorEq,Nat.reduceAdd,Nat.reduceSub,Nat.reduceMul,Nat.reduceLeDiff,Nat.reduceLT,Int.reduceLE,Int.reduceToNat,Int.reduceNeg,↓reduceIte];rfl):p:=h▸a
theorem eR {p:Prop} (h:p:=by simp only[NL,Iv,H5,KX,MZ,JU,Gj,go_sem,Nat.reduceEqDiff,reduceCtorEq,Nat.reduceAdd,Nat.reduceSub,Nat.reduceMul,Nat.reduceLeDiff,Nat.reduceLT,Int.reduceLE,Int.reduceToNat,Int.reduceNeg,↓reduceIte]<;>fail):p:=h
theorem Zr {p q:Prop} (a:q) (h:p=q:=by simp only[NL,Iv,H5,KX,MZ,JU,Gj,go_sem,Nat.reduceEqDiff,reduceCtorEq,Nat.reduceAdd,Nat.reduceSub,Nat.reduceMul,Nat.reduceLeDiff,Nat.reduceLT,Int.reduceLE,Int.reduceToNat,Int.reduceNeg,↓reduceIte];rfl):p:=h▸a
theorem eV {p:Prop} (h:p:=by (try dsimp only[Ty.den]at *)<;>(repeat'(first|apply And.intro|intro _))<;>omega):p:=h
end
section
open Go Go.RowKit
section
variable {c:Cx} {R:Exit→Act→World→Prop} {k:List DX} {σ σ':St}
theorem v4 (d:c.Ok) {id:Nat} {l:List Oper} (n:Nat) {vc:Prop} (h:Bt c.tb l (l.take n) σ=some (vc,σ')) (f:vc) (hk:HN c R k l.toArray (l.drop n) σ') :
  Ev c R (.run (.region id l.toArray false)) k σ:=by
 intro h1 b a w hs;simp only[H2,Bk,Do]at h1;exact AC6 (SV d n (by simpa using h) f hk (fun o e=>h1 o e) b a w hs)
theorem qM (F:c.Ok) {ops:Array Oper} {rest:List Oper} {dst:Option Nat} {g:Operand} {xs:List Operand} {ts:Array TypeId} {ty:TypeId} {pos:String} {after:Array Edge} {i:Option (Nat×Bool)}
  (H:ER ops.toList σ i=some true)
  {f:FuncId} {j:List Nat} (G:Dg (Ae σ g)=some (f,j)) {as:List AV} (E:LY σ xs=some as)
  {A:List AV} {objs:List (Nat×Obj)} {stay:List Nat} {post:AV→List (Nat×Obj)→Prop} (C:BL c.P f A objs stay post)
  (ren:List (Nat×CO)) (hs:List Nat) (h1:CT ren=true) (y:Cm objs ren=true) (K:(c.ds.pin.all fun p=>!AX p.1 hs)=true) (z:Bh σ ren (as++j.map fun n=>AV.bp n [] 0) A) (D:Ak σ.objs ren objs)
  (hk:∀res e,post res e→∃(b:List (Nat×CO)) (h:AV) (d:List (Nat×Obj)),CT b=true∧Cm d b=true∧Ak e b d∧Bx b res h ∧
   LI ren b stay hs=true∧HD (Au ren) d σ.objs=true∧HN c R k ops rest (Cn σ (Au ren) hs dst h d)) :
  HN c R k ops (⟨dst,.call ⟨.value g,xs.toArray,ts⟩,ty,pos,after,i⟩ :: rest) σ:=by
 intro l I a w m;unfold wpListIn;rw[BY (HZ (o:=⟨dst,.call ⟨.value g,xs.toArray,ts⟩,ty,pos,after,i⟩) m H)];refine nC F (xs:=xs) (ts:=ts) rfl rfl G E C ren h1 y z D hs K m (Bq (l _ (by simp))) fun res e hp=>?_;obtain⟨b,h,d,r,s,t,u,v,x,B⟩:=hk res e hp;exact⟨b,h,d,r,s,t,u,v,x,fun q w' L=>B (fun o J=>l o (by simp[J])) I q w' L⟩
end
end
section
open Go Go.RowKit
section
variable {c:Cx} {ops:List Oper} {Kf:St→Prop} {τ:St} {ens:EN} {vc:Prop}
theorem Td {A D:List Nat} {l:Nat} {b:List (List Nat×Nat)} {o:Oper} {d:St} {a:EN} (j:vc) (e:X7 c o d a (fun m=>vD c ops Kf b D a m)) (h:iJ c.tb ops τ.objs (A++qs b D) [] τ.env=some (vc,ens):=by simp only[go_sem,Nat.reduceEqDiff,reduceCtorEq,Nat.reduceAdd,Nat.reduceSub,Nat.reduceMul,Nat.reduceLeDiff,Nat.reduceLT,Int.reduceLE,Int.reduceToNat,Int.reduceNeg,↓reduceIte];rfl) (g:Ox ens τ.objs=true:=by rfl) (i:ops[l]?=some o:=by rfl)
  (k:LZ (ens.take A.length) τ=d:=by simp only[go_sem,Nat.reduceEqDiff,reduceCtorEq,Nat.reduceAdd,Nat.reduceSub,Nat.reduceMul,Nat.reduceLeDiff,Nat.reduceLT,Int.reduceLE,Int.reduceToNat,Int.reduceNeg,↓reduceIte];rfl) (f:ens.drop A.length=a:=by simp only[go_sem,Nat.reduceEqDiff,reduceCtorEq,Nat.reduceAdd,Nat.reduceSub,Nat.reduceMul,Nat.reduceLeDiff,Nat.reduceLT,Int.reduceLE,Int.reduceToNat,Int.reduceNeg,↓reduceIte];rfl):vD c ops Kf ((A,l) :: b) D ens τ:=vP h j g i k f e
theorem VW {R:Exit→Act→World→Prop} {k:List DX} {σ':St} (d:c.Ok) {D:List Nat} {l:List Oper} {a:Prop} (f:vc) (g:a) (hk:Ev c R (.out .normal) k σ') (h:iJ c.tb ops τ.objs D [] τ.env=some (vc,ens):=by simp only[go_sem,Nat.reduceEqDiff,reduceCtorEq,Nat.reduceAdd,Nat.reduceSub,Nat.reduceMul,Nat.reduceLeDiff,Nat.reduceLT,Int.reduceLE,Int.reduceToNat,Int.reduceNeg,↓reduceIte];rfl) (e:Ox ens τ.objs=true:=by rfl)
  (b:DS c.tb.live (Bt c.tb ops l (LZ ens τ))=some (a,σ'):=by simp only[go_sem,Nat.reduceEqDiff,reduceCtorEq,Nat.reduceAdd,Nat.reduceSub,Nat.reduceMul,Nat.reduceLeDiff,Nat.reduceLT,Int.reduceLE,Int.reduceToNat,Int.reduceNeg,↓reduceIte];rfl):vD c ops (fun τ=>HN c R k ops.toArray l τ) [] D ens τ:=vO h f e (IC _ d b g hk)
end
section
variable {c:Cx} {o:Oper} {σ:St} {ens:EN} {N:St→Prop} {R:Exit→Act→World→Prop} {k:List DX} {σ':St}
theorem Vj (b:c.Ok) {τ:St} {vc:Prop} (ns:List Nat) (i:vc) (a:N τ) (h:Fk c.tb o σ=some (vc,τ):=by simp only[go_sem,Nat.reduceEqDiff,reduceCtorEq,Nat.reduceAdd,Nat.reduceSub,Nat.reduceMul,Nat.reduceLeDiff,Nat.reduceLT,Int.reduceLE,Int.reduceToNat,Int.reduceNeg,↓reduceIte];rfl) (f:tn σ o.op=ns:=by simp only[go_sem,Nat.reduceEqDiff,reduceCtorEq,Nat.reduceAdd,Nat.reduceSub,Nat.reduceMul,Nat.reduceLeDiff,Nat.reduceLT,Int.reduceLE,Int.reduceToNat,Int.reduceNeg,↓reduceIte]) (g:Kk o ens=true:=by rfl) (hn:JX ns σ.objs ens=true:=by rfl) (e:Oz τ.objs ens=true:=by rfl)
  (hf:I3 ns ens=ens:=by simp only[go_sem,Nat.reduceEqDiff,reduceCtorEq,Nat.reduceAdd,Nat.reduceSub,Nat.reduceMul,Nat.reduceLeDiff,Nat.reduceLT,Int.reduceLE,Int.reduceToNat,Int.reduceNeg,↓reduceIte]) (d:Iu c.nt o=true:=by rfl):X7 c o σ ens N:=qG b ns h f g hn e hf d i a
theorem evP (a:c.Ok) {id:Nat} {l:List Oper} (n:Nat) {vc:Prop} (b:vc) (hk:HN c R k l.toArray (l.drop n) σ') (h:Bt c.tb l (l.take n) σ=some (vc,σ'):=by simp only[AAA,AAS,go_sem,Nat.reduceEqDiff,reduceCtorEq,Nat.reduceAdd,Nat.reduceSub,Nat.reduceMul,Nat.reduceLeDiff,Nat.reduceLT,Int.reduceLE,Int.reduceToNat,Int.reduceNeg,↓reduceIte];rfl):Ev c R (.run (.region id l.toArray false)) k σ:=v4 a n h b hk
theorem clG (r:c.Ok) {ops:Array Oper} {rest:List Oper} {dst:Option Nat} {g:Operand} {xs:List Operand} {ts:Array TypeId} {ty:TypeId} {pos:String} {after:Array Edge} {e:Option (Nat×Bool)} {f:FuncId} {d:List Nat} {as:List AV}
  {A:List AV} {objs:List (Nat×Obj)} {stay:List Nat} {post:AV→List (Nat×Obj)→Prop} (m:BL c.P f A objs stay post) (ren:List (Nat×CO)) (hs:List Nat) (l:Bh σ ren (as++d.map fun n=>AV.bp n [] 0) A) (o:Ak σ.objs ren objs)
  (hk:∀res h,post res h→∃(a:List (Nat×CO)) (i:AV) (b:List (Nat×Obj)),CT a=true∧Cm b a=true∧Ak h a b∧Bx a res i ∧
   LI ren a stay hs=true∧HD (Au ren) b σ.objs=true∧HN c R k ops rest (Cn σ (Au ren) hs dst i b))
  (t:ER ops.toList σ e=some true:=by simp only[go_sem,Nat.reduceEqDiff,reduceCtorEq,Nat.reduceAdd,Nat.reduceSub,Nat.reduceMul,Nat.reduceLeDiff,Nat.reduceLT,Int.reduceLE,Int.reduceToNat,Int.reduceNeg,↓reduceIte]) (s:Dg (Ae σ g)=some (f,d):=by simp only[go_sem,Nat.reduceEqDiff,reduceCtorEq,Nat.reduceAdd,Nat.reduceSub,Nat.reduceMul,Nat.reduceLeDiff,Nat.reduceLT,Int.reduceLE,Int.reduceToNat,Int.reduceNeg,↓reduceIte];rfl) (q:LY σ xs=some as:=by simp only[go_sem,Nat.reduceEqDiff,reduceCtorEq,Nat.reduceAdd,Nat.reduceSub,Nat.reduceMul,Nat.reduceLeDiff,Nat.reduceLT,Int.reduceLE,Int.reduceToNat,Int.reduceNeg,↓reduceIte];rfl) (h1:CT ren=true:=by rfl) (j:Cm objs ren=true:=by rfl) (u:(c.ds.pin.all fun p=>!AX p.1 hs)=true:=by rfl) :
  HN c R k ops (⟨dst,.call ⟨.value g,xs.toArray,ts⟩,ty,pos,after,e⟩ :: rest) σ:=qM r t s q m ren hs h1 j u l o hk
theorem GP (l:List Nat) {n:mW} {a:St} (hk:Ev c R n k a) (h:Ca l σ=a:=by simp only[go_sem,Nat.reduceEqDiff,reduceCtorEq,Nat.reduceAdd,Nat.reduceSub,Nat.reduceMul,Nat.reduceLeDiff,Nat.reduceLT,Int.reduceLE,Int.reduceToNat,Int.reduceNeg,↓reduceIte];rfl):Ev c R n k σ:=Ev.ent hk (m6 l h fun _ _ h=>h)
theorem A4E (l:List Nat) {a:St} (b:Ent c a σ') (h:Ca l σ=a:=by simp only[go_sem,Nat.reduceEqDiff,reduceCtorEq,Nat.reduceAdd,Nat.reduceSub,Nat.reduceMul,Nat.reduceLeDiff,Nat.reduceLT,Int.reduceLE,Int.reduceToNat,Int.reduceNeg,↓reduceIte];rfl):Ent c σ σ':=m6 l h b
end
theorem eT {p:Prop} (h:p:=by simp only[TJ,p8,QU,WP,H5,KX,JU,go_sem,Nat.reduceEqDiff,reduceCtorEq,Nat.reduceAdd,Nat.reduceSub,Nat.reduceMul,Nat.reduceLeDiff,Nat.reduceLT,Int.reduceLE,Int.reduceToNat,Int.reduceNeg,↓reduceIte]<;>fail):p:=h
section
variable {P:Program} {ty:List (Nat×TI)} {fs:List (Nat×Ac)} {nt:Nat} {f:FuncId} {fn:Func} {cd:Code}
theorem fKP (b c:List Nat) (ne:List (Nat×TypeId)) {a:Ac} (g:P.funcs[f]?=some fn) (k:fn.ntmps=nt) (hF:Iq P ⟨ty,fs,c,ne,b⟩)
  (h:∀(w0:World) (O0:Nat→Prop) (ds:KI a.ins),(cx P ⟨ty,fs,c,ne,b⟩ w0 O0 nt).Ok→oks a.ins ds→a.pre ds→Ev (cx P ⟨ty,fs,c,ne,b⟩ w0 O0 nt) (Rb P fn w0 O0 (a.out ds)) (.run cd) [] ⟨AM 0 a.ins ds,[]⟩)
  (d : fn.body = some cd := by rfl) (hT : DB P ⟨ty, fs, c, ne, b⟩ := by exact tyTab_ok _ _ _ _) (j : (fn.name == "runtime.NumGoroutine") = false := by kernel_rfl) (i : a.ins.length ≤ nt := by decide) (e : Bk nt cd = true := by kernel_rfl) : Ah P f a := A2Q g j d k i e hT hF h
theorem fK (b:List Nat) {a:Ac} (e:P.funcs[f]?=some fn) (j:fn.ntmps=nt) (hF:Iq P ⟨ty,fs,[],[],b⟩)
  (h:∀(w0:World) (O0:Nat→Prop) (ds:KI a.ins),(cx P ⟨ty,fs,[],[],b⟩ w0 O0 nt).Ok→oks a.ins ds→a.pre ds→Ev (cx P ⟨ty,fs,[],[],b⟩ w0 O0 nt) (Rb P fn w0 O0 (a.out ds)) (.run cd) [] ⟨AM 0 a.ins ds,[]⟩)
  (c : fn.body = some cd := by rfl) (hT : DB P ⟨ty, fs, [], [], b⟩ := by exact tyTab_ok _ _ _ _) (i : (fn.name == "runtime.NumGoroutine") = false := by kernel_rfl) (g : a.ins.length ≤ nt := by decide) (d : Bk nt cd = true := by kernel_rfl) : Ah P f a := A2Q e i c j g d hT hF h
variable {args:List AV} {objs:List (Nat×Obj)} {stay:List Nat} {post:AV→List (Nat×Obj)→Prop}
theorem La (a b:List Nat) (ne:List (Nat×TypeId)) (e:P.funcs[f]?=some fn) (k:fn.ntmps=nt) (hF:Iq P ⟨ty,fs,b,ne,a⟩)
  (h:∀(w0:World) (K O0:Nat→Prop) (ρ0:Nat→Value),(cm P ⟨ty,fs,b,ne,a⟩ w0 K O0 nt (stay.map fun n=>(n,ρ0 n))).Ok→Ow args→Nk objs →
   Ev (cm P ⟨ty,fs,b,ne,a⟩ w0 K O0 nt (stay.map fun n=>(n,ρ0 n))) (A1F P fn w0 K O0 stay ρ0 post) (.run cd) [] ⟨Ao 0 args,objs⟩)
  (c : fn.body = some cd := by rfl) (hT : DB P ⟨ty, fs, b, ne, a⟩ := by exact tyTab_ok _ _ _ _) (j : (fn.name == "runtime.NumGoroutine") = false := by kernel_rfl) (i : args.length ≤ nt := by simp only [No, AAM]; omega) (d : Bk nt cd = true := by kernel_rfl) (l : stay.all (Rd objs) = true := by rfl) (g : Ln objs = true := by rfl) : BL P f args objs stay post := A3w e j c k i d l g hT hF h
theorem fKR (a b:List Nat) (ne:List (Nat×TypeId)) (e:P.funcs[f]?=some fn) (k:fn.ntmps=nt) (hF:Iq P ⟨ty,fs,b,ne,a⟩)
  (h:∀(w0:World) (K O0:Nat→Prop) (ρ0:Nat→Value),(cm P ⟨ty,fs,b,ne,a⟩ w0 K O0 nt (stay.map fun n=>(n,ρ0 n))).Ok→Ow args→Nk objs →
   Ev (cm P ⟨ty,fs,b,ne,a⟩ w0 K O0 nt (stay.map fun n=>(n,ρ0 n))) (vV P fn w0 K O0 stay ρ0 post) (.run cd) [] ⟨Ao 0 args,objs⟩)
  (c : fn.body = some cd := by rfl) (hT : DB P ⟨ty, fs, b, ne, a⟩ := by exact tyTab_ok _ _ _ _) (j : (fn.name == "runtime.NumGoroutine") = false := by kernel_rfl) (i : args.length ≤ nt := by simp only [No, AAM]; omega) (d : Bk nt cd = true := by kernel_rfl) (l : stay.all (Rd objs) = true := by rfl) (g : Ln objs = true := by rfl) : BL P f args objs stay post := A1K e j c k i d l g hT hF h
end
theorem fI {P:Program} {tb:Tb} {w0:World} {O0:Nat→Prop} {nt:Nat} (c:(cx P tb w0 O0 nt).Ok) {fn:Func} {a:List RV} {σ:St} {e:Exit} (b:List ResultVar) (h:NL tb σ b a:=by exact eR) (hr:fn.results.toList=b:=by rfl) (f:e=.ret∨e=.normal:=by exact .inl rfl) (hp:∀r∈a,∃t d,r=.p t d:=by simp) :
  Ev (cx P tb w0 O0 nt) (Rb P fn w0 O0 a) (.out e) [] σ:=A3u c b hr f hp h
theorem fM {P:Program} {tb:Tb} {w0:World} {K O0:Nat→Prop} {nt:Nat} {stay:List Nat} {ρ0:Nat→Value} {fn:Func} {post:AV→List (Nat×Obj)→Prop} {σ:St} {e:Exit} (b:(cm P tb w0 K O0 nt (stay.map fun n=>(n,ρ0 n))).Ok)
  (a:List ResultVar) (res:AV) (h:TJ tb σ a res) (hp:post res σ.objs) (hr:fn.results.toList=a:=by rfl) (c:e=.ret∨e=.normal:=by first|exact .inl rfl|exact .inr rfl) :
  Ev (cm P tb w0 K O0 nt (stay.map fun n=>(n,ρ0 n))) (A1F P fn w0 K O0 stay ρ0 post) (.out e) [] σ:=A1G b a hr c res h hp
end
section
open Go Go.RowKit
structure Te (X σ:St) (n:Nat):Prop where
 env:∀s v,lk s X.env=some v→v.trn n []=v
 arr:∀m o,lk m X.objs=some o→Lx o=true
 new:∀m o,lk m X.objs=some o→lk m σ.objs=none
 nm:∀m o,lk m X.objs=some o→m≠n
section
variable {σ σ' X:St} {n:Nat}
theorem Te.obs (b:M3 σ σ' X) (ha:Te X σ n):iI σ σ':=by
 intro m o hn;rw[b.objs];cases a:lk m X.objs with
 | none=>exact hn
 | some c=>rw[ha.new m c a]at hn;cases hn
theorem A70 (b:M3 σ σ' X) (ha:Te X σ n) {en:List (Nat×AV)} {new:List (Nat×Obj)} (c:∀s v,lk s en=some v→lk s X.env=none) (e:∀m o,lk m new=some o→lk m X.objs=none) :
  M3 ⟨en++Dk n [] σ.env,new++CR n [] σ.objs⟩ ⟨en++Dk n [] σ'.env,new++CR n [] σ'.objs⟩ X:=by
 refine⟨fun s=>?_,fun m=>?_⟩
 ·simp only[A0];cases hs:lk s en with
  | some v=>rw[c s v hs];rfl
  | none =>
   rw[X1,X1,b.env];cases a:lk s X.env with
   | none=>rfl
   | some w=>simp[ha.env s w a]
 ·simp only[A0];cases d:lk m new with
  | some o=>rw[e m o d];rfl
  | none =>
   rw[DR,DR,b.objs];cases a:lk m X.objs with
   | none=>rfl
   | some w =>
    rw[At fun h=>ha.nm m w a (by simpa using (AZ _ _).1 h)];exact AAX some (WY (ha.arr m w a))
def jI (σ:St):Op→Option Nat
 | .call c=>match c.callee,c.args.toList,c.argTypes.toList with
  | .builtin .append,[x,_],[_,_]=>(match Ae σ x with|some (.nin n _ _ _)=>some n|_=>none)
  | _,_,_=>none
 | _=>none
theorem A1L {tb:Tb} {op:Op} {d:Option Nat} {vc:Prop} {τ:St} (j:M3 σ σ' X) (ha:Te X σ n) (r:qE σ σ' op.operands.toList) (a:jI σ op=some n) (G:∀t,d=some t→lk t X.env=none) (E:∀n,(∃u,lk n τ.objs=some u)→lk n X.objs=none) (h:E2 tb σ d op=some (vc,τ)) :
  (∃B,E2 tb σ' d op=some (vc,B)∧M3 τ B X)∧(∀k,aq tb σ' k op=none)∧(∀k,aq tb σ k op=none)∧CB σ op=[]∧CB σ' op=[]:=by
 have p:=ha.obs j;cases op<;>try(cases a;done)
 rename_i cl;obtain⟨callee,⟨args⟩,⟨argTypes⟩⟩:=cl;simp only[jI]at a;split at a
 ·rename_i x y t u;cases f:Ae σ x with
  | none=>rw[f]at a;cases a
  | some xv =>
   rw[f]at a;cases xv<;>try(cases a;done)
   rename_i Q e i len;cases a;have z:Ae σ' x=Ae σ x:=r x (by simp[Op.operands,Call.operands]);have N:Ae σ' y=Ae σ y:=r y (by simp[Op.operands,Call.operands]);refine⟨?_,fun k=>by simp[aq,CZ,Ck,CS,z,f],fun k=>by simp[aq,CZ,Ck,CS,f],rfl,rfl⟩;simp only[E2,Cv,DH,f]at h;simp only[E2,Cv,DH,Cu,z,f,N];cases A:Ae σ y with
   | none=>rw[A]at h;unfold Cu at h;cases h
   | some v =>
    rw[A]at h;simp only[Cu]at h;split at h
    ·rename_i b;have H:=G b rfl;simp only;split at h
     ·rename_i M;rw[BY M];unfold Lh at h ⊢;split at h
      ·rename_i O R el b2 L;try rw[L]
       try simp only
       split at h
       ·rename_i J;rw[BY J];unfold NE at h ⊢;split at h
        ·rename_i ti et P k c xs h1 K;try rw[h1]
         try rw[p _ _ K]
         try simp only
         split at h
         ·rename_i F;rw[BY F];unfold LC at h ⊢;split at h
          ·rename_i ys C;rw[Lq p C];try simp only
           split at h
           ·rename_i m;have l:lk b X.objs=none:=by
             refine E b ?_;cases h;exact⟨_,by simp only[lk,AAC];rfl⟩
            have I:(lk b σ'.objs).isNone=true∧ys.isEmpty=false:=⟨by rw[j.objs,l];exact m.1,m.2⟩;rw[BY I];cases h;refine⟨_,rfl,A70 (en:=[(b,_)]) (new:=[(b,_),(n,_)]) j ha (fun s v h=>?_) (fun q o g=>?_)⟩
            ·simp only[lk]at h;split at h
             ·rename_i c;rw[c];exact H
             ·cases h
            ·simp only[lk]at g;split at g
             ·rename_i c;rw[c];exact l
             ·split at g
              ·rename_i c;rw[c];cases D:lk n X.objs with
               | none=>rfl
               | some w=>exact absurd rfl (ha.nm n w D)
              ·cases g
           ·cases h
          ·cases h
         ·cases h
        ·cases h
       ·cases h
      ·cases h
     ·cases h
    ·cases h
 ·cases a
end
def Tf (n:Nat):EN→EN
 | []=>[]
 | (d,v,obs) :: r=>(d,v.trn n [],obs) :: Tf n r
theorem Tg {n:Nat}:∀ {ens:EN},Tf n ens=ens→∀e∈ens,e.2.1.trn n []=e.2.1
 | [],_,e,a=>by cases a
 | (d,v,obs) :: r,h,e,a=>by
  simp only[Tf,ABg,ACw,and_true,true_and]at h;rcases GO.1 a with rfl|a
  ·exact h.1
  ·exact Tg h.2 e a
section
variable {c:Cx} {o:Oper} {σ:St} {ens:EN} {N:St→Prop}
theorem v5 (L:c.Ok) {τ:St} {vc:Prop} (n:Nat) (h:Fk c.tb o σ=some (vc,τ)) (b:jI σ o.op=some n) (B:Kk o ens=true) (hn:JX [n] σ.objs ens=true) (O:Oz τ.objs ens=true) (hf:Tf n ens=ens) (M:Iu c.nt o=true) (S:vc) (H:N τ):X7 c o σ ens N:=by
 intro X σ' C g a w next Q hs hk
 have ha:Te X σ n:=by
  refine⟨fun s v hs=>?_,fun m o l=>?_,fun m o l=>?_,fun m o l=>?_⟩
  ·obtain⟨obs,i⟩:=g.env s v hs;exact Tg hf _ i
  all_goals
   obtain⟨e,k,hp⟩:=g.objs m o l;have:=FX hn e k _ hp
  ·exact this.2.2
  ·exact this.1
  ·exact fun E=>this.2.1 (by simp[E])
 have J:∀t∈GL o.op,lk t X.env=none:=fun t q=>by
  cases f:lk t X.env with
  | none=>rfl
  | some v=>obtain⟨obs,i⟩:=g.env t v f;exact absurd q (Ee B _ i).1
 have I:∀t,o.dst=some t→lk t X.env=none:=fun t q=>by
  cases f:lk t X.env with
  | none=>rfl
  | some v=>obtain⟨obs,i⟩:=g.env t v f;exact absurd q (Ee B _ i).2
 have K:∀n,(∃u,lk n τ.objs=some u)→lk n X.objs=none:=fun n hu=>by
  cases f:lk n X.objs with
  | none=>rfl
  | some v =>
   obtain⟨e,k,hp⟩:=g.objs n v f;obtain⟨u,hu⟩:=hu;rw[Kl O e k _ hp]at hu;cases hu
 have P:=SY C J;have key:∃d,Fk c.tb o σ'=some (vc,d)∧M3 τ d X:=by
  have A:CB σ o.op=[]∧CB σ' o.op=[]:=by
   obtain⟨dst,op,ty,pos,after,F⟩:=o;simp only at b ⊢;cases op<;>first|exact⟨rfl,rfl⟩|cases b
  unfold Fk NI at h ⊢;rw[A.1]at h;rw[A.2];simp only[Ca]at h ⊢;cases p:aq c.tb σ (o.dst.getD 0) o.op with
  | some r =>
   obtain⟨dst,op,ty,pos,after,F⟩:=o;simp only at b p;exfalso;cases op<;>try(cases b;done)
   rename_i cl;obtain⟨callee,⟨args⟩,⟨argTypes⟩⟩:=cl;simp only[jI]at b;split at b
   ·rename_i x y t u;cases z:Ae σ x with
    | none=>rw[z]at b;cases b
    | some xv =>
     rw[z]at b;cases xv<;>try(cases b;done)
     simp[aq,CZ,Ck,CS,z]at p
   ·cases b
  | none =>
   rw[p]at h;simp only[Jk]at h;obtain⟨⟨d,h1,j⟩,G,_⟩:=A1L C ha P b I K h;rw[G];simp only[Jk];exact⟨d,h1,j⟩
 obtain⟨d,h1,j⟩:=key;exact Ol L hs h1 S (Bq M) fun D w' R=>hk τ H D w' d j R
theorem mxN (b:c.Ok) {τ:St} {vc:Prop} (n:Nat) (i:vc) (a:N τ) (h:Fk c.tb o σ=some (vc,τ):=by simp only[go_sem,Nat.reduceEqDiff,reduceCtorEq,Nat.reduceAdd,Nat.reduceSub,Nat.reduceMul,Nat.reduceLeDiff,Nat.reduceLT,Int.reduceLE,Int.reduceToNat,Int.reduceNeg,↓reduceIte];rfl) (f:jI σ o.op=some n:=by simp only[go_sem,Nat.reduceEqDiff,reduceCtorEq,Nat.reduceAdd,Nat.reduceSub,Nat.reduceMul,Nat.reduceLeDiff,Nat.reduceLT,Int.reduceLE,Int.reduceToNat,Int.reduceNeg,↓reduceIte]) (g:Kk o ens=true:=by rfl) (hn:JX [n] σ.objs ens=true:=by rfl) (e:Oz τ.objs ens=true:=by rfl)
  (hf:Tf n ens=ens:=by simp only[go_sem,Nat.reduceEqDiff,reduceCtorEq,Nat.reduceAdd,Nat.reduceSub,Nat.reduceMul,Nat.reduceLeDiff,Nat.reduceLT,Int.reduceLE,Int.reduceToNat,Int.reduceNeg,↓reduceIte]) (d:Iu c.nt o=true:=by rfl):X7 c o σ ens N:=v5 b n h f g hn e hf d i a
end
end
section
open Go Go.RowKit
section
variable {P:Program} {tb:Tb} {w0:World} {K O0:Nat→Prop} {nt:Nat} {ds:Fp} {σ:St} {ρ:Nat→Value} {a:Act} {w:World}
theorem Bo.swapP (h:Bo w0 K O0 nt ds σ ρ a w) (z:∀b,K b→b<w0.heap.size) (I:∀b,O0 b→b<w0.heap.size) {T:Nat→Prop} (hT:∀n,T n→∃o,lk n σ.objs=some o) (J:∀p∈ds.pin,¬T p.1)
  {new:List (Nat×Obj)} {σ':St} {ρ':Nat→Value} {w':World} {dst:Option Nat} {u:Value}
  (X:w'.os=w.os) (aa:w'.tape=w.tape) (Y:w'.output=w.output) (Z:w.heap.size≤w'.heap.size)
  (O:∀b,b<w.heap.size→(∀n,T n→¬bk (ρ n) b)→w'.heap[b]?=w.heap[b]?)
  (q:∀n o,lk n σ'.objs=some o→lk n new=none→¬T n∧∃d,lk n σ.objs=some d)
  (P:∀n o,lk n σ.objs=some o→¬T n→lk n new=none∧∃d,lk n σ'.objs=some d)
  (j:∀n,lk n new=none→ρ' n=ρ n)
  (D:∀n o b,lk n new=some o→bk (ρ' n) b→(∃m,T m∧bk (ρ m) b)∨w.heap.size≤b)
  (L:∀n m o r b,lk n new=some o→lk m new=some r→bk (ρ' n) b→bk (ρ' m) b→n=m)
  (W:∀n o,lk n σ'.objs=some o→A1 (vw w' O0 σ' ρ') o (ρ' n))
  (M:∀s v,lk s σ'.env=some v→B2 (vw w' O0 σ' ρ') v ((a.put dst u).tmps.getD s undef)) :
  Bo w0 K O0 nt ds σ' ρ' (a.put dst u) w':=by
 have ad:∀m,T m→∀b,bk (ρ m) b→b<w.heap.size:=fun m c b i=>by
  obtain⟨o,f⟩:=hT m c;exact(h.objs m o f).block_lt i
 have A:∀m,T m→∀b,bk (ρ m) b→¬K b∧¬O0 b:=fun m c b i=>by
  obtain⟨o,f⟩:=hT m c;exact h.free m b ⟨o,f⟩ i
 refine⟨⟨X.trans h.frm.os,aa.trans h.frm.tape,Y.trans h.frm.output,To h.frm.size Z,fun k hk=>?_⟩,by rw[Jn];exact h.nt,by rw[GI];exact h.defers,fun p hp=>?_,W,?_,?_,M⟩
 ·exact(O k (AAu (z k hk) h.frm.size) fun n hn i=>(A n hn k i).1 hk).trans (h.frm.block k hk)
 ·obtain⟨⟨o,h1⟩,g,H⟩:=h.pin p hp;have R:¬T p.1:=J p hp;obtain⟨F,G⟩:=P p.1 o h1 R;exact⟨G,(j _ F).trans g,H⟩
 ·intro n b y i;obtain⟨o,f⟩:=y;cases hn:lk n new with
  | none =>
   obtain⟨_,d,h1⟩:=q n o f hn;rw[j n hn]at i;exact h.free n b ⟨d,h1⟩ i
  | some e =>
   rcases D n e b hn i with ⟨m,c,t⟩|N
   ·exact A m c b t
   ·have:=h.frm.size;exact⟨fun x=>by have:=z b x;omega,fun x=>by have:=I b x;omega⟩
 ·have key:∀n m o e b,lk n σ'.objs=some o→lk n new=none→lk m new=some e→bk (ρ' n) b→bk (ρ' m) b→False:=by
   intro n m o e b f hn c h1 g;obtain⟨S,d,l⟩:=q n o f hn;rw[j n hn]at h1;rcases D m e b c g with ⟨E,B,t⟩|N
   ·obtain⟨ab,V⟩:=hT E B;have:=h.dist n E b ⟨d,l⟩ ⟨ab,V⟩ h1 t;exact S (this▸B)
   ·have ae:b<w.heap.size:=(h.objs n d l).block_lt h1;omega
  intro n m b y Q h1 g;obtain⟨o,f⟩:=y;obtain⟨r,C⟩:=Q;cases hn:lk n new with
  | none =>
   cases c:lk m new with
   | none =>
    obtain⟨_,d,l⟩:=q n o f hn;obtain⟨_,e,U⟩:=q m r C c;rw[j n hn]at h1;rw[j m c]at g;exact h.dist n m b ⟨d,l⟩ ⟨e,U⟩ h1 g
   | some e=>exact(key n m o e b f hn c h1 g).elim
  | some d =>
   cases c:lk m new with
   | none=>exact(key m n r d b C c hn g h1).elim
   | some e=>exact L n m d e b hn c h1 g
theorem Bo.swap1P (h:Bo w0 K O0 nt ds σ ρ a w) (ad:∀b,K b→b<w0.heap.size) (H:∀b,O0 b→b<w0.heap.size) {tl:List Nat} (hT:∀n,n∈tl→∃o,lk n σ.objs=some o) (ae:∀p∈ds.pin,¬p.1∈tl)
  {f:Nat} (am:f∈tl∨lk f σ.objs=none) {q:Obj} {loc:Value} {w':World}
  (ap:w'.os=w.os) (av:w'.tape=w.tape) (aq:w'.output=w.output) (ar:w.heap.size≤w'.heap.size)
  (J:∀b,b<w.heap.size→(∀n,n∈tl→¬bk (ρ n) b)→w'.heap[b]?=w.heap[b]?)
  (R:∀b,bk loc b→(∃m,m∈tl∧bk (ρ m) b)∨w.heap.size≤b)
  (ao:∀V':Vw,V'.w=w'→CN ⟨w,own O0 σ ρ,fun _=>False,ρ⟩ V'→(∀b m,m∈tl→bk (ρ m) b→¬bk loc b→¬V'.O b)→A1 V' q loc)
  {d:Nat} (ag:d<nt) {v:AV} {u:Value} (af:∀V':Vw,V'.L f→V'.ρ f=loc→B2 V' v u) :
  Bo w0 K O0 nt ds ⟨(d,v) :: Bi tl σ.env,(f,q) :: Ad tl tl σ.objs⟩ (EM ρ f loc) (a.put (some d) u) w':=by
 let S:St:=⟨(d,v) :: Bi tl σ.env,(f,q) :: Ad tl tl σ.objs⟩
 have E:∀m o,lk m S.objs=some o→(m=f∧o=q)∨(m≠f∧m∉tl∧∃e,lk m σ.objs=some e∧o=e.fgt tl):=by
  intro m o c;simp only[S,lk]at c;split at c
  ·rename_i A;cases c;exact .inl ⟨A,rfl⟩
  ·rename_i A;rw[Bb]at c;split at c
   ·cases c
   ·rename_i X;simp only[Is]at c;obtain⟨e,h1,rfl⟩:=c;exact .inr ⟨A,fun h=>X ((AZ _ _).2 h),e,h1,rfl⟩
 have P:∀m,m≠f→m∉tl→∀e,lk m σ.objs=some e→lk m S.objs=some (e.fgt tl):=by
  intro m h1 i e g;simp only[S,lk,At h1,Bb,g];rw[At fun h=>i ((AZ _ _).1 h)];rfl
 have M:∀m,m∉tl→(∃o,lk m σ.objs=some o)→m≠f:=by
  rintro m h1 ⟨o,i⟩ rfl;rcases am with g|g
  ·exact h1 g
  ·rw[g]at i;cases i
 have r:EM ρ f loc f=loc:=Bj _ _ _;have z:∀m,m≠f→EM ρ f loc m=ρ m:=fun m h1=>by simp[EM,h1]
 generalize EM ρ f loc=ρ' at r z;have V:∀b,b<w.heap.size→¬own O0 σ ρ b→¬own O0 S ρ' b:=by
  intro b k B ax;rcases ax with h0|⟨m,⟨o,an⟩,F⟩
  ·exact B (.inl h0)
  ·rcases E m o an with ⟨rfl,_⟩|⟨h1,i,e,g,_⟩
   ·rw[r]at F;rcases R b F with ⟨t,au,N⟩|N
    ·obtain⟨e,l⟩:=hT t au;exact B (.inr ⟨t,⟨e,l⟩,N⟩)
    ·omega
   ·rw[z m h1]at F;exact B (.inr ⟨m,⟨e,g⟩,F⟩)
 have Q:∀b,b<w.heap.size→¬own O0 σ ρ b→w'.heap[b]?=w.heap[b]?:=fun b k B=>J b k fun n hn I=>by
  obtain⟨e,l⟩:=hT n hn;exact B (.inr ⟨n,⟨e,l⟩,I⟩)
 have ai:CN ⟨w,own O0 σ ρ,fun _=>False,ρ⟩ (vw w' O0 S ρ'):=⟨V,fun _ h=>h.elim,fun _ h=>h.elim,Q⟩;have hk:CN ((vw w O0 σ ρ).buts tl) (vw w' O0 S ρ'):=by
  refine⟨V,fun m c=>?_,fun m c=>?_,Q⟩
  ·obtain⟨⟨e,h1⟩,i⟩:=c;have g:m∉tl:=fun h=>by rw[(AZ _ _).2 h]at i;cases i
   exact⟨_,P m (M m g ⟨e,h1⟩) g e h1⟩
  ·obtain⟨⟨e,h1⟩,i⟩:=c;have g:m∉tl:=fun h=>by rw[(AZ _ _).2 h]at i;cases i
   exact z m (M m g ⟨e,h1⟩)
 refine h.swapP ad H (T:=fun m=>m∈tl) hT ae (new:=[(f,q)]) ap av aq ar J ?_ ?_ ?_ ?_ ?_ ?_ ?_
 ·intro m o c ak;rcases E m o c with ⟨rfl,_⟩|⟨h1,i,e,g,_⟩
  ·simp[lk]at ak
  ·exact⟨i,e,g⟩
 ·intro m e c U;have h1:=M m U ⟨e,c⟩;exact⟨by simp[lk,h1],_,P m h1 U e c⟩
 ·intro m c;exact z m fun A=>by simp[lk,A]at c
 ·intro m o b c k;have h1:m=f:=by
   by_cases h1:m=f
   ·exact h1
   ·simp[lk,h1]at c
  rw[h1,r]at k;exact R b k
 ·intro m C o ay b c aj _ _;have key:∀j o,lk j [(f,q)]=some o→j=f:=fun j o ah=>by
   by_cases h1:j=f
   ·exact h1
   ·simp[lk,h1]at ah
  rw[key m o c,key C ay aj]
 ·intro m o c;rcases E m o c with ⟨rfl,rfl⟩|⟨h1,i,e,g,rfl⟩
  ·rw[r];refine ao _ rfl ai fun b m c k al H=>?_;obtain⟨W,l⟩:=hT m c;rcases H with h0|⟨C,⟨az,ab⟩,D⟩
   ·exact(h.free m b ⟨W,l⟩ k).2 h0
   ·rcases E C az ab with ⟨rfl,_⟩|⟨Y,Z,e,aa,_⟩
    ·rw[r]at D;exact al D
    ·rw[z C Y]at D;exact Z ((h.dist C m b ⟨_,aa⟩ ⟨_,l⟩ D k)▸c)
  ·rw[z m h1];refine SM hk (fun b k=>J b ((h.objs m e g).block_lt k) fun n hn I=>?_) (h.objs m e g);obtain⟨W,l⟩:=hT n hn;exact i ((h.dist m n b ⟨_,g⟩ ⟨_,l⟩ k I)▸hn)
 ·intro s x hs;rw[KR a d u s (by rw[h.nt];exact ag)];simp only[S,lk]at hs;split at hs
  ·rename_i G;cases hs;rw[BY G];exact af _ ⟨q,by simp[S,lk]⟩ r
  ·rename_i G;rw[At G];rw[ED]at hs;simp only[Is]at hs;obtain⟨y,aw,rfl⟩:=hs;exact(Oe (h.env s y aw)).keeps hk
end
theorem Zs {w:World} {O:Nat→Prop} {k v:Ty}:∀ {a:List MapEntry} {l:List (k.den×v.den)},Jm w O k v a l→a.length=l.length∧∀(i:Nat) (e:MapEntry),a[i]?=some e→∃x,l[i]?=some x∧BW w O k e.key x.1∧BW w O v e.val x.2
 | [],[],_=>⟨rfl,fun i e h=>by simp at h⟩
 | [],_ :: _,h=>h.elim
 | _ :: _,[],h=>h.elim
 | e :: a,x :: l,⟨h1,f,g⟩=>by
  obtain⟨c,d⟩:=Zs g;refine⟨by simp[c],fun i b h=>?_⟩;cases i with
  | zero=>simp at h;subst h;exact⟨x,by simp,h1,f⟩
  | succ i=>simp at h;simpa using d i b h
section
variable {c:Cx} {R:Exit→Act→World→Prop} {k:List DX} {σ:St}
end
end
section
open Go Go.RowKit
section
variable {c:Cx} {R:Exit→Act→World→Prop} {k:List DX} {σ σ':St}
end
theorem CQ {p:Prop} (h:p:=by first|exact trivial|((try dsimp only[Ty.den])<;>(repeat'(first|apply And.intro|intro _))<;>omega)|((try dsimp only[Ty.den]at *)<;>(repeat'(first|apply And.intro|intro _))<;>omega)):p:=h
end
section
open Go Go.RowKit
section
variable {c:Cx} {R:Exit→Act→World→Prop} {k:List DX} {σ σ':St}
theorem v6 (q:c.Ok) {d m len:Nat} {t:TypeId} {x:Operand} {ty:TypeId} {pos:String} {after:Array Edge} {f e:Ty} {offs:List (Nat×Nat)} {el G:TypeId} {S:Nat} {R:AV} {a0:f.den} {xs:List e.den}
  (ao:lk t c.tb.ty=some ⟨.slice (.agg (.prod f (.slice e))),offs,el,S⟩) (aq:Ae σ x=some (.ag [R,.sr m e 0 len])) (Y:EI false σ f R=some a0) (s:lk m σ.objs=some (.arr G e xs)) (ah:len=xs.length)
  (ak:(c.ds.pin.all fun p=>!AX p.1 [m])=true) (af:lk d σ.objs=none) (ba:f.size+1≤16777216)
  {a:Act} {w:World} {next:Act→World→Prop} {Q:Exit→Act→World→Prop} (am:c.sat σ a w) (ab:d<c.nt)
  (hk:∀H w',c.sat ⟨(d,.sr d (.agg (.prod f (.slice e))) 0 1) :: Bi [m] σ.env,(d,.nest el G f e [(a0,xs)] none) :: Ad [m] [m] σ.objs⟩ H w'→next H w') :
  (⟨some d,.buildSlice t 1 #[(0,x)],ty,pos,after,none⟩:Oper).wpIn (FR c.r) 0 c.P a w next Q:=by
 obtain⟨ρ,A⟩:=am;have ad:F4 (vw w c.O0 σ ρ) σ a.eval:=Dn A.env;obtain⟨hu,hs,te,an,ap⟩:=CD (q.T _ _ ao) q.T;obtain⟨z,ar,bc⟩:=Ll (q.T _ _ an) w;obtain⟨cs,aa,Z⟩:=ad x _ aq;obtain⟨c1,c2,rfl,h1,B⟩:=Z;obtain⟨av,U,rfl,X,C⟩:=B;have C:U=[]:=C;subst C;obtain⟨N,rfl,_,aw,l⟩:=X;have hom:=A.objs m _ s;have l:DA (plc (ρ m)) e.size 0 len N:=l;rw[OW hom,ah]at l;have aj:NX (vw w c.O0 σ ρ) G e xs (ρ m):=hom;obtain⟨ax,bd,au,be⟩:=hom;have l:N=ρ m:=It au l;subst l;have hr:=ZD (O':=own c.O0 σ ρ) (fun _ h=>h) (fun h=>by cases h) A.objs Y h1;have hr:Br w (own c.O0 σ ρ) f c1 a0:=hr;have F:=hr.length;have az:te.ty.size=f.size+1:=by rw[ap];rfl
 have hs:=hs w;rw[show (Ty.agg (.prod f (.slice e))).size=f.size+1 from rfl]at hs;have J:(a.eval x).cells.toList=c1++[ρ m]:=by rw[aa];simp[Value.cells]
 have al:Instr.fill (fun i=>some (i*(f.size+1),f.size+1)) ((Array.range (1*(f.size+1))).map (fun i=>z.cells[i % z.cells.size]!)) [(0,a.eval x)]=some (c1++[ρ m]).toArray:=by
  have L:(a.eval x).cells.size=f.size+1:=by rw[←ABh,J];simp[F]
  rw[OZ (by rw[L]) (by rw[L];simp)];rw[J];simp only[Instr.fill,ABX,Az,AAS,ABf,AAL];rw[List.drop_of_length_le (by simp[F]),AAa]
 have y:=SJ (w:=w) (et:=el) (sz:=f.size+1) (n:=1) (cells:=(c1++[ρ m]).toArray) (by simp[F]) (by simp[AO]);have y:(w.alloc (.cells (c1++[ρ m]).toArray el)).ownsRow 0 el (f.size+1) (.slice (some ⟨w.heap.size,0,none⟩) 1 1) 1 (c1++[ρ m]):=⟨y.1,y.2.imp (fun h=>h) fun⟨g,cap,W,e,_,r⟩=>⟨g,cap,W,e,IN _,r⟩⟩;have ae:(Instr.buildSlice t 1 #[(0,a.eval x)]).run c.P w=.ok (.slice (some ⟨w.heap.size,0,none⟩) 1 1) (w.alloc (.cells (c1++[ρ m]).toArray el)):=by
  have ai:¬(1*(f.size+1) > 16777216):=by omega
  have h0:¬(1*(f.size+1)=0):=by omega
  simp only[Instr.buildSlice,AAH,aS hu,AA6,hs,At ai,At h0,ar,AB6,al,newRow];rfl
 have M:∀b,bk (ρ m) b→b<w.heap.size:=fun b k=>(A.objs m _ s).block_lt k;refine Al (u:=.slice (some ⟨w.heap.size,0,none⟩) 1 1) (w':=w.alloc (.cells (c1++[ρ m]).toArray el)) (by simp[execOp,ae]) (hk _ _ ⟨EM ρ d (.tuple (.slice (some ⟨w.heap.size,0,none⟩) 1 1 :: [ρ m]).toArray),?_⟩);refine A.swap1P q.K q.O (tl:=[m]) (w':=w.alloc (.cells (c1++[ρ m]).toArray el)) (u:=.slice (some ⟨w.heap.size,0,none⟩) 1 1) (loc:=.tuple (.slice (some ⟨w.heap.size,0,none⟩) 1 1 :: [ρ m]).toArray) (by simpa using ⟨_,s⟩) (fun p hp s=>?_) (.inr af) rfl rfl rfl ?_ ?_ ?_ ?_ ab ?_
 ·have:=(Do.1 ak) p hp;rw[(AZ _ _).2 s]at this;cases this
 ·show w.heap.size≤(w.heap.push _).size;simp
 ·intro b2 o _;exact heap_alloc_old w _ o
 ·intro b2 o;rcases A6.1 o with k|⟨i,u,hi,k⟩
  ·simp[blk]at k;exact .inr (by omega)
  ·have:u=ρ m:=by
    rcases i with _|i
    ·simpa using hi.symm
    ·simp at hi
   subst this;exact .inl ⟨m,by simp,.inl k⟩
 ·intro V' I D ay;refine⟨_,[ρ m],c1++[ρ m],.inl rfl,by simp[AO],rfl,by rw[I];exact y,fun i bf u hi hu=>?_,fun i j b u v hi E hu bb=>?_,fun i b u hi k o=>?_⟩
  ·rcases i with _|i
   ·simp only[AAm,AAq]at hi hu;subst hi hu;exact⟨c1,ρ m,fun j z E=>by simpa using E,hr.mono D.O D.heap,.inr ⟨rfl,.inl rfl,NX.keeps (V:=⟨w,own c.O0 σ ρ,fun _=>False,ρ⟩) D (fun b k=>by rw[I];exact heap_alloc_old w _ (M b (.inl k))) aj⟩⟩
   ·simp at hi
  ·rcases i with _|i
   ·rcases j with _|j
    ·rfl
    ·simp at E
   ·simp at hi
  ·rcases i with _|i
   ·simp only[AAm,AAq]at hi;subst hi;have:=M b (.inl k);simp[blk]at o;omega
   ·simp at hi
 ·intro V' h1 B;refine⟨h1,?_⟩;rw[B];exact FN y
def M5 (a b:Ty) (k:a.den):List (a.den×b.den)→List (a.den×b.den)
 | []=>[]
 | x :: r=>if JH a k x.1=true then r else x :: M5 a b k r
theorem Zt {w:World} {O:Nat→Prop} {a b:Ty} {k:a.den}:∀ {c:List MapEntry} {l:List (a.den×b.den)},Jm w O a b c l→∀i,
  (HL a b k c l i=none∧M5 a b k l=l)∨∃(j:Nat) (v:Value),HL a b k c l i=some (i+j,v)∧j<c.length∧Jm w O a b (c.eraseIdx j) (M5 a b k l)
 | [],[],_,i=>.inl ⟨rfl,rfl⟩
 | [],_ :: _,h,_=>h.elim
 | _ :: _,[],h,_=>h.elim
 | e :: c,x :: l,⟨h1,o,m⟩,i=>by
  cases d:JH a k x.1 with
  | true =>
   refine .inr ⟨0,e.val,by simp[HL,d],by simp,?_⟩;simp only[M5,d,AAC,List.eraseIdx_cons_zero];exact m
  | false =>
   rcases Zt (k:=k) m (i+1) with ⟨f,g⟩|⟨j,v,f,g,n⟩
   ·exact .inl ⟨by simp[HL,d,f],by simp[M5,d,g]⟩
   ·refine .inr ⟨j+1,v,?_,by simp;omega,?_⟩
    ·simp only[HL,d,f,AAJ,AAU]
     congr 2
     omega
    ·simp only[M5,d,AAJ,AAU,List.eraseIdx_cons_succ];exact⟨h1,o,n⟩
theorem jJ {a:Array MapEntry} {cl:Nat} (h:QH a cl) (j:Nat):QH (a.eraseIdxIfInBounds j) cl:=by
 unfold QH at h ⊢;rw[ABW];have hs:=(List.eraseIdx_sublist a.toList j).map (·.born);exact⟨h.1.sublist hs,fun b c=>h.2 b (hs.subset c)⟩
theorem jK (N:c.Ok) {ops:Array Oper} {rest:List Oper} {n:Nat} {t u:TypeId} {m x:Operand} {ty:TypeId} {pos:String} {after:Array Edge} {d g:Ty} {l:List (d.den×g.den)} {xv:AV} {kd:d.den} {H I:TypeId}
  (W:Ae σ m=some (.mp n)) (ab:Ae σ x=some xv) (hn:lk n σ.objs=some (.mapo d g l)) (T:KJ false σ d xv=some kd) (hu:c.P.underlying t=some (.map H I)) (hr:S8 c.P H d)
  (hk:HN c R k ops rest ⟨σ.env,upd n (.mapo d g (M5 d g kd l)) σ.objs⟩) :
  HN c R k ops (⟨none,.call ⟨.builtin .delete,#[m,x],#[t,u]⟩,ty,pos,after,none⟩ :: rest) σ:=by
 intro O S a w aa;unfold wpListIn;rw[BY (by simp[Region.wanted])];obtain⟨ρ,z⟩:=aa;have E:F4 (vw w c.O0 σ ρ) σ a.eval:=Dn z.env;obtain⟨ad,b,s,X⟩:=E m _ W;have s:ρ n=_:=s;have r:=Jo (V:=vw w c.O0 σ ρ) (O':=own c.O0 σ ρ) (fun _ h=>h) (fun h=>by cases h) z.objs T (E x _ ab);obtain⟨b',y,cl,p,hh,q,D⟩:=z.objs n _ hn;rw[s]at p;injection p with p
 injection p with p
 subst p;have hh:w.heap[b]?=some (.map y cl):=hh;have r:BW w (own c.O0 σ ρ) d (a.eval x) kd:=r;have q:Jm w (own c.O0 σ ρ) d g y.toList l:=q;have F:=hr.find r q;obtain⟨f,Z,Q,M⟩:∃f:Array MapEntry,(Builtin.delete_ #[t,u] ty #[.map (some b),a.eval x]).run c.P w=.ok (.tuple #[]) { w with heap:=w.heap.setIfInBounds b (.map f cl) }∧Jm w (own c.O0 σ ρ) d g f.toList (M5 d g kd l)∧QH f cl:=by
  rcases Zt (k:=kd) q 0 with ⟨A,B⟩|⟨j,v,A,B,J⟩
  ·refine⟨y,?_,by rw[B];exact q,D⟩;simp[Builtin.delete_,aS hu,AAR hh,hr.check _ r,F,A,ABB _ hh]
  ·refine⟨y.eraseIdxIfInBounds j,?_,by rw[ABW];exact J,jJ D j⟩;simp[Builtin.delete_,aS hu,AAR hh,hr.check _ r,F,A,ABB _ hh]
 refine Al (u:=.tuple #[]) (w':={ w with heap:=w.heap.setIfInBounds b (.map f cl) }) (by simp[execOp,resolve,invoke,builtin,X,Z]) (hk (fun o Y=>O o (by simp[Y])) S _ _ ⟨ρ,?_⟩);have C:blk (ρ n)=some b:=by rw[s];rfl
 have G:w.grownBy { w with heap:=w.heap.setIfInBounds b (.map f cl) } (some b) :=
  ⟨rfl,rfl,rfl,by simp,fun i _ hi=>(AC7 hh).2 i (fun e=>hi (by rw[e]))⟩
 refine z.upd N.K hn C G ⟨b,f,cl,s,(AC7 hh).1,?_,M⟩;exact Q.mono (fun _ _ h=>h) (fun b2 U L=>G.block b2 U (fun e=>by injection e with e;subst e;exact L (.inr ⟨n,⟨_,hn⟩,.inl C⟩)))
theorem jL (j:c.Ok) {ops:Array Oper} {rest:List Oper} {d n:Nat} {t:TypeId} {m:Operand} {ty:TypeId} {pos:String} {after:Array Edge} {r s:Ty} {l:List (r.den×s.den)} {I x:TypeId}
  (C:Ae σ m=some (.mp n)) (hn:lk n σ.objs=some (.mapo r s l)) (hu:c.P.underlying t=some (.map I x)) (B:l.length≤AO)
  (hk:HN c R k ops rest ⟨(d,.p (.int .i64) (l.length:Int)) :: σ.env,σ.objs⟩) :
  HN c R k ops (⟨some d,.call ⟨.builtin .len,#[m],#[t]⟩,ty,pos,after,none⟩ :: rest) σ:=by
 intro q A a w G;unfold wpListIn;rw[BY (by simp[Region.wanted])];obtain⟨ρ,g⟩:=G;have z:F4 (vw w c.O0 σ ρ) σ a.eval:=Dn g.env;have N:d<c.nt:=Bq (q _ ABn) d rfl;obtain⟨L,b,h,D⟩:=z m _ C;have h:ρ n=_:=h;obtain⟨b',i,cl,f,hh,y,M⟩:=g.objs n _ hn;rw[h]at f;injection f with f
 injection f with f
 subst f;have hh:w.heap[b]?=some (.map i cl):=hh;have H:i.size=l.length:=by rw[←ABh];exact(Zs y).1
 have F:(Builtin.len_ #[t] ty #[.map (some b)]).run c.P w=.ok (.int .i64 (l.length:Int)) w:=by
  simp[Builtin.len_,aS hu,AAR hh,goInt,H]
 refine Al (u:=.int .i64 (l.length:Int)) (w':=w) (by simp[execOp,resolve,invoke,builtin,D,F]) (hk (fun o E=>q o (by simp[E])) A _ _ ⟨ρ,?_⟩);refine g.add j.K j.O (dst:=some d) (fun J e=>by injection e with e;omega) (v:=.p (.int .i64) (l.length:Int)) (obs:=[]) (ρ':=ρ) rfl (QS.still ?_);exact BM (by simp only[AO]at B;simp only[Iw];omega)
theorem A71 (g:c.Ok) {ops:Array Oper} {rest:List Oper} {n:Nat} {t u:TypeId} {m x:Operand} {ty:TypeId} {pos:String} {after:Array Edge} {b:Ty} {a:IntKind} {l:List (Int×b.den)} {xv:AV} {kd:Int} {d f:TypeId} {e:St}
  (hu:c.P.underlying t=some (.map d f)) (j:c.P.underlying d=some (.int a)) (hk:HN c R k ops rest e) (i:Ae σ m=some (.mp n):=by simp only[go_sem,Nat.reduceEqDiff,reduceCtorEq,Nat.reduceAdd,Nat.reduceSub,Nat.reduceMul,Nat.reduceLeDiff,Nat.reduceLT,Int.reduceLE,Int.reduceToNat,Int.reduceNeg,↓reduceIte];rfl) (o:Ae σ x=some xv:=by simp only[go_sem,Nat.reduceEqDiff,reduceCtorEq,Nat.reduceAdd,Nat.reduceSub,Nat.reduceMul,Nat.reduceLeDiff,Nat.reduceLT,Int.reduceLE,Int.reduceToNat,Int.reduceNeg,↓reduceIte];rfl) (hn:lk n σ.objs=some (.mapo (.int a) b l):=by simp only[go_sem,Nat.reduceEqDiff,reduceCtorEq,Nat.reduceAdd,Nat.reduceSub,Nat.reduceMul,Nat.reduceLeDiff,Nat.reduceLT,Int.reduceLE,Int.reduceToNat,Int.reduceNeg,↓reduceIte];rfl) (h:KJ false σ (.int a) xv=some kd:=by simp only[go_sem,Nat.reduceEqDiff,reduceCtorEq,Nat.reduceAdd,Nat.reduceSub,Nat.reduceMul,Nat.reduceLeDiff,Nat.reduceLT,Int.reduceLE,Int.reduceToNat,Int.reduceNeg,↓reduceIte];rfl)
  (p:⟨σ.env,upd n (.mapo (.int a) b (M5 (.int a) b kd l)) σ.objs⟩=e:=by simp only[go_sem,Nat.reduceEqDiff,reduceCtorEq,Nat.reduceAdd,Nat.reduceSub,Nat.reduceMul,Nat.reduceLeDiff,Nat.reduceLT,Int.reduceLE,Int.reduceToNat,Int.reduceNeg,↓reduceIte];rfl) :
  HN c R k ops (⟨none,.call ⟨.builtin .delete,#[m,x],#[t,u]⟩,ty,pos,after,none⟩ :: rest) σ:=jK g i o hn h hu (Gc rfl j) (p▸hk)
theorem A72 (f:c.Ok) {ops:Array Oper} {rest:List Oper} {d n:Nat} {t:TypeId} {m:Operand} {ty:TypeId} {pos:String} {after:Array Edge} {a b:Ty} {l:List (a.den×b.den)} {i e:TypeId}
  (hu:c.P.underlying t=some (.map i e)) (g:l.length≤AO) (hk:HN c R k ops rest ⟨(d,.p (.int .i64) (l.length:Int)) :: σ.env,σ.objs⟩) (h:Ae σ m=some (.mp n):=by simp only[go_sem,Nat.reduceEqDiff,reduceCtorEq,Nat.reduceAdd,Nat.reduceSub,Nat.reduceMul,Nat.reduceLeDiff,Nat.reduceLT,Int.reduceLE,Int.reduceToNat,Int.reduceNeg,↓reduceIte];rfl) (hn:lk n σ.objs=some (.mapo a b l):=by simp only[go_sem,Nat.reduceEqDiff,reduceCtorEq,Nat.reduceAdd,Nat.reduceSub,Nat.reduceMul,Nat.reduceLeDiff,Nat.reduceLT,Int.reduceLE,Int.reduceToNat,Int.reduceNeg,↓reduceIte];rfl) :
  HN c R k ops (⟨some d,.call ⟨.builtin .len,#[m],#[t]⟩,ty,pos,after,none⟩ :: rest) σ:=jL f h hn hu g hk
end
end
section
open Go Go.RowKit
section
variable {c:Cx} {R:Exit→Act→World→Prop} {k:List DX} {σ σ':St}
theorem jM (m:c.Ok) {ops:Array Oper} {rest:List Oper} {d:Nat} {t Q:TypeId} {x y:Operand} {ty:TypeId} {pos:String} {after:Array Edge} {i j:IntKind} {offs:List (Nat×Nat)} {z:Nat} {xv s:AV} {b f:Int×Int}
  (L:lk t c.tb.ty=some ⟨.agg (.prod (.int i) (.int j)),offs,0,z⟩) (M:Ae σ x=some xv) (N:Ae σ y=some s) (D:KJ false σ (.agg (.prod (.int i) (.int j))) xv=some b) (E:KJ false σ (.agg (.prod (.int i) (.int j))) s=some f)
  (hk:HN c R k ops rest ⟨(d,.p .bool (b.1==f.1&&b.2==f.2)) :: σ.env,σ.objs⟩) :
  HN c R k ops (⟨some d,.binOp .eql t x y Q,ty,pos,after,none⟩ :: rest) σ:=by
 intro q G a w J;unfold wpListIn;rw[BY (by simp[Region.wanted])];obtain⟨ρ,l⟩:=J;have r:F4 (vw w c.O0 σ ρ) σ a.eval:=Dn l.env;have X:d<c.nt:=Bq (q _ ABn) d rfl;have hp:MU c.P t i j:=(m.T _ _ L).1.1.2.2;have h1:=Jo (V:=vw w c.O0 σ ρ) (O':=own c.O0 σ ρ) (fun _ h=>h) (fun h=>by cases h) l.objs D (r x _ M);have g:=Jo (V:=vw w c.O0 σ ρ) (O':=own c.O0 σ ρ) (fun _ h=>h) (fun h=>by cases h) l.objs E (r y _ N);have h1:a.eval x=.agg #[.int i b.1,.int j b.2]:=FP h1;have g:a.eval y=.agg #[.int i f.1,.int j f.2]:=FP g;have I:(binOp .eql t (a.eval x) (a.eval y)).run c.P w=.ok (.bool (b.1==f.1&&b.2==f.2)) w:=by
  rw[h1,g];have:=S9 hp w b.1 b.2 f.1 f.2;simp only[binOp];simp[this]
 have F:(eqGuard .eql t x y (a.eval x) (a.eval y)).run c.P w=.ok () w:=by
  obtain⟨U,W,hu,-,-,⟨A,B⟩,-⟩:=hp;rw[h1,g];refine run_eqGuard_agg (P:=c.P) w .eql t x y _ _ ?_;have C:∃n,c.P.depth=n+2:=⟨_,rfl⟩;obtain⟨n,hn⟩:=C;rw[hn];simp[Program.eqGuardType,hu,A,B]
 refine Al (u:=.bool (b.1==f.1&&b.2==f.2)) (w':=w) (by simp[execOp,F,I]) (hk (fun o H=>q o (by simp[H])) G _ _ ⟨ρ,?_⟩);refine l.add m.K m.O (dst:=some d) (fun S e=>by injection e with e;omega) (v:=.p .bool (b.1==f.1&&b.2==f.2)) (obs:=[]) (ρ':=ρ) rfl (QS.still ?_);exact⟨[.bool (b.1==f.1&&b.2==f.2)],rfl,rfl⟩
theorem A73 (g:c.Ok) {ops:Array Oper} {rest:List Oper} {d:Nat} {t q:TypeId} {x y:Operand} {ty:TypeId} {pos:String} {after:Array Edge} {i j:IntKind} {offs:List (Nat×Nat)} {f:Nat} {xv e:AV} {a b:Int×Int}
  (hk:HN c R k ops rest ⟨(d,.p .bool (a.1==b.1&&a.2==b.2)) :: σ.env,σ.objs⟩) (m:lk t c.tb.ty=some ⟨.agg (.prod (.int i) (.int j)),offs,0,f⟩:=by rfl) (n:Ae σ x=some xv:=by simp only[go_sem,Nat.reduceEqDiff,reduceCtorEq,Nat.reduceAdd,Nat.reduceSub,Nat.reduceMul,Nat.reduceLeDiff,Nat.reduceLT,Int.reduceLE,Int.reduceToNat,Int.reduceNeg,↓reduceIte];rfl) (o:Ae σ y=some e:=by simp only[go_sem,Nat.reduceEqDiff,reduceCtorEq,Nat.reduceAdd,Nat.reduceSub,Nat.reduceMul,Nat.reduceLeDiff,Nat.reduceLT,Int.reduceLE,Int.reduceToNat,Int.reduceNeg,↓reduceIte];rfl)
  (h:KJ false σ (.agg (.prod (.int i) (.int j))) xv=some a:=by simp only[go_sem,Nat.reduceEqDiff,reduceCtorEq,Nat.reduceAdd,Nat.reduceSub,Nat.reduceMul,Nat.reduceLeDiff,Nat.reduceLT,Int.reduceLE,Int.reduceToNat,Int.reduceNeg,↓reduceIte];rfl) (l:KJ false σ (.agg (.prod (.int i) (.int j))) e=some b:=by simp only[go_sem,Nat.reduceEqDiff,reduceCtorEq,Nat.reduceAdd,Nat.reduceSub,Nat.reduceMul,Nat.reduceLeDiff,Nat.reduceLT,Int.reduceLE,Int.reduceToNat,Int.reduceNeg,↓reduceIte];rfl) :
  HN c R k ops (⟨some d,.binOp .eql t x y q,ty,pos,after,none⟩ :: rest) σ:=jM g m n o h l hk
end
end
section
open Go Go.RowKit
section
variable {c:Cx} {σ:St} {ens:EN} {N:St→Prop}
theorem jN (L:c.Ok) {d m len:Nat} {t:TypeId} {x:Operand} {ty:TypeId} {pos:String} {after:Array Edge} {j e:Ty} {offs:List (Nat×Nat)} {el y:TypeId} {E:Nat} {C:AV} {a0:j.den} {xs:List e.den}
  (af:lk t c.tb.ty=some ⟨.slice (.agg (.prod j (.slice e))),offs,el,E⟩) (ah:Ae σ x=some (.ag [C,.sr m e 0 len])) (K:EI false σ j C=some a0) (i:lk m σ.objs=some (.arr y e xs)) (T:len=xs.length)
  (Z:(c.ds.pin.all fun p=>!AX p.1 [m])=true) (S:lk d σ.objs=none) (ad:j.size+1≤16777216)
  (B:Kk ⟨some d,.buildSlice t 1 #[(0,x)],ty,pos,after,none⟩ ens=true) (hn:JX [m] σ.objs ens=true) (hf:I3 [m] ens=ens) (P:Oz [(d,.nest el y j e [(a0,xs)] none)] ens=true) (M:d<c.nt)
  (H:N ⟨(d,.sr d (.agg (.prod j (.slice e))) 0 1) :: Bi [m] σ.env,(d,.nest el y j e [(a0,xs)] none) :: Ad [m] [m] σ.objs⟩) :
  X7 c ⟨some d,.buildSlice t 1 #[(0,x)],ty,pos,after,none⟩ σ ens N:=by
 intro X σ' q g a w next Q ab V
 have O:∀s v,lk s X.env=some v→v.fgt [m]=v:=fun s v hs=>by
  obtain⟨obs,i⟩:=g.env s v hs;exact Nn hf _ i
 have A:iI σ σ':=by
  intro n o r;rw[q.objs];cases b:lk n X.objs with
  | none=>exact r
  | some ai =>
   obtain⟨e,f,hp⟩:=g.objs n ai b;rw[(FX hn e f _ hp).1]at r;cases r
 have U:∀n o,lk n X.objs=some o→n ∉ [m]:=fun n o W=>by
  obtain⟨e,f,hp⟩:=g.objs n o W;exact(FX hn e f _ hp).2.1
 have J:∀t∈[x].filterMap NM,lk t X.env=none:=fun t ae=>by
  cases b:lk t X.env with
  | none=>rfl
  | some v =>
   obtain⟨obs,i⟩:=g.env t v b;refine absurd ?_ (Ee B _ i).1;simpa[GL,Op.operands] using ae
 have I:lk d X.env=none:=by
  cases b:lk d X.env with
  | none=>rfl
  | some v=>obtain⟨obs,i⟩:=g.env d v b;exact absurd rfl (Ee B _ i).2
 have z:lk d X.objs=none:=by
  cases b:lk d X.objs with
  | none=>rfl
  | some u =>
   obtain⟨e,f,hp⟩:=g.objs d u b;have:=Kl P e f _ hp;simp[lk]at this
 have Y:=SY q J;refine v6 L (xs:=xs) (a0:=a0) af (by rw[Y x (by simp)];exact ah) (Hi A K) (A m _ i) T Z (by rw[q.objs,z,S];rfl) ad ab M fun D w' aa=>V _ H D w' _ ⟨fun s=>?_,fun n=>?_⟩ aa
 ·have R:lk s (Bi [m] σ'.env)=(lk s X.env).or (lk s (Bi [m] σ.env)):=by
   rw[ED,ED,q.env];cases b:lk s X.env with
   | none=>rfl
   | some v=>simp[O s v b]
  simp only[lk];by_cases l:s=d
  ·rw[BY l,BY l,l,I];rfl
  ·rw[At l,At l];exact R
 ·simp only[lk,Bb,q.objs];by_cases k:n=d
  ·rw[BY k,BY k,k,z];rfl
  ·rw[At k,At k];cases b:lk n X.objs with
   | none=>simp
   | some u =>
    have G:Lx u=true:=by
     obtain⟨e,f,hp⟩:=g.objs n u b;exact(FX hn e f _ hp).2.2
    have F:¬AX n [m]=true:=fun h=>U n _ b ((AZ _ _).1 h);rw[At F];exact AAX some (WX G)
theorem A74 (j:c.Ok) {d m len:Nat} {t:TypeId} {x:Operand} {ty:TypeId} {pos:String} {after:Array Edge} {a e:Ty} {offs:List (Nat×Nat)} {el b:TypeId} {g:Nat} {f:AV} {a0:a.den} {xs:List e.den} {τ:St}
  (o:len=xs.length) (h:N τ) (w:Ae σ x=some (.ag [f,.sr m e 0 len]):=by simp only[go_sem,Nat.reduceEqDiff,reduceCtorEq,Nat.reduceAdd,Nat.reduceSub,Nat.reduceMul,Nat.reduceLeDiff,Nat.reduceLT,Int.reduceLE,Int.reduceToNat,Int.reduceNeg,↓reduceIte];rfl) (v:lk t c.tb.ty=some ⟨.slice (.agg (.prod a (.slice e))),offs,el,g⟩:=by rfl) (i:EI false σ a f=some a0:=by simp only[go_sem,Nat.reduceEqDiff,reduceCtorEq,Nat.reduceAdd,Nat.reduceSub,Nat.reduceMul,Nat.reduceLeDiff,Nat.reduceLT,Int.reduceLE,Int.reduceToNat,Int.reduceNeg,↓reduceIte];rfl) (q:lk m σ.objs=some (.arr b e xs):=by simp only[go_sem,Nat.reduceEqDiff,reduceCtorEq,Nat.reduceAdd,Nat.reduceSub,Nat.reduceMul,Nat.reduceLeDiff,Nat.reduceLT,Int.reduceLE,Int.reduceToNat,Int.reduceNeg,↓reduceIte];rfl)
  (r:(c.ds.pin.all fun p=>!AX p.1 [m])=true:=by rfl) (n:lk d σ.objs=none:=by simp only[go_sem,Nat.reduceEqDiff,reduceCtorEq,Nat.reduceAdd,Nat.reduceSub,Nat.reduceMul,Nat.reduceLeDiff,Nat.reduceLT,Int.reduceLE,Int.reduceToNat,Int.reduceNeg,↓reduceIte]) (u:a.size+1≤16777216:=by decide)
  (s:Kk ⟨some d,.buildSlice t 1 #[(0,x)],ty,pos,after,none⟩ ens=true:=by rfl) (hn:JX [m] σ.objs ens=true:=by rfl) (hf:I3 [m] ens=ens:=by simp only[go_sem,Nat.reduceEqDiff,reduceCtorEq,Nat.reduceAdd,Nat.reduceSub,Nat.reduceMul,Nat.reduceLeDiff,Nat.reduceLT,Int.reduceLE,Int.reduceToNat,Int.reduceNeg,↓reduceIte]) (l:Oz [(d,.nest el b a e [(a0,xs)] none)] ens=true:=by rfl) (k:Iu c.nt ⟨some d,.buildSlice t 1 #[(0,x)],ty,pos,after,none⟩=true:=by rfl)
  (y:⟨(d,.sr d (.agg (.prod a (.slice e))) 0 1) :: Bi [m] σ.env,(d,.nest el b a e [(a0,xs)] none) :: Ad [m] [m] σ.objs⟩=τ:=by simp only[go_sem,Nat.reduceEqDiff,reduceCtorEq,Nat.reduceAdd,Nat.reduceSub,Nat.reduceMul,Nat.reduceLeDiff,Nat.reduceLT,Int.reduceLE,Int.reduceToNat,Int.reduceNeg,↓reduceIte];rfl) :
  X7 c ⟨some d,.buildSlice t 1 #[(0,x)],ty,pos,after,none⟩ σ ens N:=jN j v w i q o r n u s hn hf l (Bq k d rfl) (y▸h)
end
end
section
open Go Go.RowKit
def jO:AV→Bool
 | .p t _=>t.flat
 | _=>false
theorem Wa {V V':Vw}:∀ {fs:List AV} {cs:List Value},fs.all jO=true→DQ V fs cs→DQ V' fs cs
 | [],_,_,h=>h
 | x :: r,cs,hf,h=>by
  rw[AB0,An]at hf;obtain⟨c1,c2,rfl,h1,a⟩:=h;refine⟨c1,c2,rfl,?_,Wa hf.2 a⟩;cases x with
  | p t d=>exact Jp hf.1 h1
  | _=>cases hf.1
section
variable {c:Cx} {R:Exit→Act→World→Prop} {k:List DX} {σ:St}
theorem v7 (aj:c.Ok) {ops:Array Oper} {rest:List Oper} {d:Nat} {g x y:Operand} {ts:Array TypeId} {ty:TypeId} {pos:String} {after:Array Edge} {f q:FuncId} {n m i len:Nat} {e I:Ty} {et bt B:TypeId} {N:List (I.den×List e.den)} {C:Bool} {fs:List AV} {row:List e.den} {D:Bool}
  (L:BL c.P f [.p (.slice e) row,.clo q [1]] [(1,.box B C fs)] [1] (fun res Y=>res=.p .bool D∧Y=[(1,.box B C fs)]))
  (ap:Ae σ g=some (.fn f)) (bp:Ae σ x=some (.nin n e i len)) (bq:Ae σ y=some (.clo q [m])) (hn:lk n σ.objs=some (.nest et bt I e N none)) (bg:(N.getD i (I.dflt,[])).2=row) (H:lk m σ.objs=some (.box B C fs)) (an:fs.all jO=true)
  (hk:HN c R k ops rest ⟨(d,.p .bool D) :: σ.env,σ.objs⟩) :
  HN c R k ops (⟨some d,.call ⟨.value g,#[x,y],ts⟩,ty,pos,after,none⟩ :: rest) σ:=by
 intro Q au a w bi;unfold wpListIn;rw[BY (by simp[Region.wanted])];obtain⟨ρ,l⟩:=bi;have am:∀G,some d=some G→G<c.nt:=fun G h=>Bq (Q _ ABn) G h;have M:F4 (vw w c.O0 σ ρ) σ a.eval:=Dn l.env;obtain⟨⟨fn,ao,bc,ai⟩,L⟩:=L;have aq:a.eval g=.func (.func f) #[] #[]:=M g _ ap;obtain⟨-,cb,ad,bu,ca,X,W,ay,bv⟩:=M x _ bp;obtain⟨bs,br⟩:=M y _ bq;have E:Gb σ m:=⟨_,H⟩;have aw:Gb σ n:=⟨_,hn⟩;have bd:n≠m:=fun e=>by rw[e,H]at hn;cases hn
 let objs:List (Nat×Obj):=[(1,.box B C fs)]
 let F:Nat→Value:=fun _=>ρ m
 let J:Nat→Prop:=fun b=>b<w.heap.size∧¬bk (ρ m) b
 have U:∀b,own (fun _=>False) ⟨[],objs⟩ F b→bk (ρ m) b:=by
  rintro b (h|⟨t,-,h⟩)
  ·exact h.elim
  ·exact h
 have O:∀ {V V':Vw} {loc:Value},V'.w=V.w→A1 V (.box B C fs) loc→A1 V' (.box B C fs) loc:=by
  rintro V V' loc bo ⟨h0,b,cs,av,hh,al⟩;exact⟨h0,b,cs,av,by rw[bo];exact hh,Wa an al⟩
 have az:jC J (fun _=>False) objs F w:=by
  refine⟨fun t o r=>?_,fun t b _ j=>⟨fun af=>af.2 j,fun h=>h⟩,fun n1 bw b h1 z _ _=>?_⟩
  ·simp only[objs,lk]at r;split at r
   ·cases r;exact O (V:=vw w c.O0 σ ρ) rfl (l.objs m _ H)
   ·cases r
  ·obtain⟨bx,h1⟩:=h1;obtain⟨bz,z⟩:=z;simp only[objs,lk]at h1 z;split at h1
   ·split at z
    ·rename_i Z aa;rw[Z,aa]
    ·cases z
   ·cases h1
 have be:Br w (own (fun _=>False) ⟨[],objs⟩ F) (.slice e) [a.eval x] row:=by
  have ar:N[i]?=some (N.getD i (I.dflt,[])):=by
   exact SI (l.objs n _ hn) X W
  rw[←bg];refine mM (V:=vw w c.O0 σ ρ) (fun b j h=>j (.inr ⟨m,E,U b h⟩)) (fun b j h=>?_) (l.objs n _ hn) X W ay ar;exact bd (l.dist n m b aw E j (U b h))
 have ah:Ij (vw w (fun _=>False) ⟨[],objs⟩ F) [.p (.slice e) row,.clo q [1]] [a.eval x,a.eval y]:=by
  refine⟨_,_,rfl,⟨_,be,rfl⟩,_,_,rfl,⟨bs,fun t bb=>?_⟩,rfl⟩;have:t=1:=AAh.1 bb;subst this;exact⟨⟨_,rfl⟩,(br m (by simp)).2⟩
 have ak:=L w J (fun _=>False) F [a.eval x,a.eval y] (fun b j=>j.1) (fun b j=>j.elim) az ah;have bh:(execOp a.eval ⟨some d,.call ⟨.value g,#[x,y],ts⟩,ty,pos,after,none⟩).run c.P w=.ok (.enter f [a.eval x,a.eval y].toArray) w:=by
  have ab : ¬ fn.name = "runtime.NumGoroutine" := by simpa using bc
  have ae:¬fn.body=none:=by intro e;simp[e]at ai
  simp[execOp,resolve,Deferred.ofValue,aq,invoke,callFunc,ao,ab,ae]
 refine⟨fun _ _=>trivial,?_⟩;rw[FQ _ _ _ (fun cl e=>by cases e),bh,ACu];refine⟨fun h=>(by simp[FR]at h),KV (ak.mono fun e w' hh=>?_)⟩;obtain⟨u,rfl,res,Y,ρ',⟨rfl,rfl⟩,A,ba,bf,bl⟩:=hh;have bj:ρ' 1=ρ m:=bl 1 (by simp);have S:CN (vw w c.O0 σ ρ) (vw w' c.O0 ⟨(d,.p .bool D) :: σ.env,σ.objs⟩ ρ):=by
  refine⟨fun b _ j=>j,fun t h=>h,fun _ _=>rfl,fun b ax j=>A.block b ⟨ax,fun h=>j (.inr ⟨m,E,h⟩)⟩⟩
 have ag:∀b,c.K b→J b:=fun b j=>⟨AAu (aj.K b j) l.frm.size,fun h=>(l.free m b E h).1 j⟩;refine hk (fun o r=>Q o (by simp[r])) au _ _ ⟨ρ,⟨A.os.trans l.frm.os,A.tape.trans l.frm.tape,A.output.trans l.frm.output,To l.frm.size A.size,fun b j=>(A.block b (ag b j)).trans (l.frm.block b j)⟩,by rw[Jn];exact l.nt,by rw[GI];exact l.defers,l.pin,fun t o r=>?_,l.free,l.dist,fun s v bm=>?_⟩
 ·by_cases T:t=m
  ·subst T;have r:lk t σ.objs=some o:=r;rw[H]at r;cases r;have h1:=ba.obj 1 _ rfl;rw[bj]at h1;exact O (V:=vw w' (fun _=>False) ⟨[],objs⟩ ρ') (V':=vw w' c.O0 ⟨(d,.p .bool D) :: σ.env,σ.objs⟩ ρ) rfl h1
  ·refine A1.keeps S (fun b j=>?_) (l.objs t o r);exact A.block b ⟨(l.objs t o r).block_lt j,fun h=>T (l.dist t m b ⟨o,r⟩ E j h)⟩
 ·refine nB (c:=c) (dst:=some d) (res:=.p .bool D) l.nt am ?_ (fun s v bn=>(l.env s v bn).keeps S) bm;obtain⟨cs,h1,z⟩:=bf;exact⟨cs,Jp rfl h1,z⟩
theorem A75 (o:c.Ok) {ops:Array Oper} {rest:List Oper} {d:Nat} {g x y:Operand} {ts:Array TypeId} {ty:TypeId} {pos:String} {after:Array Edge} {f q:FuncId} {n m i len:Nat} {e b:Ty} {et z a:TypeId} {N:List (b.den×List e.den)} {h:Bool} {fs:List AV} {row:List e.den} {j:Bool}
  (l:BL c.P f [.p (.slice e) row,.clo q [1]] [(1,.box a h fs)] [1] (fun res A=>res=.p .bool j∧A=[(1,.box a h fs)])) (u:(N.getD i (b.dflt,[])).2=row)
  (hk:HN c R k ops rest ⟨(d,.p .bool j) :: σ.env,σ.objs⟩) (s:Ae σ g=some (.fn f):=by simp only[go_sem,Nat.reduceEqDiff,reduceCtorEq,Nat.reduceAdd,Nat.reduceSub,Nat.reduceMul,Nat.reduceLeDiff,Nat.reduceLT,Int.reduceLE,Int.reduceToNat,Int.reduceNeg,↓reduceIte]<;>rfl) (v:Ae σ x=some (.nin n e i len):=by simp only[go_sem,Nat.reduceEqDiff,reduceCtorEq,Nat.reduceAdd,Nat.reduceSub,Nat.reduceMul,Nat.reduceLeDiff,Nat.reduceLT,Int.reduceLE,Int.reduceToNat,Int.reduceNeg,↓reduceIte];rfl) (w:Ae σ y=some (.clo q [m]):=by simp only[go_sem,Nat.reduceEqDiff,reduceCtorEq,Nat.reduceAdd,Nat.reduceSub,Nat.reduceMul,Nat.reduceLeDiff,Nat.reduceLT,Int.reduceLE,Int.reduceToNat,Int.reduceNeg,↓reduceIte];rfl)
  (hn:lk n σ.objs=some (.nest et z b e N none):=by simp only[go_sem,Nat.reduceEqDiff,reduceCtorEq,Nat.reduceAdd,Nat.reduceSub,Nat.reduceMul,Nat.reduceLeDiff,Nat.reduceLT,Int.reduceLE,Int.reduceToNat,Int.reduceNeg,↓reduceIte];rfl) (t:lk m σ.objs=some (.box a h fs):=by simp only[go_sem,Nat.reduceEqDiff,reduceCtorEq,Nat.reduceAdd,Nat.reduceSub,Nat.reduceMul,Nat.reduceLeDiff,Nat.reduceLT,Int.reduceLE,Int.reduceToNat,Int.reduceNeg,↓reduceIte]<;>rfl) (r:fs.all jO=true:=by rfl) :
  HN c R k ops (⟨some d,.call ⟨.value g,#[x,y],ts⟩,ty,pos,after,none⟩ :: rest) σ:=v7 o l s v w hn u t r hk
end
end
end Go.Proofs.YtdapahgnpbehbaaGreat.Fw
