/- Range over a function; scopes; several steps in one. -/
import Derived.Test.YtdapahgnpbehbaaGreatIZH
import Derived.RangeFuncFrom
import Derived.Scope
import Derived.Laws.IdiomRangeMap
import Derived.Laws.StructEq
set_option linter.unusedVariables false
set_option linter.unusedSimpArgs false
namespace Go.Proofs.YtdapahgnpbehbaaGreat.Fw
section
open Go Go.RowKit
theorem aO {V:Vw} {f:FuncId} {ns:List Nat} {v:Value} (h:B0 V (.clo f ns) v):v=.func (.func f) #[] (ns.map V.ρ).toArray∧I1 V (ns.map fun n=>AV.bp n [] 0) (ns.map V.ρ):=by
 refine⟨h.1,?_⟩;have h0:∀l:List Nat,(∀n∈l,n∈ns)→I1 V (l.map fun n=>AV.bp n [] 0) (l.map V.ρ):=by
  intro l;induction l with
  | nil=>intro _;exact rfl
  | cons n r g =>
   intro c;obtain⟨d,b,a⟩:=h.2 n (c n (by simp));exact⟨V.ρ n,r.map V.ρ,rfl,⟨d,b,a,a⟩,g fun x e=>c x (by simp[e])⟩
 exact h0 ns fun _ h=>h
def aP (P:Program) (yn:Nat) (A:List AV) (objs:List (Nat×Obj)) (stay:List Nat) (post:AV→List (Nat×Obj)→Prop):Prop :=
 ∀(w:World) (K O0:Nat→Prop) (ρ:Nat→Value) (a:List Value) (b:Nat),(∀b,K b→b<w.heap.size)→(∀b,O0 b→b<w.heap.size)→kT K O0 objs ρ w→I1 (vw w O0 ⟨[],objs⟩ ρ) A a →
  ρ yn=.pointer (some ⟨b,0,none⟩)→YieldAt (FR none) 0 P b a.toArray w fun e w'=>∃u,e=.returned u∧Pd K O0 stay w ρ post u w'
section
variable {c:Cx} {R:Exit→Act→World→Prop} {k:List Df} {σ:St}
def WN (n:Nat):Option AV→Bool
 | some (.yl m)=>m==n
 | _=>false
theorem xW (N:c.Ok) (Y:c.r=none) {o:Oper} {dst:Option Nat} {g:Operand} {xs:List Operand} {ts:Array TypeId} (t:o.op=.call { callee:=.value g,args:=xs.toArray,argTypes:=ts }) (R:o.dst=dst)
  {n yn:Nat} (f:WN n (Ah σ g)=true) {as:List AV} (L:IP σ xs=some as)
  {A:List AV} {objs:List (Nat×Obj)} {stay:List Nat} {post:AV→List (Nat×Obj)→Prop} (H:aP c.P yn A objs stay post)
  (ren:List (Nat×Bw)) (ad:lk yn ren=some (.nm n)) (h1:B8 ren=true) (C:CS objs ren=true) (F:BH σ ren as A) (I:Ab σ.objs ren objs)
  (hs:List Nat) (W:(c.ds.pin.all fun p=>!AW p.1 hs)=true) {next:Act→World→Prop} {Q:Exit→Act→World→Prop} {a:Act} {w:World} (aa:c.sat σ a w) (O:∀d,dst=some d→d<c.nt)
  (hk:∀res x,post res x→∃(i:List (Nat×Bw)) (y:AV) (j:List (Nat×Obj)),B8 i=true∧CS j i=true∧Ab x i j∧Bc i res y ∧
   JH ren i stay hs=true∧FU (Ag ren) j σ.objs=true∧∀l w',c.sat (CE σ (Ag ren) hs dst y j) l w'→next l w'):o.wpIn (FR c.r) 0 c.P a w next Q:=by
 obtain⟨ρ,v⟩:=aa;have s:GH (vw w c.O0 σ ρ) σ a.eval:=Du v.env;obtain⟨b,ae,S⟩:∃b:Nat,ρ n=.pointer (some ⟨b,0,none⟩)∧a.eval g=.func (.yield b) #[] #[]:=by
  cases k:Ah σ g with
  | none=>rw[k]at f;simp[WN]at f
  | some q =>
   rw[k]at f;have T:=s g q k;cases q<;>simp only[WN]at f<;>try(cases f;done)
   rename_i m;have U:m=n:=by simpa using f
   subst U;obtain⟨_,b,D,E⟩:=T;exact⟨b,D,E⟩
 obtain⟨z,B,ag,G,J,V,M,af,X⟩:=Q3 N v (Yd s L) stay post ren h1 C F I hs W O hk;obtain⟨fn,tmps,assign,body,ab,K⟩:=H w z B ag (xs.map a.eval) b G J V M ((af _ _ ad).trans ae);have Z:(execOp a.eval o).run c.P w=.ok (.round b fn tmps assign body) w:=by
  simp[execOp,t,resolve,Deferred.ofValue,S,invoke];simpa using ab
 refine⟨fun _ _=>trivial,?_⟩;rw[Fe _ _ _ (fun cl e=>by rw[t]at e;cases e),Z,Oper.uponIn_round];refine⟨fun h=>(by simp[FR]at h),?_⟩;rw[Y];refine K.mono fun e w' hh=>?_;obtain⟨u,rfl,hh⟩:=hh;rw[R];exact X u w' hh
theorem s6 (C:c.Ok) (H:c.r=none) {ops:Array Oper} {rest:List Oper} {dst:Option Nat} {g:Operand} {xs:List Operand} {ts:Array TypeId} {ty:TypeId} {pos:String} {after:Array Edge}
  {n yn:Nat} (D:WN n (Ah σ g)=true) {as:List AV} (B:IP σ xs=some as)
  {A:List AV} {objs:List (Nat×Obj)} {stay:List Nat} {post:AV→List (Nat×Obj)→Prop} (y:aP c.P yn A objs stay post)
  (ren:List (Nat×Bw)) (hs:List Nat) (K:lk yn ren=some (.nm n)) (h1:B8 ren=true) (u:CS objs ren=true) (G:(c.ds.pin.all fun p=>!AW p.1 hs)=true) (v:BH σ ren as A) (z:Ab σ.objs ren objs)
  (hk:∀res e,post res e→∃(b:List (Nat×Bw)) (f:AV) (d:List (Nat×Obj)),B8 b=true∧CS d b=true∧Ab e b d∧Bc b res f ∧
   JH ren b stay hs=true∧FU (Ag ren) d σ.objs=true∧HY c R k ops rest (CE σ (Ag ren) hs dst f d)) :
  HY c R k ops (⟨dst,.call ⟨.value g,xs.toArray,ts⟩,ty,pos,after,none⟩ :: rest) σ:=by
 intro h E a w J;unfold wpListIn;rw[At (by simp[Region.wanted])];refine xW C H (xs:=xs) (ts:=ts) rfl rfl D B y ren K h1 u v z hs G J (Bb (h _ (by simp))) fun res e hp=>?_;obtain⟨b,f,d,j,l,m,q,s,t,x⟩:=hk res e hp;exact⟨b,f,d,j,l,m,q,s,t,fun i w' I=>x (fun o F=>h o (by simp[F])) E i w' I⟩
end
def HO:List Nat→List AV→List (Nat×AV)→List (Nat×AV)
 | p :: a,x :: xs,e=>HO a xs ((p,x) :: e)
 | _,_,e=>e
def cY (P:Program) (tb:Tb) (w0:World) (K O0:Nat→Prop) (nt l:Nat) (pin:List (Nat×Value)):Cx:={ P:=P,tb:=tb,w0:=w0,K:=K,O0:=O0,nt:=nt,ds:={ pin:=pin },r:=some l }
theorem aQ {P:Program} {tb:Tb} {w0:World} {K O0:Nat→Prop} {nt l:Nat} {pin:List (Nat×Value)}:(cY P tb w0 K O0 nt l pin).tb=tb:=rfl
def xX (P:Program) (l:Nat) (w0:World) (K O0:Nat→Prop) (stay:List Nat) (ρ0:Nat→Value) (post:AV→List (Nat×Obj)→Prop):Exit→Act→World→Prop :=
 roundPost P l fun e w'=>∃u,e=.returned u∧Pd K O0 stay w0 ρ0 post u w'
theorem pH {V:Vw}:∀(b:List Nat) (A:List AV) (c:List Value) (e:List (Nat×AV)) (a:Array Value),I1 V A c→(∀p∈b,p<a.size)→A.length=b.length→(∀s x,lk s e=some x→B0 V x (a.getD s undef)) →
  (∀s x,lk s (HO b A e)=some x→B0 V x (((b.zip c).foldl (fun t (p,v)=>t.setIfInBounds p v) a).getD s undef))∧((b.zip c).foldl (fun t (p,v)=>t.setIfInBounds p v) a).size=a.size
 | [],_,_,e,a,_,_,_,h=>by simpa[HO] using h
 | p :: b,[],_,e,a,_,_,d,_=>by simp at d
 | p :: b,x :: A,c,e,a,⟨v,r,m,h1,j⟩,hp,d,h=>by
  subst m;simp only[ACm,Rp,HO];have g:=pH b A r ((p,x) :: e) (a.setIfInBounds p v) j (fun q l=>by simpa using hp q (by simp[l])) (by simpa using d) (fun s y hs=>by
   have f:=Ks { tmps:=a,defers:=[] } p v s (hp p (by simp));have f:(a.setIfInBounds p v).getD s undef=if s=p then v else a.getD s undef:=f
   rw[f];simp only[lk]at hs;split at hs
   ·rename_i i;cases hs;rw[At i];exact h1
   ·rename_i k;rw[As k];exact h s y hs)
  exact⟨g.1,by rw[g.2];simp⟩
section
variable {P:Program} {tb:Tb} {w0:World} {K O0:Nat→Prop} {nt l:Nat} {stay:List Nat} {ρ0:Nat→Value} {post:AV→List (Nat×Obj)→Prop} {σ:St} {pin:List (Nat×Value)}
theorem UL {c:Cx} (i:c.Ok) {σ:St} {a:Act} {w:World} {ρ:Nat→Value} (hs:Bm c.w0 c.K c.O0 c.nt c.ds σ ρ a w) {yn b:Nat} {L:Go.Loop} (h:lk yn σ.objs=some (.loop L)) (d:ρ yn=.pointer (some ⟨b,0,none⟩)) (e:Go.Loop) :
  w.heap[b]?=some (.loop L)∧Bm c.w0 c.K c.O0 c.nt c.ds ⟨σ.env,upd yn (.loop e) σ.objs⟩ ρ a (w.putObj b (.loop e)):=by
 obtain⟨b',h1,f⟩:=hs.objs yn _ h;rw[d]at h1;injection h1 with h1
 injection h1 with h1
 injection h1 with h1
 subst h1;have j:b<w.heap.size:=CL f;refine⟨f,hs.upd i.K h (g:=b) (by rw[d];rfl) (grownBy_putObj' w b _) ?_⟩;exact⟨b,d,World.putObj_heap_same j⟩
theorem s7 (f:(cY P tb w0 K O0 nt l pin).Ok) {yn:Nat} {L:Go.Loop} (g:lk yn σ.objs=some (.loop L)) (h:pin=stay.map fun n=>(n,ρ0 n)) (i:yn∈stay) (e:ρ0 yn=.pointer (some ⟨l,0,none⟩))
  (hp:post (.p .bool true) (upd yn (.loop { L with state:=.ready,pending:=none }) σ.objs)) :
  Ev (cY P tb w0 K O0 nt l pin) (xX P l w0 K O0 stay ρ0 post) (.out .normal) [] σ:=by
 intro _ _ a w hs;obtain⟨ρ,hs⟩:=hs;have c:∀n∈stay,ρ n=ρ0 n:=fun n hn=>(hs.pin (n,ρ0 n) (by rw[show (cY P tb w0 K O0 nt l pin).ds.pin=pin from rfl,h];exact IS.2 ⟨n,hn,rfl⟩)).2.1;obtain⟨d,b⟩:=UL f hs g ((c _ i).trans e) { L with state:=.ready,pending:=none };refine⟨_,_,run_endRound none d,.bool true,rfl,.p .bool true,_,ρ,hp,b.frm,⟨b.objs,b.free,b.dist⟩,⟨_,rfl,rfl⟩,c⟩
def A67 (c:Cx) (R:Exit→Act→World→Prop) (yn:Nat) (L:Go.Loop) (a:Code) (σ:St):Prop :=
 lk yn σ.objs=some (.loop L)∧Ev c R (.run a) [] ⟨σ.env,upd yn (.loop { L with state:=.busy }) σ.objs⟩
theorem xY {yn fr:Nat} {A:List AV} {objs:List (Nat×Obj)} {L:Go.Loop} {d:List Nat} {r s:Code} {fs:List (Nat×AV)} {g:Array Value}
  (B:lk yn objs=some (.loop L)) (hf:lk fr objs=some (.frame g fs)) (h1:L.state=.ready) (y:L.params=d.toArray) (J:L.assign=r) (M:L.body=s) (N:L.tmps=g) (G:g.size=nt)
  (C:A.length=d.length) (Z:(d.all fun p=>decide (p<nt))=true) (ag:yn∈stay) (ad:stay.all (SA objs)=true) (X:L1 objs=true) (T:Bh nt r=true) (U:Bh nt s=true) (hT:DF P tb) (hF:I8 P tb)
  (h:∀(w0:World) (K O0:Nat→Prop) (ρ0:Nat→Value) (l:Nat),(cY P tb w0 K O0 nt l (stay.map fun n=>(n,ρ0 n))).Ok→Pe A→OJ objs→ρ0 yn=.pointer (some ⟨l,0,none⟩) →
   Ev (cY P tb w0 K O0 nt l (stay.map fun n=>(n,ρ0 n))) (fun _ _ _=>False) (.run r) [.inv (A67 (cY P tb w0 K O0 nt l (stay.map fun n=>(n,ρ0 n))) (xX P l w0 K O0 stay ρ0 post) yn L s)] ⟨HO d A fs,objs⟩) :
  aP P yn A objs stay post:=by
 intro w K O0 ρ q b Q R f x u;have af:=JG x;obtain⟨b',c,hh⟩:=f.obj yn _ B;rw[u]at c;injection c with c
 injection c with c
 injection c with c
 subst c;have aa:=run_yield (P:=P) (args:=q.toArray) hh (by rw[y];simp[af,C]);refine⟨_,_,_,_,aa,roundIn_of_wpIn trivial ?_⟩;have z:(cY P tb w K O0 nt b (stay.map fun n=>(n,ρ n))).Ok:=⟨Q,R,hT,hF⟩;have W:=f.obj fr _ hf;have D:=pH (V:=vw w O0 ⟨[],objs⟩ ρ) d A q fs g x (fun p hp=>by have:=(GO.1 Z) p hp;rw[G];simpa using this) C W.2;have ae:(L.params.zip q.toArray).foldl (fun t (p,v)=>t.setIfInBounds p v) L.tmps=(d.zip q).foldl (fun t (p,v)=>t.setIfInBounds p v) g:=by
  rw[y,N,List.zip_toArray];simp
 rw[J,M,ae];have ab:(cY P tb w K O0 nt b (stay.map fun n=>(n,ρ n))).sat ⟨HO d A fs,objs⟩ { tmps:=(d.zip q).foldl (fun t (p,v)=>t.setIfInBounds p v) g,defers:=[] } w:=by
  refine⟨ρ,⟨rfl,rfl,rfl,No _,fun _ _=>rfl⟩,by rw[D.2];exact G,rfl,fun p hp=>?_,f.obj,f.free,f.dist,D.1⟩;obtain⟨n,hn,rfl⟩:=IS.1 hp;have:=(GO.1 ad) n hn;unfold SA at this;cases i:lk n objs with
  | none=>rw[i]at this;cases this
  | some o =>
   rw[i]at this;refine⟨⟨o,i⟩,rfl,?_⟩;have j:=f.obj n o i;cases o with
   | arr et e xs=>exact .inr this
   | nest et al k e xs B=>exact .inr this
   | box et st fs=>obtain⟨_,b,cs,a,_⟩:=j;rw[a];exact .inl rfl
   | mapo k v l=>obtain⟨b,aj,cl,a,_⟩:=j;rw[a];exact .inl rfl
   | frame g fs=>obtain⟨a,_⟩:=j;rw[a];exact .inl rfl
   | loop L=>obtain⟨b,a,_⟩:=j;rw[a];exact .inl rfl
   | itr am ap an ao ak=>obtain⟨b,a,_⟩:=j;rw[a];exact .inl rfl
   | dfr=>obtain⟨b,a,_⟩:=j;rw[a];exact .inl rfl
 have O:=h w K O0 ρ b z (S2 x) (S3 X fun n o i=>Yc (f.obj n o i)) u (by simpa[II,cY] using T) rfl _ _ ab;refine ACx (F:=FR (some b)) O ?_;intro e ai w' m;cases e with
 | normal =>
  obtain⟨σ',⟨ρ',E⟩,Y,S⟩:=m;have ah:ρ' yn=.pointer (some ⟨b,0,none⟩):=(E.pin (yn,ρ yn) (IS.2 ⟨yn,ag,rfl⟩)).2.1.trans u;obtain⟨H,I⟩:=UL z E Y ah { L with state:=.busy };exact⟨_,run_beginRound H h1,S (by simpa[II,cY] using U) rfl _ _ ⟨ρ',I⟩⟩
 | exit id=>exact m.elim
 | goto t=>exact m.elim
 | ret=>exact m.elim
 | panic ch=>exact m.elim
 | outgrown=>exact m.elim
end
end
section
open Go Go.RowKit
def Cx.marked (c:Cx) (dn b:Nat):Cx:={ c with ds:={ ds:=⟨.collected b,#[]⟩ :: c.ds.ds,pin:=(dn,.pointer (some ⟨b,0,none⟩)) :: c.ds.pin } }
def Cx.marked2 (c:Cx) (yn dn b:Nat):Cx:={ c with ds:={ ds:=⟨.collected b,#[]⟩ :: c.ds.ds,pin:=(yn,.pointer (some ⟨b+1,0,none⟩)) :: (dn,.pointer (some ⟨b,0,none⟩)) :: c.ds.pin } }
theorem kZ {c:Cx} {yn dn b:Nat} (h:c.Ok):(c.marked2 yn dn b).Ok:=⟨h.K,h.O,h.T,h.F⟩
theorem KI {c:Cx} {dn b:Nat}:(c.marked dn b).tb=c.tb:=rfl
theorem s8 {c:Cx} {dn b:Nat} (h:c.Ok):(c.marked dn b).Ok:=⟨h.K,h.O,h.T,h.F⟩
theorem s9 (ren:List (Nat×Bw)) (x:AV):Bc ren x .top:=by
 unfold Bc;split
 ·simp_all
 ·unfold HI;split
  ·simp_all
  ·unfold Dj;split<;>simp_all
def aR:List Df→Bool
 | []=>true
 | .inv _ :: _=>false
 | _ :: k=>aR k
theorem OM {c:Cx} {R:Exit→Act→World→Prop} {dn b:Nat}:∀ {k:List Df},aR k=true→Sw (c.marked dn b) R k=Sw c R k
 | [],_=>by funext e a w;simp[Sw]
 | .inv _ :: _,h=>by simp[aR]at h
 | .seq y :: k,h=>by
  have d:=OM (c:=c) (R:=R) (dn:=dn) (b:=b) (k:=k) h;funext e a w;cases e<;>simp only[Sw,d]<;>rfl
 | .blk id :: k,h=>by
  have d:=OM (c:=c) (R:=R) (dn:=dn) (b:=b) (k:=k) h;funext e a w;cases e<;>simp only[Sw,d]
def Bj (σ:St) (yn dn fr:Nat) (L:Go.Loop) (a:Array Value):St:=⟨σ.env,(yn,.loop L) :: (dn,.dfr) :: (fr,.frame a σ.env) :: σ.objs⟩
section
variable {c:Cx} {R:Exit→Act→World→Prop} {k:List Df} {σ:St}
theorem tA (y:c.Ok) {a:Act} {w:World} {ρ:Nat→Value} (hs:Bm c.w0 c.K c.O0 c.nt c.ds σ ρ a w) {yn dn fr:Nat} (z:yn≠dn) (J:yn≠fr) (M:dn≠fr) (N:lk yn σ.objs=none) (P:lk dn σ.objs=none) (Q:lk fr σ.objs=none) (L:Go.Loop) :
  ∃e,Bm c.w0 c.K c.O0 c.nt (c.marked2 yn dn w.heap.size).ds (Bj σ yn dn fr L a.tmps) e { a with defers:=[{ target:=.collected w.heap.size,args:=#[] }]++a.defers } ((w.alloc (.deferred (some []))).alloc (.loop L))∧e yn=.pointer (some ⟨w.heap.size+1,0,none⟩):=by
 let e:Nat→Value:=fun m=>if m=yn then .pointer (some ⟨w.heap.size+1,0,none⟩) else if m=dn then .pointer (some ⟨w.heap.size,0,none⟩) else if m=fr then .pointer none else ρ m
 have q:e yn=.pointer (some ⟨w.heap.size+1,0,none⟩):=by simp[e]
 have r:e dn=.pointer (some ⟨w.heap.size,0,none⟩):=by simp[e,Ne.symm z]
 have t:e fr=.pointer none:=by simp[e,Ne.symm J,Ne.symm M]
 obtain⟨l,u⟩:∃l,(w.alloc (.deferred (some []))).alloc (.loop L)=l:=⟨_,rfl⟩;have H:l.heap[w.heap.size+1]?=some (.loop L):=by
  rw[←u];have:=World.alloc_heap_new (w.alloc (.deferred (some []))) (.loop L);rwa [World.size_alloc]at this
 have G:l.heap[w.heap.size]?=some (.deferred (some [])):=by
  rw[←u];exact(Below.heap_alloc _ _ _ (by simp)).trans (World.alloc_heap_new w _)
 have v:Below w.heap.size w l:=by
  rw[←u];exact((Below.refl _ w).alloc (No _) _).alloc (by simp) _
 rw[u];have A:Ba [(yn,Obj.loop L),(dn,.dfr),(fr,.frame a.tmps σ.env)] σ=true:=by simp[Ba,N,P,Q]
 have C:∀n,lk n [(yn,Obj.loop L),(dn,Obj.dfr),(fr,.frame a.tmps σ.env)]=none→e n=ρ n:=fun n hn=>by
  simp only[lk]at hn;split at hn
  ·cases hn
  ·split at hn
   ·cases hn
   ·split at hn
    ·cases hn
    ·rename_i D E F;simp[e,D,E,F]
 have B:∀n o b,lk n [(yn,Obj.loop L),(dn,Obj.dfr),(fr,.frame a.tmps σ.env)]=some o→bk (e n) b→w.heap.size≤b:=fun n o b hn f=>by
  simp only[lk]at hn;split at hn
  ·rename_i g;subst g;rw[q]at f;simp[bk,blk]at f;omega
  ·split at hn
   ·rename_i g;subst g;rw[r]at f;simp[bk,blk]at f;omega
   ·split at hn
    ·rename_i g;subst g;rw[t]at f;simp[bk,blk]at f
    ·cases hn
 have R:=IE (O0:=c.O0) (ρ:=ρ) (ρ':=e) A v C B;have S:QS w c.O0 σ ρ .top [(yn,Obj.loop L),(dn,.dfr),(fr,.frame a.tmps σ.env)] undef e l:=by
  refine⟨v,C,trivial,fun n o hn=>?_,B,fun n m o U b hn j f k=>?_⟩
  ·simp only[lk]at hn;split at hn
   ·rename_i g;cases hn;subst g;exact⟨_,q,H⟩
   ·split at hn
    ·rename_i g;cases hn;subst g;exact⟨_,r,G⟩
    ·split at hn
     ·rename_i g;cases hn;subst g;exact⟨t,fun s x T=>(hs.env s x T).keeps R⟩
     ·cases hn
  ·simp only[lk]at hn j;split at hn
   ·rename_i g;rw[g,q]at f;simp[bk,blk]at f;split at j
    ·rename_i i;rw[g,i]
    ·split at j
     ·rename_i i;rw[i,r]at k;simp[bk,blk]at k;omega
     ·split at j
      ·rename_i i;rw[i,t]at k;simp[bk,blk]at k
      ·cases j
   ·split at hn
    ·rename_i g;rw[g,r]at f;simp[bk,blk]at f;split at j
     ·rename_i i;rw[i,q]at k;simp[bk,blk]at k;omega
     ·split at j
      ·rename_i i;rw[g,i]
      ·split at j
       ·rename_i i;rw[i,t]at k;simp[bk,blk]at k
       ·cases j
    ·split at hn
     ·rename_i g;rw[g,t]at f;simp[bk,blk]at f
     ·cases hn
 have h:=hs.add y.K y.O (dst:=none) (fun d I=>by cases I) A S;refine⟨e,⟨h.frm,h.nt,?_,fun p hp=>?_,h.objs,h.free,h.dist,h.env⟩,q⟩
 ·show _=_ :: c.ds.ds;rw[←hs.defers];rfl
 ·rcases By.1 hp with rfl|hp
  ·exact⟨⟨.loop L,by simp[Bj,lk]⟩,q,.inl rfl⟩
  rcases By.1 hp with rfl|hp
  ·exact⟨⟨.dfr,by simp[Bj,lk,Ne.symm z]⟩,r,.inl rfl⟩
  ·exact h.pin p hp
def EvJ (c:Cx) (R:Exit→Act→World→Prop) (k:List Df) (σ:St):Option Code→Prop
 | none=>Ev c R (.out .normal) k σ
 | some a=>match a with
  | .ret=>Ev c R (.out .ret) k σ
  | .exit id=>Ev c R (.out (.exit id)) k σ
  | _=>False
def A8B (c:Cx) (R:Exit→Act→World→Prop) (k:List Df) (a:Act) (w:World):Option Code→Prop
 | none=>Sw c R k .normal a w
 | some cd=>cd.wpIn (FR c.r) 0 c.P (Sw c R k) a w
theorem A2Y {dn b:Nat} (g:aR k=true) (e:DA c.nt k=true) {p:Option Code} (d:EvJ (c.marked dn b) R k σ p) {a:Act} {w:World} (hs:(c.marked dn b).sat σ a w) :
  A8B c R k a w p:=by
 have f:=OM (c:=c) (R:=R) (dn:=dn) (b:=b) g;cases p with
 | none =>
  have:=d rfl e _ _ hs;show Sw c R k .normal a w;rw[←f];exact this
 | some cd =>
  cases cd<;>try exact d.elim
  ·have:=d rfl e _ _ hs;refine wpIn_exit ?_;rw[←f];exact this
  ·have:=d rfl e _ _ hs;refine wpIn_ret ?_;rw[←f];exact this
theorem xZ (U:c.Ok) (bl:c.r=none) (bf:aR k=true) {g:Operand} {N:Array Tmp} {E G:Code} {gf:FuncId} {l:List Nat} (J:Ah σ g=some (.clo gf l))
  (yn dn fr:Nat) (C:(yn != dn&&yn != fr&&dn != fr)=true) (bb:lk yn σ.objs=none) (bc:lk dn σ.objs=none) (bd:lk fr σ.objs=none)
  (an:∀(L:Go.Loop) (y:Array Value),L.state=.ready→L.pending=none→L.tmps=y→L.params=N→L.assign=E→L.body=G→y.size=c.nt →
   ∃(A:List AV) (objs:List (Nat×Obj)) (stay:List Nat) (post:AV→List (Nat×Obj)→Prop) (ren:List (Nat×Bw)) (hs:List Nat),BB c.P gf A objs stay post ∧
    B8 ren=true∧CS objs ren=true∧BH (Bj σ yn dn fr L y) ren (.yl yn :: l.map fun n=>AV.bp n [] 0) A∧Ab (Bj σ yn dn fr L y).objs ren objs ∧
    (((yn,undef) :: (dn,undef) :: c.ds.pin).all fun p=>!AW p.1 hs)=true ∧
    ∀res x,post res x→∃(j:List (Nat×Bw)) (i:List (Nat×Obj)) (m:Go.Loop),B8 j=true∧CS i j=true∧Ab x j i∧JH ren j stay hs=true∧FU (Ag ren) i (Bj σ yn dn fr L y).objs=true ∧
     lk yn i=some (.loop m)∧(m.state == .busy)=false ∧
     ∀b,EvJ (c.marked dn b) R k ⟨(CE (Bj σ yn dn fr L y) (Ag ren) hs none .top i).env,upd yn (.loop { m with state:=.exhausted }) (CE (Bj σ yn dn fr L y) (Ag ren) hs none .top i).objs⟩ m.pending) :
  Ev c R (.run (.rangeFunc g N E G)) k σ:=by
 intro h1 al a w bn;obtain⟨ρ,hs⟩:=bn;have ba:GH (vw w c.O0 σ ρ) σ a.eval:=Du hs.env;obtain⟨Y,_⟩:=aO (ba g _ J);simp only[AT,ABY,ne_eq]at C;obtain⟨⟨aw,ax⟩,ay⟩:=C;refine wpIn_rangeFunc (F:=FR c.r) ?_;intro fn _;have bm:(FR c.r).round=none:=by rw[bl];rfl
 rw[bm];obtain⟨L,s⟩:∃L:Go.Loop,L={ state:=.ready,pending:=none,fn,tmps:=a.tmps,params:=N,assign:=E,body:=G,defers:=w.heap.size }:=⟨_,rfl⟩;obtain⟨O,M,bq⟩:=tA U hs aw ax ay bb bc bd L;obtain⟨A,objs,stay,post,ren,z,I,af,ag,ah,ai,aj,ak⟩:=an L a.tmps (by rw[s]) (by rw[s]) (by rw[s]) (by rw[s]) (by rw[s]) (by rw[s]) hs.nt;obtain⟨⟨Q,av,bi,aq⟩,I⟩:=I;obtain⟨o,T⟩:∃o,(w.alloc (.deferred (some []))).alloc (.loop L)=o:=⟨_,rfl⟩;rw[T]at M;have W:(c.marked2 yn dn w.heap.size).Ok:=kZ U;have au:I1 (vw o c.O0 (Bj σ yn dn fr L a.tmps) O) (.yl yn :: l.map fun n=>AV.bp n [] 0) (.func (.yield (w.heap.size+1)) #[] #[] :: l.map ρ):=by
  refine⟨_,_,rfl,⟨⟨_,by simp[Bj,lk];rfl⟩,_,bq,rfl⟩,?_⟩;have X:=aO (V:=vw o c.O0 (Bj σ yn dn fr L a.tmps) O) (f:=gf) (ns:=l) (v:=a.eval g) (by
   have:=Du M.env;have bj:Ah (Bj σ yn dn fr L a.tmps) g=some (.clo gf l):=by
    cases g with
    | tmp t=>exact J
    | _=>exact J
   have S:=this g _ bj;have az:({ a with defers:=[{ target:=.collected w.heap.size,args:=#[] }]++a.defers }:Act).eval g=a.eval g:=by cases g<;>rfl
   rw[az]at S;exact S)
  have e:=X.1;rw[Y]at e;have H:l.map ρ=l.map O:=by
   have e:=AAP (fun v:Value=>match v with|.func _ _ cs=>cs.toList|_=>[]) e;simpa[vw] using e
  rw[H];exact X.2
 have bg:∀res x,post res x→∃(j:List (Nat×Bw)) (aa:AV) (i:List (Nat×Obj)),B8 j=true∧CS i j=true∧Ab x j i∧Bc j res aa ∧
   JH ren j stay z=true∧FU (Ag ren) i (Bj σ yn dn fr L a.tmps).objs=true∧∀B w',(c.marked2 yn dn w.heap.size).sat (CE (Bj σ yn dn fr L a.tmps) (Ag ren) z none aa i) B w' →
    rangePost (FR c.r) 0 c.P (w.heap.size+1) (Sw c R k) B (.returned undef) w':=by
  intro res x hp;obtain⟨j,i,m,bs,bt,bu,bv,bw,bx,Z,bz⟩:=ak res x hp;refine⟨j,.top,i,bs,bt,bu,s9 j res,bv,bw,fun B w' D=>?_⟩;obtain⟨ρ',D⟩:=D;have br:lk yn (CE (Bj σ yn dn fr L a.tmps) (Ag ren) z none .top i).objs=some (.loop m):=by
   simp only[CE,A0,bx];rfl
  have hyp:=(D.pin (yn,.pointer (some ⟨w.heap.size+1,0,none⟩)) (by simp[Cx.marked2])).2.1;obtain⟨ca,q⟩:=UL W D br hyp { m with state:=.exhausted };refine⟨_,_,run_endLoop ca (by intro e;rw[e]at Z;cases Z),?_⟩;have bo:(c.marked dn w.heap.size).sat ⟨(CE (Bj σ yn dn fr L a.tmps) (Ag ren) z none .top i).env,upd yn (.loop { m with state:=.exhausted }) (CE (Bj σ yn dn fr L a.tmps) (Ag ren) z none .top i).objs⟩ B (w'.putObj (w.heap.size+1) (.loop { m with state:=.exhausted })) :=
   ⟨ρ',q.frm,q.nt,q.defers,fun p hp=>q.pin p (ON _ hp),q.objs,q.free,q.dist,q.env⟩
  have K:=A2Y bf al (bz w.heap.size) bo;revert K;generalize m.pending=p;intro K;cases p<;>exact K
 obtain⟨ab,ad,cb,am,ao,bh,ap,_,bk⟩:=Q3 W M au stay post ren af ag ah ai z (by simpa[Cx.marked2] using aj) (dst:=none) (fun d C=>by cases C) bg;have ar:=I o ab ad cb _ am ao bh ap;refine⟨w.heap.size+1,[{ target:=.collected w.heap.size,args:=#[] }],o,{ target:=.fn (.func gf) (l.map ρ).toArray,args:=#[.func (.yield (w.heap.size+1)) #[] #[]] },o,gf,
  (.func (.yield (w.heap.size+1)) #[] #[] :: l.map ρ).toArray,o,?_,?_,fun _ _=>trivial,?_,fun h=>by simp[FR]at h,?_⟩
 ·rw[←T,s];exact run_enterLoop_outer _ _ _ _ _
 ·have be:a.eval g=.func (.func gf) #[] (l.map ρ).toArray:=Y;simp only[resolve,be];simp[go_sem]
 ·have ae : ¬ Q.name = "runtime.NumGoroutine" := by simpa using bi
  have H:¬Q.body=none:=by intro e;simp[e]at aq
  simp[invoke,callFunc,av,ae,H]
 ·refine Kw (ar.mono fun e w' hh=>?_);obtain⟨u,rfl,hh⟩:=hh;exact bk u w' hh
theorem x5 (O:c.Ok) {a:Act} {w:World} {ρ:Nat→Value} (hs:Bm c.w0 c.K c.O0 c.nt c.ds σ ρ a w) {dn b:Nat} (j:lk dn σ.objs=some .dfr) (i:ρ dn=.pointer (some ⟨b,0,none⟩)) (X:_root_.Go.Obj) (pin:List (Nat×Value)) (G:∀p∈pin,p∈c.ds.pin∧p.1≠dn) :
  w.heap[b]?=some (.deferred (some []))∧Bm c.w0 c.K c.O0 c.nt { ds:=c.ds.ds,pin:=pin } ⟨BT [dn] σ.env,Af [dn] [dn] σ.objs⟩ ρ a (w.putObj b X):=by
 obtain⟨b',h1,h⟩:=hs.objs dn _ j;rw[i]at h1;injection h1 with h1
 injection h1 with h1
 injection h1 with h1
 subst h1;have P:b<w.heap.size:=CL h;refine⟨h,?_⟩;have A:own c.O0 σ ρ b:=.inr ⟨dn,⟨_,j⟩,by rw[i];exact .inl rfl⟩;have f:∀n,Gn ⟨BT [dn] σ.env,Af [dn] [dn] σ.objs⟩ n→Gn σ n∧n≠dn:=by
  rintro n ⟨o,hn⟩;have hn:lk n (Af [dn] [dn] σ.objs)=some o:=hn;rw[BR]at hn;split at hn
  ·cases hn
  ·rename_i r;simp only[NO]at hn;obtain⟨y,d,_⟩:=hn;exact⟨⟨y,d⟩,fun e=>r (by subst e;simp[AW])⟩
 have l:∀k,k≠b→(w.putObj b X).heap[k]?=w.heap[k]?:=fun k hk=>World.putObj_heap_other hk;have q:CR ((vw w c.O0 σ ρ).buts [dn]) (vw (w.putObj b X) c.O0 ⟨BT [dn] σ.env,Af [dn] [dn] σ.objs⟩ ρ):=by
  refine⟨fun k _ hk B=>?_,fun n hn=>?_,fun _ _=>rfl,fun k _ hk=>l k (fun e=>?_)⟩
  ·rcases B with h0|⟨n,hn,E⟩
   ·exact hk (.inl h0)
   ·exact hk (.inr ⟨n,(f n hn).1,E⟩)
  ·obtain⟨⟨o,F⟩,D⟩:=hn;exact⟨_,by show lk n (Af [dn] [dn] σ.objs)=_;rw[BR,As (by rw[D];simp),F];rfl⟩
  ·subst e;exact hk A
 refine⟨⟨hs.frm.os,hs.frm.tape,hs.frm.output,by simpa using hs.frm.size,fun k hk=>?_⟩,hs.nt,hs.defers,fun p hp=>?_,fun n x hn=>?_,fun n k C hk=>hs.free n k (f n C).1 hk,fun n m k h1 h u z=>hs.dist n m k (f n h1).1 (f m h).1 u z,fun s v t=>?_⟩
 ·refine(l k fun e=>?_).trans (hs.frm.block k hk);subst e;exact(hs.free dn k ⟨_,j⟩ (by rw[i];exact .inl rfl)).1 hk
 ·obtain⟨H,I⟩:=G p hp;obtain⟨J,M,N⟩:=hs.pin p H;exact⟨q.L p.1 ⟨J,by simp[AW,I]⟩,M,N⟩
 ·have g:lk n (Af [dn] [dn] σ.objs)=some x:=hn;have r:=(f n ⟨x,hn⟩).2;rw[BR]at g;split at g
  ·cases g
  ·simp only[NO]at g;obtain⟨y,d,rfl⟩:=g;refine Su q (fun k hk=>l k fun e=>?_) (hs.objs n y d);subst e;exact r (hs.dist n dn k ⟨y,d⟩ ⟨_,j⟩ hk (by rw[i];exact .inl rfl))
 ·rw[DK]at t;simp only[NO]at t;obtain⟨y,d,rfl⟩:=t;exact(PQ (hs.env s y d)).keeps q
end
def x6 (P:Program) (fn:Func) (w0:World) (K O0:Nat→Prop) (stay:List Nat) (ρ0:Nat→Value) (post:AV→List (Nat×Obj)→Prop):Exit→Act→World→Prop :=
 bodyPostM (FR none) 0 P fn fun e w'=>∃u,e=.returned u∧Pd K O0 stay w0 ρ0 post u w'
theorem A2Z {P:Program} {tb:Tb} {f:FuncId} {fn:Func} {cd:Code} {nt:Nat} {args:List AV} {objs:List (Nat×Obj)} {stay:List Nat} {post:AV→List (Nat×Obj)→Prop}
  (c : P.funcs[f]? = some fn) (k : (fn.name == "runtime.NumGoroutine") = false) (b : fn.body = some cd) (l : fn.ntmps = nt) (q : args.length ≤ nt)
  (i:Bh nt cd=true) (p:stay.all (SA objs)=true) (j:L1 objs=true) (hT:DF P tb) (hF:I8 P tb)
  (h:∀(w0:World) (K O0:Nat→Prop) (ρ0:Nat→Value),(cm P tb w0 K O0 nt (stay.map fun n=>(n,ρ0 n))).Ok→Pe args→OJ objs →
   Ev (cm P tb w0 K O0 nt (stay.map fun n=>(n,ρ0 n))) (x6 P fn w0 K O0 stay ρ0 post) (.run cd) [] ⟨Ak 0 args,objs⟩):BB P f args objs stay post:=by
 refine⟨⟨fn,c,k,by simp[b]⟩,fun w K O0 ρ s e g d a=>?_⟩;refine callsIn_wide.1 (callsIn_of_wp_marks (F:=FR none) (n:=0) c b trivial ?_ rfl);have r:=JG a;rw[l];exact h w K O0 ρ ⟨e,g,hT,hF⟩ (S2 a) (S3 j fun n o m=>Yc (d.obj n o m)) i rfl _ _ (Tt d a p (by omega))
theorem x7 {P:Program} {tb:Tb} {w0:World} {K O0:Nat→Prop} {nt:Nat} {stay:List Nat} {ρ0:Nat→Value} {fn:Func} {post:AV→List (Nat×Obj)→Prop} {σ:St} {e:Exit} {dn b:Nat} (d:((cm P tb w0 K O0 nt (stay.map fun n=>(n,ρ0 n))).marked dn b).Ok)
  (g:List ResultVar) (s:fn.results.toList=g) (o:e=.ret∨e=.normal) (q:lk dn σ.objs=some .dfr) (f:AW dn stay=false) (res:AV) (h:Tu tb ⟨BT [dn] σ.env,Af [dn] [dn] σ.objs⟩ g res) (hp:post res (Af [dn] [dn] σ.objs)) :
  Ev ((cm P tb w0 K O0 nt (stay.map fun n=>(n,ρ0 n))).marked dn b) (x6 P fn w0 K O0 stay ρ0 post) (.out e) [] σ:=by
 intro _ _ a w hs;obtain⟨ρ,hs⟩:=hs;have l:=(hs.pin (dn,.pointer (some ⟨b,0,none⟩)) (by simp[Cx.marked])).2.1;obtain⟨h1,i⟩:=x5 d hs q l (.deferred none) (stay.map fun n=>(n,ρ0 n)) (fun p hp=>⟨ON _ hp,fun e=>by
  obtain⟨n,hn,rfl⟩:=IS.1 hp;have e:n=dn:=e;subst e;rw[(AY _ _).2 hn]at f;cases f⟩)
 have c:Bm w0 K O0 nt { ds:=[⟨.collected b,#[]⟩],pin:=stay.map fun n=>(n,ρ0 n) } ⟨BT [dn] σ.env,Af [dn] [dn] σ.objs⟩ ρ a (w.putObj b (.deferred none)):=i;obtain⟨u,j,k⟩:=aH d.T c (fn:=fn) (by rw[s];exact h);have r:Pd K O0 stay w0 ρ0 post u (w.putObj b (.deferred none)):=by
  refine⟨res,_,ρ,hp,c.frm,⟨c.objs,c.free,c.dist⟩,k,fun n hn=>?_⟩;exact(c.pin (n,ρ0 n) (IS.2 ⟨n,hn,rfl⟩)).2.1
 have m:a.defers=[⟨.collected b,#[]⟩]:=hs.defers;have key:LeavesInM (FR none) 0 P fn a.tmps (fun e w'=>∃u,e=.returned u∧Pd K O0 stay w0 ρ0 post u w') a.defers .returning w:=by
  rw[m];exact⟨by simp,.inl ⟨b,_,rfl,run_takeDeferred h1,u,j,u,rfl,r⟩⟩
 rcases o with rfl|rfl
 ·exact key
 ·exact key
end
section
open Go Go.RowKit
section
variable {c:Cx} {R:Exit→Act→World→Prop} {k:List Df} {σ σ':St}
theorem rP (a:c.Ok) {id:Nat} {l:List Oper} {vc:Prop} (b:vc) (hk:Ev c R (.out .normal) k σ') (h0:(l.all fun o=>o.guard.isNone)=true:=by rfl)
  (h:DZ c.tb.live (Bp c.tb l l σ)=some (vc,σ'):=by simp only[go_sem,Nat.reduceEqDiff,reduceCtorEq,Nat.reduceAdd,Nat.reduceSub,Nat.reduceMul,Nat.reduceLeDiff,Nat.reduceLT,Int.reduceLE,Int.reduceToNat,Int.reduceNeg,↓reduceIte];rfl):Ev c R (.run (.region id l.toArray false)) k σ:=MA _ a h0 h b hk
theorem rD (a:c.Ok) {id:Nat} {l:List Oper} {vc:Prop} (d:vc) (hk:Ev c R (.out .normal) k σ') (h0:Lb l l.length=true:=by kernel_rfl) (b:c.P.follows .mixedOrders=true:=by exact drawsAny)
  (h:DZ c.tb.live (K4 c.tb l false σ.objs [] l 0 [] [] σ)=some (vc,σ'):=by simp only[go_sem,Nat.reduceEqDiff,reduceCtorEq,Nat.reduceAdd,Nat.reduceSub,Nat.reduceMul,Nat.reduceLeDiff,Nat.reduceLT,Int.reduceLE,Int.reduceToNat,Int.reduceNeg,↓reduceIte];rfl):Ev c R (.run (.region id l.toArray true)) k σ:=Wy _ b a h0 h d hk
theorem rC {o:Operand} {x y:Code} {b:Bool} {p q:Prop} (d:p→Ev c R (.run x) k σ) (hf:q→Ev c R (.run y) k σ) (h:Ah σ o=some (.p .bool b):=by simp only[go_sem,Nat.reduceEqDiff,reduceCtorEq,Nat.reduceAdd,Nat.reduceSub,Nat.reduceMul,Nat.reduceLeDiff,Nat.reduceLT,Int.reduceLE,Int.reduceToNat,Int.reduceNeg,↓reduceIte];rfl)
  (hp:(b=true)=p:=by first|(simp only[DO,On,AT,iS,Bool.and_eq_false_imp,AAp,OR,AAU,tO,AAs,ABY,Bool.not_eq_eq_eq_not,ACe,ACv,AAS,Int.not_le,ne_eq];rfl)|rfl) (a:(b=false)=q:=by first|(simp only[DO,On,AT,iS,Bool.and_eq_false_imp,AAp,OR,AAU,tO,AAs,ABY,Bool.not_eq_eq_eq_not,ACe,ACv,AAS,Int.not_le,ne_eq];rfl)|rfl):Ev c R (.run (.cond o x y)) k σ :=
 Dl h (fun e=>d (hp▸e)) (fun e=>hf (a▸e))
theorem rL (a:c.Ok) {ops:List Oper} {l:List Oper} {vc:Prop} (b:vc) (hk:Ev c R (.out .normal) k σ') (h:DZ c.tb.live (Bp c.tb ops l σ)=some (vc,σ'):=by simp only[go_sem,Nat.reduceEqDiff,reduceCtorEq,Nat.reduceAdd,Nat.reduceSub,Nat.reduceMul,Nat.reduceLeDiff,Nat.reduceLT,Int.reduceLE,Int.reduceToNat,Int.reduceNeg,↓reduceIte];rfl):HY c R k ops.toArray l σ:=IR _ a h b hk
theorem rN (n:Nat) (a:c.Ok) {ops:List Oper} {l:List Oper} {vc:Prop} (b:vc) (hk:HY c R k ops.toArray (l.drop n) σ') (h:Bp c.tb ops (l.take n) σ=some (vc,σ'):=by simp only[AAE,AAO,go_sem,Nat.reduceEqDiff,reduceCtorEq,Nat.reduceAdd,Nat.reduceSub,Nat.reduceMul,Nat.reduceLeDiff,Nat.reduceLT,Int.reduceLE,Int.reduceToNat,Int.reduceNeg,↓reduceIte];rfl):HY c R k ops.toArray l σ:=S1 a n (by simpa using h) b hk
theorem cP (n:Nat) (a:c.Ok) {id:Nat} {l:List Oper} {vc:Prop} (b:vc) (hk:HY c R k l.toArray (l.drop n) σ') (h0:(l.all fun o=>o.guard.isNone)=true:=by rfl) (h:Bp c.tb l (l.take n) σ=some (vc,σ'):=by simp only[AAE,AAO,go_sem,Nat.reduceEqDiff,reduceCtorEq,Nat.reduceAdd,Nat.reduceSub,Nat.reduceMul,Nat.reduceLeDiff,Nat.reduceLT,Int.reduceLE,Int.reduceToNat,Int.reduceNeg,↓reduceIte];rfl) :
  Ev c R (.run (.region id l.toArray false)) k σ:=xH a n h0 h b hk
theorem cD (n:Nat) (a:c.Ok) {id:Nat} {l:List Oper} {vc:Prop} (e:vc) (hk:HY c R k l.toArray (l.drop n) σ') (b:Lb l (l.take n).length=true:=by kernel_rfl) (d:c.P.follows .mixedOrders=true:=by exact drawsAny)
  (h:K4 c.tb l false σ.objs [] (l.take n) 0 [] [] σ=some (vc,σ'):=by simp only[AAE,AAO,go_sem,Nat.reduceEqDiff,reduceCtorEq,Nat.reduceAdd,Nat.reduceSub,Nat.reduceMul,Nat.reduceLeDiff,Nat.reduceLT,Int.reduceLE,Int.reduceToNat,Int.reduceNeg,↓reduceIte];rfl):Ev c R (.run (.region id l.toArray true)) k σ:=xI d a n b h e hk
theorem rM (q:c.Ok) {ops:Array Oper} {rest:List Oper} {dst:Option Nat} {g:Operand} {xs:List Operand} {ts:Array TypeId} {ty:TypeId} {pos:String} {after:Array Edge}
  {f:FuncId} {d:List Nat} {as:List AV} {A:List AV} {objs:List (Nat×Obj)} {stay:List Nat} {post:AV→List (Nat×Obj)→Prop} (l:BB c.P f A objs stay post)
  (ren:List (Nat×Bw)) (hs:List Nat) (j:BH σ ren (as++d.map fun n=>AV.bp n [] 0) A) (m:Ab σ.objs ren objs)
  (hk:∀res e,post res e→∃(a:List (Nat×Bw)) (h:AV) (b:List (Nat×Obj)),B8 a=true∧CS b a=true∧Ab e a b∧Bc a res h ∧
   JH ren a stay hs=true∧FU (Ag ren) b σ.objs=true∧HY c R k ops rest (CE σ (Ag ren) hs dst h b))
  (r:Cp (Ah σ g)=some (f,d):=by simp only[go_sem,Nat.reduceEqDiff,reduceCtorEq,Nat.reduceAdd,Nat.reduceSub,Nat.reduceMul,Nat.reduceLeDiff,Nat.reduceLT,Int.reduceLE,Int.reduceToNat,Int.reduceNeg,↓reduceIte];rfl) (o:IP σ xs=some as:=by simp only[go_sem,Nat.reduceEqDiff,reduceCtorEq,Nat.reduceAdd,Nat.reduceSub,Nat.reduceMul,Nat.reduceLeDiff,Nat.reduceLT,Int.reduceLE,Int.reduceToNat,Int.reduceNeg,↓reduceIte];rfl)
  (h1:B8 ren=true:=by rfl) (i:CS objs ren=true:=by rfl) (s:(c.ds.pin.all fun p=>!AW p.1 hs)=true:=by rfl) :
  HY c R k ops (⟨dst,.call ⟨.value g,xs.toArray,ts⟩,ty,pos,after,none⟩ :: rest) σ:=xG q r o l ren hs h1 i s j m hk
theorem rY (n yn:Nat) (m:c.Ok) {ops:Array Oper} {rest:List Oper} {dst:Option Nat} {g:Operand} {xs:List Operand} {ts:Array TypeId} {ty:TypeId} {pos:String} {after:Array Edge}
  {as:List AV} {A:List AV} {objs:List (Nat×Obj)} {stay:List Nat} {post:AV→List (Nat×Obj)→Prop} (i:aP c.P yn A objs stay post)
  (ren:List (Nat×Bw)) (hs:List Nat) (h:BH σ ren as A) (j:Ab σ.objs ren objs)
  (hk:∀res d,post res d→∃(a:List (Nat×Bw)) (e:AV) (b:List (Nat×Obj)),B8 a=true∧CS b a=true∧Ab d a b∧Bc a res e ∧
   JH ren a stay hs=true∧FU (Ag ren) b σ.objs=true∧HY c R k ops rest (CE σ (Ag ren) hs dst e b))
  (s:c.r=none:=by rfl) (o:WN n (Ah σ g)=true:=by simp only[go_sem,Nat.reduceEqDiff,reduceCtorEq,Nat.reduceAdd,Nat.reduceSub,Nat.reduceMul,Nat.reduceLeDiff,Nat.reduceLT,Int.reduceLE,Int.reduceToNat,Int.reduceNeg,↓reduceIte]) (l:IP σ xs=some as:=by simp only[go_sem,Nat.reduceEqDiff,reduceCtorEq,Nat.reduceAdd,Nat.reduceSub,Nat.reduceMul,Nat.reduceLeDiff,Nat.reduceLT,Int.reduceLE,Int.reduceToNat,Int.reduceNeg,↓reduceIte];rfl)
  (t:lk yn ren=some (.nm n):=by rfl) (h1:B8 ren=true:=by rfl) (f:CS objs ren=true:=by rfl) (q:(c.ds.pin.all fun p=>!AW p.1 hs)=true:=by rfl) :
  HY c R k ops (⟨dst,.call ⟨.value g,xs.toArray,ts⟩,ty,pos,after,none⟩ :: rest) σ:=s6 m s o l i ren hs t h1 f q h j hk
end
end
section
open Go Go.RowKit
section
variable {P:Program} {b:Frame} {a:Act} {k:List Item} {cs:List Frame} {w:World}
theorem Fj {c:Code}:step P (lone (b.atR a (.code (.scope c) :: k)) cs w)=.next (lone (b.atR a (.code c :: .inScope c :: k)) cs w) :=
 step_lone_go (by simp[stepG,stepG.exec,Frame.atR])
theorem WO {c:Code}:step P (lone (b.atR a (.inScope c :: k)) cs w)=.next (lone (b.atR a k) cs w) :=
 step_lone_go (by simp[stepG,stepG.exec,Frame.atR])
end
theorem NU {F:Fence} {n:Nat} {P:Program} {Q:Exit→Act→World→Prop} {a:Act} {w:World} {c:Code} (h:c.wpIn F n P (Exit.noGoto Q) a w):(Code.scope c).wpIn F n P Q a w:=by
 intro b k cs r j m;have h0:(lone (b.atR a (.code (.scope c) :: k)) cs w).fenced P F:=fenced_calm j m rfl;obtain⟨e,g,i,f,d⟩:=h b (.inScope c :: k) cs r j m;cases e with
 | normal=>exact⟨.normal,g,i,f,.head h0 Fj (StepsIn.trans d (.one (fenced_calm j m rfl) WO))⟩
 | exit id =>
  have o:exitTo id (.inScope c :: k)=exitTo id k:=by simp[exitTo]
  exact⟨.exit id,g,i,f,fun s hk=>.head h0 Fj (d.1 s (by rw[o];exact hk)),
   fun q hk=>let ⟨t,h1,p⟩:=d.2 q (by rw[o];exact hk);⟨t,h1,.head h0 Fj p⟩⟩
 | goto l=>exact f.elim
 | ret=>exact⟨_,g,i,f,.of_steps (.one h0 Fj) d⟩
 | panic ch=>exact⟨_,g,i,f,.of_steps (.one h0 Fj) d⟩
 | outgrown=>exact⟨_,g,i,f,.of_steps (.one h0 Fj) d⟩
section
variable {c:Cx} {R:Exit→Act→World→Prop} {k:List Df} {σ:St}
theorem Pj (b:∀l a w,¬R (.goto l) a w):∀(k:List Df) (l:Nat) (a:Act) (w:World),¬Sw c R k (.goto l) a w
 | [],l,a,w=>b l a w
 | .seq _ :: k,l,a,w=>Pj b k l a w
 | .blk _ :: k,l,a,w=>Pj b k l a w
 | .inv _ :: k,l,a,w=>Pj b k l a w
theorem x8 (i:∀l a w,¬R (.goto l) a w) {b:Code} (h:Ev c R (.run b) k σ):Ev c R (.run (.scope b)) k σ:=by
 intro h1 g a w hs;have h1:Bh c.nt b=true:=by simpa[II,Bh] using h1
 refine NU (ACx (h h1 g a w hs) ?_);intro e f w' d;cases e with
 | goto l=>exact absurd d (Pj i k l f w')
 | _=>exact d
theorem x9 {l:Nat} (h:Ev c R (.out .normal) k σ):Ev c R (.run (.label l)) k σ:=fun _ b a w hs=>wpIn_label (h rfl b a w hs)
theorem yA {P:Program} {fn:Func} {w0:World} {O0:Nat→Prop} {b:List RV}:∀l a w,¬R8 P fn w0 O0 b (.goto l) a w:=fun _ _ _ h=>h
end
end
section
open Go Go.RowKit
def pI:o0→List Df→Option (o0×List Df)
 | .run (.seq x y),k=>some (.run x,.seq y :: k)
 | .run .skip,k=>some (.out .normal,k)
 | .run .ret,k=>some (.out .ret,k)
 | .run (.exit id),k=>some (.out (.exit id),k)
 | .run (.block id b),k=>some (.run b,.blk id :: k)
 | .out .normal,.seq y :: k=>some (.run y,k)
 | .out .normal,.blk _ :: k=>some (.out .normal,k)
 | .out (.exit id),.seq _ :: k=>some (.out (.exit id),k)
 | .out (.exit a),.blk id :: k=>if a=id then some (.out .normal,k) else some (.out (.exit a),k)
 | .out (.exit id),.inv _ :: k=>some (.out (.exit id),k)
 | .out .ret,.seq _ :: k=>some (.out .ret,k)
 | .out .ret,.blk _ :: k=>some (.out .ret,k)
 | .out .ret,.inv _ :: k=>some (.out .ret,k)
 | _,_=>none
def UM:Nat→o0→List Df→o0×List Df
 | 0,n,k=>(n,k)
 | m+1,n,k=>match pI n k with
  | some (b,a)=>UM m b a
  | none=>(n,k)
def pJ (n:o0) (k:List Df):Option (o0×List Df):=match pI n k with
 | some (b,a)=>some (UM 200 b a)
 | none=>none
section
variable {c:Cx} {R:Exit→Act→World→Prop} {σ:St}
theorem aU {n b:o0} {k a:List Df} (e:pI n k=some (b,a)) (h:Ev c R b a σ):Ev c R n k σ:=by
 unfold pI at e;split at e<;>first
  | (cases e;done)
  | (split at e<;>(cases e;first|(rename_i d;rw[d];exact kK h)|exact kL (by assumption) h))
  | (cases e;first|exact A4O h|exact o4 h|exact A4P h|exact A2Q h|exact w6 h|exact IJ h|exact kG h|exact Z7 h|exact Z8 h|exact kF h|exact kH h|exact kI h)
theorem XC:∀(m:Nat) {n:o0} {k:List Df},Ev c R (UM m n k).1 (UM m n k).2 σ→Ev c R n k σ
 | 0,_,_,h=>h
 | m+1,n,k,h=>by
  unfold UM at h;split at h
  ·rename_i b a e;exact aU e (XC m h)
  ·exact h
theorem eS {n b:o0} {k a:List Df} (e:pJ n k=some (b,a)) (h:Ev c R b a σ):Ev c R n k σ:=by
 unfold pJ at e;split at e
 ·rename_i n1 f d;refine aU d (XC 200 ?_);have:=ACf e;rw[this];exact h
 ·cases e
end
inductive RX (c:Cx) (lv:List Nat) (σ:St) (vc:Prop) (σ':St):Array Oper→Bool→Prop
 | p {l:List Oper} (h0:(l.all fun o=>o.guard.isNone)=true) (h:DZ lv (Bp c.tb l l σ)=some (vc,σ')):RX c lv σ vc σ' l.toArray false
 | a {l:List Oper} (h0:sO l l.length=true) (h:DZ lv (K4 c.tb l true σ.objs [] l 0 [] [] σ)=some (vc,σ')):RX c lv σ vc σ' l.toArray false
 | d {l:List Oper} (h0:Lb l l.length=true) (hm:c.P.follows .mixedOrders=true) (h:DZ lv (K4 c.tb l false σ.objs [] l 0 [] [] σ)=some (vc,σ')):RX c lv σ vc σ' l.toArray true
 | t {l:List Oper} (m:Nat) (h0:Lb l (l.take (l.length-m)).length=true) (hm:c.P.follows .mixedOrders=true) (h:DZ lv (K4 c.tb l false σ.objs (l.drop (l.length-m)) (l.take (l.length-m)) 0 [] [] σ)=some (vc,σ')):RX c lv σ vc σ' l.toArray true
theorem A68 {c:Cx} {R:Exit→Act→World→Prop} {k:List Df} {σ σ':St} {b:List Nat} (e:c.Ok) {id:Nat} {ops:Array Oper} {i:Bool} {vc:Prop} (f:vc) (hk:Ev c R (.out .normal) k σ') (h:RX c b σ vc σ' ops i):Ev c R (.run (.region id ops i)) k σ:=by
 cases h with
 | p h0 h=>exact MA b e h0 h f hk
 | a h0 h=>exact aI b e h0 h f hk
 | d h0 g h=>exact Wy b g e h0 h f hk
 | t m h0 g h=>exact sT b m g e h0 h f hk
theorem rX {c:Cx} {R:Exit→Act→World→Prop} {k:List Df} {σ σ':St} (e:c.Ok) {id:Nat} {ops:Array Oper} {b:Bool} {vc:Prop} (f:vc) (hk:Ev c R (.out .normal) k σ')
  (h:RX c c.tb.live σ vc σ' ops b:=by
   first
   | exact .p rfl (by simp only[go_sem,Nat.reduceEqDiff,reduceCtorEq,Nat.reduceAdd,Nat.reduceSub,Nat.reduceMul,Nat.reduceLeDiff,Nat.reduceLT,Int.reduceLE,Int.reduceToNat,Int.reduceNeg,↓reduceIte];rfl)
   | exact .a (by kernel_rfl) (by simp only[go_sem,Nat.reduceEqDiff,reduceCtorEq,Nat.reduceAdd,Nat.reduceSub,Nat.reduceMul,Nat.reduceLeDiff,Nat.reduceLT,Int.reduceLE,Int.reduceToNat,Int.reduceNeg,↓reduceIte];rfl)
   | exact .d (by kernel_rfl) (by exact drawsAny) (by simp only[go_sem,Nat.reduceEqDiff,reduceCtorEq,Nat.reduceAdd,Nat.reduceSub,Nat.reduceMul,Nat.reduceLeDiff,Nat.reduceLT,Int.reduceLE,Int.reduceToNat,Int.reduceNeg,↓reduceIte];rfl)
   | exact .t 1 (by kernel_rfl) (by exact drawsAny) (by simp only[AAE,AB0,AAO,AA6,go_sem,Nat.reduceEqDiff,reduceCtorEq,Nat.reduceAdd,Nat.reduceSub,Nat.reduceMul,Nat.reduceLeDiff,Nat.reduceLT,Int.reduceLE,Int.reduceToNat,Int.reduceNeg,↓reduceIte];rfl)
   | exact .t 2 (by kernel_rfl) (by exact drawsAny) (by simp only[AAE,AB0,AAO,AA6,go_sem,Nat.reduceEqDiff,reduceCtorEq,Nat.reduceAdd,Nat.reduceSub,Nat.reduceMul,Nat.reduceLeDiff,Nat.reduceLT,Int.reduceLE,Int.reduceToNat,Int.reduceNeg,↓reduceIte];rfl)
   | exact .t 3 (by kernel_rfl) (by exact drawsAny) (by simp only[AAE,AB0,AAO,AA6,go_sem,Nat.reduceEqDiff,reduceCtorEq,Nat.reduceAdd,Nat.reduceSub,Nat.reduceMul,Nat.reduceLeDiff,Nat.reduceLT,Int.reduceLE,Int.reduceToNat,Int.reduceNeg,↓reduceIte];rfl)):Ev c R (.run (.region id ops b)) k σ:=A68 e f hk h
theorem eN {p:Prop} (h:p:=by simp only[go_sem,Nat.reduceEqDiff,reduceCtorEq,Nat.reduceAdd,Nat.reduceSub,Nat.reduceMul,Nat.reduceLeDiff,Nat.reduceLT,Int.reduceLE,Int.reduceToNat,Int.reduceNeg,↓reduceIte]<;>fail):p:=h
theorem eM {p q:Prop} (a:q) (h:p=q:=by simp only[go_sem,Nat.reduceEqDiff,reduceCtorEq,Nat.reduceAdd,Nat.reduceSub,Nat.reduceMul,Nat.reduceLeDiff,Nat.reduceLT,Int.reduceLE,Int.reduceToNat,Int.reduceNeg,↓reduceIte];rfl):p:=h▸a
theorem eR {p:Prop} (h:p:=by simp only[Nj,JB,IK,Ky,Mv,Jn,Gw,go_sem,Nat.reduceEqDiff,reduceCtorEq,Nat.reduceAdd,Nat.reduceSub,Nat.reduceMul,Nat.reduceLeDiff,Nat.reduceLT,Int.reduceLE,Int.reduceToNat,Int.reduceNeg,↓reduceIte]<;>fail):p:=h
theorem Ym {p q:Prop} (a:q) (h:p=q:=by simp only[Nj,JB,IK,Ky,Mv,Jn,Gw,go_sem,Nat.reduceEqDiff,reduceCtorEq,Nat.reduceAdd,Nat.reduceSub,Nat.reduceMul,Nat.reduceLeDiff,Nat.reduceLT,Int.reduceLE,Int.reduceToNat,Int.reduceNeg,↓reduceIte];rfl):p:=h▸a
theorem eV {p:Prop} (h:p:=by (try dsimp only[Ty.den]at *)<;>(repeat'(first|apply And.intro|intro _))<;>omega):p:=h
end
section
open Go Go.RowKit
section
variable {c:Cx} {R:Exit→Act→World→Prop} {k:List Df} {σ σ':St}
theorem yB (d:c.Ok) {id:Nat} {l:List Oper} (n:Nat) {vc:Prop} (h:Bp c.tb l (l.take n) σ=some (vc,σ')) (f:vc) (hk:HY c R k l.toArray (l.drop n) σ') :
  Ev c R (.run (.region id l.toArray false)) k σ:=by
 intro h1 b a w hs;simp only[II,Bh,GO]at h1;exact AC9 (S1 d n (by simpa using h) f hk (fun o e=>h1 o e) b a w hs)
theorem tB (F:c.Ok) {ops:Array Oper} {rest:List Oper} {dst:Option Nat} {g:Operand} {xs:List Operand} {ts:Array TypeId} {ty:TypeId} {pos:String} {after:Array Edge} {i:Option (Nat×Bool)}
  (H:EX ops.toList σ i=some true)
  {f:FuncId} {j:List Nat} (G:Cp (Ah σ g)=some (f,j)) {as:List AV} (E:IP σ xs=some as)
  {A:List AV} {objs:List (Nat×Obj)} {stay:List Nat} {post:AV→List (Nat×Obj)→Prop} (C:BB c.P f A objs stay post)
  (ren:List (Nat×Bw)) (hs:List Nat) (h1:B8 ren=true) (y:CS objs ren=true) (K:(c.ds.pin.all fun p=>!AW p.1 hs)=true) (z:BH σ ren (as++j.map fun n=>AV.bp n [] 0) A) (D:Ab σ.objs ren objs)
  (hk:∀res e,post res e→∃(b:List (Nat×Bw)) (h:AV) (d:List (Nat×Obj)),B8 b=true∧CS d b=true∧Ab e b d∧Bc b res h ∧
   JH ren b stay hs=true∧FU (Ag ren) d σ.objs=true∧HY c R k ops rest (CE σ (Ag ren) hs dst h d)) :
  HY c R k ops (⟨dst,.call ⟨.value g,xs.toArray,ts⟩,ty,pos,after,i⟩ :: rest) σ:=by
 intro l I a w m;unfold wpListIn;rw[At (Hm (o:=⟨dst,.call ⟨.value g,xs.toArray,ts⟩,ty,pos,after,i⟩) m H)];refine Ye F (xs:=xs) (ts:=ts) rfl rfl G E C ren h1 y z D hs K m (Bb (l _ (by simp))) fun res e hp=>?_;obtain⟨b,h,d,r,s,t,u,v,x,B⟩:=hk res e hp;exact⟨b,h,d,r,s,t,u,v,x,fun q w' L=>B (fun o J=>l o (by simp[J])) I q w' L⟩
end
end
section
open Go Go.RowKit
section
variable {c:Cx} {ops:List Oper} {Kf:St→Prop} {τ:St} {ens:EN} {vc:Prop}
theorem Jr {A D:List Nat} {l:Nat} {b:List (List Nat×Nat)} {o:Oper} {d:St} {a:EN} (j:vc) (e:Tz c o d a (fun m=>xJ c ops Kf b D a m)) (h:jY c.tb ops τ.objs (A++qs b D) [] τ.env=some (vc,ens):=by simp only[go_sem,Nat.reduceEqDiff,reduceCtorEq,Nat.reduceAdd,Nat.reduceSub,Nat.reduceMul,Nat.reduceLeDiff,Nat.reduceLT,Int.reduceLE,Int.reduceToNat,Int.reduceNeg,↓reduceIte];rfl) (g:Pf ens τ.objs=true:=by rfl) (i:ops[l]?=some o:=by rfl)
  (k:Lo (ens.take A.length) τ=d:=by simp only[go_sem,Nat.reduceEqDiff,reduceCtorEq,Nat.reduceAdd,Nat.reduceSub,Nat.reduceMul,Nat.reduceLeDiff,Nat.reduceLT,Int.reduceLE,Int.reduceToNat,Int.reduceNeg,↓reduceIte];rfl) (f:ens.drop A.length=a:=by simp only[go_sem,Nat.reduceEqDiff,reduceCtorEq,Nat.reduceAdd,Nat.reduceSub,Nat.reduceMul,Nat.reduceLeDiff,Nat.reduceLT,Int.reduceLE,Int.reduceToNat,Int.reduceNeg,↓reduceIte];rfl):xJ c ops Kf ((A,l) :: b) D ens τ:=xV h j g i k f e
theorem Ow {R:Exit→Act→World→Prop} {k:List Df} {σ':St} (d:c.Ok) {D:List Nat} {l:List Oper} {a:Prop} (f:vc) (g:a) (hk:Ev c R (.out .normal) k σ') (h:jY c.tb ops τ.objs D [] τ.env=some (vc,ens):=by simp only[go_sem,Nat.reduceEqDiff,reduceCtorEq,Nat.reduceAdd,Nat.reduceSub,Nat.reduceMul,Nat.reduceLeDiff,Nat.reduceLT,Int.reduceLE,Int.reduceToNat,Int.reduceNeg,↓reduceIte];rfl) (e:Pf ens τ.objs=true:=by rfl)
  (b:DZ c.tb.live (Bp c.tb ops l (Lo ens τ))=some (a,σ'):=by simp only[go_sem,Nat.reduceEqDiff,reduceCtorEq,Nat.reduceAdd,Nat.reduceSub,Nat.reduceMul,Nat.reduceLeDiff,Nat.reduceLT,Int.reduceLE,Int.reduceToNat,Int.reduceNeg,↓reduceIte];rfl):xJ c ops (fun τ=>HY c R k ops.toArray l τ) [] D ens τ:=xU h f e (IR _ d b g hk)
end
section
variable {c:Cx} {o:Oper} {σ:St} {ens:EN} {N:St→Prop} {R:Exit→Act→World→Prop} {k:List Df} {σ':St}
theorem Ld (b:c.Ok) {τ:St} {vc:Prop} (ns:List Nat) (i:vc) (a:N τ) (h:F1 c.tb o σ=some (vc,τ):=by simp only[go_sem,Nat.reduceEqDiff,reduceCtorEq,Nat.reduceAdd,Nat.reduceSub,Nat.reduceMul,Nat.reduceLeDiff,Nat.reduceLT,Int.reduceLE,Int.reduceToNat,Int.reduceNeg,↓reduceIte];rfl) (f:tn σ o.op=ns:=by simp only[go_sem,Nat.reduceEqDiff,reduceCtorEq,Nat.reduceAdd,Nat.reduceSub,Nat.reduceMul,Nat.reduceLeDiff,Nat.reduceLT,Int.reduceLE,Int.reduceToNat,Int.reduceNeg,↓reduceIte]) (g:IU o ens=true:=by rfl) (hn:HN ns σ.objs ens=true:=by rfl) (e:MD τ.objs ens=true:=by rfl)
  (hf:Ha ns ens=ens:=by simp only[go_sem,Nat.reduceEqDiff,reduceCtorEq,Nat.reduceAdd,Nat.reduceSub,Nat.reduceMul,Nat.reduceLeDiff,Nat.reduceLT,Int.reduceLE,Int.reduceToNat,Int.reduceNeg,↓reduceIte]) (d:HX c.nt o=true:=by rfl):Tz c o σ ens N:=sZ b ns h f g hn e hf d i a
theorem mxC (o:c.Ok) {dst:Option Nat} {g:Operand} {xs:List Operand} {ts:Array TypeId} {ty:TypeId} {pos:String} {after:Array Edge} {f:FuncId} {d:List Nat} {as:List AV}
  {A:List AV} {objs:List (Nat×Obj)} {stay:List Nat} {post:AV→List (Nat×Obj)→Prop} (k:BB c.P f A objs stay post) (ren:List (Nat×Bw)) (hs:List Nat)
  (j:BH σ ren (as++d.map fun n=>AV.bp n [] 0) A) (l:Ab σ.objs ren objs)
  (hk:∀res e,post res e→∃(b:List (Nat×Bw)) (h:AV) (a:List (Nat×Obj)),B8 b=true∧CS a b=true∧Ab e b a∧Bc b res h ∧
   JH ren b stay hs=true∧FU (Ag ren) a σ.objs=true∧MD a ens=true∧N (CE σ (Ag ren) hs dst h a))
  (r:Cp (Ah σ g)=some (f,d):=by simp only[go_sem,Nat.reduceEqDiff,reduceCtorEq,Nat.reduceAdd,Nat.reduceSub,Nat.reduceMul,Nat.reduceLeDiff,Nat.reduceLT,Int.reduceLE,Int.reduceToNat,Int.reduceNeg,↓reduceIte];rfl) (m:IP σ xs=some as:=by simp only[go_sem,Nat.reduceEqDiff,reduceCtorEq,Nat.reduceAdd,Nat.reduceSub,Nat.reduceMul,Nat.reduceLeDiff,Nat.reduceLT,Int.reduceLE,Int.reduceToNat,Int.reduceNeg,↓reduceIte];rfl) (h1:B8 ren=true:=by rfl) (i:CS objs ren=true:=by rfl) (s:(c.ds.pin.all fun p=>!AW p.1 hs)=true:=by rfl)
  (t:IU ⟨dst,.call ⟨.value g,xs.toArray,ts⟩,ty,pos,after,none⟩ ens=true:=by rfl) (hn:HN (Ag ren) σ.objs ens=true:=by rfl) (hf:Ha hs ens=ens:=by simp only[go_sem,Nat.reduceEqDiff,reduceCtorEq,Nat.reduceAdd,Nat.reduceSub,Nat.reduceMul,Nat.reduceLeDiff,Nat.reduceLT,Int.reduceLE,Int.reduceToNat,Int.reduceNeg,↓reduceIte]) (q:HX c.nt ⟨dst,.call ⟨.value g,xs.toArray,ts⟩,ty,pos,after,none⟩=true:=by rfl) :
  Tz c ⟨dst,.call ⟨.value g,xs.toArray,ts⟩,ty,pos,after,none⟩ σ ens N:=s5 o r m k ren hs h1 i s t hn hf q j l hk
theorem evP (a:c.Ok) {id:Nat} {l:List Oper} (n:Nat) {vc:Prop} (b:vc) (hk:HY c R k l.toArray (l.drop n) σ') (h:Bp c.tb l (l.take n) σ=some (vc,σ'):=by simp only[AAE,AAO,go_sem,Nat.reduceEqDiff,reduceCtorEq,Nat.reduceAdd,Nat.reduceSub,Nat.reduceMul,Nat.reduceLeDiff,Nat.reduceLT,Int.reduceLE,Int.reduceToNat,Int.reduceNeg,↓reduceIte];rfl):Ev c R (.run (.region id l.toArray false)) k σ:=yB a n h b hk
theorem clG (r:c.Ok) {ops:Array Oper} {rest:List Oper} {dst:Option Nat} {g:Operand} {xs:List Operand} {ts:Array TypeId} {ty:TypeId} {pos:String} {after:Array Edge} {e:Option (Nat×Bool)} {f:FuncId} {d:List Nat} {as:List AV}
  {A:List AV} {objs:List (Nat×Obj)} {stay:List Nat} {post:AV→List (Nat×Obj)→Prop} (m:BB c.P f A objs stay post) (ren:List (Nat×Bw)) (hs:List Nat) (l:BH σ ren (as++d.map fun n=>AV.bp n [] 0) A) (o:Ab σ.objs ren objs)
  (hk:∀res h,post res h→∃(a:List (Nat×Bw)) (i:AV) (b:List (Nat×Obj)),B8 a=true∧CS b a=true∧Ab h a b∧Bc a res i ∧
   JH ren a stay hs=true∧FU (Ag ren) b σ.objs=true∧HY c R k ops rest (CE σ (Ag ren) hs dst i b))
  (t:EX ops.toList σ e=some true:=by simp only[go_sem,Nat.reduceEqDiff,reduceCtorEq,Nat.reduceAdd,Nat.reduceSub,Nat.reduceMul,Nat.reduceLeDiff,Nat.reduceLT,Int.reduceLE,Int.reduceToNat,Int.reduceNeg,↓reduceIte]) (s:Cp (Ah σ g)=some (f,d):=by simp only[go_sem,Nat.reduceEqDiff,reduceCtorEq,Nat.reduceAdd,Nat.reduceSub,Nat.reduceMul,Nat.reduceLeDiff,Nat.reduceLT,Int.reduceLE,Int.reduceToNat,Int.reduceNeg,↓reduceIte];rfl) (q:IP σ xs=some as:=by simp only[go_sem,Nat.reduceEqDiff,reduceCtorEq,Nat.reduceAdd,Nat.reduceSub,Nat.reduceMul,Nat.reduceLeDiff,Nat.reduceLT,Int.reduceLE,Int.reduceToNat,Int.reduceNeg,↓reduceIte];rfl) (h1:B8 ren=true:=by rfl) (j:CS objs ren=true:=by rfl) (u:(c.ds.pin.all fun p=>!AW p.1 hs)=true:=by rfl) :
  HY c R k ops (⟨dst,.call ⟨.value g,xs.toArray,ts⟩,ty,pos,after,e⟩ :: rest) σ:=tB r t s q m ren hs h1 j u l o hk
theorem Gy (l:List Nat) {n:o0} {a:St} (hk:Ev c R n k a) (h:Ce l σ=a:=by simp only[go_sem,Nat.reduceEqDiff,reduceCtorEq,Nat.reduceAdd,Nat.reduceSub,Nat.reduceMul,Nat.reduceLeDiff,Nat.reduceLT,Int.reduceLE,Int.reduceToNat,Int.reduceNeg,↓reduceIte];rfl):Ev c R n k σ:=Ev.ent hk (o8 l h fun _ _ h=>h)
theorem A69 (l:List Nat) {a:St} (b:Ent c a σ') (h:Ce l σ=a:=by simp only[go_sem,Nat.reduceEqDiff,reduceCtorEq,Nat.reduceAdd,Nat.reduceSub,Nat.reduceMul,Nat.reduceLeDiff,Nat.reduceLT,Int.reduceLE,Int.reduceToNat,Int.reduceNeg,↓reduceIte];rfl):Ent c σ σ':=o8 l h b
end
theorem eT {p:Prop} (h:p:=by simp only[Tu,sS,Q2,Wv,IK,Ky,Jn,go_sem,Nat.reduceEqDiff,reduceCtorEq,Nat.reduceAdd,Nat.reduceSub,Nat.reduceMul,Nat.reduceLeDiff,Nat.reduceLT,Int.reduceLE,Int.reduceToNat,Int.reduceNeg,↓reduceIte]<;>fail):p:=h
section
variable {P:Program} {ty:List (Nat×TI)} {fs:List (Nat×Ae)} {nt:Nat} {f:FuncId} {fn:Func} {cd:Code}
theorem fKP (a b:List Nat) (ne:List (Nat×TypeId)) {sp:Ae} (e:P.funcs[f]?=some fn) (j:fn.ntmps=nt) (hF:I8 P ⟨ty,fs,b,ne,a⟩)
  (h:∀(w0:World) (O0:Nat→Prop) (ds:Kj sp.ins),(cx P ⟨ty,fs,b,ne,a⟩ w0 O0 nt).Ok→oks sp.ins ds→sp.pre ds→Ev (cx P ⟨ty,fs,b,ne,a⟩ w0 O0 nt) (R8 P fn w0 O0 (sp.out ds)) (.run cd) [] ⟨AM 0 sp.ins ds,[]⟩)
  (c : fn.body = some cd := by rfl) (hT : DF P ⟨ty, fs, b, ne, a⟩ := by exact tyTab_ok _ _ _ _) (i : (fn.name == "runtime.NumGoroutine") = false := by kernel_rfl) (g : sp.ins.length ≤ nt := by decide) (d : Bh nt cd = true := by kernel_rfl) : Ao P f sp := A4b e i c j g d hT hF h
theorem fK (a:List Nat) {sp:Ae} (d:P.funcs[f]?=some fn) (i:fn.ntmps=nt) (hF:I8 P ⟨ty,fs,[],[],a⟩)
  (h:∀(w0:World) (O0:Nat→Prop) (ds:Kj sp.ins),(cx P ⟨ty,fs,[],[],a⟩ w0 O0 nt).Ok→oks sp.ins ds→sp.pre ds→Ev (cx P ⟨ty,fs,[],[],a⟩ w0 O0 nt) (R8 P fn w0 O0 (sp.out ds)) (.run cd) [] ⟨AM 0 sp.ins ds,[]⟩)
  (b : fn.body = some cd := by rfl) (hT : DF P ⟨ty, fs, [], [], a⟩ := by exact tyTab_ok _ _ _ _) (g : (fn.name == "runtime.NumGoroutine") = false := by kernel_rfl) (e : sp.ins.length ≤ nt := by decide) (c : Bh nt cd = true := by kernel_rfl) : Ao P f sp := A4b d g b i e c hT hF h
variable {args:List AV} {objs:List (Nat×Obj)} {stay:List Nat} {post:AV→List (Nat×Obj)→Prop}
theorem KJ (a b:List Nat) (ne:List (Nat×TypeId)) (e:P.funcs[f]?=some fn) (k:fn.ntmps=nt) (hF:I8 P ⟨ty,fs,b,ne,a⟩)
  (h:∀(w0:World) (K O0:Nat→Prop) (ρ0:Nat→Value),(cm P ⟨ty,fs,b,ne,a⟩ w0 K O0 nt (stay.map fun n=>(n,ρ0 n))).Ok→Pe args→OJ objs →
   Ev (cm P ⟨ty,fs,b,ne,a⟩ w0 K O0 nt (stay.map fun n=>(n,ρ0 n))) (A2U P fn w0 K O0 stay ρ0 post) (.run cd) [] ⟨Ak 0 args,objs⟩)
  (c : fn.body = some cd := by rfl) (hT : DF P ⟨ty, fs, b, ne, a⟩ := by exact tyTab_ok _ _ _ _) (j : (fn.name == "runtime.NumGoroutine") = false := by kernel_rfl) (i : args.length ≤ nt := by simp only [Of, AAN]; omega) (d : Bh nt cd = true := by kernel_rfl) (l : stay.all (SA objs) = true := by rfl) (g : L1 objs = true := by rfl) : BB P f args objs stay post := A4W e j c k i d l g hT hF h
theorem fKR (a b:List Nat) (ne:List (Nat×TypeId)) (e:P.funcs[f]?=some fn) (k:fn.ntmps=nt) (hF:I8 P ⟨ty,fs,b,ne,a⟩)
  (h:∀(w0:World) (K O0:Nat→Prop) (ρ0:Nat→Value),(cm P ⟨ty,fs,b,ne,a⟩ w0 K O0 nt (stay.map fun n=>(n,ρ0 n))).Ok→Pe args→OJ objs →
   Ev (cm P ⟨ty,fs,b,ne,a⟩ w0 K O0 nt (stay.map fun n=>(n,ρ0 n))) (x6 P fn w0 K O0 stay ρ0 post) (.run cd) [] ⟨Ak 0 args,objs⟩)
  (c : fn.body = some cd := by rfl) (hT : DF P ⟨ty, fs, b, ne, a⟩ := by exact tyTab_ok _ _ _ _) (j : (fn.name == "runtime.NumGoroutine") = false := by kernel_rfl) (i : args.length ≤ nt := by simp only [Of, AAN]; omega) (d : Bh nt cd = true := by kernel_rfl) (l : stay.all (SA objs) = true := by rfl) (g : L1 objs = true := by rfl) : BB P f args objs stay post := A2Z e j c k i d l g hT hF h
end
theorem fI {P:Program} {tb:Tb} {w0:World} {O0:Nat→Prop} {nt:Nat} (c:(cx P tb w0 O0 nt).Ok) {fn:Func} {a:List RV} {σ:St} {e:Exit} (b:List ResultVar) (h:Nj tb σ b a:=by exact eR) (g:fn.results.toList=b:=by rfl) (f:e=.ret∨e=.normal:=by exact .inl rfl) (hp:∀r∈a,∃t d,r=.p t d:=by simp) :
  Ev (cx P tb w0 O0 nt) (R8 P fn w0 O0 a) (.out e) [] σ:=A4U c b g f hp h
theorem fM {P:Program} {tb:Tb} {w0:World} {K O0:Nat→Prop} {nt:Nat} {stay:List Nat} {ρ0:Nat→Value} {fn:Func} {post:AV→List (Nat×Obj)→Prop} {σ:St} {e:Exit} (b:(cm P tb w0 K O0 nt (stay.map fun n=>(n,ρ0 n))).Ok)
  (a:List ResultVar) (res:AV) (h:Tu tb σ a res) (hp:post res σ.objs) (d:fn.results.toList=a:=by rfl) (c:e=.ret∨e=.normal:=by first|exact .inl rfl|exact .inr rfl) :
  Ev (cm P tb w0 K O0 nt (stay.map fun n=>(n,ρ0 n))) (A2U P fn w0 K O0 stay ρ0 post) (.out e) [] σ:=A2V b a d c res h hp
end
section
open Go Go.RowKit
structure UN (X σ:St) (n:Nat):Prop where
 env:∀s v,lk s X.env=some v→v.trn n []=v
 arr:∀m o,lk m X.objs=some o→K9 o=true
 new:∀m o,lk m X.objs=some o→lk m σ.objs=none
 nm:∀m o,lk m X.objs=some o→m≠n
section
variable {σ σ' X:St} {n:Nat}
theorem UN.obs (b:NT σ σ' X) (ha:UN X σ n):Ya σ σ':=by
 intro m o hn;rw[b.objs];cases a:lk m X.objs with
 | none=>exact hn
 | some c=>rw[ha.new m c a]at hn;cases hn
theorem A8F (b:NT σ σ' X) (ha:UN X σ n) {en:List (Nat×AV)} {new:List (Nat×Obj)} (c:∀s v,lk s en=some v→lk s X.env=none) (e:∀m o,lk m new=some o→lk m X.objs=none) :
  NT ⟨en++Dr n [] σ.env,new++CW n [] σ.objs⟩ ⟨en++Dr n [] σ'.env,new++CW n [] σ'.objs⟩ X:=by
 refine⟨fun s=>?_,fun m=>?_⟩
 ·simp only[A0];cases hs:lk s en with
  | some v=>rw[c s v hs];rfl
  | none =>
   rw[Ff,Ff,b.env];cases a:lk s X.env with
   | none=>rfl
   | some w=>simp[ha.env s w a]
 ·simp only[A0];cases d:lk m new with
  | some o=>rw[e m o d];rfl
  | none =>
   rw[DY,DY,b.objs];cases a:lk m X.objs with
   | none=>rfl
   | some w =>
    rw[As fun h=>ha.nm m w a (by simpa using (AY _ _).1 h)];exact AAP some (XB (ha.arr m w a))
def k5 (σ:St):Op→Option Nat
 | .call c=>match c.callee,c.args.toList,c.argTypes.toList with
  | .builtin .append,[x,_],[_,_]=>(match Ah σ x with|some (.nin n _ _ _)=>some n|_=>none)
  | _,_,_=>none
 | _=>none
theorem A30 {tb:Tb} {op:Op} {d:Option Nat} {vc:Prop} {τ:St} (j:NT σ σ' X) (ha:UN X σ n) (r:kX σ σ' op.operands.toList) (a:k5 σ op=some n) (G:∀t,d=some t→lk t X.env=none) (E:∀n,(∃u,lk n τ.objs=some u)→lk n X.objs=none) (h:FF tb σ d op=some (vc,τ)) :
  (∃B,FF tb σ' d op=some (vc,B)∧NT τ B X)∧(∀k,aq tb σ' k op=none)∧(∀k,aq tb σ k op=none)∧CC σ op=[]∧CC σ' op=[]:=by
 have p:=ha.obs j;cases op<;>try(cases a;done)
 rename_i cl;obtain⟨callee,⟨args⟩,⟨argTypes⟩⟩:=cl;simp only[k5]at a;split at a
 ·rename_i x y t u;cases f:Ah σ x with
  | none=>rw[f]at a;cases a
  | some xv =>
   rw[f]at a;cases xv<;>try(cases a;done)
   rename_i Q e i len;cases a;have z:Ah σ' x=Ah σ x:=r x (by simp[Op.operands,Call.operands]);have N:Ah σ' y=Ah σ y:=r y (by simp[Op.operands,Call.operands]);refine⟨?_,fun k=>by simp[aq,Cc,Cn,CX,z,f],fun k=>by simp[aq,Cc,Cn,CX,f],rfl,rfl⟩;simp only[FF,C0,DN,f]at h;simp only[FF,C0,DN,Cz,z,f,N];cases A:Ah σ y with
   | none=>rw[A]at h;unfold Cz at h;cases h
   | some v =>
    rw[A]at h;simp only[Cz]at h;split at h
    ·rename_i b;have H:=G b rfl;simp only;split at h
     ·rename_i M;rw[At M];unfold Lu at h ⊢;split at h
      ·rename_i O R el b2 L;try rw[L]
       try simp only
       split at h
       ·rename_i J;rw[At J];unfold Nb at h ⊢;split at h
        ·rename_i ti et P k c xs h1 K;try rw[h1]
         try rw[p _ _ K]
         try simp only
         split at h
         ·rename_i F;rw[At F];unfold LX at h ⊢;split at h
          ·rename_i ys C;rw[L4 p C];try simp only
           split at h
           ·rename_i m;have l:lk b X.objs=none:=by
             refine E b ?_;cases h;exact⟨_,by simp only[lk,AAH];rfl⟩
            have I:(lk b σ'.objs).isNone=true∧ys.isEmpty=false:=⟨by rw[j.objs,l];exact m.1,m.2⟩;rw[At I];cases h;refine⟨_,rfl,A8F (en:=[(b,_)]) (new:=[(b,_),(n,_)]) j ha (fun s v h=>?_) (fun q o g=>?_)⟩
            ·simp only[lk]at h;split at h
             ·rename_i c;rw[c];exact H
             ·cases h
            ·simp only[lk]at g;split at g
             ·rename_i c;rw[c];exact l
             ·split at g
              ·rename_i c;rw[c];cases D:lk n X.objs with
               | none=>rfl
               | some w=>exact absurd rfl (ha.nm n w D)
              ·cases g
           ·cases h
          ·cases h
         ·cases h
        ·cases h
       ·cases h
      ·cases h
     ·cases h
    ·cases h
 ·cases a
end
def UO (n:Nat):EN→EN
 | []=>[]
 | (d,v,obs) :: r=>(d,v.trn n [],obs) :: UO n r
theorem UP {n:Nat}:∀ {ens:EN},UO n ens=ens→∀e∈ens,e.2.1.trn n []=e.2.1
 | [],_,e,a=>by cases a
 | (d,v,obs) :: r,h,e,a=>by
  simp only[UO,ABh,ACz,and_true,true_and]at h;rcases By.1 a with rfl|a
  ·exact h.1
  ·exact UP h.2 e a
section
variable {c:Cx} {o:Oper} {σ:St} {ens:EN} {N:St→Prop}
theorem yC (L:c.Ok) {τ:St} {vc:Prop} (n:Nat) (h:F1 c.tb o σ=some (vc,τ)) (b:k5 σ o.op=some n) (B:IU o ens=true) (hn:HN [n] σ.objs ens=true) (O:MD τ.objs ens=true) (hf:UO n ens=ens) (M:HX c.nt o=true) (S:vc) (H:N τ):Tz c o σ ens N:=by
 intro X σ' C g a w next Q hs hk
 have ha:UN X σ n:=by
  refine⟨fun s v hs=>?_,fun m o l=>?_,fun m o l=>?_,fun m o l=>?_⟩
  ·obtain⟨obs,i⟩:=g.env s v hs;exact UP hf _ i
  all_goals
   obtain⟨e,k,hp⟩:=g.objs m o l;have:=DR hn e k _ hp
  ·exact this.2.2
  ·exact this.1
  ·exact fun E=>this.2.1 (by simp[E])
 have J:∀t∈GI o.op,lk t X.env=none:=fun t q=>by
  cases f:lk t X.env with
  | none=>rfl
  | some v=>obtain⟨obs,i⟩:=g.env t v f;exact absurd q (DQ B _ i).1
 have I:∀t,o.dst=some t→lk t X.env=none:=fun t q=>by
  cases f:lk t X.env with
  | none=>rfl
  | some v=>obtain⟨obs,i⟩:=g.env t v f;exact absurd q (DQ B _ i).2
 have K:∀n,(∃u,lk n τ.objs=some u)→lk n X.objs=none:=fun n hu=>by
  cases f:lk n X.objs with
  | none=>rfl
  | some v =>
   obtain⟨e,k,hp⟩:=g.objs n v f;obtain⟨u,hu⟩:=hu;rw[IV O e k _ hp]at hu;cases hu
 have P:=Pg C J;have key:∃d,F1 c.tb o σ'=some (vc,d)∧NT τ d X:=by
  have A:CC σ o.op=[]∧CC σ' o.op=[]:=by
   obtain⟨dst,op,ty,pos,after,F⟩:=o;simp only at b ⊢;cases op<;>first|exact⟨rfl,rfl⟩|cases b
  unfold F1 Ng at h ⊢;rw[A.1]at h;rw[A.2];simp only[Ce]at h ⊢;cases p:aq c.tb σ (o.dst.getD 0) o.op with
  | some r =>
   obtain⟨dst,op,ty,pos,after,F⟩:=o;simp only at b p;exfalso;cases op<;>try(cases b;done)
   rename_i cl;obtain⟨callee,⟨args⟩,⟨argTypes⟩⟩:=cl;simp only[k5]at b;split at b
   ·rename_i x y t u;cases z:Ah σ x with
    | none=>rw[z]at b;cases b
    | some xv =>
     rw[z]at b;cases xv<;>try(cases b;done)
     simp[aq,Cc,Cn,CX,z]at p
   ·cases b
  | none =>
   rw[p]at h;simp only[J6]at h;obtain⟨⟨d,h1,j⟩,G,_⟩:=A30 C ha P b I K h;rw[G];simp only[J6];exact⟨d,h1,j⟩
 obtain⟨d,h1,j⟩:=key;exact PX L hs h1 S (Bb M) fun D w' R=>hk τ H D w' d j R
theorem mxN (b:c.Ok) {τ:St} {vc:Prop} (n:Nat) (i:vc) (a:N τ) (h:F1 c.tb o σ=some (vc,τ):=by simp only[go_sem,Nat.reduceEqDiff,reduceCtorEq,Nat.reduceAdd,Nat.reduceSub,Nat.reduceMul,Nat.reduceLeDiff,Nat.reduceLT,Int.reduceLE,Int.reduceToNat,Int.reduceNeg,↓reduceIte];rfl) (f:k5 σ o.op=some n:=by simp only[go_sem,Nat.reduceEqDiff,reduceCtorEq,Nat.reduceAdd,Nat.reduceSub,Nat.reduceMul,Nat.reduceLeDiff,Nat.reduceLT,Int.reduceLE,Int.reduceToNat,Int.reduceNeg,↓reduceIte]) (g:IU o ens=true:=by rfl) (hn:HN [n] σ.objs ens=true:=by rfl) (e:MD τ.objs ens=true:=by rfl)
  (hf:UO n ens=ens:=by simp only[go_sem,Nat.reduceEqDiff,reduceCtorEq,Nat.reduceAdd,Nat.reduceSub,Nat.reduceMul,Nat.reduceLeDiff,Nat.reduceLT,Int.reduceLE,Int.reduceToNat,Int.reduceNeg,↓reduceIte]) (d:HX c.nt o=true:=by rfl):Tz c o σ ens N:=yC b n h f g hn e hf d i a
end
end
section
open Go Go.RowKit
section
variable {P:Program} {tb:Tb} {w0:World} {K O0:Nat→Prop} {nt:Nat} {ds:Fp} {σ:St} {ρ:Nat→Value} {a:Act} {w:World}
theorem Bm.swapP (h:Bm w0 K O0 nt ds σ ρ a w) (z:∀b,K b→b<w0.heap.size) (I:∀b,O0 b→b<w0.heap.size) {T:Nat→Prop} (hT:∀n,T n→∃o,lk n σ.objs=some o) (J:∀p∈ds.pin,¬T p.1)
  {new:List (Nat×Obj)} {σ':St} {ρ':Nat→Value} {w':World} {dst:Option Nat} {u:Value}
  (X:w'.os=w.os) (aa:w'.tape=w.tape) (Y:w'.output=w.output) (Z:w.heap.size≤w'.heap.size)
  (O:∀b,b<w.heap.size→(∀n,T n→¬bk (ρ n) b)→w'.heap[b]?=w.heap[b]?)
  (q:∀n o,lk n σ'.objs=some o→lk n new=none→¬T n∧∃d,lk n σ.objs=some d)
  (P:∀n o,lk n σ.objs=some o→¬T n→lk n new=none∧∃d,lk n σ'.objs=some d)
  (j:∀n,lk n new=none→ρ' n=ρ n)
  (D:∀n o b,lk n new=some o→bk (ρ' n) b→(∃m,T m∧bk (ρ m) b)∨w.heap.size≤b)
  (L:∀n m o r b,lk n new=some o→lk m new=some r→bk (ρ' n) b→bk (ρ' m) b→n=m)
  (W:∀n o,lk n σ'.objs=some o→A3 (vw w' O0 σ' ρ') o (ρ' n))
  (M:∀s v,lk s σ'.env=some v→B0 (vw w' O0 σ' ρ') v ((a.put dst u).tmps.getD s undef)) :
  Bm w0 K O0 nt ds σ' ρ' (a.put dst u) w':=by
 have ad:∀m,T m→∀b,bk (ρ m) b→b<w.heap.size:=fun m c b i=>by
  obtain⟨o,f⟩:=hT m c;exact(h.objs m o f).block_lt i
 have A:∀m,T m→∀b,bk (ρ m) b→¬K b∧¬O0 b:=fun m c b i=>by
  obtain⟨o,f⟩:=hT m c;exact h.free m b ⟨o,f⟩ i
 refine⟨⟨X.trans h.frm.os,aa.trans h.frm.tape,Y.trans h.frm.output,aT h.frm.size Z,fun k hk=>?_⟩,by rw[J9];exact h.nt,by rw[GW];exact h.defers,fun p hp=>?_,W,?_,?_,M⟩
 ·exact(O k (AAy (z k hk) h.frm.size) fun n hn i=>(A n hn k i).1 hk).trans (h.frm.block k hk)
 ·obtain⟨⟨o,h1⟩,g,H⟩:=h.pin p hp;have R:¬T p.1:=J p hp;obtain⟨F,G⟩:=P p.1 o h1 R;exact⟨G,(j _ F).trans g,H⟩
 ·intro n b y i;obtain⟨o,f⟩:=y;cases hn:lk n new with
  | none =>
   obtain⟨_,d,h1⟩:=q n o f hn;rw[j n hn]at i;exact h.free n b ⟨d,h1⟩ i
  | some e =>
   rcases D n e b hn i with ⟨m,c,t⟩|N
   ·exact A m c b t
   ·have:=h.frm.size;exact⟨fun x=>by have:=z b x;omega,fun x=>by have:=I b x;omega⟩
 ·have key:∀n m o e b,lk n σ'.objs=some o→lk n new=none→lk m new=some e→bk (ρ' n) b→bk (ρ' m) b→False:=by
   intro n m o e b f hn c h1 g;obtain⟨S,d,l⟩:=q n o f hn;rw[j n hn]at h1;rcases D m e b c g with ⟨E,B,t⟩|N
   ·obtain⟨ab,V⟩:=hT E B;have:=h.dist n E b ⟨d,l⟩ ⟨ab,V⟩ h1 t;exact S (this▸B)
   ·have ae:b<w.heap.size:=(h.objs n d l).block_lt h1;omega
  intro n m b y Q h1 g;obtain⟨o,f⟩:=y;obtain⟨r,C⟩:=Q;cases hn:lk n new with
  | none =>
   cases c:lk m new with
   | none =>
    obtain⟨_,d,l⟩:=q n o f hn;obtain⟨_,e,U⟩:=q m r C c;rw[j n hn]at h1;rw[j m c]at g;exact h.dist n m b ⟨d,l⟩ ⟨e,U⟩ h1 g
   | some e=>exact(key n m o e b f hn c h1 g).elim
  | some d =>
   cases c:lk m new with
   | none=>exact(key m n r d b C c hn g h1).elim
   | some e=>exact L n m d e b hn c h1 g
theorem Bm.swap1P (h:Bm w0 K O0 nt ds σ ρ a w) (ad:∀b,K b→b<w0.heap.size) (H:∀b,O0 b→b<w0.heap.size) {tl:List Nat} (hT:∀n,n∈tl→∃o,lk n σ.objs=some o) (ae:∀p∈ds.pin,¬p.1∈tl)
  {f:Nat} (am:f∈tl∨lk f σ.objs=none) {q:Obj} {loc:Value} {w':World}
  (ap:w'.os=w.os) (av:w'.tape=w.tape) (aq:w'.output=w.output) (ar:w.heap.size≤w'.heap.size)
  (J:∀b,b<w.heap.size→(∀n,n∈tl→¬bk (ρ n) b)→w'.heap[b]?=w.heap[b]?)
  (R:∀b,bk loc b→(∃m,m∈tl∧bk (ρ m) b)∨w.heap.size≤b)
  (ao:∀V':Vw,V'.w=w'→CR ⟨w,own O0 σ ρ,fun _=>False,ρ⟩ V'→(∀b m,m∈tl→bk (ρ m) b→¬bk loc b→¬V'.O b)→A3 V' q loc)
  {d:Nat} (ag:d<nt) {v:AV} {u:Value} (af:∀V':Vw,V'.L f→V'.ρ f=loc→B0 V' v u) :
  Bm w0 K O0 nt ds ⟨(d,v) :: BT tl σ.env,(f,q) :: Af tl tl σ.objs⟩ (EU ρ f loc) (a.put (some d) u) w':=by
 let S:St:=⟨(d,v) :: BT tl σ.env,(f,q) :: Af tl tl σ.objs⟩
 have E:∀m o,lk m S.objs=some o→(m=f∧o=q)∨(m≠f∧m∉tl∧∃e,lk m σ.objs=some e∧o=e.fgt tl):=by
  intro m o c;simp only[S,lk]at c;split at c
  ·rename_i A;cases c;exact .inl ⟨A,rfl⟩
  ·rename_i A;rw[BR]at c;split at c
   ·cases c
   ·rename_i X;simp only[NO]at c;obtain⟨e,h1,rfl⟩:=c;exact .inr ⟨A,fun h=>X ((AY _ _).2 h),e,h1,rfl⟩
 have P:∀m,m≠f→m∉tl→∀e,lk m σ.objs=some e→lk m S.objs=some (e.fgt tl):=by
  intro m h1 i e g;simp only[S,lk,As h1,BR,g];rw[As fun h=>i ((AY _ _).1 h)];rfl
 have M:∀m,m∉tl→(∃o,lk m σ.objs=some o)→m≠f:=by
  rintro m h1 ⟨o,i⟩ rfl;rcases am with g|g
  ·exact h1 g
  ·rw[g]at i;cases i
 have r:EU ρ f loc f=loc:=Bg _ _ _;have z:∀m,m≠f→EU ρ f loc m=ρ m:=fun m h1=>by simp[EU,h1]
 generalize EU ρ f loc=ρ' at r z;have V:∀b,b<w.heap.size→¬own O0 σ ρ b→¬own O0 S ρ' b:=by
  intro b k B ax;rcases ax with h0|⟨m,⟨o,an⟩,F⟩
  ·exact B (.inl h0)
  ·rcases E m o an with ⟨rfl,_⟩|⟨h1,i,e,g,_⟩
   ·rw[r]at F;rcases R b F with ⟨t,au,N⟩|N
    ·obtain⟨e,l⟩:=hT t au;exact B (.inr ⟨t,⟨e,l⟩,N⟩)
    ·omega
   ·rw[z m h1]at F;exact B (.inr ⟨m,⟨e,g⟩,F⟩)
 have Q:∀b,b<w.heap.size→¬own O0 σ ρ b→w'.heap[b]?=w.heap[b]?:=fun b k B=>J b k fun n hn I=>by
  obtain⟨e,l⟩:=hT n hn;exact B (.inr ⟨n,⟨e,l⟩,I⟩)
 have ai:CR ⟨w,own O0 σ ρ,fun _=>False,ρ⟩ (vw w' O0 S ρ'):=⟨V,fun _ h=>h.elim,fun _ h=>h.elim,Q⟩;have hk:CR ((vw w O0 σ ρ).buts tl) (vw w' O0 S ρ'):=by
  refine⟨V,fun m c=>?_,fun m c=>?_,Q⟩
  ·obtain⟨⟨e,h1⟩,i⟩:=c;have g:m∉tl:=fun h=>by rw[(AY _ _).2 h]at i;cases i
   exact⟨_,P m (M m g ⟨e,h1⟩) g e h1⟩
  ·obtain⟨⟨e,h1⟩,i⟩:=c;have g:m∉tl:=fun h=>by rw[(AY _ _).2 h]at i;cases i
   exact z m (M m g ⟨e,h1⟩)
 refine h.swapP ad H (T:=fun m=>m∈tl) hT ae (new:=[(f,q)]) ap av aq ar J ?_ ?_ ?_ ?_ ?_ ?_ ?_
 ·intro m o c ak;rcases E m o c with ⟨rfl,_⟩|⟨h1,i,e,g,_⟩
  ·simp[lk]at ak
  ·exact⟨i,e,g⟩
 ·intro m e c U;have h1:=M m U ⟨e,c⟩;exact⟨by simp[lk,h1],_,P m h1 U e c⟩
 ·intro m c;exact z m fun A=>by simp[lk,A]at c
 ·intro m o b c k;have h1:m=f:=by
   by_cases h1:m=f
   ·exact h1
   ·simp[lk,h1]at c
  rw[h1,r]at k;exact R b k
 ·intro m C o ay b c aj _ _;have key:∀j o,lk j [(f,q)]=some o→j=f:=fun j o ah=>by
   by_cases h1:j=f
   ·exact h1
   ·simp[lk,h1]at ah
  rw[key m o c,key C ay aj]
 ·intro m o c;rcases E m o c with ⟨rfl,rfl⟩|⟨h1,i,e,g,rfl⟩
  ·rw[r];refine ao _ rfl ai fun b m c k al H=>?_;obtain⟨W,l⟩:=hT m c;rcases H with h0|⟨C,⟨az,ab⟩,D⟩
   ·exact(h.free m b ⟨W,l⟩ k).2 h0
   ·rcases E C az ab with ⟨rfl,_⟩|⟨Y,Z,e,aa,_⟩
    ·rw[r]at D;exact al D
    ·rw[z C Y]at D;exact Z ((h.dist C m b ⟨_,aa⟩ ⟨_,l⟩ D k)▸c)
  ·rw[z m h1];refine Su hk (fun b k=>J b ((h.objs m e g).block_lt k) fun n hn I=>?_) (h.objs m e g);obtain⟨W,l⟩:=hT n hn;exact i ((h.dist m n b ⟨_,g⟩ ⟨_,l⟩ k I)▸hn)
 ·intro s x hs;rw[Ks a d u s (by rw[h.nt];exact ag)];simp only[S,lk]at hs;split at hs
  ·rename_i G;cases hs;rw[At G];exact af _ ⟨q,by simp[S,lk]⟩ r
  ·rename_i G;rw[As G];rw[DK]at hs;simp only[NO]at hs;obtain⟨y,aw,rfl⟩:=hs;exact(PQ (h.env s y aw)).keeps hk
end
theorem aV {w:World} {O:Nat→Prop} {k v:Ty}:∀ {a:List MapEntry} {l:List (k.den×v.den)},J8 w O k v a l→a.length=l.length∧∀(i:Nat) (e:MapEntry),a[i]?=some e→∃x,l[i]?=some x∧BX w O k e.key x.1∧BX w O v e.val x.2
 | [],[],_=>⟨rfl,fun i e h=>by simp at h⟩
 | [],_ :: _,h=>h.elim
 | _ :: _,[],h=>h.elim
 | e :: a,x :: l,⟨h1,f,g⟩=>by
  obtain⟨c,d⟩:=aV g;refine⟨by simp[c],fun i b h=>?_⟩;cases i with
  | zero=>simp at h;subst h;exact⟨x,by simp,h1,f⟩
  | succ i=>simp at h;simpa using d i b h
section
variable {c:Cx} {R:Exit→Act→World→Prop} {k:List Df} {σ:St}
end
end
section
open Go Go.RowKit
section
variable {c:Cx} {R:Exit→Act→World→Prop} {k:List Df} {σ σ':St}
end
theorem CV {p:Prop} (h:p:=by first|exact trivial|((try dsimp only[Ty.den])<;>(repeat'(first|apply And.intro|intro _))<;>omega)|((try dsimp only[Ty.den]at *)<;>(repeat'(first|apply And.intro|intro _))<;>omega)):p:=h
end
section
open Go Go.RowKit
section
variable {c:Cx} {R:Exit→Act→World→Prop} {k:List Df} {σ σ':St}
theorem yD (q:c.Ok) {d m len:Nat} {t:TypeId} {x:Operand} {ty:TypeId} {pos:String} {after:Array Edge} {f e:Ty} {offs:List (Nat×Nat)} {el H:TypeId} {U:Nat} {S:AV} {a0:f.den} {xs:List e.den}
  (ap:lk t c.tb.ty=some ⟨.slice (.agg (.prod f (.slice e))),offs,el,U⟩) (ar:Ah σ x=some (.ag [S,.sr m e 0 len])) (Z:EO false σ f S=some a0) (s:lk m σ.objs=some (.arr H e xs)) (ai:len=xs.length)
  (al:(c.ds.pin.all fun p=>!AW p.1 [m])=true) (ah:lk d σ.objs=none) (bb:f.size+1≤16777216)
  {a:Act} {w:World} {next:Act→World→Prop} {Q:Exit→Act→World→Prop} (an:c.sat σ a w) (ad:d<c.nt)
  (hk:∀I w',c.sat ⟨(d,.sr d (.agg (.prod f (.slice e))) 0 1) :: BT [m] σ.env,(d,.nest el H f e [(a0,xs)] none) :: Af [m] [m] σ.objs⟩ I w'→next I w') :
  (⟨some d,.buildSlice t 1 #[(0,x)],ty,pos,after,none⟩:Oper).wpIn (FR c.r) 0 c.P a w next Q:=by
 obtain⟨ρ,A⟩:=an;have ae:GH (vw w c.O0 σ ρ) σ a.eval:=Du A.env;obtain⟨hu,hs,te,ao,aq⟩:=CD (q.T _ _ ap) q.T;obtain⟨z,au,bd⟩:=Ly (q.T _ _ ao) w;obtain⟨cs,ab,aa⟩:=ae x _ ar;obtain⟨c1,c2,rfl,h1,C⟩:=aa;obtain⟨aw,W,rfl,Y,D⟩:=C;have D:W=[]:=D;subst D;obtain⟨R,rfl,_,ax,l⟩:=Y;have hom:=A.objs m _ s;have l:DE (plc (ρ m)) e.size 0 len R:=l;rw[O9 hom,ai]at l;have ak:Ny (vw w c.O0 σ ρ) H e xs (ρ m):=hom;obtain⟨ay,be,av,bf⟩:=hom;have l:R=ρ m:=JA av l;subst l;have B:=Zo (O':=own c.O0 σ ρ) (fun _ h=>h) (fun h=>by cases h) A.objs Z h1;have B:Bo w (own c.O0 σ ρ) f c1 a0:=B;have G:=B.length;have ba:te.ty.size=f.size+1:=by rw[aq];rfl
 have hs:=hs w;rw[show (Ty.agg (.prod f (.slice e))).size=f.size+1 from rfl]at hs;have L:(a.eval x).cells.toList=c1++[ρ m]:=by rw[ab];simp[Value.cells]
 have am:Instr.fill (fun i=>some (i*(f.size+1),f.size+1)) ((Array.range (1*(f.size+1))).map (fun i=>z.cells[i % z.cells.size]!)) [(0,a.eval x)]=some (c1++[ρ m]).toArray:=by
  have M:(a.eval x).cells.size=f.size+1:=by rw[←ABj,L];simp[G]
  rw[PK (by rw[M]) (by rw[M];simp)];rw[L];simp only[Instr.fill,AC5,A1,AAO,AB7,AAM];rw[List.drop_of_length_le (by simp[G]),AAa]
 have y:=Sq (w:=w) (et:=el) (sz:=f.size+1) (n:=1) (cells:=(c1++[ρ m]).toArray) (by simp[G]) (by simp[AO]);have y:(w.alloc (.cells (c1++[ρ m]).toArray el)).ownsRow 0 el (f.size+1) (.slice (some ⟨w.heap.size,0,none⟩) 1 1) 1 (c1++[ρ m]):=⟨y.1,y.2.imp (fun h=>h) fun⟨g,cap,X,e,_,r⟩=>⟨g,cap,X,e,Is _,r⟩⟩;have af:(Instr.buildSlice t 1 #[(0,a.eval x)]).run c.P w=.ok (.slice (some ⟨w.heap.size,0,none⟩) 1 1) (w.alloc (.cells (c1++[ρ m]).toArray el)):=by
  have aj:¬(1*(f.size+1) > 16777216):=by omega
  have h0:¬(1*(f.size+1)=0):=by omega
  simp only[Instr.buildSlice,AAK,dO hu,AAb,hs,As aj,As h0,au,AB9,am,newRow];rfl
 have N:∀b,bk (ρ m) b→b<w.heap.size:=fun b k=>(A.objs m _ s).block_lt k;refine Aq (u:=.slice (some ⟨w.heap.size,0,none⟩) 1 1) (w':=w.alloc (.cells (c1++[ρ m]).toArray el)) (by simp[execOp,af]) (hk _ _ ⟨EU ρ d (.tuple (.slice (some ⟨w.heap.size,0,none⟩) 1 1 :: [ρ m]).toArray),?_⟩);refine A.swap1P q.K q.O (tl:=[m]) (w':=w.alloc (.cells (c1++[ρ m]).toArray el)) (u:=.slice (some ⟨w.heap.size,0,none⟩) 1 1) (loc:=.tuple (.slice (some ⟨w.heap.size,0,none⟩) 1 1 :: [ρ m]).toArray) (by simpa using ⟨_,s⟩) (fun p hp s=>?_) (.inr ah) rfl rfl rfl ?_ ?_ ?_ ?_ ad ?_
 ·have:=(GO.1 al) p hp;rw[(AY _ _).2 s]at this;cases this
 ·show w.heap.size≤(w.heap.push _).size;simp
 ·intro b2 o _;exact heap_alloc_old w _ o
 ·intro b2 o;rcases A7.1 o with k|⟨i,u,hi,k⟩
  ·simp[blk]at k;exact .inr (by omega)
  ·have:u=ρ m:=by
    rcases i with _|i
    ·simpa using hi.symm
    ·simp at hi
   subst this;exact .inl ⟨m,by simp,.inl k⟩
 ·intro V' J E az;refine⟨_,[ρ m],c1++[ρ m],.inl rfl,by simp[AO],rfl,by rw[J];exact y,fun i bg u hi hu=>?_,fun i j b u v hi F hu bc=>?_,fun i b u hi k o=>?_⟩
  ·rcases i with _|i
   ·simp only[AAq,AAv]at hi hu;subst hi hu;exact⟨c1,ρ m,fun j z F=>by simpa using F,B.mono E.O E.heap,.inr ⟨rfl,.inl rfl,Ny.keeps (V:=⟨w,own c.O0 σ ρ,fun _=>False,ρ⟩) E (fun b k=>by rw[J];exact heap_alloc_old w _ (N b (.inl k))) ak⟩⟩
   ·simp at hi
  ·rcases i with _|i
   ·rcases j with _|j
    ·rfl
    ·simp at F
   ·simp at hi
  ·rcases i with _|i
   ·simp only[AAq,AAv]at hi;subst hi;have:=N b (.inl k);simp[blk]at o;omega
   ·simp at hi
 ·intro V' h1 C;refine⟨h1,?_⟩;rw[C];exact Fb y
def NV (a b:Ty) (k:a.den):List (a.den×b.den)→List (a.den×b.den)
 | []=>[]
 | x :: r=>if Ja a k x.1=true then r else x :: NV a b k r
theorem aW {w:World} {O:Nat→Prop} {a b:Ty} {k:a.den}:∀ {c:List MapEntry} {l:List (a.den×b.den)},J8 w O a b c l→∀i,
  (HW a b k c l i=none∧NV a b k l=l)∨∃(j:Nat) (v:Value),HW a b k c l i=some (i+j,v)∧j<c.length∧J8 w O a b (c.eraseIdx j) (NV a b k l)
 | [],[],_,i=>.inl ⟨rfl,rfl⟩
 | [],_ :: _,h,_=>h.elim
 | _ :: _,[],h,_=>h.elim
 | e :: c,x :: l,⟨h1,o,m⟩,i=>by
  cases d:Ja a k x.1 with
  | true =>
   refine .inr ⟨0,e.val,by simp[HW,d],by simp,?_⟩;simp only[NV,d,AAH,List.eraseIdx_cons_zero];exact m
  | false =>
   rcases aW (k:=k) m (i+1) with ⟨f,g⟩|⟨j,v,f,g,n⟩
   ·exact .inl ⟨by simp[HW,d,f],by simp[NV,d,g]⟩
   ·refine .inr ⟨j+1,v,?_,by simp;omega,?_⟩
    ·simp only[HW,d,f,AAL,AAY]
     congr 2
     omega
    ·simp only[NV,d,AAL,AAY,List.eraseIdx_cons_succ];exact⟨h1,o,n⟩
theorem k6 {a:Array MapEntry} {cl:Nat} (h:Qq a cl) (j:Nat):Qq (a.eraseIdxIfInBounds j) cl:=by
 unfold Qq at h ⊢;rw[AC3];have hs:=(List.eraseIdx_sublist a.toList j).map (·.born);exact⟨h.1.sublist hs,fun b c=>h.2 b (hs.subset c)⟩
theorem k7 (O:c.Ok) {ops:Array Oper} {rest:List Oper} {n:Nat} {t u:TypeId} {m x:Operand} {ty:TypeId} {pos:String} {after:Array Edge} {d g:Ty} {l:List (d.den×g.den)} {xv:AV} {kd:d.den} {I J:TypeId}
  (X:Ah σ m=some (.mp n)) (ad:Ah σ x=some xv) (hn:lk n σ.objs=some (.mapo d g l)) (U:Kk false σ d xv=some kd) (hu:c.P.underlying t=some (.map I J)) (B:Tj c.P I d)
  (hk:HY c R k ops rest ⟨σ.env,upd n (.mapo d g (NV d g kd l)) σ.objs⟩) :
  HY c R k ops (⟨none,.call ⟨.builtin .delete,#[m,x],#[t,u]⟩,ty,pos,after,none⟩ :: rest) σ:=by
 intro Q T a w ab;unfold wpListIn;rw[At (by simp[Region.wanted])];obtain⟨ρ,z⟩:=ab;have F:GH (vw w c.O0 σ ρ) σ a.eval:=Du z.env;obtain⟨ae,b,s,Y⟩:=F m _ X;have s:ρ n=_:=s;have r:=KA (V:=vw w c.O0 σ ρ) (O':=own c.O0 σ ρ) (fun _ h=>h) (fun h=>by cases h) z.objs U (F x _ ad);obtain⟨b',y,cl,p,hh,q,E⟩:=z.objs n _ hn;rw[s]at p;injection p with p
 injection p with p
 subst p;have hh:w.heap[b]?=some (.map y cl):=hh;have r:BX w (own c.O0 σ ρ) d (a.eval x) kd:=r;have q:J8 w (own c.O0 σ ρ) d g y.toList l:=q;have G:=B.find r q;obtain⟨f,aa,S,N⟩:∃f:Array MapEntry,(Builtin.delete_ #[t,u] ty #[.map (some b),a.eval x]).run c.P w=.ok (.tuple #[]) { w with heap:=w.heap.setIfInBounds b (.map f cl) }∧J8 w (own c.O0 σ ρ) d g f.toList (NV d g kd l)∧Qq f cl:=by
  rcases aW (k:=kd) q 0 with ⟨A,C⟩|⟨j,v,A,C,L⟩
  ·refine⟨y,?_,by rw[C];exact q,E⟩;simp[Builtin.delete_,dO hu,AAW hh,B.check _ r,G,A,ABD _ hh]
  ·refine⟨y.eraseIdxIfInBounds j,?_,by rw[AC3];exact L,k6 E j⟩;simp[Builtin.delete_,dO hu,AAW hh,B.check _ r,G,A,ABD _ hh]
 refine Aq (u:=.tuple #[]) (w':={ w with heap:=w.heap.setIfInBounds b (.map f cl) }) (by simp[execOp,resolve,invoke,builtin,Y,aa]) (hk (fun o Z=>Q o (by simp[Z])) T _ _ ⟨ρ,?_⟩);have D:blk (ρ n)=some b:=by rw[s];rfl
 have H:w.grownBy { w with heap:=w.heap.setIfInBounds b (.map f cl) } (some b) :=
  ⟨rfl,rfl,rfl,by simp,fun i _ hi=>(ACa hh).2 i (fun e=>hi (by rw[e]))⟩
 refine z.upd O.K hn D H ⟨b,f,cl,s,(ACa hh).1,?_,N⟩;exact S.mono (fun _ _ h=>h) (fun b2 W M=>H.block b2 W (fun e=>by injection e with e;subst e;exact M (.inr ⟨n,⟨_,hn⟩,.inl D⟩)))
theorem k8 (j:c.Ok) {ops:Array Oper} {rest:List Oper} {d n:Nat} {t:TypeId} {m:Operand} {ty:TypeId} {pos:String} {after:Array Edge} {r s:Ty} {l:List (r.den×s.den)} {I x:TypeId}
  (C:Ah σ m=some (.mp n)) (hn:lk n σ.objs=some (.mapo r s l)) (hu:c.P.underlying t=some (.map I x)) (B:l.length≤AO)
  (hk:HY c R k ops rest ⟨(d,.p (.int .i64) (l.length:Int)) :: σ.env,σ.objs⟩) :
  HY c R k ops (⟨some d,.call ⟨.builtin .len,#[m],#[t]⟩,ty,pos,after,none⟩ :: rest) σ:=by
 intro q A a w G;unfold wpListIn;rw[At (by simp[Region.wanted])];obtain⟨ρ,g⟩:=G;have z:GH (vw w c.O0 σ ρ) σ a.eval:=Du g.env;have N:d<c.nt:=Bb (q _ ABp) d rfl;obtain⟨L,b,h,D⟩:=z m _ C;have h:ρ n=_:=h;obtain⟨b',i,cl,f,hh,y,M⟩:=g.objs n _ hn;rw[h]at f;injection f with f
 injection f with f
 subst f;have hh:w.heap[b]?=some (.map i cl):=hh;have H:i.size=l.length:=by rw[←ABj];exact(aV y).1
 have F:(Builtin.len_ #[t] ty #[.map (some b)]).run c.P w=.ok (.int .i64 (l.length:Int)) w:=by
  simp[Builtin.len_,dO hu,AAW hh,goInt,H]
 refine Aq (u:=.int .i64 (l.length:Int)) (w':=w) (by simp[execOp,resolve,invoke,builtin,D,F]) (hk (fun o E=>q o (by simp[E])) A _ _ ⟨ρ,?_⟩);refine g.add j.K j.O (dst:=some d) (fun J e=>by injection e with e;omega) (v:=.p (.int .i64) (l.length:Int)) (obs:=[]) (ρ':=ρ) rfl (QS.still ?_);exact BN (by simp only[AO]at B;simp only[JC];omega)
theorem A8G (g:c.Ok) {ops:Array Oper} {rest:List Oper} {n:Nat} {t u:TypeId} {m x:Operand} {ty:TypeId} {pos:String} {after:Array Edge} {b:Ty} {a:IntKind} {l:List (Int×b.den)} {xv:AV} {kd:Int} {d f:TypeId} {e:St}
  (hu:c.P.underlying t=some (.map d f)) (j:c.P.underlying d=some (.int a)) (hk:HY c R k ops rest e) (i:Ah σ m=some (.mp n):=by simp only[go_sem,Nat.reduceEqDiff,reduceCtorEq,Nat.reduceAdd,Nat.reduceSub,Nat.reduceMul,Nat.reduceLeDiff,Nat.reduceLT,Int.reduceLE,Int.reduceToNat,Int.reduceNeg,↓reduceIte];rfl) (o:Ah σ x=some xv:=by simp only[go_sem,Nat.reduceEqDiff,reduceCtorEq,Nat.reduceAdd,Nat.reduceSub,Nat.reduceMul,Nat.reduceLeDiff,Nat.reduceLT,Int.reduceLE,Int.reduceToNat,Int.reduceNeg,↓reduceIte];rfl) (hn:lk n σ.objs=some (.mapo (.int a) b l):=by simp only[go_sem,Nat.reduceEqDiff,reduceCtorEq,Nat.reduceAdd,Nat.reduceSub,Nat.reduceMul,Nat.reduceLeDiff,Nat.reduceLT,Int.reduceLE,Int.reduceToNat,Int.reduceNeg,↓reduceIte];rfl) (h:Kk false σ (.int a) xv=some kd:=by simp only[go_sem,Nat.reduceEqDiff,reduceCtorEq,Nat.reduceAdd,Nat.reduceSub,Nat.reduceMul,Nat.reduceLeDiff,Nat.reduceLT,Int.reduceLE,Int.reduceToNat,Int.reduceNeg,↓reduceIte];rfl)
  (p:⟨σ.env,upd n (.mapo (.int a) b (NV (.int a) b kd l)) σ.objs⟩=e:=by simp only[go_sem,Nat.reduceEqDiff,reduceCtorEq,Nat.reduceAdd,Nat.reduceSub,Nat.reduceMul,Nat.reduceLeDiff,Nat.reduceLT,Int.reduceLE,Int.reduceToNat,Int.reduceNeg,↓reduceIte];rfl) :
  HY c R k ops (⟨none,.call ⟨.builtin .delete,#[m,x],#[t,u]⟩,ty,pos,after,none⟩ :: rest) σ:=k7 g i o hn h hu (Gp rfl j) (p▸hk)
theorem A8H (f:c.Ok) {ops:Array Oper} {rest:List Oper} {d n:Nat} {t:TypeId} {m:Operand} {ty:TypeId} {pos:String} {after:Array Edge} {a b:Ty} {l:List (a.den×b.den)} {i e:TypeId}
  (hu:c.P.underlying t=some (.map i e)) (g:l.length≤AO) (hk:HY c R k ops rest ⟨(d,.p (.int .i64) (l.length:Int)) :: σ.env,σ.objs⟩) (h:Ah σ m=some (.mp n):=by simp only[go_sem,Nat.reduceEqDiff,reduceCtorEq,Nat.reduceAdd,Nat.reduceSub,Nat.reduceMul,Nat.reduceLeDiff,Nat.reduceLT,Int.reduceLE,Int.reduceToNat,Int.reduceNeg,↓reduceIte];rfl) (hn:lk n σ.objs=some (.mapo a b l):=by simp only[go_sem,Nat.reduceEqDiff,reduceCtorEq,Nat.reduceAdd,Nat.reduceSub,Nat.reduceMul,Nat.reduceLeDiff,Nat.reduceLT,Int.reduceLE,Int.reduceToNat,Int.reduceNeg,↓reduceIte];rfl) :
  HY c R k ops (⟨some d,.call ⟨.builtin .len,#[m],#[t]⟩,ty,pos,after,none⟩ :: rest) σ:=k8 f h hn hu g hk
end
end
section
open Go Go.RowKit
section
variable {c:Cx} {R:Exit→Act→World→Prop} {k:List Df} {σ σ':St}
theorem k9 (m:c.Ok) {ops:Array Oper} {rest:List Oper} {d:Nat} {t Q:TypeId} {x y:Operand} {ty:TypeId} {pos:String} {after:Array Edge} {i j:IntKind} {offs:List (Nat×Nat)} {z:Nat} {xv s:AV} {b f:Int×Int}
  (L:lk t c.tb.ty=some ⟨.agg (.prod (.int i) (.int j)),offs,0,z⟩) (M:Ah σ x=some xv) (N:Ah σ y=some s) (D:Kk false σ (.agg (.prod (.int i) (.int j))) xv=some b) (E:Kk false σ (.agg (.prod (.int i) (.int j))) s=some f)
  (hk:HY c R k ops rest ⟨(d,.p .bool (b.1==f.1&&b.2==f.2)) :: σ.env,σ.objs⟩) :
  HY c R k ops (⟨some d,.binOp .eql t x y Q,ty,pos,after,none⟩ :: rest) σ:=by
 intro q G a w J;unfold wpListIn;rw[At (by simp[Region.wanted])];obtain⟨ρ,l⟩:=J;have r:GH (vw w c.O0 σ ρ) σ a.eval:=Du l.env;have X:d<c.nt:=Bb (q _ ABp) d rfl;have hp:Mq c.P t i j:=(m.T _ _ L).1.1.2.2;have h1:=KA (V:=vw w c.O0 σ ρ) (O':=own c.O0 σ ρ) (fun _ h=>h) (fun h=>by cases h) l.objs D (r x _ M);have g:=KA (V:=vw w c.O0 σ ρ) (O':=own c.O0 σ ρ) (fun _ h=>h) (fun h=>by cases h) l.objs E (r y _ N);have h1:a.eval x=.agg #[.int i b.1,.int j b.2]:=Fd h1;have g:a.eval y=.agg #[.int i f.1,.int j f.2]:=Fd g;have I:(binOp .eql t (a.eval x) (a.eval y)).run c.P w=.ok (.bool (b.1==f.1&&b.2==f.2)) w:=by
  rw[h1,g];have:=Tk hp w b.1 b.2 f.1 f.2;simp only[binOp];simp[this]
 have F:(eqGuard .eql t x y (a.eval x) (a.eval y)).run c.P w=.ok () w:=by
  obtain⟨U,W,hu,-,-,⟨A,B⟩,-⟩:=hp;rw[h1,g];refine run_eqGuard_agg (P:=c.P) w .eql t x y _ _ ?_;have C:∃n,c.P.depth=n+2:=⟨_,rfl⟩;obtain⟨n,hn⟩:=C;rw[hn];simp[Program.eqGuardType,hu,A,B]
 refine Aq (u:=.bool (b.1==f.1&&b.2==f.2)) (w':=w) (by simp[execOp,F,I]) (hk (fun o H=>q o (by simp[H])) G _ _ ⟨ρ,?_⟩);refine l.add m.K m.O (dst:=some d) (fun S e=>by injection e with e;omega) (v:=.p .bool (b.1==f.1&&b.2==f.2)) (obs:=[]) (ρ':=ρ) rfl (QS.still ?_);exact⟨[.bool (b.1==f.1&&b.2==f.2)],rfl,rfl⟩
theorem A8I (g:c.Ok) {ops:Array Oper} {rest:List Oper} {d:Nat} {t q:TypeId} {x y:Operand} {ty:TypeId} {pos:String} {after:Array Edge} {i j:IntKind} {offs:List (Nat×Nat)} {f:Nat} {xv e:AV} {a b:Int×Int}
  (hk:HY c R k ops rest ⟨(d,.p .bool (a.1==b.1&&a.2==b.2)) :: σ.env,σ.objs⟩) (m:lk t c.tb.ty=some ⟨.agg (.prod (.int i) (.int j)),offs,0,f⟩:=by rfl) (n:Ah σ x=some xv:=by simp only[go_sem,Nat.reduceEqDiff,reduceCtorEq,Nat.reduceAdd,Nat.reduceSub,Nat.reduceMul,Nat.reduceLeDiff,Nat.reduceLT,Int.reduceLE,Int.reduceToNat,Int.reduceNeg,↓reduceIte];rfl) (o:Ah σ y=some e:=by simp only[go_sem,Nat.reduceEqDiff,reduceCtorEq,Nat.reduceAdd,Nat.reduceSub,Nat.reduceMul,Nat.reduceLeDiff,Nat.reduceLT,Int.reduceLE,Int.reduceToNat,Int.reduceNeg,↓reduceIte];rfl)
  (h:Kk false σ (.agg (.prod (.int i) (.int j))) xv=some a:=by simp only[go_sem,Nat.reduceEqDiff,reduceCtorEq,Nat.reduceAdd,Nat.reduceSub,Nat.reduceMul,Nat.reduceLeDiff,Nat.reduceLT,Int.reduceLE,Int.reduceToNat,Int.reduceNeg,↓reduceIte];rfl) (l:Kk false σ (.agg (.prod (.int i) (.int j))) e=some b:=by simp only[go_sem,Nat.reduceEqDiff,reduceCtorEq,Nat.reduceAdd,Nat.reduceSub,Nat.reduceMul,Nat.reduceLeDiff,Nat.reduceLT,Int.reduceLE,Int.reduceToNat,Int.reduceNeg,↓reduceIte];rfl) :
  HY c R k ops (⟨some d,.binOp .eql t x y q,ty,pos,after,none⟩ :: rest) σ:=k9 g m n o h l hk
end
end
section
open Go Go.RowKit
section
variable {c:Cx} {σ:St} {ens:EN} {N:St→Prop}
theorem lA (L:c.Ok) {d m len:Nat} {t:TypeId} {x:Operand} {ty:TypeId} {pos:String} {after:Array Edge} {j e:Ty} {offs:List (Nat×Nat)} {el y:TypeId} {E:Nat} {C:AV} {a0:j.den} {xs:List e.den}
  (af:lk t c.tb.ty=some ⟨.slice (.agg (.prod j (.slice e))),offs,el,E⟩) (ah:Ah σ x=some (.ag [C,.sr m e 0 len])) (K:EO false σ j C=some a0) (i:lk m σ.objs=some (.arr y e xs)) (T:len=xs.length)
  (Z:(c.ds.pin.all fun p=>!AW p.1 [m])=true) (S:lk d σ.objs=none) (ad:j.size+1≤16777216)
  (B:IU ⟨some d,.buildSlice t 1 #[(0,x)],ty,pos,after,none⟩ ens=true) (hn:HN [m] σ.objs ens=true) (hf:Ha [m] ens=ens) (P:MD [(d,.nest el y j e [(a0,xs)] none)] ens=true) (M:d<c.nt)
  (H:N ⟨(d,.sr d (.agg (.prod j (.slice e))) 0 1) :: BT [m] σ.env,(d,.nest el y j e [(a0,xs)] none) :: Af [m] [m] σ.objs⟩) :
  Tz c ⟨some d,.buildSlice t 1 #[(0,x)],ty,pos,after,none⟩ σ ens N:=by
 intro X σ' q g a w next Q ab V
 have O:∀s v,lk s X.env=some v→v.fgt [m]=v:=fun s v hs=>by
  obtain⟨obs,i⟩:=g.env s v hs;exact LA hf _ i
 have A:Ya σ σ':=by
  intro n o r;rw[q.objs];cases b:lk n X.objs with
  | none=>exact r
  | some ai =>
   obtain⟨e,f,hp⟩:=g.objs n ai b;rw[(DR hn e f _ hp).1]at r;cases r
 have U:∀n o,lk n X.objs=some o→n ∉ [m]:=fun n o W=>by
  obtain⟨e,f,hp⟩:=g.objs n o W;exact(DR hn e f _ hp).2.1
 have J:∀t∈[x].filterMap L5,lk t X.env=none:=fun t ae=>by
  cases b:lk t X.env with
  | none=>rfl
  | some v =>
   obtain⟨obs,i⟩:=g.env t v b;refine absurd ?_ (DQ B _ i).1;simpa[GI,Op.operands] using ae
 have I:lk d X.env=none:=by
  cases b:lk d X.env with
  | none=>rfl
  | some v=>obtain⟨obs,i⟩:=g.env d v b;exact absurd rfl (DQ B _ i).2
 have z:lk d X.objs=none:=by
  cases b:lk d X.objs with
  | none=>rfl
  | some u =>
   obtain⟨e,f,hp⟩:=g.objs d u b;have:=IV P e f _ hp;simp[lk]at this
 have Y:=Pg q J;refine yD L (xs:=xs) (a0:=a0) af (by rw[Y x (by simp)];exact ah) (Hx A K) (A m _ i) T Z (by rw[q.objs,z,S];rfl) ad ab M fun D w' aa=>V _ H D w' _ ⟨fun s=>?_,fun n=>?_⟩ aa
 ·have R:lk s (BT [m] σ'.env)=(lk s X.env).or (lk s (BT [m] σ.env)):=by
   rw[DK,DK,q.env];cases b:lk s X.env with
   | none=>rfl
   | some v=>simp[O s v b]
  simp only[lk];by_cases l:s=d
  ·rw[At l,At l,l,I];rfl
  ·rw[As l,As l];exact R
 ·simp only[lk,BR,q.objs];by_cases k:n=d
  ·rw[At k,At k,k,z];rfl
  ·rw[As k,As k];cases b:lk n X.objs with
   | none=>simp
   | some u =>
    have G:K9 u=true:=by
     obtain⟨e,f,hp⟩:=g.objs n u b;exact(DR hn e f _ hp).2.2
    have F:¬AW n [m]=true:=fun h=>U n _ b ((AY _ _).1 h);rw[As F];exact AAP some (Q7 G)
theorem A8J (j:c.Ok) {d m len:Nat} {t:TypeId} {x:Operand} {ty:TypeId} {pos:String} {after:Array Edge} {a e:Ty} {offs:List (Nat×Nat)} {el b:TypeId} {g:Nat} {f:AV} {a0:a.den} {xs:List e.den} {τ:St}
  (o:len=xs.length) (h:N τ) (w:Ah σ x=some (.ag [f,.sr m e 0 len]):=by simp only[go_sem,Nat.reduceEqDiff,reduceCtorEq,Nat.reduceAdd,Nat.reduceSub,Nat.reduceMul,Nat.reduceLeDiff,Nat.reduceLT,Int.reduceLE,Int.reduceToNat,Int.reduceNeg,↓reduceIte];rfl) (v:lk t c.tb.ty=some ⟨.slice (.agg (.prod a (.slice e))),offs,el,g⟩:=by rfl) (i:EO false σ a f=some a0:=by simp only[go_sem,Nat.reduceEqDiff,reduceCtorEq,Nat.reduceAdd,Nat.reduceSub,Nat.reduceMul,Nat.reduceLeDiff,Nat.reduceLT,Int.reduceLE,Int.reduceToNat,Int.reduceNeg,↓reduceIte];rfl) (q:lk m σ.objs=some (.arr b e xs):=by simp only[go_sem,Nat.reduceEqDiff,reduceCtorEq,Nat.reduceAdd,Nat.reduceSub,Nat.reduceMul,Nat.reduceLeDiff,Nat.reduceLT,Int.reduceLE,Int.reduceToNat,Int.reduceNeg,↓reduceIte];rfl)
  (r:(c.ds.pin.all fun p=>!AW p.1 [m])=true:=by rfl) (n:lk d σ.objs=none:=by simp only[go_sem,Nat.reduceEqDiff,reduceCtorEq,Nat.reduceAdd,Nat.reduceSub,Nat.reduceMul,Nat.reduceLeDiff,Nat.reduceLT,Int.reduceLE,Int.reduceToNat,Int.reduceNeg,↓reduceIte]) (u:a.size+1≤16777216:=by decide)
  (s:IU ⟨some d,.buildSlice t 1 #[(0,x)],ty,pos,after,none⟩ ens=true:=by rfl) (hn:HN [m] σ.objs ens=true:=by rfl) (hf:Ha [m] ens=ens:=by simp only[go_sem,Nat.reduceEqDiff,reduceCtorEq,Nat.reduceAdd,Nat.reduceSub,Nat.reduceMul,Nat.reduceLeDiff,Nat.reduceLT,Int.reduceLE,Int.reduceToNat,Int.reduceNeg,↓reduceIte]) (l:MD [(d,.nest el b a e [(a0,xs)] none)] ens=true:=by rfl) (k:HX c.nt ⟨some d,.buildSlice t 1 #[(0,x)],ty,pos,after,none⟩=true:=by rfl)
  (y:⟨(d,.sr d (.agg (.prod a (.slice e))) 0 1) :: BT [m] σ.env,(d,.nest el b a e [(a0,xs)] none) :: Af [m] [m] σ.objs⟩=τ:=by simp only[go_sem,Nat.reduceEqDiff,reduceCtorEq,Nat.reduceAdd,Nat.reduceSub,Nat.reduceMul,Nat.reduceLeDiff,Nat.reduceLT,Int.reduceLE,Int.reduceToNat,Int.reduceNeg,↓reduceIte];rfl) :
  Tz c ⟨some d,.buildSlice t 1 #[(0,x)],ty,pos,after,none⟩ σ ens N:=lA j v w i q o r n u s hn hf l (Bb k d rfl) (y▸h)
end
end
section
open Go Go.RowKit
def lB:AV→Bool
 | .p t _=>t.flat
 | _=>false
theorem XD {V V':Vw}:∀ {fs:List AV} {cs:List Value},fs.all lB=true→DX V fs cs→DX V' fs cs
 | [],_,_,h=>h
 | x :: r,cs,hf,h=>by
  rw[AB4,AT]at hf;obtain⟨c1,c2,rfl,h1,a⟩:=h;refine⟨c1,c2,rfl,?_,XD hf.2 a⟩;cases x with
  | p t d=>exact KB hf.1 h1
  | _=>cases hf.1
section
variable {c:Cx} {R:Exit→Act→World→Prop} {k:List Df} {σ:St}
theorem yE (ai:c.Ok) {ops:Array Oper} {rest:List Oper} {d:Nat} {g x y:Operand} {ts:Array TypeId} {ty:TypeId} {pos:String} {after:Array Edge} {f q:FuncId} {n m i len:Nat} {e H:Ty} {et bs B:TypeId} {N:List (H.den×List e.den)} {st:Bool} {fs:List AV} {row:List e.den} {C:Bool}
  (J:BB c.P f [.p (.slice e) row,.clo q [1]] [(1,.box B st fs)] [1] (fun res X=>res=.p .bool C∧X=[(1,.box B st fs)]))
  (ao:Ah σ g=some (.fn f)) (bo:Ah σ x=some (.nin n e i len)) (bp:Ah σ y=some (.clo q [m])) (hn:lk n σ.objs=some (.nest et bs H e N none)) (bf:(N.getD i (H.dflt,[])).2=row) (G:lk m σ.objs=some (.box B st fs)) (am:fs.all lB=true)
  (hk:HY c R k ops rest ⟨(d,.p .bool C) :: σ.env,σ.objs⟩) :
  HY c R k ops (⟨some d,.call ⟨.value g,#[x,y],ts⟩,ty,pos,after,none⟩ :: rest) σ:=by
 intro O ar a w bh;unfold wpListIn;rw[At (by simp[Region.wanted])];obtain⟨ρ,l⟩:=bh;have al:∀F,some d=some F→F<c.nt:=fun F h=>Bb (O _ ABp) F h;have L:GH (vw w c.O0 σ ρ) σ a.eval:=Du l.env;obtain⟨⟨fn,an,bb,ah⟩,J⟩:=J;have ap:a.eval g=.func (.func f) #[] #[]:=L g _ ao;obtain⟨-,ca,ad,bt,bz,W,U,ax,bu⟩:=L x _ bo;obtain⟨br,bq⟩:=L y _ bp;have D:Gn σ m:=⟨_,G⟩;have av:Gn σ n:=⟨_,hn⟩;have bc:n≠m:=fun e=>by rw[e,G]at hn;cases hn
 let objs:List (Nat×Obj):=[(1,.box B st fs)]
 let E:Nat→Value:=fun _=>ρ m
 let I:Nat→Prop:=fun b=>b<w.heap.size∧¬bk (ρ m) b
 have T:∀b,own (fun _=>False) ⟨[],objs⟩ E b→bk (ρ m) b:=by
  rintro b (h|⟨t,-,h⟩)
  ·exact h.elim
  ·exact h
 have M:∀ {V V':Vw} {loc:Value},V'.w=V.w→A3 V (.box B st fs) loc→A3 V' (.box B st fs) loc:=by
  rintro V V' loc bn ⟨h0,b,cs,au,hh,ak⟩;exact⟨h0,b,cs,au,by rw[bn];exact hh,XD am ak⟩
 have ay:kT I (fun _=>False) objs E w:=by
  refine⟨fun t o r=>?_,fun t b _ j=>⟨fun ae=>ae.2 j,fun h=>h⟩,fun n1 bv b h1 z _ _=>?_⟩
  ·simp only[objs,lk]at r;split at r
   ·cases r;exact M (V:=vw w c.O0 σ ρ) rfl (l.objs m _ G)
   ·cases r
  ·obtain⟨bw,h1⟩:=h1;obtain⟨bx,z⟩:=z;simp only[objs,lk]at h1 z;split at h1
   ·split at z
    ·rename_i Y Z;rw[Y,Z]
    ·cases z
   ·cases h1
 have bd:Bo w (own (fun _=>False) ⟨[],objs⟩ E) (.slice e) [a.eval x] row:=by
  have aq:N[i]?=some (N.getD i (H.dflt,[])):=by
   exact Sp (l.objs n _ hn) W U
  rw[←bf];refine oO (V:=vw w c.O0 σ ρ) (fun b j h=>j (.inr ⟨m,D,T b h⟩)) (fun b j h=>?_) (l.objs n _ hn) W U ax aq;exact bc (l.dist n m b av D j (T b h))
 have ag:I1 (vw w (fun _=>False) ⟨[],objs⟩ E) [.p (.slice e) row,.clo q [1]] [a.eval x,a.eval y]:=by
  refine⟨_,_,rfl,⟨_,bd,rfl⟩,_,_,rfl,⟨br,fun t ba=>?_⟩,rfl⟩;have:t=1:=AAz.1 ba;subst this;exact⟨⟨_,rfl⟩,(bq m (by simp)).2⟩
 have aj:=J w I (fun _=>False) E [a.eval x,a.eval y] (fun b j=>j.1) (fun b j=>j.elim) ay ag;have bg:(execOp a.eval ⟨some d,.call ⟨.value g,#[x,y],ts⟩,ty,pos,after,none⟩).run c.P w=.ok (.enter f [a.eval x,a.eval y].toArray) w:=by
  have aa : ¬ fn.name = "runtime.NumGoroutine" := by simpa using bb
  have ab:¬fn.body=none:=by intro e;simp[e]at ah
  simp[execOp,resolve,Deferred.ofValue,ap,invoke,callFunc,an,aa,ab]
 refine⟨fun _ _=>trivial,?_⟩;rw[Fe _ _ _ (fun cl e=>by cases e),bg,ACy];refine⟨fun h=>(by simp[FR]at h),Kw (aj.mono fun e w' hh=>?_)⟩;obtain⟨u,rfl,res,X,ρ',⟨rfl,rfl⟩,A,az,be,bj⟩:=hh;have bi:ρ' 1=ρ m:=bj 1 (by simp);have Q:CR (vw w c.O0 σ ρ) (vw w' c.O0 ⟨(d,.p .bool C) :: σ.env,σ.objs⟩ ρ):=by
  refine⟨fun b _ j=>j,fun t h=>h,fun _ _=>rfl,fun b aw j=>A.block b ⟨aw,fun h=>j (.inr ⟨m,D,h⟩)⟩⟩
 have af:∀b,c.K b→I b:=fun b j=>⟨AAy (ai.K b j) l.frm.size,fun h=>(l.free m b D h).1 j⟩;refine hk (fun o r=>O o (by simp[r])) ar _ _ ⟨ρ,⟨A.os.trans l.frm.os,A.tape.trans l.frm.tape,A.output.trans l.frm.output,aT l.frm.size A.size,fun b j=>(A.block b (af b j)).trans (l.frm.block b j)⟩,by rw[J9];exact l.nt,by rw[GW];exact l.defers,l.pin,fun t o r=>?_,l.free,l.dist,fun s v bl=>?_⟩
 ·by_cases S:t=m
  ·subst S;have r:lk t σ.objs=some o:=r;rw[G]at r;cases r;have h1:=az.obj 1 _ rfl;rw[bi]at h1;exact M (V:=vw w' (fun _=>False) ⟨[],objs⟩ ρ') (V':=vw w' c.O0 ⟨(d,.p .bool C) :: σ.env,σ.objs⟩ ρ) rfl h1
  ·refine A3.keeps Q (fun b j=>?_) (l.objs t o r);exact A.block b ⟨(l.objs t o r).block_lt j,fun h=>S (l.dist t m b ⟨o,r⟩ D j h)⟩
 ·refine pD (c:=c) (dst:=some d) (res:=.p .bool C) l.nt al ?_ (fun s v bm=>(l.env s v bm).keeps Q) bl;obtain⟨cs,h1,z⟩:=be;exact⟨cs,KB rfl h1,z⟩
theorem A8K (l:c.Ok) {ops:Array Oper} {rest:List Oper} {d:Nat} {g x y:Operand} {ts:Array TypeId} {ty:TypeId} {pos:String} {after:Array Edge} {f q:FuncId} {n m i len:Nat} {e b:Ty} {et w a:TypeId} {N:List (b.den×List e.den)} {st:Bool} {fs:List AV} {row:List e.den} {h:Bool}
  (j:BB c.P f [.p (.slice e) row,.clo q [1]] [(1,.box a st fs)] [1] (fun res z=>res=.p .bool h∧z=[(1,.box a st fs)])) (t:(N.getD i (b.dflt,[])).2=row)
  (hk:HY c R k ops rest ⟨(d,.p .bool h) :: σ.env,σ.objs⟩) (r:Ah σ g=some (.fn f):=by simp only[go_sem,Nat.reduceEqDiff,reduceCtorEq,Nat.reduceAdd,Nat.reduceSub,Nat.reduceMul,Nat.reduceLeDiff,Nat.reduceLT,Int.reduceLE,Int.reduceToNat,Int.reduceNeg,↓reduceIte]<;>rfl) (u:Ah σ x=some (.nin n e i len):=by simp only[go_sem,Nat.reduceEqDiff,reduceCtorEq,Nat.reduceAdd,Nat.reduceSub,Nat.reduceMul,Nat.reduceLeDiff,Nat.reduceLT,Int.reduceLE,Int.reduceToNat,Int.reduceNeg,↓reduceIte];rfl) (v:Ah σ y=some (.clo q [m]):=by simp only[go_sem,Nat.reduceEqDiff,reduceCtorEq,Nat.reduceAdd,Nat.reduceSub,Nat.reduceMul,Nat.reduceLeDiff,Nat.reduceLT,Int.reduceLE,Int.reduceToNat,Int.reduceNeg,↓reduceIte];rfl)
  (hn:lk n σ.objs=some (.nest et w b e N none):=by simp only[go_sem,Nat.reduceEqDiff,reduceCtorEq,Nat.reduceAdd,Nat.reduceSub,Nat.reduceMul,Nat.reduceLeDiff,Nat.reduceLT,Int.reduceLE,Int.reduceToNat,Int.reduceNeg,↓reduceIte];rfl) (s:lk m σ.objs=some (.box a st fs):=by simp only[go_sem,Nat.reduceEqDiff,reduceCtorEq,Nat.reduceAdd,Nat.reduceSub,Nat.reduceMul,Nat.reduceLeDiff,Nat.reduceLT,Int.reduceLE,Int.reduceToNat,Int.reduceNeg,↓reduceIte]<;>rfl) (o:fs.all lB=true:=by rfl) :
  HY c R k ops (⟨some d,.call ⟨.value g,#[x,y],ts⟩,ty,pos,after,none⟩ :: rest) σ:=yE l j r u v hn t s o hk
end
end
end Go.Proofs.YtdapahgnpbehbaaGreat.Fw
