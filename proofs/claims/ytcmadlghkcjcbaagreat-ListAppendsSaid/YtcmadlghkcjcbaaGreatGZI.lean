/- Range over a function; scopes; several steps in one. -/
import Derived.Test.YtcmadlghkcjcbaaGreatGZH
import Derived.RangeFuncFrom
import Derived.Scope
import Derived.Laws.IdiomRangeMap
import Derived.Laws.StructEq
set_option linter.unusedVariables false
set_option linter.unusedSimpArgs false
namespace Go.Proofs.YtcmadlghkcjcbaaGreat.Fw
variable {n l I:Nat} {Z:AV->List (Nat×Obj)->Prop} {Y:Array Edge} {X:Array TypeId} {K S:Nat->Prop} {W M:Nat->Value} {V:Option Nat} {U:Array Oper} {g:Operand} {P:Program} {t:TypeId} {b:List Nat} {T:String} {p:Prop} {f:FuncId} {w:World} {R H:St} {Q:Exit->Act->World->Prop} {O:Tb} {N:Func} {L:Go.Loop} {k a:List DP} {i:Option (Nat×Bool)} {v:Value} {q r:Code} {j:IntKind} {e:Exit} {J:Bool} {G:s8}
section
open Go Go.RowKit
theorem gW {V:Vw} {ns:List Nat} (h:B7 V (.clo f ns) v):v=.func (.func f) #[] (ns.map V.ρ).toArray/\Iw V (ns.map λn=>AV.bp n [] 0) (ns.map V.ρ):=by
 refine⟨h.1,?_⟩;have h0:∀l:List Nat,(∀n∈l,n∈ns)->Iw V (l.map λn=>AV.bp n [] 0) (l.map V.ρ):=by
  intro l;induction l with
  | nil=>intro _;exact rfl
  | cons n r d =>
   intro hl;obtain⟨c,b,a⟩:=h.2 n (hl n sc);exact⟨V.ρ n,r.map V.ρ,rfl,⟨c,b,a,a⟩,d λx hx=>hl x (by simp[hx])⟩
 exact h0 ns λ_ h=>h
def WN (P:Program) (yn:Nat) (A:List AV) (objs:List (Nat×Obj)) (stay:List Nat) (post:AV->List (Nat×Obj)->Prop):Prop :=
 ∀(w:World) (K O0:Nat->Prop) (ρ:Nat->Value) (a:List Value) (b:Nat),(∀b,K b->b<w.heap.size)->(∀b,O0 b->b<w.heap.size)->xT K O0 objs ρ w->Iw (vw w O0 ⟨[],objs⟩ ρ) A a ->
  ρ yn=.pointer (some ⟨b,0,none⟩)->YieldAt (FR none) 0 P b a.toArray w λe w'=>∃u,e=.returned u/\MK K O0 stay w ρ post u w'
section
variable {c:Cx} {R:Exit->Act->World->Prop} {k:List DP} {σ:St}
def gX (n:Nat):Option AV->Bool
 | some (.yl m)=>m==n
 | _=>false
theorem A1q (N:c.Ok) (W:c.r=none) {o:Oper} {dst:Option Nat} {xs:List Operand} {ts:Array TypeId} (t:o.op=.call { callee:=.value g,args:=xs.toArray,argTypes:=ts }) (O:o.dst=dst)
  {yn:Nat} (f:gX n (Aq σ g)=true) {as:List AV} (L:Jc σ xs=some as)
  {A:List AV} {objs:List (Nat×Obj)} {stay:List Nat} {post:AV->List (Nat×Obj)->Prop} (H:WN c.P yn A objs stay post)
  (ren:List (Nat×B3)) (Z:lk yn ren=some (.nm n)) (h1:CJ ren=true) (C:Ca objs ren=true) (F:BS σ ren as A) (I:Ah σ.objs ren objs)
  (hs:List Nat) (U:(c.ds.pin.all λp=>!Ad p.1 hs)=true) {next:Act->World->Prop} {Q:Exit->Act->World->Prop} {a:Act} {w:World} (Y:c.sat σ a w) (hd:∀d,dst=some d->d<c.nt)
  (hk:∀res x,post res x->∃(i:List (Nat×B3)) (y:AV) (j:List (Nat×Obj)),CJ i=true/\Ca j i=true/\Ah x i j/\B2 i res y /\
   I7 ren i stay hs=true/\FY (Ao ren) j σ.objs=true/\∀l w',c.sat (Cf σ (Ao ren) hs dst y j) l w'->next l w'):o.wpIn (FR c.r) 0 c.P a w next Q:=by
 obtain⟨ρ,v⟩:=Y;have s:Hl (vw w c.O0 σ ρ) σ a.eval:=GA v.env;obtain⟨b,aa,R⟩:∃b:Nat,ρ n=.pointer (some ⟨b,0,none⟩)/\a.eval g=.func (.yield b) #[] #[]:=by
  cases k:Aq σ g with
  | none=>rw[k]at f;simp[gX]at f
  | some q =>
   rw[k]at f;have S:=s g q k;cases q<;>simp only[gX]at f<;>try(cases f;done)
   rename_i m;have hm:m=n:=by simpa using f
   subst hm;obtain⟨_,b,D,E⟩:=S;exact⟨b,D,E⟩
 obtain⟨z,B,ad,G,J,T,M,ab,V⟩:=R0 N v (bT s L) stay post ren h1 C F I hs U hd hk;obtain⟨fn,tmps,assign,body,hy,K⟩:=H w z B ad (xs.map a.eval) b G J T M ((ab _ _ Z).trans aa);have X:(execOp a.eval o).run c.P w=.ok (.round b fn tmps assign body) w:=by
  simp[execOp,t,resolve,Deferred.ofValue,R,invoke];simpa using hy
 refine⟨λ_ _=>trivial,?_⟩;rw[G9 _ _ _ (λcl e=>by rw[t]at e;cases e),X,Oper.uponIn_round];refine⟨λh=>(by simp[FR]at h),?_⟩;rw[W];refine K.mono λe w' hh=>?_;obtain⟨u,rfl,hh⟩:=hh;rw[O];exact V u w' hh
theorem x9 (B:c.Ok) (H:c.r=none) {ops:Array Oper} {rest:List Oper} {dst:Option Nat} {xs:List Operand} {ts:Array TypeId} {ty:TypeId} 
  {yn:Nat} (C:gX n (Aq σ g)=true) {as:List AV} (z:Jc σ xs=some as)
  {A:List AV} {objs:List (Nat×Obj)} {stay:List Nat} {post:AV->List (Nat×Obj)->Prop} (x:WN c.P yn A objs stay post)
  (ren:List (Nat×B3)) (hs:List Nat) (K:lk yn ren=some (.nm n)) (h1:CJ ren=true) (t:Ca objs ren=true) (G:(c.ds.pin.all λp=>!Ad p.1 hs)=true) (u:BS σ ren as A) (y:Ah σ.objs ren objs)
  (hk:∀res e,post res e->∃(b:List (Nat×B3)) (f:AV) (d:List (Nat×Obj)),CJ b=true/\Ca d b=true/\Ah e b d/\B2 b res f /\
   I7 ren b stay hs=true/\FY (Ao ren) d σ.objs=true/\N4 c R k ops rest (Cf σ (Ao ren) hs dst f d)) :
  N4 c R k ops (⟨dst,.call ⟨.value g,xs.toArray,ts⟩,ty,T,Y,none⟩ :: rest) σ:=by
 intro hd D a w J;unfold wpListIn;rw[BY (by simp[Region.wanted])];refine A1q B H (xs:=xs) (ts:=ts) rfl rfl C z x ren K h1 t u y hs G J (Ce (hd _ sc)) λres e F=>?_;obtain⟨b,f,d,i,j,l,m,q,s,v⟩:=hk res e F;exact⟨b,f,d,i,j,l,m,q,s,λh w' I=>v (λo E=>hd o (by simp[E])) D h w' I⟩
end
def HQ:List Nat->List AV->List (Nat×AV)->List (Nat×AV)
 | p :: a,x :: xs,e=>HQ a xs ((p,x) :: e)
 | _,_,e=>e
def cY (P:Program) (tb:Tb) (w0:World) (K O0:Nat->Prop) (nt l:Nat) (pin:List (Nat×Value)):Cx:={ P:=P,tb:=tb,w0:=w0,K:=K,O0:=O0,nt:=nt,ds:={ pin:=pin },r:=some l }
theorem A1r {tb:Tb} {w0:World} {O0:Nat->Prop} {nt:Nat} {pin:List (Nat×Value)}:(cY P tb w0 K O0 nt l pin).tb=tb:=rfl
def oE (P:Program) (l:Nat) (w0:World) (K O0:Nat->Prop) (stay:List Nat) (ρ0:Nat->Value) (post:AV->List (Nat×Obj)->Prop):Exit->Act->World->Prop :=
 roundPost P l λe w'=>∃u,e=.returned u/\MK K O0 stay w0 ρ0 post u w'
theorem tS {V:Vw}:∀(b:List Nat) (A:List AV) (c:List Value) (e:List (Nat×AV)) (a:Array Value),Iw V A c->(∀p∈b,p<a.size)->A.length=b.length->(∀s x,lk s e=some x->B7 V x (a.getD s undef)) ->
  (∀s x,lk s (HQ b A e)=some x->B7 V x (((b.zip c).foldl (λt (p,v)=>t.setIfInBounds p v) a).getD s undef))/\((b.zip c).foldl (λt (p,v)=>t.setIfInBounds p v) a).size=a.size
 | [],_,_,e,a,_,_,_,h=>by simpa[HQ] using h
 | p :: b,[],_,e,a,_,_,hl,_=>by simp at hl
 | p :: b,x :: A,c,e,a,⟨v,r,k,h1,g⟩,f,hl,h=>by
  subst k;simp only[ACv,RJ,HQ];have l:=tS b A r ((p,x) :: e) (a.setIfInBounds p v) g (λq j=>by simpa using f q (by simp[j])) (by simpa using hl) (λs y hs=>by
   have d:=NE { tmps:=a,defers:=[] } p v s (f p sc);have d:(a.setIfInBounds p v).getD s undef=if s=p then v else a.getD s undef:=d
   rw[d];simp only[lk]at hs;split at hs
   .grind
   rename_i i;rw[At i];exact h s y hs)
  grind
section
variable {P:Program} {tb:Tb} {w0:World} {K O0:Nat->Prop} {nt l:Nat} {stay:List Nat} {ρ0:Nat->Value} {post:AV->List (Nat×Obj)->Prop} {σ:St} {pin:List (Nat×Value)}
theorem QL {c:Cx} (f:c.Ok) {σ:St} {a:Act} {w:World} {ρ:Nat->Value} (hs:CG c.w0 c.K c.O0 c.nt c.ds σ ρ a w) {yn b:Nat} (hl:lk yn σ.objs=some (.loop L)) (hb:ρ yn=.pointer (some ⟨b,0,none⟩)) (d:Go.Loop) :
  w.heap[b]?=some (.loop L)/\CG c.w0 c.K c.O0 c.nt c.ds ⟨σ.env,upd yn (.loop d) σ.objs⟩ ρ a (w.putObj b (.loop d)):=by
 obtain⟨i,h1,e⟩:=hs.objs yn _ hl;rw[hb]at h1;injection h1 with h1
 injection h1 with h1
 injection h1 with h1
 subst h1;have h:b<w.heap.size:=CQ e;refine⟨e,hs.upd f.K hl (g:=b) (by rw[hb];rfl) (grownBy_putObj' w b _) ?_⟩;exact⟨b,hb,World.putObj_heap_same h⟩
theorem NW (e:(cY P tb w0 K O0 nt l pin).Ok) {yn:Nat} (hl:lk yn σ.objs=some (.loop L)) (g:pin=stay.map λn=>(n,ρ0 n)) (h:yn∈stay) (hb:ρ0 yn=.pointer (some ⟨l,0,none⟩))
  (f:post (.p .bool true) (upd yn (.loop { L with state:=.ready,pending:=none }) σ.objs)) :
  Ev (cY P tb w0 K O0 nt l pin) (oE P l w0 K O0 stay ρ0 post) (.out .normal) [] σ:=by
 intro _ _ a w hs;obtain⟨ρ,hs⟩:=hs;have c:∀n∈stay,ρ n=ρ0 n:=λn hn=>(hs.pin (n,ρ0 n) (by rw[show (cY P tb w0 K O0 nt l pin).ds.pin=pin from rfl,g];exact Do.2 ⟨n,hn,rfl⟩)).2.1;obtain⟨d,b⟩:=QL e hs hl ((c _ h).trans hb) { L with state:=.ready,pending:=none };refine⟨_,_,run_endRound none d,.bool true,rfl,.p .bool true,_,ρ,f,b.frm,⟨b.objs,b.free,b.dist⟩,⟨_,rfl,rfl⟩,c⟩
theorem Hx (e:(cY P tb w0 K O0 nt l pin).Ok) {yn:Nat} (hl:lk yn σ.objs=some (.loop L)) (g:pin=stay.map λn=>(n,ρ0 n)) (h:yn∈stay) (hb:ρ0 yn=.pointer (some ⟨l,0,none⟩))
  (f:post (.p .bool false) (upd yn (.loop { L with state:=.done,pending:=some .ret }) σ.objs)) :
  Ev (cY P tb w0 K O0 nt l pin) (oE P l w0 K O0 stay ρ0 post) (.out .ret) [] σ:=by
 intro _ _ a w hs;obtain⟨ρ,hs⟩:=hs;have c:∀n∈stay,ρ n=ρ0 n:=λn hn=>(hs.pin (n,ρ0 n) (by rw[show (cY P tb w0 K O0 nt l pin).ds.pin=pin from rfl,g];exact Do.2 ⟨n,hn,rfl⟩)).2.1;obtain⟨d,b⟩:=QL e hs hl ((c _ h).trans hb) { L with state:=.done,pending:=some .ret };refine⟨_,_,run_endRound (some .ret) d,.bool false,rfl,.p .bool false,_,ρ,f,b.frm,⟨b.objs,b.free,b.dist⟩,⟨_,rfl,rfl⟩,c⟩
def A9B (c:Cx) (R:Exit->Act->World->Prop) (yn:Nat) (L:Go.Loop) (a:Code) (σ:St):Prop :=
 lk yn σ.objs=some (.loop L)/\Ev c R (.run a) [] ⟨σ.env,upd yn (.loop { L with state:=.busy }) σ.objs⟩
theorem WO {yn fr:Nat} {A:List AV} {objs:List (Nat×Obj)} {d:List Nat} {fs:List (Nat×AV)} {f:Array Value}
  (hl:lk yn objs=some (.loop L)) (hf:lk fr objs=some (.frame f fs)) (h1:L.state=.ready) (G:L.params=d.toArray) (H:L.assign=q) (I:L.body=r) (ai:L.tmps=f) (C:f.size=nt)
  (y:A.length=d.length) (W:(d.all λp=>decide (p<nt))=true) (ad:yn∈stay) (Z:stay.all (Tj objs)=true) (T:MB objs=true) (Q:Bn nt q=true) (R:Bn nt r=true) (hT:DC P tb) (hF:I2 P tb)
  (h:∀(w0:World) (K O0:Nat->Prop) (ρ0:Nat->Value) (l:Nat),(cY P tb w0 K O0 nt l (stay.map λn=>(n,ρ0 n))).Ok->QI A->Oy objs->ρ0 yn=.pointer (some ⟨l,0,none⟩) ->
   Ev (cY P tb w0 K O0 nt l (stay.map λn=>(n,ρ0 n))) (λ_ _ _=>False) (.run q) [.inv (A9B (cY P tb w0 K O0 nt l (stay.map λn=>(n,ρ0 n))) (oE P l w0 K O0 stay ρ0 post) yn L r)] ⟨HQ d A fs,objs⟩) :
  WN P yn A objs stay post:=by
 intro w K O0 ρ m b M N hm u hb;have ab:=I6 u;obtain⟨ag,c,hh⟩:=hm.obj yn _ hl;rw[hb]at c;injection c with c
 injection c with c
 injection c with c
 subst c;have X:=run_yield (P:=P) (args:=m.toArray) hh (by rw[G];simp[ab,y]);refine⟨_,_,_,_,X,roundIn_of_wpIn trivial ?_⟩;have x:(cY P tb w K O0 nt b (stay.map λn=>(n,ρ n))).Ok:=⟨M,N,hT,hF⟩;have S:=hm.obj fr _ hf;have z:=tS (V:=vw w O0 ⟨[],objs⟩ ρ) d A m fs f u (λp s=>by have:=(Of.1 W) p s;rw[C];simpa using this) y S.2;have aa:(L.params.zip m.toArray).foldl (λt (p,v)=>t.setIfInBounds p v) L.tmps=(d.zip m).foldl (λt (p,v)=>t.setIfInBounds p v) f:=by grind
 rw[H,I,aa];have Y:(cY P tb w K O0 nt b (stay.map λn=>(n,ρ n))).sat ⟨HQ d A fs,objs⟩ { tmps:=(d.zip m).foldl (λt (p,v)=>t.setIfInBounds p v) f,defers:=[] } w:=by
  refine⟨ρ,⟨rfl,rfl,rfl,IN _,λ_ _=>rfl⟩,by rw[z.2];exact C,rfl,λp s=>?_,hm.obj,hm.free,hm.dist,z.1⟩;obtain⟨n,hn,rfl⟩:=Do.1 s;have:=(Of.1 Z) n hn;unfold Tj at this;cases g:lk n objs with
  | none=>rw[g]at this;cases this
  | some o =>
   rw[g]at this;refine⟨⟨o,g⟩,rfl,?_⟩;have i:=hm.obj n o g;cases o with
   | arr et e xs=>exact .inr this
   | nest et ak k e xs hl=>exact .inr this
   | box et st fs=>obtain⟨_,b,cs,a,_⟩:=i;rw[a];exact .inl rfl
   | mapo k v l=>obtain⟨b,ah,cl,a,_⟩:=i;rw[a];exact .inl rfl
   | frame f fs=>obtain⟨a,_⟩:=i;rw[a];exact .inl rfl
   | loop L=>obtain⟨b,a,_⟩:=i;rw[a];exact .inl rfl
   | itr al ao am an aj=>obtain⟨b,a,_⟩:=i;rw[a];exact .inl rfl
   | dfr=>obtain⟨b,a,_⟩:=i;rw[a];exact .inl rfl
 have J:=h w K O0 ρ b x (U2 u) (U3 T λn o g=>bS (hm.obj n o g)) hb (by simpa[IC,cY] using Q) rfl _ _ Y;refine ACX (F:=FR (some b)) J ?_;intro e af w' j;cases e with
 | normal =>
  obtain⟨σ',⟨ρ',B⟩,U,O⟩:=j;have ae:ρ' yn=.pointer (some ⟨b,0,none⟩):=(B.pin (yn,ρ yn) (Do.2 ⟨yn,ad,rfl⟩)).2.1.trans hb;obtain⟨D,E⟩:=QL x B U ae { L with state:=.busy };exact⟨_,run_beginRound D h1,O (by simpa[IC,cY] using R) rfl _ _ ⟨ρ',E⟩⟩
 | exit id=>exact j.elim
 | goto t=>exact j.elim
 | ret=>exact j.elim
 | panic ch=>exact j.elim
 | outgrown=>exact j.elim
end
end
section
open Go Go.RowKit
def Cx.marked (c:Cx) (dn b:Nat):Cx:={ c with ds:={ ds:=⟨.collected b,#[]⟩ :: c.ds.ds,pin:=(dn,.pointer (some ⟨b,0,none⟩)) :: c.ds.pin } }
def Cx.marked2 (c:Cx) (yn dn b:Nat):Cx:={ c with ds:={ ds:=⟨.collected b,#[]⟩ :: c.ds.ds,pin:=(yn,.pointer (some ⟨b+1,0,none⟩)) :: (dn,.pointer (some ⟨b,0,none⟩)) :: c.ds.pin } }
theorem oG {c:Cx} {yn dn b:Nat} (h:c.Ok):(c.marked2 yn dn b).Ok:=⟨h.K,h.O,h.T,h.F⟩
theorem R4 {c:Cx} {dn b:Nat}:(c.marked dn b).tb=c.tb:=rfl
theorem Hy {c:Cx} {dn b:Nat} (h:c.Ok):(c.marked dn b).Ok:=⟨h.K,h.O,h.T,h.F⟩
theorem yA (ren:List (Nat×B3)) (x:AV):B2 ren x .top:=by grind [B2,JY,Ea]
def gY:List DP->Bool
 | []=>true
 | .inv _ :: _=>false
 | _ :: k=>gY k
theorem O4 {c:Cx} {R:Exit->Act->World->Prop} {dn b:Nat}:∀ {k:List DP},gY k=true->Vr (c.marked dn b) R k=Vr c R k
 | [],_=>by funext e a w;simp[Vr]
 | .inv _ :: _,h=>by simp[gY]at h
 | .seq y :: k,h=>by
  have d:=O4 (c:=c) (R:=R) (dn:=dn) (b:=b) (k:=k) h;funext e a w;cases e<;>simp only[Vr,d]<;>rfl
 | .blk id :: k,h=>by
  have d:=O4 (c:=c) (R:=R) (dn:=dn) (b:=b) (k:=k) h;funext e a w;cases e<;>simp only[Vr,d]
def BD (σ:St) (yn dn fr:Nat) (L:Go.Loop) (a:Array Value):St:=⟨σ.env,(yn,.loop L) :: (dn,.dfr) :: (fr,.frame a σ.env) :: σ.objs⟩
section
variable {c:Cx} {R:Exit->Act->World->Prop} {k:List DP} {σ:St}
theorem yB (r:c.Ok) {a:Act} {w:World} {ρ:Nat->Value} (hs:CG c.w0 c.K c.O0 c.nt c.ds σ ρ a w) {yn dn fr:Nat} (t:yn≠dn) (C:yn≠fr) (D:dn≠fr) (E:lk yn σ.objs=none) (F:lk dn σ.objs=none) (G:lk fr σ.objs=none) (L:Go.Loop) :
  ∃e,CG c.w0 c.K c.O0 c.nt (c.marked2 yn dn w.heap.size).ds (BD σ yn dn fr L a.tmps) e { a with defers:=[{ target:=.collected w.heap.size,args:=#[] }]++a.defers } ((w.alloc (.deferred (some []))).alloc (.loop L))/\e yn=.pointer (some ⟨w.heap.size+1,0,none⟩):=by
 let e:Nat->Value:=λm=>if m=yn then .pointer (some ⟨w.heap.size+1,0,none⟩) else if m=dn then .pointer (some ⟨w.heap.size,0,none⟩) else if m=fr then .pointer none else ρ m
 have k:e yn=.pointer (some ⟨w.heap.size+1,0,none⟩):=by simp[e]
 have l:e dn=.pointer (some ⟨w.heap.size,0,none⟩):=by simp[e,Ne.symm t]
 have z:e fr=.pointer none:=by simp[e,Ne.symm C,Ne.symm D]
 obtain⟨f,j⟩:∃f,(w.alloc (.deferred (some []))).alloc (.loop L)=f:=⟨_,rfl⟩;have B:f.heap[w.heap.size+1]?=some (.loop L):=by
  rw[<-j];have:=World.alloc_heap_new (w.alloc (.deferred (some []))) (.loop L);rwa [World.size_alloc]at this
 have A:f.heap[w.heap.size]?=some (.deferred (some [])):=by
  rw[<-j];exact(Below.heap_alloc _ _ _ sc).trans (World.alloc_heap_new w _)
 have q:Below w.heap.size w f:=by
  rw[<-j];exact((Below.refl _ w).alloc (IN _) _).alloc sc _
 rw[j];have u:Bh [(yn,Obj.loop L),(dn,.dfr),(fr,.frame a.tmps σ.env)] σ=true:=by simp[Bh,E,F,G]
 have y:∀n,lk n [(yn,Obj.loop L),(dn,Obj.dfr),(fr,.frame a.tmps σ.env)]=none->e n=ρ n:=λn hn=>by grind [lk]
 have v:∀n o b,lk n [(yn,Obj.loop L),(dn,Obj.dfr),(fr,.frame a.tmps σ.env)]=some o->bk (e n) b->w.heap.size<=b:=λn o b hn hb=>by grind [lk,bk,blk]
 have H:=IA (O0:=c.O0) (ρ:=ρ) (ρ':=e) u q y v;have I:QS w c.O0 σ ρ .top [(yn,Obj.loop L),(dn,.dfr),(fr,.frame a.tmps σ.env)] undef e f:=by
  refine⟨q,y,trivial,λn o hn=>?_,v,λn m o M b hn hm hb J=>?_⟩
  .simp only[lk]at hn;split at hn
   .rename_i g;cases hn;subst g;exact⟨_,k,B⟩
   split at hn
   .rename_i g;cases hn;subst g;exact⟨_,l,A⟩
   split at hn
   .rename_i g;cases hn;subst g;exact⟨z,λs x hx=>(hs.env s x hx).keeps H⟩
   cases hn
  grind [lk,bk,blk]
 have h:=hs.add r.K r.O (dst:=none) (λd hd=>by cases hd) u I;refine⟨e,⟨h.frm,h.nt,?_,λp i=>?_,h.objs,h.free,h.dist,h.env⟩,k⟩
 .show _=_ :: c.ds.ds;rw[<-hs.defers];rfl
 rcases DO.1 i with rfl|i
 .exact⟨⟨.loop L,by simp[BD,lk]⟩,k,.inl rfl⟩
 rcases DO.1 i with rfl|i
 .exact⟨⟨.dfr,by simp[BD,lk,Ne.symm t]⟩,l,.inl rfl⟩
 exact h.pin p i
def EvJ (c:Cx) (R:Exit->Act->World->Prop) (k:List DP) (σ:St):Option Code->Prop
 | none=>Ev c R (.out .normal) k σ
 | some a=>match a with
  | .ret=>Ev c R (.out .ret) k σ
  | .exit id=>Ev c R (.out (.exit id)) k σ
  | _=>False
def AAw (c:Cx) (R:Exit->Act->World->Prop) (k:List DP) (a:Act) (w:World):Option Code->Prop
 | none=>Vr c R k .normal a w
 | some cd=>cd.wpIn (FR c.r) 0 c.P (Vr c R k) a w
theorem A5s {dn b:Nat} (g:gY k=true) (e:C3 c.nt k=true) {p:Option Code} (d:EvJ (c.marked dn b) R k σ p) {a:Act} {w:World} (hs:(c.marked dn b).sat σ a w) :
  AAw c R k a w p:=by
 have f:=O4 (c:=c) (R:=R) (dn:=dn) (b:=b) g;cases p with
 | none =>
  have:=d rfl e _ _ hs;show Vr c R k .normal a w;rw[<-f];exact this
 | some cd =>
  cases cd<;>try exact d.elim
  .have:=d rfl e _ _ hs;refine wpIn_exit ?_;rw[<-f];exact this
  have:=d rfl e _ _ hs;refine wpIn_ret ?_;rw[<-f];exact this
theorem WP (T:c.Ok) (bl:c.r=none) (bf:gY k=true) {N:Array Tmp} {E G:Code} {s:FuncId} {m:List Nat} (I:Aq σ g=some (.clo s m))
  (yn dn fr:Nat) (hd:(yn != dn&&yn != fr&&dn != fr)=true) (ba:lk yn σ.objs=none) (bb:lk dn σ.objs=none) (bc:lk fr σ.objs=none)
  (am:∀(L:Go.Loop) (z:Array Value),L.state=.ready->L.pending=none->L.tmps=z->L.params=N->L.assign=E->L.body=G->z.size=c.nt ->
   ∃(A:List AV) (objs:List (Nat×Obj)) (stay:List Nat) (post:AV->List (Nat×Obj)->Prop) (ren:List (Nat×B3)) (hs:List Nat),BK c.P s A objs stay post /\
    CJ ren=true/\Ca objs ren=true/\BS (BD σ yn dn fr L z) ren (.yl yn :: m.map λn=>AV.bp n [] 0) A/\Ah (BD σ yn dn fr L z).objs ren objs /\
    (((yn,undef) :: (dn,undef) :: c.ds.pin).all λp=>!Ad p.1 hs)=true /\
    ∀res y,post res y->∃(j:List (Nat×B3)) (i:List (Nat×Obj)) (l:Go.Loop),CJ j=true/\Ca i j=true/\Ah y j i/\I7 ren j stay hs=true/\FY (Ao ren) i (BD σ yn dn fr L z).objs=true /\
     lk yn i=some (.loop l)/\(l.state == .busy)=false /\
     ∀b,EvJ (c.marked dn b) R k ⟨(Cf (BD σ yn dn fr L z) (Ao ren) hs none .top i).env,upd yn (.loop { l with state:=.exhausted }) (Cf (BD σ yn dn fr L z) (Ao ren) hs none .top i).objs⟩ l.pending) :
  Ev c R (.run (.rangeFunc g N E G)) k σ:=by
 intro h1 ak a w bn;obtain⟨ρ,hs⟩:=bn;have az:Hl (vw w c.O0 σ ρ) σ a.eval:=GA hs.env;obtain⟨bd,_⟩:=gW (az g _ I);simp only[An,ACb,ne_eq]at hd;obtain⟨⟨av,aw⟩,ax⟩:=hd;refine wpIn_rangeFunc (F:=FR c.r) ?_;intro fn _;have bm:(FR c.r).round=none:=by rw[bl];rfl
 rw[bm];obtain⟨L,x⟩:∃L:Go.Loop,L={ state:=.ready,pending:=none,fn,tmps:=a.tmps,params:=N,assign:=E,body:=G,defers:=w.heap.size }:=⟨_,rfl⟩;obtain⟨Y,M,bq⟩:=yB T hs av aw ax ba bb bc L;obtain⟨A,objs,stay,post,ren,B,H,ae,af,ag,ah,ai,aj⟩:=am L a.tmps (by rw[x]) (by rw[x]) (by rw[x]) (by rw[x]) (by rw[x]) (by rw[x]) hs.nt;obtain⟨⟨O,au,bi,ap⟩,H⟩:=H;obtain⟨o,S⟩:∃o,(w.alloc (.deferred (some []))).alloc (.loop L)=o:=⟨_,rfl⟩;rw[S]at M;have U:(c.marked2 yn dn w.heap.size).Ok:=oG T;have ar:Iw (vw o c.O0 (BD σ yn dn fr L a.tmps) Y) (.yl yn :: m.map λn=>AV.bp n [] 0) (.func (.yield (w.heap.size+1)) #[] #[] :: m.map ρ):=by
  refine⟨_,_,rfl,⟨⟨_,by simp[BD,lk];rfl⟩,_,bq,rfl⟩,?_⟩;have cb:=gW (V:=vw o c.O0 (BD σ yn dn fr L a.tmps) Y) (f:=s) (ns:=m) (v:=a.eval g) (by
   have:=GA M.env;have bj:Aq (BD σ yn dn fr L a.tmps) g=some (.clo s m):=by
    cases g with
    | tmp t=>exact I
    | _=>exact I
   have Q:=this g _ bj;have ay:({ a with defers:=[{ target:=.collected w.heap.size,args:=#[] }]++a.defers }:Act).eval g=a.eval g:=by cases g<;>rfl
   rw[ay]at Q;exact Q)
  grind [vw]
 have bg:∀res y,post res y->∃(j:List (Nat×B3)) (X:AV) (i:List (Nat×Obj)),CJ j=true/\Ca i j=true/\Ah y j i/\B2 j res X /\
   I7 ren j stay B=true/\FY (Ao ren) i (BD σ yn dn fr L a.tmps).objs=true/\∀C w',(c.marked2 yn dn w.heap.size).sat (Cf (BD σ yn dn fr L a.tmps) (Ao ren) B none X i) C w' ->
    rangePost (FR c.r) 0 c.P (w.heap.size+1) (Vr c R k) C (.returned undef) w':=by
  intro res y K;obtain⟨j,i,l,bs,bt,bu,bv,bw,cc,W,bx⟩:=aj res y K;refine⟨j,.top,i,bs,bt,bu,yA j res,bv,bw,λC w' D=>?_⟩;obtain⟨ρ',D⟩:=D;have br:lk yn (Cf (BD σ yn dn fr L a.tmps) (Ao ren) B none .top i).objs=some (.loop l):=by grind [Cf,A2]
  have hyp:=(D.pin (yn,.pointer (some ⟨w.heap.size+1,0,none⟩)) (by simp[Cx.marked2])).2.1;obtain⟨bz,q⟩:=QL U D br hyp { l with state:=.exhausted };refine⟨_,_,run_endLoop bz (by intro e;rw[e]at W;cases W),?_⟩;have bo:(c.marked dn w.heap.size).sat ⟨(Cf (BD σ yn dn fr L a.tmps) (Ao ren) B none .top i).env,upd yn (.loop { l with state:=.exhausted }) (Cf (BD σ yn dn fr L a.tmps) (Ao ren) B none .top i).objs⟩ C (w'.putObj (w.heap.size+1) (.loop { l with state:=.exhausted })) :=
   ⟨ρ',q.frm,q.nt,q.defers,λp K=>q.pin p (If _ K),q.objs,q.free,q.dist,q.env⟩
  have J:=A5s bf ak (bx w.heap.size) bo;revert J;generalize l.pending=p;intro J;cases p<;>exact J
 obtain⟨Z,aa,ca,al,an,bh,ao,_,bk⟩:=R0 U M ar stay post ren ae af ag ah B (by simpa[Cx.marked2] using ai) (dst:=none) (λd hd=>by cases hd) bg;have aq:=H o Z aa ca _ al an bh ao;refine⟨w.heap.size+1,[{ target:=.collected w.heap.size,args:=#[] }],o,{ target:=.fn (.func s) (m.map ρ).toArray,args:=#[.func (.yield (w.heap.size+1)) #[] #[]] },o,s,
  (.func (.yield (w.heap.size+1)) #[] #[] :: m.map ρ).toArray,o,?_,?_,λ_ _=>trivial,?_,λh=>by simp[FR]at h,?_⟩
 .rw[<-S,x];exact run_enterLoop_outer _ _ _ _ _
 .have be:a.eval g=.func (.func s) #[] (m.map ρ).toArray:=bd;simp only[resolve,be];simp[go_sem]
 .have ab : ¬ O.name = "runtime.NumGoroutine" := by simpa using bi
  have ad:¬O.body=none:=by intro e;simp[e]at ap
  simp[invoke,callFunc,au,ab,ad]
 refine Ou (aq.mono λe w' hh=>?_);obtain⟨u,rfl,hh⟩:=hh;exact bk u w' hh
theorem A1s (M:c.Ok) {a:Act} {w:World} {ρ:Nat->Value} (hs:CG c.w0 c.K c.O0 c.nt c.ds σ ρ a w) {dn b:Nat} (hl:lk dn σ.objs=some .dfr) (hb:ρ dn=.pointer (some ⟨b,0,none⟩)) (X:_root_.Go.Obj) (pin:List (Nat×Value)) (D:∀p∈pin,p∈c.ds.pin/\p.1≠dn) :
  w.heap[b]?=some (.deferred (some []))/\CG c.w0 c.K c.O0 c.nt { ds:=c.ds.ds,pin:=pin } ⟨Cc [dn] σ.env,Az [dn] [dn] σ.objs⟩ ρ a (w.putObj b X):=by
 obtain⟨J,h1,g⟩:=hs.objs dn _ hl;rw[hb]at h1;injection h1 with h1
 injection h1 with h1
 injection h1 with h1
 subst h1;have N:b<w.heap.size:=CQ g;refine⟨g,?_⟩;have t:own c.O0 σ ρ b:=.inr ⟨dn,⟨_,hl⟩,by rw[hb];exact .inl rfl⟩;have d:∀n,HK ⟨Cc [dn] σ.env,Az [dn] [dn] σ.objs⟩ n->HK σ n/\n≠dn:=by
  rintro n ⟨o,hn⟩;have hn:lk n (Az [dn] [dn] σ.objs)=some o:=hn;rw[CD]at hn;split at hn
  .cases hn
  rename_i j;simp only[OS]at hn;obtain⟨y,hy,_⟩:=hn;exact⟨⟨y,hy⟩,λe=>j (by subst e;simp[Ad])⟩
 have h:∀k,k≠b->(w.putObj b X).heap[k]?=w.heap[k]?:=λk hk=>World.putObj_heap_other hk;have i:Cu ((vw w c.O0 σ ρ).buts [dn]) (vw (w.putObj b X) c.O0 ⟨Cc [dn] σ.env,Az [dn] [dn] σ.objs⟩ ρ):=by
  refine⟨λk _ hk u=>?_,λn hn=>?_,λ_ _=>rfl,λk _ hk=>h k (λe=>?_)⟩
  .rcases u with h0|⟨n,hn,A⟩
   .exact hk (.inl h0)
   exact hk (.inr ⟨n,(d n hn).1,A⟩)
  .obtain⟨⟨o,B⟩,hm⟩:=hn;exact⟨_,by show lk n (Az [dn] [dn] σ.objs)=_;rw[CD,At (by rw[hm];simp),B];rfl⟩
  subst e;exact hk t
 refine⟨⟨hs.frm.os,hs.frm.tape,hs.frm.output,by simpa using hs.frm.size,λk hk=>?_⟩,hs.nt,hs.defers,λp C=>?_,λn x hn=>?_,λn k z hk=>hs.free n k (d n z).1 hk,λn m k h1 g q r=>hs.dist n m k (d n h1).1 (d m g).1 q r,λs v l=>?_⟩
 .refine(h k λe=>?_).trans (hs.frm.block k hk);subst e;exact(hs.free dn k ⟨_,hl⟩ (by rw[hb];exact .inl rfl)).1 hk
 .obtain⟨E,F⟩:=D p C;obtain⟨G,H,I⟩:=hs.pin p E;exact⟨i.L p.1 ⟨G,by simp[Ad,F]⟩,H,I⟩
 .have f:lk n (Az [dn] [dn] σ.objs)=some x:=hn;have j:=(d n ⟨x,hn⟩).2;rw[CD]at f;split at f
  .cases f
  simp only[OS]at f;obtain⟨y,hy,rfl⟩:=f;refine bL i (λk hk=>h k λe=>?_) (hs.objs n y hy);subst e;exact j (hs.dist n dn k ⟨y,hy⟩ ⟨_,hl⟩ hk (by rw[hb];exact .inl rfl))
 rw[Ez]at l;simp only[OS]at l;obtain⟨y,hy,rfl⟩:=l;exact(Ur (hs.env s y hy)).keeps i
end
def tT (P:Program) (fn:Func) (w0:World) (K O0:Nat->Prop) (stay:List Nat) (ρ0:Nat->Value) (post:AV->List (Nat×Obj)->Prop):Exit->Act->World->Prop :=
 bodyPostM (FR none) 0 P fn λe w'=>∃u,e=.returned u/\MK K O0 stay w0 ρ0 post u w'
theorem A5t {tb:Tb} {fn:Func} {nt:Nat} {args:List AV} {objs:List (Nat×Obj)} {stay:List Nat} {post:AV->List (Nat×Obj)->Prop}
  (c : P.funcs[f]? = some fn) (j : (fn.name == "runtime.NumGoroutine") = false) (b : fn.body = some q) (k : fn.ntmps = nt) (p : args.length <= nt)
  (g:Bn nt q=true) (m:stay.all (Tj objs)=true) (i:MB objs=true) (hT:DC P tb) (hF:I2 P tb)
  (h:∀(w0:World) (K O0:Nat->Prop) (ρ0:Nat->Value),(cm P tb w0 K O0 nt (stay.map λn=>(n,ρ0 n))).Ok->QI args->Oy objs ->
   Ev (cm P tb w0 K O0 nt (stay.map λn=>(n,ρ0 n))) (tT P fn w0 K O0 stay ρ0 post) (.run q) [] ⟨Ax 0 args,objs⟩):BK P f args objs stay post:=by
 refine⟨⟨fn,c,j,by simp[b]⟩,λw K O0 ρ r d e hm a=>?_⟩;refine callsIn_wide.1 (callsIn_of_wp_marks (F:=FR none) (n:=0) c b trivial ?_ rfl);have cd:=I6 a;rw[k];exact h w K O0 ρ ⟨d,e,hT,hF⟩ (U2 a) (U3 i λn o l=>bS (hm.obj n o l)) g rfl _ _ (V7 hm a m O1)
theorem J3 {tb:Tb} {w0:World} {O0:Nat->Prop} {nt:Nat} {stay:List Nat} {fn:Func} {post:AV->List (Nat×Obj)->Prop} {σ:St} {dn b:Nat} (f:((cm P tb w0 K O0 nt (stay.map λn=>(n,W n))).marked dn b).Ok)
  (i:List ResultVar) (s:fn.results.toList=i) (q:e=.ret\/e=.normal) (hl:lk dn σ.objs=some .dfr) (g:Ad dn stay=false) (res:AV) (h:Tk tb ⟨Cc [dn] σ.env,Az [dn] [dn] σ.objs⟩ i res) (d:post res (Az [dn] [dn] σ.objs)) :
  Ev ((cm P tb w0 K O0 nt (stay.map λn=>(n,W n))).marked dn b) (tT P fn w0 K O0 stay W post) (.out e) [] σ:=by
 intro _ _ a w hs;obtain⟨ρ,hs⟩:=hs;have m:=(hs.pin (dn,.pointer (some ⟨b,0,none⟩)) (by simp[Cx.marked])).2.1;obtain⟨h1,j⟩:=A1s f hs hl m (.deferred none) (stay.map λn=>(n,W n)) (λp d=>⟨If _ d,λe=>by
  obtain⟨n,hn,rfl⟩:=Do.1 d;have e:n=dn:=e;subst e;rw[(Al _ _).2 hn]at g;cases g⟩)
 have c:CG w0 K O0 nt { ds:=[⟨.collected b,#[]⟩],pin:=stay.map λn=>(n,W n) } ⟨Cc [dn] σ.env,Az [dn] [dn] σ.objs⟩ ρ a (w.putObj b (.deferred none)):=j;obtain⟨u,k,l⟩:=V9 f.T c (fn:=fn) (by rw[s];exact h);have r:MK K O0 stay w0 W post u (w.putObj b (.deferred none)):=by
  refine⟨res,_,ρ,d,c.frm,⟨c.objs,c.free,c.dist⟩,l,λn hn=>?_⟩;exact(c.pin (n,W n) (Do.2 ⟨n,hn,rfl⟩)).2.1
 have o:a.defers=[⟨.collected b,#[]⟩]:=hs.defers;have key:LeavesInM (FR none) 0 P fn a.tmps (λe w'=>∃u,e=.returned u/\MK K O0 stay w0 W post u w') a.defers .returning w:=by
  rw[o];exact⟨by simp,.inl ⟨b,_,rfl,run_takeDeferred h1,u,k,u,rfl,r⟩⟩
 rcases q with rfl|rfl
 .exact key
 exact key
end
section
open Go Go.RowKit
section
variable {c:Cx} {R:Exit->Act->World->Prop} {k:List DP} {σ σ':St}
theorem rP (a:c.Ok) {l:List Oper} {vc:Prop} (b:vc) (hk:Ev c R (.out .normal) k σ') (h0:(l.all λo=>o.guard.isNone)=true:=by rfl)
  (h:Dr c.tb.live (B5 c.tb l l σ)=some (vc,σ'):=by simp only[go_sem,Nat.reduceEqDiff,reduceCtorEq,Nat.reduceAdd,Nat.reduceSub,Nat.reduceMul,Nat.reduceLeDiff,Nat.reduceLT,Int.reduceLE,Int.reduceToNat,Int.reduceNeg,↓reduceIte];rfl):Ev c R (.run (.region n l.toArray false)) k σ:=MM _ a h0 h b hk
theorem rA (a:c.Ok) {l:List Oper} {vc:Prop} (b:vc) (hk:Ev c R (.out .normal) k σ') (h0:nT l l.length=true:=by kernel_rfl)
  (h:Dr c.tb.live (NR c.tb l true σ.objs [] l 0 [] [] σ)=some (vc,σ'):=by simp only[go_sem,Nat.reduceEqDiff,reduceCtorEq,Nat.reduceAdd,Nat.reduceSub,Nat.reduceMul,Nat.reduceLeDiff,Nat.reduceLT,Int.reduceLE,Int.reduceToNat,Int.reduceNeg,↓reduceIte];rfl):Ev c R (.run (.region n l.toArray false)) k σ:=Tl _ a h0 h b hk
theorem rC {o:Operand} {x y:Code} {b:Bool} {p q:Prop} (ht:p->Ev c R (.run x) k σ) (hf:q->Ev c R (.run y) k σ) (h:Aq σ o=some (.p .bool b):=by simp only[go_sem,Nat.reduceEqDiff,reduceCtorEq,Nat.reduceAdd,Nat.reduceSub,Nat.reduceMul,Nat.reduceLeDiff,Nat.reduceLT,Int.reduceLE,Int.reduceToNat,Int.reduceNeg,↓reduceIte];rfl)
  (a:(b=true)=p:=by first|(simp only[ON,RT,An,TB,Bool.and_eq_false_imp,AAo,RQ,ABT,TE,AAW,ACb,Bool.not_eq_eq_eq_not,ACN,ACG,AB1,ACp,ne_eq];rfl)|rfl) (d:(b=false)=q:=by first|(simp only[ON,RT,An,TB,Bool.and_eq_false_imp,AAo,RQ,ABT,TE,AAW,ACb,Bool.not_eq_eq_eq_not,ACN,ACG,AB1,ACp,ne_eq];rfl)|rfl):Ev c R (.run (.cond o x y)) k σ :=
 Vv h (λe=>ht (a▸e)) (λe=>hf (d▸e))
theorem rL (a:c.Ok) {ops:List Oper} {l:List Oper} {vc:Prop} (b:vc) (hk:Ev c R (.out .normal) k σ') (h:Dr c.tb.live (B5 c.tb ops l σ)=some (vc,σ'):=by simp only[go_sem,Nat.reduceEqDiff,reduceCtorEq,Nat.reduceAdd,Nat.reduceSub,Nat.reduceMul,Nat.reduceLeDiff,Nat.reduceLT,Int.reduceLE,Int.reduceToNat,Int.reduceNeg,↓reduceIte];rfl):N4 c R k ops.toArray l σ:=HA _ a h b hk
theorem rN (n:Nat) (a:c.Ok) {ops:List Oper} {l:List Oper} {vc:Prop} (b:vc) (hk:N4 c R k ops.toArray (l.drop n) σ') (h:B5 c.tb ops (l.take n) σ=some (vc,σ'):=by simp only[AAX,AAG,go_sem,Nat.reduceEqDiff,reduceCtorEq,Nat.reduceAdd,Nat.reduceSub,Nat.reduceMul,Nat.reduceLeDiff,Nat.reduceLT,Int.reduceLE,Int.reduceToNat,Int.reduceNeg,↓reduceIte];rfl):N4 c R k ops.toArray l σ:=NT a n (by simpa using h) b hk
theorem cP (n:Nat) (a:c.Ok) {id:Nat} {l:List Oper} {vc:Prop} (b:vc) (hk:N4 c R k l.toArray (l.drop n) σ') (h0:(l.all λo=>o.guard.isNone)=true:=by rfl) (h:B5 c.tb l (l.take n) σ=some (vc,σ'):=by simp only[AAX,AAG,go_sem,Nat.reduceEqDiff,reduceCtorEq,Nat.reduceAdd,Nat.reduceSub,Nat.reduceMul,Nat.reduceLeDiff,Nat.reduceLT,Int.reduceLE,Int.reduceToNat,Int.reduceNeg,↓reduceIte];rfl) :
  Ev c R (.run (.region id l.toArray false)) k σ:=A1c a n h0 h b hk
theorem rM (q:c.Ok) {ops:Array Oper} {rest:List Oper} {dst:Option Nat} {xs:List Operand} {ts:Array TypeId} {ty:TypeId} 
  {d:List Nat} {as:List AV} {A:List AV} {objs:List (Nat×Obj)} {stay:List Nat} {post:AV->List (Nat×Obj)->Prop} (l:BK c.P f A objs stay post)
  (ren:List (Nat×B3)) (hs:List Nat) (j:BS σ ren (as++d.map λn=>AV.bp n [] 0) A) (m:Ah σ.objs ren objs)
  (hk:∀res e,post res e->∃(a:List (Nat×B3)) (h:AV) (b:List (Nat×Obj)),CJ a=true/\Ca b a=true/\Ah e a b/\B2 a res h /\
   I7 ren a stay hs=true/\FY (Ao ren) b σ.objs=true/\N4 c R k ops rest (Cf σ (Ao ren) hs dst h b))
  (r:Dc (Aq σ g)=some (f,d):=by simp only[go_sem,Nat.reduceEqDiff,reduceCtorEq,Nat.reduceAdd,Nat.reduceSub,Nat.reduceMul,Nat.reduceLeDiff,Nat.reduceLT,Int.reduceLE,Int.reduceToNat,Int.reduceNeg,↓reduceIte];rfl) (o:Jc σ xs=some as:=by simp only[go_sem,Nat.reduceEqDiff,reduceCtorEq,Nat.reduceAdd,Nat.reduceSub,Nat.reduceMul,Nat.reduceLeDiff,Nat.reduceLT,Int.reduceLE,Int.reduceToNat,Int.reduceNeg,↓reduceIte];rfl)
  (h1:CJ ren=true:=by rfl) (i:Ca objs ren=true:=by rfl) (s:(c.ds.pin.all λp=>!Ad p.1 hs)=true:=by rfl) :
  N4 c R k ops (⟨dst,.call ⟨.value g,xs.toArray,ts⟩,ty,T,Y,none⟩ :: rest) σ:=A1b q r o l ren hs h1 i s j m hk
theorem rY (n yn:Nat) (m:c.Ok) {ops:Array Oper} {rest:List Oper} {dst:Option Nat} {xs:List Operand} {ts:Array TypeId} {ty:TypeId} 
  {as:List AV} {A:List AV} {objs:List (Nat×Obj)} {stay:List Nat} {post:AV->List (Nat×Obj)->Prop} (i:WN c.P yn A objs stay post)
  (ren:List (Nat×B3)) (hs:List Nat) (h:BS σ ren as A) (j:Ah σ.objs ren objs)
  (hk:∀res d,post res d->∃(a:List (Nat×B3)) (e:AV) (b:List (Nat×Obj)),CJ a=true/\Ca b a=true/\Ah d a b/\B2 a res e /\
   I7 ren a stay hs=true/\FY (Ao ren) b σ.objs=true/\N4 c R k ops rest (Cf σ (Ao ren) hs dst e b))
  (s:c.r=none:=by rfl) (o:gX n (Aq σ g)=true:=by simp only[go_sem,Nat.reduceEqDiff,reduceCtorEq,Nat.reduceAdd,Nat.reduceSub,Nat.reduceMul,Nat.reduceLeDiff,Nat.reduceLT,Int.reduceLE,Int.reduceToNat,Int.reduceNeg,↓reduceIte]) (l:Jc σ xs=some as:=by simp only[go_sem,Nat.reduceEqDiff,reduceCtorEq,Nat.reduceAdd,Nat.reduceSub,Nat.reduceMul,Nat.reduceLeDiff,Nat.reduceLT,Int.reduceLE,Int.reduceToNat,Int.reduceNeg,↓reduceIte];rfl)
  (t:lk yn ren=some (.nm n):=by rfl) (h1:CJ ren=true:=by rfl) (f:Ca objs ren=true:=by rfl) (q:(c.ds.pin.all λp=>!Ad p.1 hs)=true:=by rfl) :
  N4 c R k ops (⟨dst,.call ⟨.value g,xs.toArray,ts⟩,ty,T,Y,none⟩ :: rest) σ:=x9 m s o l i ren hs t h1 f q h j hk
end
end
section
open Go Go.RowKit
def tU:s8->List DP->Option (s8×List DP)
 | .run (.seq x y),k=>some (.run x,.seq y :: k)
 | .run .skip,k=>some (.out .normal,k)
 | .run .ret,k=>some (.out .ret,k)
 | .run (.exit id),k=>some (.out (.exit id),k)
 | .run (.block id b),k=>some (.run b,.blk id :: k)
 | .out .normal,.seq y :: k=>some (.run y,k)
 | .out .normal,.blk _ :: k=>some (.out .normal,k)
 | .out (.exit id),.seq _ :: k=>some (.out (.exit id),k)
 | .out (.exit a),.blk id :: k=>if a=id then some (.out .normal,k) else some (.out (.exit a),k)
 | .out (.exit id),.inv _ :: k=>some (.out (.exit id),k)
 | .out .ret,.seq _ :: k=>some (.out .ret,k)
 | .out .ret,.blk _ :: k=>some (.out .ret,k)
 | .out .ret,.inv _ :: k=>some (.out .ret,k)
 | _,_=>none
def WQ:Nat->s8->List DP->s8×List DP
 | 0,n,k=>(n,k)
 | m+1,n,k=>match tU n k with
  | some (b,a)=>WQ m b a
  | none=>(n,k)
def tV (n:s8) (k:List DP):Option (s8×List DP):=match tU n k with
 | some (b,a)=>some (WQ 200 b a)
 | none=>none
section
variable {c:Cx} {R:Exit->Act->World->Prop} {σ:St}
theorem gZ {n b:s8} (e:tU n k=some (b,a)) (h:Ev c R b a σ):Ev c R n k σ:=by
 unfold tU at e;split at e<;>first
  | (cases e;done)
  | (split at e<;>(cases e;first|(rename_i d;rw[d];exact nP h)|exact nQ (by assumption) h))
  | (cases e;first|exact A7M h|exact A5h h|exact A7N h|exact A5i h|exact A0Z h|exact Vs h|exact nK h|exact gC h|exact gD h|exact nJ h|exact nL h|exact nM h)
theorem ZF:∀(m:Nat) {n:s8} {k:List DP},Ev c R (WQ m n k).1 (WQ m n k).2 σ->Ev c R n k σ
 | 0,_,_,h=>h
 | m+1,n,k,h=>by
  unfold WQ at h;split at h
  .rename_i b a e;exact gZ e (ZF m h)
  exact h
theorem eS {n b:s8} (e:tV n k=some (b,a)) (h:Ev c R b a σ):Ev c R n k σ:=by grind [tV,gZ,ZF]
end
inductive RX (c:Cx) (lv:List Nat) (σ:St) (vc:Prop) (σ':St):Array Oper->Bool->Prop
 | p {l:List Oper} (h0:(l.all λo=>o.guard.isNone)=true) (h:Dr lv (B5 c.tb l l σ)=some (vc,σ')):RX c lv σ vc σ' l.toArray false
 | a {l:List Oper} (h0:nT l l.length=true) (h:Dr lv (NR c.tb l true σ.objs [] l 0 [] [] σ)=some (vc,σ')):RX c lv σ vc σ' l.toArray false
 | d {l:List Oper} (h0:QC l l.length=true) (hm:c.P.follows .mixedOrders=true) (h:Dr lv (NR c.tb l false σ.objs [] l 0 [] [] σ)=some (vc,σ')):RX c lv σ vc σ' l.toArray true
 | t {l:List Oper} (m:Nat) (h0:QC l (l.take (l.length-m)).length=true) (hm:c.P.follows .mixedOrders=true) (h:Dr lv (NR c.tb l false σ.objs (l.drop (l.length-m)) (l.take (l.length-m)) 0 [] [] σ)=some (vc,σ')):RX c lv σ vc σ' l.toArray true
theorem A9C {c:Cx} {R:Exit->Act->World->Prop} {σ σ':St} (e:c.Ok) {ops:Array Oper} {g:Bool} {vc:Prop} (f:vc) (hk:Ev c R (.out .normal) k σ') (h:RX c b σ vc σ' ops g):Ev c R (.run (.region n ops g)) k σ:=by
 cases h with
 | p h0 h=>exact MM b e h0 h f hk
 | a h0 h=>exact Tl b e h0 h f hk
 | d h0 hm h=>exact xW b hm e h0 h f hk
 | t m h0 hm h=>exact xX b m hm e h0 h f hk
theorem rX {c:Cx} {R:Exit->Act->World->Prop} {σ σ':St} (e:c.Ok) {ops:Array Oper} {b:Bool} (f:p) (hk:Ev c R (.out .normal) k σ')
  (h:RX c c.tb.live σ p σ' ops b:=by
   first
   | exact .p rfl (by simp only[go_sem,Nat.reduceEqDiff,reduceCtorEq,Nat.reduceAdd,Nat.reduceSub,Nat.reduceMul,Nat.reduceLeDiff,Nat.reduceLT,Int.reduceLE,Int.reduceToNat,Int.reduceNeg,↓reduceIte];rfl)
   | exact .a (by kernel_rfl) (by simp only[go_sem,Nat.reduceEqDiff,reduceCtorEq,Nat.reduceAdd,Nat.reduceSub,Nat.reduceMul,Nat.reduceLeDiff,Nat.reduceLT,Int.reduceLE,Int.reduceToNat,Int.reduceNeg,↓reduceIte];rfl)
   | exact .d (by kernel_rfl) (by exact drawsAny) (by simp only[go_sem,Nat.reduceEqDiff,reduceCtorEq,Nat.reduceAdd,Nat.reduceSub,Nat.reduceMul,Nat.reduceLeDiff,Nat.reduceLT,Int.reduceLE,Int.reduceToNat,Int.reduceNeg,↓reduceIte];rfl)
   | exact .t 1 (by kernel_rfl) (by exact drawsAny) (by simp only[AAX,ABf,AAG,iN,go_sem,Nat.reduceEqDiff,reduceCtorEq,Nat.reduceAdd,Nat.reduceSub,Nat.reduceMul,Nat.reduceLeDiff,Nat.reduceLT,Int.reduceLE,Int.reduceToNat,Int.reduceNeg,↓reduceIte];rfl)
   | exact .t 2 (by kernel_rfl) (by exact drawsAny) (by simp only[AAX,ABf,AAG,iN,go_sem,Nat.reduceEqDiff,reduceCtorEq,Nat.reduceAdd,Nat.reduceSub,Nat.reduceMul,Nat.reduceLeDiff,Nat.reduceLT,Int.reduceLE,Int.reduceToNat,Int.reduceNeg,↓reduceIte];rfl)
   | exact .t 3 (by kernel_rfl) (by exact drawsAny) (by simp only[AAX,ABf,AAG,iN,go_sem,Nat.reduceEqDiff,reduceCtorEq,Nat.reduceAdd,Nat.reduceSub,Nat.reduceMul,Nat.reduceLeDiff,Nat.reduceLT,Int.reduceLE,Int.reduceToNat,Int.reduceNeg,↓reduceIte];rfl)):Ev c R (.run (.region n ops b)) k σ:=A9C e f hk h
theorem eN (h:p:=by simp only[go_sem,Nat.reduceEqDiff,reduceCtorEq,Nat.reduceAdd,Nat.reduceSub,Nat.reduceMul,Nat.reduceLeDiff,Nat.reduceLT,Int.reduceLE,Int.reduceToNat,Int.reduceNeg,↓reduceIte]<;>fail):p:=h
theorem eM {q:Prop} (a:q) (h:p=q:=by simp only[go_sem,Nat.reduceEqDiff,reduceCtorEq,Nat.reduceAdd,Nat.reduceSub,Nat.reduceMul,Nat.reduceLeDiff,Nat.reduceLT,Int.reduceLE,Int.reduceToNat,Int.reduceNeg,↓reduceIte];rfl):p:=h▸a
theorem eR (h:p:=by simp only[OG,L9,Jx,Km,NK,JW,I4,go_sem,Nat.reduceEqDiff,reduceCtorEq,Nat.reduceAdd,Nat.reduceSub,Nat.reduceMul,Nat.reduceLeDiff,Nat.reduceLT,Int.reduceLE,Int.reduceToNat,Int.reduceNeg,↓reduceIte]<;>fail):p:=h
theorem Tp {q:Prop} (a:q) (h:p=q:=by simp only[OG,L9,Jx,Km,NK,JW,I4,go_sem,Nat.reduceEqDiff,reduceCtorEq,Nat.reduceAdd,Nat.reduceSub,Nat.reduceMul,Nat.reduceLeDiff,Nat.reduceLT,Int.reduceLE,Int.reduceToNat,Int.reduceNeg,↓reduceIte];rfl):p:=h▸a
theorem eV (h:p:=by (try dsimp only[Ty.den]at *)<;>(repeat'(first|apply And.intro|intro _))<;>omega):p:=h
end
section
open Go Go.RowKit
section
variable {c:Cx} {R:Exit->Act->World->Prop} {k:List DP} {σ σ':St}
theorem A1t (d:c.Ok) {id:Nat} {l:List Oper} (n:Nat) {vc:Prop} (h:B5 c.tb l (l.take n) σ=some (vc,σ')) (f:vc) (hk:N4 c R k l.toArray (l.drop n) σ') :
  Ev c R (.run (.region id l.toArray false)) k σ:=by
 intro h1 b a w hs;simp only[IC,Bn,Of]at h1;exact AC4 (NT d n (by simpa using h) f hk (λo e=>h1 o e) b a w hs)
theorem yC (E:c.Ok) {ops:Array Oper} {rest:List Oper} {dst:Option Nat} {xs:List Operand} {ts:Array TypeId} {ty:TypeId} 
  (G:K1 ops.toList σ i=some true)
  {j:List Nat} (F:Dc (Aq σ g)=some (f,j)) {as:List AV} (D:Jc σ xs=some as)
  {A:List AV} {objs:List (Nat×Obj)} {stay:List Nat} {post:AV->List (Nat×Obj)->Prop} (B:BK c.P f A objs stay post)
  (ren:List (Nat×B3)) (hs:List Nat) (h1:CJ ren=true) (x:Ca objs ren=true) (K:(c.ds.pin.all λp=>!Ad p.1 hs)=true) (y:BS σ ren (as++j.map λn=>AV.bp n [] 0) A) (C:Ah σ.objs ren objs)
  (hk:∀res e,post res e->∃(b:List (Nat×B3)) (h:AV) (d:List (Nat×Obj)),CJ b=true/\Ca d b=true/\Ah e b d/\B2 b res h /\
   I7 ren b stay hs=true/\FY (Ao ren) d σ.objs=true/\N4 c R k ops rest (Cf σ (Ao ren) hs dst h d)) :
  N4 c R k ops (⟨dst,.call ⟨.value g,xs.toArray,ts⟩,ty,T,Y,i⟩ :: rest) σ:=by
 intro hd H a w l;unfold wpListIn;rw[BY (Hn (o:=⟨dst,.call ⟨.value g,xs.toArray,ts⟩,ty,T,Y,i⟩) l G)];refine bU E (xs:=xs) (ts:=ts) rfl rfl F D B ren h1 x y C hs K l (Ce (hd _ sc)) λres e J=>?_;obtain⟨b,h,d,q,r,s,t,u,v,z⟩:=hk res e J;exact⟨b,h,d,q,r,s,t,u,v,λm w' L=>z (λo I=>hd o (by simp[I])) H m w' L⟩
end
end
section
open Go Go.RowKit
section
variable {c:Cx} {ops:List Oper} {Kf:St->Prop} {τ:St} {ens:EN} {vc:Prop}
theorem Pi {A D:List Nat} {l:Nat} {b:List (List Nat×Nat)} {o:Oper} {d:St} {a:EN} (j:vc) (e:Ud c o d a (λm=>Mix c ops Kf b D a m)) (h:tL c.tb ops τ.objs (A++qs b D) [] τ.env=some (vc,ens):=by simp only[go_sem,Nat.reduceEqDiff,reduceCtorEq,Nat.reduceAdd,Nat.reduceSub,Nat.reduceMul,Nat.reduceLeDiff,Nat.reduceLT,Int.reduceLE,Int.reduceToNat,Int.reduceNeg,↓reduceIte];rfl) (g:Ub ens τ.objs=true:=by rfl) (i:ops[l]?=some o:=by rfl)
  (k:N5 (ens.take A.length) τ=d:=by simp only[go_sem,Nat.reduceEqDiff,reduceCtorEq,Nat.reduceAdd,Nat.reduceSub,Nat.reduceMul,Nat.reduceLeDiff,Nat.reduceLT,Int.reduceLE,Int.reduceToNat,Int.reduceNeg,↓reduceIte];rfl) (f:ens.drop A.length=a:=by simp only[go_sem,Nat.reduceEqDiff,reduceCtorEq,Nat.reduceAdd,Nat.reduceSub,Nat.reduceMul,Nat.reduceLeDiff,Nat.reduceLT,Int.reduceLE,Int.reduceToNat,Int.reduceNeg,↓reduceIte];rfl):Mix c ops Kf ((A,l) :: b) D ens τ:=A1p h j g i k f e
theorem eY {R:Exit->Act->World->Prop} {k:List DP} {σ':St} (d:c.Ok) {D:List Nat} {l:List Oper} {a:Prop} (f:vc) (g:a) (hk:Ev c R (.out .normal) k σ') (h:tL c.tb ops τ.objs D [] τ.env=some (vc,ens):=by simp only[go_sem,Nat.reduceEqDiff,reduceCtorEq,Nat.reduceAdd,Nat.reduceSub,Nat.reduceMul,Nat.reduceLeDiff,Nat.reduceLT,Int.reduceLE,Int.reduceToNat,Int.reduceNeg,↓reduceIte];rfl) (e:Ub ens τ.objs=true:=by rfl)
  (b:Dr c.tb.live (B5 c.tb ops l (N5 ens τ))=some (a,σ'):=by simp only[go_sem,Nat.reduceEqDiff,reduceCtorEq,Nat.reduceAdd,Nat.reduceSub,Nat.reduceMul,Nat.reduceLeDiff,Nat.reduceLT,Int.reduceLE,Int.reduceToNat,Int.reduceNeg,↓reduceIte];rfl):Mix c ops (fun τ=>N4 c R k ops.toArray l τ) [] D ens τ:=A1o h f e (HA _ d b g hk)
end
section
variable {c:Cx} {o:Oper} {σ:St} {ens:EN} {N:St->Prop} {R:Exit->Act->World->Prop} {k:List DP} {σ':St}
theorem Ya (b:c.Ok) {τ:St} {vc:Prop} (ns:List Nat) (g:vc) (a:N τ) (h:Ga c.tb o σ=some (vc,τ):=by simp only[go_sem,Nat.reduceEqDiff,reduceCtorEq,Nat.reduceAdd,Nat.reduceSub,Nat.reduceMul,Nat.reduceLeDiff,Nat.reduceLT,Int.reduceLE,Int.reduceToNat,Int.reduceNeg,↓reduceIte];rfl) (e:tn σ o.op=ns:=by simp only[go_sem,Nat.reduceEqDiff,reduceCtorEq,Nat.reduceAdd,Nat.reduceSub,Nat.reduceMul,Nat.reduceLeDiff,Nat.reduceLT,Int.reduceLE,Int.reduceToNat,Int.reduceNeg,↓reduceIte]) (f:Je o ens=true:=by rfl) (hn:Gp ns σ.objs ens=true:=by rfl) (d:OI τ.objs ens=true:=by rfl)
  (hf:II ns ens=ens:=by simp only[go_sem,Nat.reduceEqDiff,reduceCtorEq,Nat.reduceAdd,Nat.reduceSub,Nat.reduceMul,Nat.reduceLeDiff,Nat.reduceLT,Int.reduceLE,Int.reduceToNat,Int.reduceNeg,↓reduceIte]) (hd:He c.nt o=true:=by rfl):Ud c o σ ens N:=ZE b ns h e f hn d hf hd g a
theorem mxF (m:Nat) (d:c.Ok) {τ a:St} {vc:Prop} (ns:List Nat) (k:vc) (b:N a) (h:Ga c.tb o σ=some (vc,τ):=by simp only[go_sem,Nat.reduceEqDiff,reduceCtorEq,Nat.reduceAdd,Nat.reduceSub,Nat.reduceMul,Nat.reduceLeDiff,Nat.reduceLT,Int.reduceLE,Int.reduceToNat,Int.reduceNeg,↓reduceIte];rfl) (i:tn σ o.op=ns:=by simp only[go_sem,Nat.reduceEqDiff,reduceCtorEq,Nat.reduceAdd,Nat.reduceSub,Nat.reduceMul,Nat.reduceLeDiff,Nat.reduceLT,Int.reduceLE,Int.reduceToNat,Int.reduceNeg,↓reduceIte]) (j:Je o ens=true:=by rfl) (hn:Gp ns σ.objs ens=true:=by rfl) (f:OI τ.objs ens=true:=by rfl)
  (hf:II ns ens=ens:=by simp only[go_sem,Nat.reduceEqDiff,reduceCtorEq,Nat.reduceAdd,Nat.reduceSub,Nat.reduceMul,Nat.reduceLeDiff,Nat.reduceLT,Int.reduceLE,Int.reduceToNat,Int.reduceNeg,↓reduceIte]) (hd:He c.nt o=true:=by rfl) (g:Gp [m] τ.objs ens=true:=by rfl) (e:II [m] ens=ens:=by simp only[go_sem,Nat.reduceEqDiff,reduceCtorEq,Nat.reduceAdd,Nat.reduceSub,Nat.reduceMul,Nat.reduceLeDiff,Nat.reduceLT,Int.reduceLE,Int.reduceToNat,Int.reduceNeg,↓reduceIte]) (l:frz m τ=a:=by simp only[go_sem,Nat.reduceEqDiff,reduceCtorEq,Nat.reduceAdd,Nat.reduceSub,Nat.reduceMul,Nat.reduceLeDiff,Nat.reduceLT,Int.reduceLE,Int.reduceToNat,Int.reduceNeg,↓reduceIte];rfl):Ud c o σ ens N:=A1n m (ZE d ns h i j hn f hf hd k rfl) g e l b
theorem mxC (o:c.Ok) {dst:Option Nat} {xs:List Operand} {ts:Array TypeId} {ty:TypeId} {d:List Nat} {as:List AV}
  {A:List AV} {objs:List (Nat×Obj)} {stay:List Nat} {post:AV->List (Nat×Obj)->Prop} (k:BK c.P f A objs stay post) (ren:List (Nat×B3)) (hs:List Nat)
  (j:BS σ ren (as++d.map λn=>AV.bp n [] 0) A) (l:Ah σ.objs ren objs)
  (hk:∀res e,post res e->∃(b:List (Nat×B3)) (h:AV) (a:List (Nat×Obj)),CJ b=true/\Ca a b=true/\Ah e b a/\B2 b res h /\
   I7 ren b stay hs=true/\FY (Ao ren) a σ.objs=true/\OI a ens=true/\N (Cf σ (Ao ren) hs dst h a))
  (q:Dc (Aq σ g)=some (f,d):=by simp only[go_sem,Nat.reduceEqDiff,reduceCtorEq,Nat.reduceAdd,Nat.reduceSub,Nat.reduceMul,Nat.reduceLeDiff,Nat.reduceLT,Int.reduceLE,Int.reduceToNat,Int.reduceNeg,↓reduceIte];rfl) (m:Jc σ xs=some as:=by simp only[go_sem,Nat.reduceEqDiff,reduceCtorEq,Nat.reduceAdd,Nat.reduceSub,Nat.reduceMul,Nat.reduceLeDiff,Nat.reduceLT,Int.reduceLE,Int.reduceToNat,Int.reduceNeg,↓reduceIte];rfl) (h1:CJ ren=true:=by rfl) (i:Ca objs ren=true:=by rfl) (r:(c.ds.pin.all λp=>!Ad p.1 hs)=true:=by rfl)
  (s:Je ⟨dst,.call ⟨.value g,xs.toArray,ts⟩,ty,T,Y,none⟩ ens=true:=by rfl) (hn:Gp (Ao ren) σ.objs ens=true:=by rfl) (hf:II hs ens=ens:=by simp only[go_sem,Nat.reduceEqDiff,reduceCtorEq,Nat.reduceAdd,Nat.reduceSub,Nat.reduceMul,Nat.reduceLeDiff,Nat.reduceLT,Int.reduceLE,Int.reduceToNat,Int.reduceNeg,↓reduceIte]) (hd:He c.nt ⟨dst,.call ⟨.value g,xs.toArray,ts⟩,ty,T,Y,none⟩=true:=by rfl) :
  Ud c ⟨dst,.call ⟨.value g,xs.toArray,ts⟩,ty,T,Y,none⟩ σ ens N:=x8 o q m k ren hs h1 i r s hn hf hd j l hk
theorem evP (a:c.Ok) {id:Nat} {l:List Oper} (n:Nat) {vc:Prop} (b:vc) (hk:N4 c R k l.toArray (l.drop n) σ') (h:B5 c.tb l (l.take n) σ=some (vc,σ'):=by simp only[AAX,AAG,go_sem,Nat.reduceEqDiff,reduceCtorEq,Nat.reduceAdd,Nat.reduceSub,Nat.reduceMul,Nat.reduceLeDiff,Nat.reduceLT,Int.reduceLE,Int.reduceToNat,Int.reduceNeg,↓reduceIte];rfl):Ev c R (.run (.region id l.toArray false)) k σ:=A1t a n h b hk
theorem clG (r:c.Ok) {ops:Array Oper} {rest:List Oper} {dst:Option Nat} {xs:List Operand} {ts:Array TypeId} {ty:TypeId} {e:Option (Nat×Bool)} {d:List Nat} {as:List AV}
  {A:List AV} {objs:List (Nat×Obj)} {stay:List Nat} {post:AV->List (Nat×Obj)->Prop} (m:BK c.P f A objs stay post) (ren:List (Nat×B3)) (hs:List Nat) (l:BS σ ren (as++d.map λn=>AV.bp n [] 0) A) (o:Ah σ.objs ren objs)
  (hk:∀res h,post res h->∃(a:List (Nat×B3)) (i:AV) (b:List (Nat×Obj)),CJ a=true/\Ca b a=true/\Ah h a b/\B2 a res i /\
   I7 ren a stay hs=true/\FY (Ao ren) b σ.objs=true/\N4 c R k ops rest (Cf σ (Ao ren) hs dst i b))
  (t:K1 ops.toList σ e=some true:=by simp only[go_sem,Nat.reduceEqDiff,reduceCtorEq,Nat.reduceAdd,Nat.reduceSub,Nat.reduceMul,Nat.reduceLeDiff,Nat.reduceLT,Int.reduceLE,Int.reduceToNat,Int.reduceNeg,↓reduceIte]) (s:Dc (Aq σ g)=some (f,d):=by simp only[go_sem,Nat.reduceEqDiff,reduceCtorEq,Nat.reduceAdd,Nat.reduceSub,Nat.reduceMul,Nat.reduceLeDiff,Nat.reduceLT,Int.reduceLE,Int.reduceToNat,Int.reduceNeg,↓reduceIte];rfl) (q:Jc σ xs=some as:=by simp only[go_sem,Nat.reduceEqDiff,reduceCtorEq,Nat.reduceAdd,Nat.reduceSub,Nat.reduceMul,Nat.reduceLeDiff,Nat.reduceLT,Int.reduceLE,Int.reduceToNat,Int.reduceNeg,↓reduceIte];rfl) (h1:CJ ren=true:=by rfl) (j:Ca objs ren=true:=by rfl) (u:(c.ds.pin.all λp=>!Ad p.1 hs)=true:=by rfl) :
  N4 c R k ops (⟨dst,.call ⟨.value g,xs.toArray,ts⟩,ty,T,Y,e⟩ :: rest) σ:=yC r t s q m ren hs h1 j u l o hk
theorem FK (l:List Nat) {n:s8} {a:St} (hk:Ev c R n k a) (h:DB l σ=a:=by simp only[go_sem,Nat.reduceEqDiff,reduceCtorEq,Nat.reduceAdd,Nat.reduceSub,Nat.reduceMul,Nat.reduceLeDiff,Nat.reduceLT,Int.reduceLE,Int.reduceToNat,Int.reduceNeg,↓reduceIte];rfl):Ev c R n k σ:=Ev.ent hk (tD l h λ_ _ h=>h)
theorem A9E (l:List Nat) {a:St} (b:Ent c a σ') (h:DB l σ=a:=by simp only[go_sem,Nat.reduceEqDiff,reduceCtorEq,Nat.reduceAdd,Nat.reduceSub,Nat.reduceMul,Nat.reduceLeDiff,Nat.reduceLT,Int.reduceLE,Int.reduceToNat,Int.reduceNeg,↓reduceIte];rfl):Ent c σ σ':=tD l h b
end
theorem eW {c:Cx} {σ σ':St} (ren:List (Nat×B3)) (h1:CJ ren=true:=by rfl) (a:Ca σ'.objs ren=true:=by rfl) (d:Ah σ.objs ren σ'.objs:=by exact eN) (b:GD σ.env ren σ'.env:=by exact eN) (e:A7O c.ds.pin ren=true:=by rfl):Ent c σ σ':=AD ren h1 a d b e
theorem eT (h:p:=by simp only[Tk,xV,Rz,Y5,Jx,Km,JW,go_sem,Nat.reduceEqDiff,reduceCtorEq,Nat.reduceAdd,Nat.reduceSub,Nat.reduceMul,Nat.reduceLeDiff,Nat.reduceLT,Int.reduceLE,Int.reduceToNat,Int.reduceNeg,↓reduceIte]<;>fail):p:=h
section
variable {P:Program} {ty:List (Nat×TI)} {fs:List (Nat×Ab)} {nt:Nat} {f:FuncId} {fn:Func} {cd:Code}
theorem yD (a b:List Nat) (ne:List (Nat×TypeId)) {sp:Ab} (e:P.funcs[f]?=some fn) (j:fn.ntmps=nt) (hF:I2 P ⟨ty,fs,b,ne,a⟩)
  (h:∀(w0:World) (O0:Nat->Prop) (ds:KU sp.ins),(cx P ⟨ty,fs,b,ne,a⟩ w0 O0 nt).Ok->oks sp.ins ds->sp.pre ds->Ev (cx P ⟨ty,fs,b,ne,a⟩ w0 O0 nt) (Vt P fn w0 O0 (sp.out ds)) (.run cd) [] ⟨AM 0 sp.ins ds,[]⟩)
  (c : fn.body = some cd := by rfl) (hT : DC P ⟨ty, fs, b, ne, a⟩ := by exact tyTab_ok _ _ _ _) (i : (fn.name == "runtime.NumGoroutine") = false := by kernel_rfl) (g : sp.ins.length <= nt := by decide) (d : Bn nt cd = true := by kernel_rfl) : Ac P f sp := A77 e i c j g d hT hF h
theorem fK (a:List Nat) {sp:Ab} (d:P.funcs[f]?=some fn) (i:fn.ntmps=nt) (hF:I2 P ⟨ty,fs,[],[],a⟩)
  (h:∀(w0:World) (O0:Nat->Prop) (ds:KU sp.ins),(cx P ⟨ty,fs,[],[],a⟩ w0 O0 nt).Ok->oks sp.ins ds->sp.pre ds->Ev (cx P ⟨ty,fs,[],[],a⟩ w0 O0 nt) (Vt P fn w0 O0 (sp.out ds)) (.run cd) [] ⟨AM 0 sp.ins ds,[]⟩)
  (b : fn.body = some cd := by rfl) (hT : DC P ⟨ty, fs, [], [], a⟩ := by exact tyTab_ok _ _ _ _) (g : (fn.name == "runtime.NumGoroutine") = false := by kernel_rfl) (e : sp.ins.length <= nt := by decide) (c : Bn nt cd = true := by kernel_rfl) : Ac P f sp := A77 d g b i e c hT hF h
variable {args:List AV} {objs:List (Nat×Obj)} {stay:List Nat} {post:AV->List (Nat×Obj)->Prop}
theorem NX (a b:List Nat) (ne:List (Nat×TypeId)) (e:P.funcs[f]?=some fn) (k:fn.ntmps=nt) (hF:I2 P ⟨ty,fs,b,ne,a⟩)
  (h:∀(w0:World) (K O0:Nat->Prop) (ρ0:Nat->Value),(cm P ⟨ty,fs,b,ne,a⟩ w0 K O0 nt (stay.map λn=>(n,ρ0 n))).Ok->QI args->Oy objs ->
   Ev (cm P ⟨ty,fs,b,ne,a⟩ w0 K O0 nt (stay.map λn=>(n,ρ0 n))) (A5o P fn w0 K O0 stay ρ0 post) (.run cd) [] ⟨Ax 0 args,objs⟩)
  (c : fn.body = some cd := by rfl) (hT : DC P ⟨ty, fs, b, ne, a⟩ := by exact tyTab_ok _ _ _ _) (j : (fn.name == "runtime.NumGoroutine") = false := by kernel_rfl) (i : args.length <= nt := by simp only [NO, nO]; omega) (d : Bn nt cd = true := by kernel_rfl) (l : stay.all (Tj objs) = true := by rfl) (g : MB objs = true := by rfl) : BK P f args objs stay post := A7V e j c k i d l g hT hF h
theorem fKR (a b:List Nat) (ne:List (Nat×TypeId)) (e:P.funcs[f]?=some fn) (k:fn.ntmps=nt) (hF:I2 P ⟨ty,fs,b,ne,a⟩)
  (h:∀(w0:World) (K O0:Nat->Prop) (ρ0:Nat->Value),(cm P ⟨ty,fs,b,ne,a⟩ w0 K O0 nt (stay.map λn=>(n,ρ0 n))).Ok->QI args->Oy objs ->
   Ev (cm P ⟨ty,fs,b,ne,a⟩ w0 K O0 nt (stay.map λn=>(n,ρ0 n))) (tT P fn w0 K O0 stay ρ0 post) (.run cd) [] ⟨Ax 0 args,objs⟩)
  (c : fn.body = some cd := by rfl) (hT : DC P ⟨ty, fs, b, ne, a⟩ := by exact tyTab_ok _ _ _ _) (j : (fn.name == "runtime.NumGoroutine") = false := by kernel_rfl) (i : args.length <= nt := by simp only [NO, nO]; omega) (d : Bn nt cd = true := by kernel_rfl) (l : stay.all (Tj objs) = true := by rfl) (g : MB objs = true := by rfl) : BK P f args objs stay post := A5t e j c k i d l g hT hF h
end
theorem fI {tb:Tb} {w0:World} {O0:Nat->Prop} {nt:Nat} (b:(cx P tb w0 O0 nt).Ok) {fn:Func} {outs:List RV} {σ:St} (a:List ResultVar) (h:OG tb σ a outs:=by exact eR) (g:fn.results.toList=a:=by rfl) (c:e=.ret\/e=.normal:=by exact .inl rfl) (f:∀r∈outs,∃t d,r=.p t d:=by simp) :
  Ev (cx P tb w0 O0 nt) (Vt P fn w0 O0 outs) (.out e) [] σ:=A7T b a g c f h
theorem fM {tb:Tb} {w0:World} {O0:Nat->Prop} {nt:Nat} {stay:List Nat} {fn:Func} {post:AV->List (Nat×Obj)->Prop} {σ:St} (b:(cm P tb w0 K O0 nt (stay.map λn=>(n,W n))).Ok)
  (a:List ResultVar) (res:AV) (h:Tk tb σ a res) (d:post res σ.objs) (f:fn.results.toList=a:=by rfl) (c:e=.ret\/e=.normal:=by first|exact .inl rfl|exact .inr rfl) :
  Ev (cm P tb w0 K O0 nt (stay.map λn=>(n,W n))) (A5o P fn w0 K O0 stay W post) (.out e) [] σ:=A5p b a f c res h d
end
section
open Go Go.RowKit
structure WR (X σ:St) (n:Nat):Prop where
 env:∀s v,lk s X.env=some v->v.trn n []=v
 arr:∀m o,lk m X.objs=some o->MO o=true
 new:∀m o,lk m X.objs=some o->lk m σ.objs=none
 nm:∀m o,lk m X.objs=some o->m≠n
section
variable {σ σ' X:St} {n:Nat}
theorem WR.obs (hx:N6 σ σ' X) (ha:WR X σ n):eX σ σ':=by
 intro m o hn;rw[hx.objs];cases a:lk m X.objs with
 | none=>exact hn
 | some b=>rw[ha.new m b a]at hn;cases hn
theorem AAy (hx:N6 σ σ' X) (ha:WR X σ n) {en:List (Nat×AV)} {new:List (Nat×Obj)} (hd:∀s v,lk s en=some v->lk s X.env=none) (b:∀m o,lk m new=some o->lk m X.objs=none) :
  N6 ⟨en++Eh n [] σ.env,new++C1 n [] σ.objs⟩ ⟨en++Eh n [] σ'.env,new++C1 n [] σ'.objs⟩ X:=by
 refine⟨λs=>?_,λm=>?_⟩
 .simp only[A2];cases hs:lk s en with
  | some v=>rw[hd s v hs];rfl
  | none =>
   rw[Fi,Fi,hx.env];cases a:lk s X.env with
   | none=>rfl
   | some w=>simp[ha.env s w a]
 simp only[A2];cases hm:lk m new with
 | some o=>rw[b m o hm];rfl
 | none =>
  rw[DN,DN,hx.objs];cases a:lk m X.objs with
  | none=>rfl
  | some w =>
   rw[At λh=>ha.nm m w a (by simpa using (Al _ _).1 h)];exact AAv some (ZD (ha.arr m w a))
def oH (σ:St):Op->Option Nat
 | .call c=>match c.callee,c.args.toList,c.argTypes.toList with
  | .builtin .append,[x,_],[_,_]=>(match Aq σ x with|some (.nin n _ _ _)=>some n|_=>none)
  | _,_,_=>none
 | _=>none
theorem A5u {tb:Tb} {op:Op} {d:Option Nat} {vc:Prop} {τ:St} (hx:N6 σ σ' X) (ha:WR X σ n) (p:n9 σ σ' op.operands.toList) (a:oH σ op=some n) (hd:∀t,d=some t->lk t X.env=none) (D:∀n,(∃u,lk n τ.objs=some u)->lk n X.objs=none) (h:F7 tb σ d op=some (vc,τ)) :
  (∃A,F7 tb σ' d op=some (vc,A)/\N6 τ A X)/\(∀k,aq tb σ' k op=none)/\(∀k,aq tb σ k op=none)/\CY σ op=[]/\CY σ' op=[]:=by
 have m:=ha.obs hx;cases op<;>try(cases a;done)
 rename_i cl;obtain⟨callee,⟨args⟩,⟨argTypes⟩⟩:=cl;simp only[oH]at a;split at a
 .rename_i x y t u;cases f:Aq σ x with
  | none=>rw[f]at a;cases a
  | some xv =>
   rw[f]at a;cases xv<;>try(cases a;done)
   rename_i N e i len;cases a;have r:Aq σ' x=Aq σ x:=p x (by simp[Op.operands,Call.operands]);have K:Aq σ' y=Aq σ y:=p y (by simp[Op.operands,Call.operands]);refine⟨?_,λk=>by simp[aq,DD,DZ,C2,r,f],λk=>by simp[aq,DD,DZ,C2,f],rfl,rfl⟩;simp only[F7,DW,D7,f]at h;simp only[F7,DW,D7,DV,r,f,K];cases z:Aq σ y with
   | none=>rw[z]at h;unfold DV at h;cases h
   | some v =>
    rw[z]at h;simp only[DV]at h;split at h
    .rename_i b;have F:=hd b rfl;simp only;split at h
     .rename_i J;rw[BY J];unfold Pm at h ⊢;split at h
      .rename_i L O el b2 I;try rw[I]
       try simp only
       split at h
       .rename_i H;rw[BY H];unfold TM at h ⊢;split at h
        .rename_i ti et M k c xs h1 hl;try rw[h1]
         try rw[m _ _ hl]
         try simp only
         split at h
         .rename_i E;rw[BY E];unfold OC at h ⊢;split at h
          .rename_i ys B;rw[ME m B];try simp only
           split at h
           .rename_i l;have j:lk b X.objs=none:=by
             refine D b ?_;cases h;exact⟨_,by simp only[lk,AAF];rfl⟩
            have G:(lk b σ'.objs).isNone=true/\ys.isEmpty=false:=⟨by rw[hx.objs,j];exact l.1,l.2⟩;rw[BY G];cases h;refine⟨_,rfl,AAy (en:=[(b,_)]) (new:=[(b,_),(n,_)]) hx ha (λs v h=>?_) (λq o g=>?_)⟩
            .simp only[lk]at h;split at h
             .rename_i c;rw[c];exact F
             cases h
            simp only[lk]at g;split at g
            .rename_i c;rw[c];exact j
            split at g
            .rename_i c;rw[c];cases C:lk n X.objs with
             | none=>rfl
             | some w=>exact absurd rfl (ha.nm n w C)
            cases g
           cases h
          cases h
         cases h
        cases h
       cases h
      cases h
     cases h
    cases h
 cases a
end
def WT (n:Nat):EN->EN
 | []=>[]
 | (d,v,obs) :: r=>(d,v.trn n [],obs) :: WT n r
theorem WU {n:Nat}:∀ {ens:EN},WT n ens=ens->∀e∈ens,e.2.1.trn n []=e.2.1
 | [],_,e,a=>by cases a
 | (d,v,obs) :: r,h,e,a=>by
  simp only[WT,ABw,ACn,and_true,true_and]at h;rcases DO.1 a with rfl|a
  .exact h.1
  exact WU h.2 e a
section
variable {c:Cx} {o:Oper} {σ:St} {ens:EN} {N:St->Prop}
theorem A1u (E:c.Ok) {τ:St} {vc:Prop} (n:Nat) (h:Ga c.tb o σ=some (vc,τ)) (b:oH σ o.op=some n) (q:Je o ens=true) (hn:Gp [n] σ.objs ens=true) (F:OI τ.objs ens=true) (hf:WT n ens=ens) (hd:He c.nt o=true) (I:vc) (A:N τ):Ud c o σ ens N:=by
 intro X σ' hx g a w next Q hs hk
 have ha:WR X σ n:=by
  refine⟨λs v hs=>?_,λm o k=>?_,λm o k=>?_,λm o k=>?_⟩
  .obtain⟨obs,hm⟩:=g.env s v hs;exact WU hf _ hm
  all_goals
   obtain⟨e,j,l⟩:=g.objs m o k;have:=Fl hn e j _ l
  .exact this.2.2
  .exact this.1
  grind
 have C:∀t∈HP o.op,lk t X.env=none:=λt ht=>by
  cases f:lk t X.env with
  | none=>rfl
  | some v=>obtain⟨obs,hm⟩:=g.env t v f;exact absurd ht (Ej q _ hm).1
 have B:∀t,o.dst=some t->lk t X.env=none:=λt ht=>by
  cases f:lk t X.env with
  | none=>rfl
  | some v=>obtain⟨obs,hm⟩:=g.env t v f;exact absurd ht (Ej q _ hm).2
 have D:∀n,(∃u,lk n τ.objs=some u)->lk n X.objs=none:=λn hu=>by
  cases f:lk n X.objs with
  | none=>rfl
  | some v =>
   obtain⟨e,j,l⟩:=g.objs n v f;obtain⟨u,hu⟩:=hu;rw[Ku F e j _ l]at hu;cases hu
 have G:=U4 hx C;have key:∃d,Ga c.tb o σ'=some (vc,d)/\N6 τ d X:=by
  have hl:CY σ o.op=[]/\CY σ' o.op=[]:=by
   obtain⟨dst,op,ty,pos,after,y⟩:=o;simp only at b ⊢;cases op<;>first|exact⟨rfl,rfl⟩|cases b
  unfold Ga TQ at h ⊢;rw[hl.1]at h;rw[hl.2];simp only[DB]at h ⊢;cases p:aq c.tb σ (o.dst.getD 0) o.op with
  | some r =>
   obtain⟨dst,op,ty,pos,after,y⟩:=o;simp only at b p;exfalso;cases op<;>try(cases b;done)
   rename_i cl;obtain⟨callee,⟨args⟩,⟨argTypes⟩⟩:=cl;simp only[oH]at b;split at b
   .grind [Aq,aq,DD,DZ,C2]
   cases b
  | none =>
   rw[p]at h;simp only[Lz]at h;obtain⟨⟨d,h1,i⟩,z,_⟩:=A5u hx ha G b B D h;rw[z];simp only[Lz];exact⟨d,h1,i⟩
 obtain⟨d,h1,i⟩:=key;exact P4 E hs h1 I (Ce hd) λx w' H=>hk τ A x w' d i H
theorem mxN (b:c.Ok) {τ:St} {vc:Prop} (n:Nat) (g:vc) (a:N τ) (h:Ga c.tb o σ=some (vc,τ):=by simp only[go_sem,Nat.reduceEqDiff,reduceCtorEq,Nat.reduceAdd,Nat.reduceSub,Nat.reduceMul,Nat.reduceLeDiff,Nat.reduceLT,Int.reduceLE,Int.reduceToNat,Int.reduceNeg,↓reduceIte];rfl) (e:oH σ o.op=some n:=by simp only[go_sem,Nat.reduceEqDiff,reduceCtorEq,Nat.reduceAdd,Nat.reduceSub,Nat.reduceMul,Nat.reduceLeDiff,Nat.reduceLT,Int.reduceLE,Int.reduceToNat,Int.reduceNeg,↓reduceIte]) (f:Je o ens=true:=by rfl) (hn:Gp [n] σ.objs ens=true:=by rfl) (d:OI τ.objs ens=true:=by rfl)
  (hf:WT n ens=ens:=by simp only[go_sem,Nat.reduceEqDiff,reduceCtorEq,Nat.reduceAdd,Nat.reduceSub,Nat.reduceMul,Nat.reduceLeDiff,Nat.reduceLT,Int.reduceLE,Int.reduceToNat,Int.reduceNeg,↓reduceIte]) (hd:He c.nt o=true:=by rfl):Ud c o σ ens N:=A1u b n h e f hn d hf hd g a
end
end
section
open Go Go.RowKit
theorem oI (h:p:=by first|exact trivial|((try dsimp only[Ty.den])<;>(repeat'(first|apply And.intro|intro _))<;>omega)|((try dsimp only[Ty.den]at *)<;>(repeat'(first|apply And.intro|intro _))<;>omega)):p:=h
end
section
open Go Go.RowKit
section
variable {c:Cx} {R:Exit->Act->World->Prop} {k:List DP} {σ σ':St}
def oJ (a b:Ty) (k:a.den):List (a.den×b.den)->List (a.den×b.den)
 | []=>[]
 | x :: r=>if Iv a k x.1=true then r else x :: oJ a b k r
end
end
section
open Go Go.RowKit
def siB (P:Program) (b:IntKind) (id:TypeId):Option TypeDesc->Bool
 | some (.struct ⟨[a, c]⟩) => (a.name != "_") && (c.name != "_") && a.offset == 0 && c.offset == 1 && (match P.underlying a.type with | some .string => true | _ => false) && isI b (P.underlying c.type) && P.stoodInHeld id == false && !(P.eqGuardType P.depth id)
 | _=>false
theorem A1v {b:IntKind} (h:siB P b t (P.underlying t)=true) (w:World) (i k:ByteArray) (j l:Int) :
  (binOp .eql t (.agg #[.string i,.int b j]) (.agg #[.string k,.int b l])).run P w=.ok (.bool (Ae i k&&(j==l))) w/\∀x y:Operand,∀u v:Array Value,(eqGuard .eql t x y (.agg u) (.agg v)).run P w=.ok () w:=by
 unfold siB at h;split at h
 .rename_i a f hu;simp only[An,TE,ACb,RQ]at h;obtain⟨⟨⟨⟨⟨⟨⟨h1,p⟩,q⟩,r⟩,d⟩,g⟩,s⟩,id⟩:=h;have d:P.underlying a.type=some .string:=by
   split at d
   .assumption
   cases d
  have g:=Vh g;have m:P.fieldsOf t=#[a,f]:=by simp[Program.fieldsOf,hu]
  refine⟨?_,λx y u v=>run_eqGuard_agg (P:=P) w .eql t x y u v id⟩;have z:P.plainKey a.type=true:=by simp[Program.plainKey,d]
  have A:P.plainKey f.type=true:=by simp[Program.plainKey,g]
  have B:∀x y:ByteArray,(Op.equalIn 9999 a.type (.string x) (.string y)).run P w=.ok (x.toList==y.toList) w:=λx y=>run_equalIn_string w 9998 _ x y d;have n:∀x y:Int,(Op.equalIn 9999 f.type (.int b x) (.int b y)).run P w=.ok (x==y) w:=λx y=>L6 g 9998 x y;have e:(Op.equalIn 10000 t (.agg #[.string i,.int b j]) (.agg #[.string k,.int b l])).run P w=_:=run_equalIn_struct (P:=P) w 9999 t _ _ (by rw[m];exact hu) s;rw[run_eql_struct,e,m];have p0:=λ(u v:Value)=>AC3 (P:=P) w z (xs:=#[u,v]) (off:=a.offset) (v:=u) (by rw[q];rfl);have o:=λ(u v:Value)=>AC3 (P:=P) w A (xs:=#[u,v]) (off:=f.offset) (v:=v) (by rw[r];rfl);unfold Ae;simp only[Op.eqFields,h1,p,ne_eq,not_false_eq_true,AAF,AAZ,p0,o,AAl,B,n];by_cases c:i.toList=k.toList
  .by_cases c2:j=l<;>simp[c,c2,ACL,AAZ,o,n,Op.eqFields]
  simp[c,ACL]
 cases h
theorem tW {O:Nat->Prop} {b:IntKind} {d:(Ty.agg (.prod .str (.int b))).den} (h:BU w O (.agg (.prod .str (.int b))) v d):v=.agg #[.string d.1,.int b d.2]:=by
 obtain⟨cs,⟨c1,c2,rfl,⟨rfl,_⟩,⟨rfl,_⟩⟩,rfl⟩:=h;rfl
section
variable {c:Cx} {R:Exit->Act->World->Prop} {k:List DP} {σ σ':St}
theorem AAA (m:c.Ok) {ops:Array Oper} {rest:List Oper} {d:Nat} {E:TypeId} {x y:Operand} {ty:TypeId} {xv r:AV} {b f:ByteArray×Int}
  (C:siB c.P j t (c.P.underlying t)=true) (hk:N4 c R k ops rest ⟨(d,.p .bool (Ae b.1 f.1&&b.2==f.2)) :: σ.env,σ.objs⟩) (hx:Aq σ x=some xv:=by simp only[go_sem,Nat.reduceEqDiff,reduceCtorEq,Nat.reduceAdd,Nat.reduceSub,Nat.reduceMul,Nat.reduceLeDiff,Nat.reduceLT,Int.reduceLE,Int.reduceToNat,Int.reduceNeg,↓reduceIte];rfl) (hy:Aq σ y=some r:=by simp only[go_sem,Nat.reduceEqDiff,reduceCtorEq,Nat.reduceAdd,Nat.reduceSub,Nat.reduceMul,Nat.reduceLeDiff,Nat.reduceLT,Int.reduceLE,Int.reduceToNat,Int.reduceNeg,↓reduceIte];rfl)
  (s:N2 false σ (.agg (.prod .str (.int j))) xv=some b:=by simp only[go_sem,Nat.reduceEqDiff,reduceCtorEq,Nat.reduceAdd,Nat.reduceSub,Nat.reduceMul,Nat.reduceLeDiff,Nat.reduceLT,Int.reduceLE,Int.reduceToNat,Int.reduceNeg,↓reduceIte];rfl) (z:N2 false σ (.agg (.prod .str (.int j))) r=some f:=by simp only[go_sem,Nat.reduceEqDiff,reduceCtorEq,Nat.reduceAdd,Nat.reduceSub,Nat.reduceMul,Nat.reduceLeDiff,Nat.reduceLT,Int.reduceLE,Int.reduceToNat,Int.reduceNeg,↓reduceIte];rfl) :
  N4 c R k ops (⟨some d,.binOp .eql t x y E,ty,T,Y,none⟩ :: rest) σ:=by
 intro hd A a w D;unfold wpListIn;rw[BY (by simp[Region.wanted])];obtain⟨ρ,i⟩:=D;have n:Hl (vw w c.O0 σ ρ) σ a.eval:=GA i.env;have G:d<c.nt:=Ce (hd _ ABq) d rfl;have h1:=LS (V:=vw w c.O0 σ ρ) (O':=own c.O0 σ ρ) (λ_ h=>h) (λh=>by cases h) i.objs s (n x _ hx);have l:=LS (V:=vw w c.O0 σ ρ) (O':=own c.O0 σ ρ) (λ_ h=>h) (λh=>by cases h) i.objs z (n y _ hy);have h1:a.eval x=.agg #[.string b.1,.int j b.2]:=tW h1;have l:a.eval y=.agg #[.string f.1,.int j f.2]:=tW l;obtain⟨q,g⟩:=A1v C w b.1 f.1 b.2 f.2;have g:=g x y #[.string b.1,.int j b.2] #[.string f.1,.int j f.2];rw[<-h1,<-l]at q g;refine A0 (u:=.bool (Ae b.1 f.1&&b.2==f.2)) (w':=w) (by simp[execOp,g,q]) (hk (λo B=>hd o (by simp[B])) A _ _ ⟨ρ,?_⟩);refine i.add m.K m.O (dst:=some d) (λF e=>by injection e with e;omega) (v:=.p .bool (Ae b.1 f.1&&b.2==f.2)) (obs:=[]) (ρ':=ρ) rfl (QS.still ?_);exact⟨[.bool (Ae b.1 f.1&&b.2==f.2)],rfl,rfl⟩
end
end
section
open Go Go.RowKit
theorem R5 {tb:Tb} {w0:World} {O0:Nat->Prop} {nt:Nat} {stay:List Nat} {fn:Func} {post:AV->List (Nat×Obj)->Prop} {σ:St} (d:(cm P tb w0 K O0 nt (stay.map λn=>(n,W n))).Ok)
  (b:List ResultVar) (k:fn.results.toList=b) (g:e=.ret\/e=.normal) (res:AV) (h:Tk tb σ b res) (i:post res σ.objs) :
  Ev (cm P tb w0 K O0 nt (stay.map λn=>(n,W n))) (tT P fn w0 K O0 stay W post) (.out e) [] σ:=by
 intro _ _ a w hs;obtain⟨ρ,hs⟩:=hs;obtain⟨u,h1,c⟩:=V9 d.T hs (by rw[k];exact h);have j:MK K O0 stay w0 W post u w:=by
  refine⟨res,σ.objs,ρ,i,hs.frm,⟨hs.objs,hs.free,hs.dist⟩,c,λn hn=>?_⟩;exact(hs.pin (n,W n) (Do.2 ⟨n,hn,rfl⟩)).2.1
 have f:a.defers=[]:=hs.defers;have key:LeavesInM (FR none) 0 P fn a.tmps (λe w'=>∃u,e=.returned u/\MK K O0 stay w0 W post u w') a.defers .returning w:=by
  rw[f];exact⟨u,h1,u,rfl,j⟩
 rcases g with rfl|rfl
 .exact key
 exact key
section
variable {c:Cx} {R:Exit->Act->World->Prop} {k:List DP} {σ σ':St}
theorem cG (n:Nat) (d:c.Ok) {id:Nat} {l:List Oper} {vc:Prop} (f:vc) (hk:N4 c R k l.toArray (l.drop n) σ') (h:B5 c.tb l (l.take n) σ=some (vc,σ'):=by simp only[AAX,AAG,go_sem,Nat.reduceEqDiff,reduceCtorEq,Nat.reduceAdd,Nat.reduceSub,Nat.reduceMul,Nat.reduceLeDiff,Nat.reduceLT,Int.reduceLE,Int.reduceToNat,Int.reduceNeg,↓reduceIte];rfl) :
  Ev c R (.run (.region id l.toArray false)) k σ:=by
 intro h1 b a w hs;simp only[IC,Bn,Of]at h1;exact AC4 (NT d n (by simpa using h) f hk (λo e=>h1 o e) b a w hs)
end
end
section
open Go Go.RowKit
theorem tY {O:Nat->Prop} {σ:St} {ρ ρ':Nat->Value} {b:Nat} (h:¬own O σ ρ b):¬own O ⟨[],[]⟩ ρ' b:=by
 rintro (q|⟨n,⟨o,a⟩,-⟩)
 .exact h (.inl q)
 cases a
theorem J4 {O:Nat->Prop} {ρ:Nat->Value} {t:Ty} {d:t.den} (h:BU w O t v d):B7 (vw w O ⟨[],[]⟩ ρ) (.p t d) v:=by
 refine BU.mono (λb _ q=>?_) (λ_ _ _=>rfl) h;rintro (c|⟨n,⟨o,a⟩,-⟩)
 .exact q c
 cases a
theorem g9 {w:World} {O:Nat->Prop} {σ:St} {ρ ρ':Nat->Value}:∀ {outs:List RV} {nm:Nat} {a:List Value},(∀r∈outs,∃t d,r=.p t d)->H9 (vw w O σ ρ) (I0 nm outs) a->H9 (vw w O ⟨[],[]⟩ ρ') (I0 nm outs) a
 | [],_,_,_,h=>h
 | r :: l,nm,a,c,h=>by
  obtain⟨t,d,rfl⟩:=c r sc;obtain⟨v,l',rfl,h1,e⟩:=h;exact⟨v,l',rfl,BU.mono (λb _ q=>tY q) (λ_ _ _=>rfl) (show BU _ _ t v d from h1),g9 (λr f=>c r (If _ f)) e⟩
theorem Tq:∀ {outs:List RV} {nm:Nat},(∀r∈outs,∃t d,r=.p t d)->DA nm outs=[]
 | [],_,_=>rfl
 | r :: l,nm,a=>by
  obtain⟨t,d,rfl⟩:=a r sc;exact Tq (outs:=l) (λr b=>a r (If _ b))
theorem WV:∀ {outs:List RV} {nm nm':Nat},(∀r∈outs,∃t d,r=.p t d)->I0 nm outs=I0 nm' outs
 | [],_,_,_=>rfl
 | r :: l,nm,nm',a=>by
  obtain⟨t,d,rfl⟩:=a r sc;show AV.p t d :: _=AV.p t d :: _;rw[WV (outs:=l) λr b=>a r (If _ b)]
theorem oK {O:Nat->Prop} {σ:St} {ρ ρ':Nat->Value} {nm:Nat} {u:Value}:∀ {outs:List RV},(∀r∈outs,∃t d,r=.p t d)->B7 (vw w O σ ρ) (H7 0 outs) u->B7 (vw w O ⟨[],[]⟩ ρ') (H7 nm outs) u
 | [],_,h=>h
 | [r],a,h=>by
  obtain⟨t,d,rfl⟩:=a r sc;exact BU.mono (λb _ q=>tY q) (λ_ _ _=>rfl) (show BU _ _ t u d from h)
 | r :: q :: l,a,h=>by
  obtain⟨c,rfl,h1⟩:=h;refine⟨c,rfl,?_⟩;have h1:H9 (vw w O σ ρ) (I0 0 (r :: q :: l)) c:=h1;rw[WV (nm':=nm) a]at h1;exact g9 a h1
theorem OL {sp : Ab} (hf : ∃ fn : Func, P.funcs[f]? = some fn /\ (fn.name == "runtime.NumGoroutine") = false /\ fn.body.isNone = false)
  (h:∀ds,sp.pre ds->∃args,(∀w O c,Pw w O sp.ins c ds->Iw (vw w O ⟨[],[]⟩ λ_=>undef) args c)/\BK P f args [] [] (λres _=>res=H7 0 (sp.out ds)))
  (g:∀ds,∀r∈sp.out ds,∃t d,r=.p t d):Ac P f sp:=by
 refine⟨hf,λw O c ds i y s=>?_⟩;obtain⟨args,ha,-,k⟩:=h ds s;have h1:=k w (λb=>b<w.heap.size) O (λ_=>undef) c (λb q=>q) i ⟨λn o q=>(by cases q),λn b q=>(by obtain⟨o,q⟩:=q;cases q),λn m b q=>(by obtain⟨o,q⟩:=q;cases q)⟩ (ha w O c y);refine h1.mono λe w' v=>?_;obtain⟨u,l,res,A,ρ',x,a,hm,j,-⟩:=v;refine⟨u,l,λnm=>⟨λ_=>undef,?_⟩⟩;subst x;have hx:=oK (ρ':=λ_=>undef) (nm:=nm) (g ds) j;rw[Tq (g ds)];exact⟨⟨a.os,a.tape,a.output,a.size,λb q=>a.block b q⟩,λ_ _=>rfl,hx,λn o q=>(by cases q),λn o b q=>(by cases q),λn m o z b q=>(by cases q)⟩
end
end Go.Proofs.YtcmadlghkcjcbaaGreat.Fw
