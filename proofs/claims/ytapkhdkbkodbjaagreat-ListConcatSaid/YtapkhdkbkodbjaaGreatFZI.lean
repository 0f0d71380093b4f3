/- Range over a function; scopes; several steps in one. -/
import Derived.Test.YtapkhdkbkodbjaaGreatFZH
import Derived.RangeFuncFrom
import Derived.Scope
import Derived.Laws.IdiomRangeMap
import Derived.Laws.StructEq
set_option linter.unusedVariables false
set_option linter.unusedSimpArgs false
namespace Go.Proofs.YtapkhdkbkodbjaaGreat.Fw
section
open Go Go.RowKit
theorem f6 {V:Vw} {f:FuncId} {ns:List Nat} {v:Value} (h:B2 V (.clo f ns) v):v=.func (.func f) #[] (ns.map V.ρ).toArray/\Ij V (ns.map λn=>AV.bp n [] 0) (ns.map V.ρ):=by
 refine⟨h.1,?_⟩;have h0:∀l:List Nat,(∀n∈l,n∈ns)->Ij V (l.map λn=>AV.bp n [] 0) (l.map V.ρ):=by
  intro l;induction l with
  | nil=>intro _;exact rfl
  | cons n r d =>
   intro hl;obtain⟨c,b,a⟩:=h.2 n (hl n sc);exact⟨V.ρ n,r.map V.ρ,rfl,⟨c,b,a,a⟩,d λx hx=>hl x (by simp[hx])⟩
 exact h0 ns λ_ h=>h
def WI (P:Program) (yn:Nat) (A:List AV) (objs:List (Nat×Obj)) (stay:List Nat) (post:AV->List (Nat×Obj)->Prop):Prop :=
 ∀(w:World) (K O0:Nat->Prop) (ρ:Nat->Value) (a:List Value) (b:Nat),(∀b,K b->b<w.heap.size)->(∀b,O0 b->b<w.heap.size)->wD K O0 objs ρ w->Ij (vw w O0 ⟨[],objs⟩ ρ) A a ->
  ρ yn=.pointer (some ⟨b,0,none⟩)->YieldAt (FR none) 0 P b a.toArray w λe w'=>∃u,e=.returned u/\Lw K O0 stay w ρ post u w'
section
variable {c:Cx} {R:Exit->Act->World->Prop} {k:List DD} {σ:St}
def f7 (n:Nat):Option AV->Bool
 | some (.yl m)=>m==n
 | _=>false
theorem A0y (N:c.Ok) (X:c.r=none) {o:Oper} {dst:Option Nat} {g:Operand} {xs:List Operand} {ts:Array TypeId} (t:o.op=.call { callee:=.value g,args:=xs.toArray,argTypes:=ts }) (O:o.dst=dst)
  {n yn:Nat} (f:f7 n (Aq σ g)=true) {as:List AV} (L:JO σ xs=some as)
  {A:List AV} {objs:List (Nat×Obj)} {stay:List Nat} {post:AV->List (Nat×Obj)->Prop} (H:WI c.P yn A objs stay post)
  (ren:List (Nat×B0)) (aa:lk yn ren=some (.nm n)) (h1:CC ren=true) (C:CR objs ren=true) (F:BU σ ren as A) (I:Ad σ.objs ren objs)
  (hs:List Nat) (V:(c.ds.pin.all λp=>!AU p.1 hs)=true) {next:Act->World->Prop} {Q:Exit->Act->World->Prop} {a:Act} {w:World} (Z:c.sat σ a w) (hd:∀d,dst=some d->d<c.nt)
  (hk:∀res x,post res x->∃(i:List (Nat×B0)) (y:AV) (j:List (Nat×Obj)),CC i=true/\CR j i=true/\Ad x i j/\Bz i res y /\
   Iv ren i stay hs=true/\FL (Aj ren) j σ.objs=true/\∀l w',c.sat (CY σ (Aj ren) hs dst y j) l w'->next l w'):o.wpIn (FR c.r) 0 c.P a w next Q:=by
 obtain⟨ρ,v⟩:=Z;have s:HX (vw w c.O0 σ ρ) σ a.eval:=Fs v.env;obtain⟨b,ab,R⟩:∃b:Nat,ρ n=.pointer (some ⟨b,0,none⟩)/\a.eval g=.func (.yield b) #[] #[]:=by
  cases k:Aq σ g with
  | none=>rw[k]at f;simp[f7]at f
  | some q =>
   rw[k]at f;have S:=s g q k;cases q<;>simp only[f7]at f<;>try(cases f;done)
   rename_i m;have T:m=n:=by simpa using f
   subst T;obtain⟨_,b,D,E⟩:=S;exact⟨b,D,E⟩
 obtain⟨z,B,ae,G,J,U,M,ad,W⟩:=RP N v (bE s L) stay post ren h1 C F I hs V hd hk;obtain⟨fn,tmps,assign,body,hy,K⟩:=H w z B ae (xs.map a.eval) b G J U M ((ad _ _ aa).trans ab);have Y:(execOp a.eval o).run c.P w=.ok (.round b fn tmps assign body) w:=by
  simp[execOp,t,resolve,Deferred.ofValue,R,invoke];simpa using hy
 refine⟨λ_ _=>trivial,?_⟩;rw[Gk _ _ _ (λcl e=>by rw[t]at e;cases e),Y,Oper.uponIn_round];refine⟨λh=>(by simp[FR]at h),?_⟩;rw[X];refine K.mono λe w' hh=>?_;obtain⟨u,rfl,hh⟩:=hh;rw[O];exact W u w' hh
theorem wQ (B:c.Ok) (H:c.r=none) {ops:Array Oper} {rest:List Oper} {dst:Option Nat} {g:Operand} {xs:List Operand} {ts:Array TypeId} {ty:TypeId} {pos:String} {after:Array Edge}
  {n yn:Nat} (C:f7 n (Aq σ g)=true) {as:List AV} (z:JO σ xs=some as)
  {A:List AV} {objs:List (Nat×Obj)} {stay:List Nat} {post:AV->List (Nat×Obj)->Prop} (x:WI c.P yn A objs stay post)
  (ren:List (Nat×B0)) (hs:List Nat) (K:lk yn ren=some (.nm n)) (h1:CC ren=true) (t:CR objs ren=true) (G:(c.ds.pin.all λp=>!AU p.1 hs)=true) (u:BU σ ren as A) (y:Ad σ.objs ren objs)
  (hk:∀res e,post res e->∃(b:List (Nat×B0)) (f:AV) (d:List (Nat×Obj)),CC b=true/\CR d b=true/\Ad e b d/\Bz b res f /\
   Iv ren b stay hs=true/\FL (Aj ren) d σ.objs=true/\Lu c R k ops rest (CY σ (Aj ren) hs dst f d)) :
  Lu c R k ops (⟨dst,.call ⟨.value g,xs.toArray,ts⟩,ty,pos,after,none⟩ :: rest) σ:=by
 intro hd D a w J;unfold wpListIn;rw[DO (by simp[Region.wanted])];refine A0y B H (xs:=xs) (ts:=ts) rfl rfl C z x ren K h1 t u y hs G J (CX (hd _ sc)) λres e F=>?_;obtain⟨b,f,d,i,j,l,m,q,s,v⟩:=hk res e F;exact⟨b,f,d,i,j,l,m,q,s,λh w' I=>v (λo E=>hd o (by simp[E])) D h w' I⟩
end
def HC:List Nat->List AV->List (Nat×AV)->List (Nat×AV)
 | p :: a,x :: xs,e=>HC a xs ((p,x) :: e)
 | _,_,e=>e
def cY (P:Program) (tb:Tb) (w0:World) (K O0:Nat->Prop) (nt l:Nat) (pin:List (Nat×Value)):Cx:={ P:=P,tb:=tb,w0:=w0,K:=K,O0:=O0,nt:=nt,ds:={ pin:=pin },r:=some l }
theorem A0z {P:Program} {tb:Tb} {w0:World} {K O0:Nat->Prop} {nt l:Nat} {pin:List (Nat×Value)}:(cY P tb w0 K O0 nt l pin).tb=tb:=rfl
def mU (P:Program) (l:Nat) (w0:World) (K O0:Nat->Prop) (stay:List Nat) (ρ0:Nat->Value) (post:AV->List (Nat×Obj)->Prop):Exit->Act->World->Prop :=
 roundPost P l λe w'=>∃u,e=.returned u/\Lw K O0 stay w0 ρ0 post u w'
theorem sC {V:Vw}:∀(b:List Nat) (A:List AV) (c:List Value) (e:List (Nat×AV)) (a:Array Value),Ij V A c->(∀p∈b,p<a.size)->A.length=b.length->(∀s x,lk s e=some x->B2 V x (a.getD s undef)) ->
  (∀s x,lk s (HC b A e)=some x->B2 V x (((b.zip c).foldl (λt (p,v)=>t.setIfInBounds p v) a).getD s undef))/\((b.zip c).foldl (λt (p,v)=>t.setIfInBounds p v) a).size=a.size
 | [],_,_,e,a,_,_,_,h=>by simpa[HC] using h
 | p :: b,[],_,e,a,_,_,hl,_=>by simp at hl
 | p :: b,x :: A,c,e,a,⟨v,r,k,h1,g⟩,f,hl,h=>by
  subst k;simp only[ABP,SU,HC];have l:=sC b A r ((p,x) :: e) (a.setIfInBounds p v) g (λq j=>by simpa using f q (by simp[j])) (by simpa using hl) (λs y hs=>by
   have d:=Mo { tmps:=a,defers:=[] } p v s (f p sc);have d:(a.setIfInBounds p v).getD s undef=if s=p then v else a.getD s undef:=d
   rw[d];simp only[lk]at hs;split at hs
   .grind
   rename_i i;rw[BY i];exact h s y hs)
  grind
section
variable {P:Program} {tb:Tb} {w0:World} {K O0:Nat->Prop} {nt l:Nat} {stay:List Nat} {ρ0:Nat->Value} {post:AV->List (Nat×Obj)->Prop} {σ:St} {pin:List (Nat×Value)}
theorem QE {c:Cx} (f:c.Ok) {σ:St} {a:Act} {w:World} {ρ:Nat->Value} (hs:CA c.w0 c.K c.O0 c.nt c.ds σ ρ a w) {yn b:Nat} {L:Go.Loop} (hl:lk yn σ.objs=some (.loop L)) (hb:ρ yn=.pointer (some ⟨b,0,none⟩)) (d:Go.Loop) :
  w.heap[b]?=some (.loop L)/\CA c.w0 c.K c.O0 c.nt c.ds ⟨σ.env,upd yn (.loop d) σ.objs⟩ ρ a (w.putObj b (.loop d)):=by
 obtain⟨i,h1,e⟩:=hs.objs yn _ hl;rw[hb]at h1;injection h1 with h1
 injection h1 with h1
 injection h1 with h1
 subst h1;have h:b<w.heap.size:=CJ e;refine⟨e,hs.upd f.K hl (g:=b) (by rw[hb];rfl) (grownBy_putObj' w b _) ?_⟩;exact⟨b,hb,World.putObj_heap_same h⟩
theorem M5 (e:(cY P tb w0 K O0 nt l pin).Ok) {yn:Nat} {L:Go.Loop} (hl:lk yn σ.objs=some (.loop L)) (g:pin=stay.map λn=>(n,ρ0 n)) (h:yn∈stay) (hb:ρ0 yn=.pointer (some ⟨l,0,none⟩))
  (f:post (.p .bool true) (upd yn (.loop { L with state:=.ready,pending:=none }) σ.objs)) :
  Ev (cY P tb w0 K O0 nt l pin) (mU P l w0 K O0 stay ρ0 post) (.out .normal) [] σ:=by
 intro _ _ a w hs;obtain⟨ρ,hs⟩:=hs;have c:∀n∈stay,ρ n=ρ0 n:=λn hn=>(hs.pin (n,ρ0 n) (by rw[show (cY P tb w0 K O0 nt l pin).ds.pin=pin from rfl,g];exact Y1.2 ⟨n,hn,rfl⟩)).2.1;obtain⟨d,b⟩:=QE e hs hl ((c _ h).trans hb) { L with state:=.ready,pending:=none };refine⟨_,_,run_endRound none d,.bool true,rfl,.p .bool true,_,ρ,f,b.frm,⟨b.objs,b.free,b.dist⟩,⟨_,rfl,rfl⟩,c⟩
theorem Hr (e:(cY P tb w0 K O0 nt l pin).Ok) {yn:Nat} {L:Go.Loop} (hl:lk yn σ.objs=some (.loop L)) (g:pin=stay.map λn=>(n,ρ0 n)) (h:yn∈stay) (hb:ρ0 yn=.pointer (some ⟨l,0,none⟩))
  (f:post (.p .bool false) (upd yn (.loop { L with state:=.done,pending:=some .ret }) σ.objs)) :
  Ev (cY P tb w0 K O0 nt l pin) (mU P l w0 K O0 stay ρ0 post) (.out .ret) [] σ:=by
 intro _ _ a w hs;obtain⟨ρ,hs⟩:=hs;have c:∀n∈stay,ρ n=ρ0 n:=λn hn=>(hs.pin (n,ρ0 n) (by rw[show (cY P tb w0 K O0 nt l pin).ds.pin=pin from rfl,g];exact Y1.2 ⟨n,hn,rfl⟩)).2.1;obtain⟨d,b⟩:=QE e hs hl ((c _ h).trans hb) { L with state:=.done,pending:=some .ret };refine⟨_,_,run_endRound (some .ret) d,.bool false,rfl,.p .bool false,_,ρ,f,b.frm,⟨b.objs,b.free,b.dist⟩,⟨_,rfl,rfl⟩,c⟩
def A8z (c:Cx) (R:Exit->Act->World->Prop) (yn:Nat) (L:Go.Loop) (a:Code) (σ:St):Prop :=
 lk yn σ.objs=some (.loop L)/\Ev c R (.run a) [] ⟨σ.env,upd yn (.loop { L with state:=.busy }) σ.objs⟩
theorem WJ {yn fr:Nat} {A:List AV} {objs:List (Nat×Obj)} {L:Go.Loop} {d:List Nat} {r s:Code} {fs:List (Nat×AV)} {g:Array Value}
  (hl:lk yn objs=some (.loop L)) (hf:lk fr objs=some (.frame g fs)) (h1:L.state=.ready) (H:L.params=d.toArray) (I:L.assign=r) (J:L.body=s) (aj:L.tmps=g) (D:g.size=nt)
  (z:A.length=d.length) (X:(d.all λp=>decide (p<nt))=true) (ae:yn∈stay) (aa:stay.all (TD objs)=true) (U:Lp objs=true) (R:Bh nt r=true) (S:Bh nt s=true) (hT:DC P tb) (hF:Iq P tb)
  (h:∀(w0:World) (K O0:Nat->Prop) (ρ0:Nat->Value) (l:Nat),(cY P tb w0 K O0 nt l (stay.map λn=>(n,ρ0 n))).Ok->Pz A->OV objs->ρ0 yn=.pointer (some ⟨l,0,none⟩) ->
   Ev (cY P tb w0 K O0 nt l (stay.map λn=>(n,ρ0 n))) (λ_ _ _=>False) (.run r) [.inv (A8z (cY P tb w0 K O0 nt l (stay.map λn=>(n,ρ0 n))) (mU P l w0 K O0 stay ρ0 post) yn L s)] ⟨HC d A fs,objs⟩) :
  WI P yn A objs stay post:=by
 intro w K O0 ρ q b N O f x hb;have ad:=Iu x;obtain⟨ah,c,hh⟩:=f.obj yn _ hl;rw[hb]at c;injection c with c
 injection c with c
 injection c with c
 subst c;have Y:=run_yield (P:=P) (args:=q.toArray) hh (by rw[H];simp[ad,z]);refine⟨_,_,_,_,Y,roundIn_of_wpIn trivial ?_⟩;have y:(cY P tb w K O0 nt b (stay.map λn=>(n,ρ n))).Ok:=⟨N,O,hT,hF⟩;have T:=f.obj fr _ hf;have B:=sC (V:=vw w O0 ⟨[],objs⟩ ρ) d A q fs g x (λp u=>by have:=(NO.1 X) p u;rw[D];simpa using this) z T.2;have ab:(L.params.zip q.toArray).foldl (λt (p,v)=>t.setIfInBounds p v) L.tmps=(d.zip q).foldl (λt (p,v)=>t.setIfInBounds p v) g:=by grind
 rw[I,J,ab];have Z:(cY P tb w K O0 nt b (stay.map λn=>(n,ρ n))).sat ⟨HC d A fs,objs⟩ { tmps:=(d.zip q).foldl (λt (p,v)=>t.setIfInBounds p v) g,defers:=[] } w:=by
  refine⟨ρ,⟨rfl,rfl,rfl,No _,λ_ _=>rfl⟩,by rw[B.2];exact D,rfl,λp u=>?_,f.obj,f.free,f.dist,B.1⟩;obtain⟨n,hn,rfl⟩:=Y1.1 u;have:=(NO.1 aa) n hn;unfold TD at this;cases i:lk n objs with
  | none=>rw[i]at this;cases this
  | some o =>
   rw[i]at this;refine⟨⟨o,i⟩,rfl,?_⟩;have j:=f.obj n o i;cases o with
   | arr et e xs=>exact .inr this
   | nest et al k e xs hl=>exact .inr this
   | box et st fs=>obtain⟨_,b,cs,a,_⟩:=j;rw[a];exact .inl rfl
   | mapo k v l=>obtain⟨b,ai,cl,a,_⟩:=j;rw[a];exact .inl rfl
   | frame g fs=>obtain⟨a,_⟩:=j;rw[a];exact .inl rfl
   | loop L=>obtain⟨b,a,_⟩:=j;rw[a];exact .inl rfl
   | itr am ap an ao ak=>obtain⟨b,a,_⟩:=j;rw[a];exact .inl rfl
   | dfr=>obtain⟨b,a,_⟩:=j;rw[a];exact .inl rfl
 have M:=h w K O0 ρ b y (Uh x) (Ui U λn o i=>bD (f.obj n o i)) hb (by simpa[HO,cY] using R) rfl _ _ Z;refine ACc (F:=FR (some b)) M ?_;intro e ag w' m;cases e with
 | normal =>
  obtain⟨σ',⟨ρ',C⟩,W,Q⟩:=m;have af:ρ' yn=.pointer (some ⟨b,0,none⟩):=(C.pin (yn,ρ yn) (Y1.2 ⟨yn,ae,rfl⟩)).2.1.trans hb;obtain⟨E,G⟩:=QE y C W af { L with state:=.busy };exact⟨_,run_beginRound E h1,Q (by simpa[HO,cY] using S) rfl _ _ ⟨ρ',G⟩⟩
 | exit id=>exact m.elim
 | goto t=>exact m.elim
 | ret=>exact m.elim
 | panic ch=>exact m.elim
 | outgrown=>exact m.elim
end
end
section
open Go Go.RowKit
def Cx.marked (c:Cx) (dn b:Nat):Cx:={ c with ds:={ ds:=⟨.collected b,#[]⟩ :: c.ds.ds,pin:=(dn,.pointer (some ⟨b,0,none⟩)) :: c.ds.pin } }
def Cx.marked2 (c:Cx) (yn dn b:Nat):Cx:={ c with ds:={ ds:=⟨.collected b,#[]⟩ :: c.ds.ds,pin:=(yn,.pointer (some ⟨b+1,0,none⟩)) :: (dn,.pointer (some ⟨b,0,none⟩)) :: c.ds.pin } }
theorem mV {c:Cx} {yn dn b:Nat} (h:c.Ok):(c.marked2 yn dn b).Ok:=⟨h.K,h.O,h.T,h.F⟩
theorem RU {c:Cx} {dn b:Nat}:(c.marked dn b).tb=c.tb:=rfl
theorem Hs {c:Cx} {dn b:Nat} (h:c.Ok):(c.marked dn b).Ok:=⟨h.K,h.O,h.T,h.F⟩
theorem wR (ren:List (Nat×B0)) (x:AV):Bz ren x .top:=by grind [Bz,JK,ET]
def f8:List DD->Bool
 | []=>true
 | .inv _ :: _=>false
 | _ :: k=>f8 k
theorem OZ {c:Cx} {R:Exit->Act->World->Prop} {dn b:Nat}:∀ {k:List DD},f8 k=true->UX (c.marked dn b) R k=UX c R k
 | [],_=>by funext e a w;simp[UX]
 | .inv _ :: _,h=>by simp[f8]at h
 | .seq y :: k,h=>by
  have d:=OZ (c:=c) (R:=R) (dn:=dn) (b:=b) (k:=k) h;funext e a w;cases e<;>simp only[UX,d]<;>rfl
 | .blk id :: k,h=>by
  have d:=OZ (c:=c) (R:=R) (dn:=dn) (b:=b) (k:=k) h;funext e a w;cases e<;>simp only[UX,d]
def BG (σ:St) (yn dn fr:Nat) (L:Go.Loop) (a:Array Value):St:=⟨σ.env,(yn,.loop L) :: (dn,.dfr) :: (fr,.frame a σ.env) :: σ.objs⟩
section
variable {c:Cx} {R:Exit->Act->World->Prop} {k:List DD} {σ:St}
theorem wS (l:c.Ok) {a:Act} {w:World} {ρ:Nat->Value} (hs:CA c.w0 c.K c.O0 c.nt c.ds σ ρ a w) {yn dn fr:Nat} (q:yn≠dn) (A:yn≠fr) (B:dn≠fr) (C:lk yn σ.objs=none) (D:lk dn σ.objs=none) (E:lk fr σ.objs=none) (L:Go.Loop) :
  ∃e,CA c.w0 c.K c.O0 c.nt (c.marked2 yn dn w.heap.size).ds (BG σ yn dn fr L a.tmps) e { a with defers:=[{ target:=.collected w.heap.size,args:=#[] }]++a.defers } ((w.alloc (.deferred (some []))).alloc (.loop L))/\e yn=.pointer (some ⟨w.heap.size+1,0,none⟩):=by
 let e:Nat->Value:=λm=>if m=yn then .pointer (some ⟨w.heap.size+1,0,none⟩) else if m=dn then .pointer (some ⟨w.heap.size,0,none⟩) else if m=fr then .pointer none else ρ m
 have e1:e yn=.pointer (some ⟨w.heap.size+1,0,none⟩):=by simp[e]
 have e2:e dn=.pointer (some ⟨w.heap.size,0,none⟩):=by simp[e,Ne.symm q]
 have v:e fr=.pointer none:=by simp[e,Ne.symm A,Ne.symm B]
 obtain⟨f,j⟩:∃f,(w.alloc (.deferred (some []))).alloc (.loop L)=f:=⟨_,rfl⟩;have z:f.heap[w.heap.size+1]?=some (.loop L):=by
  rw[<-j];have:=World.alloc_heap_new (w.alloc (.deferred (some []))) (.loop L);rwa [World.size_alloc]at this
 have y:f.heap[w.heap.size]?=some (.deferred (some [])):=by
  rw[<-j];exact(Below.heap_alloc _ _ _ sc).trans (World.alloc_heap_new w _)
 have k:Below w.heap.size w f:=by
  rw[<-j];exact((Below.refl _ w).alloc (No _) _).alloc sc _
 rw[j];have r:Bg [(yn,Obj.loop L),(dn,.dfr),(fr,.frame a.tmps σ.env)] σ=true:=by simp[Bg,C,D,E]
 have u:∀n,lk n [(yn,Obj.loop L),(dn,Obj.dfr),(fr,.frame a.tmps σ.env)]=none->e n=ρ n:=λn hn=>by grind [lk]
 have t:∀n o b,lk n [(yn,Obj.loop L),(dn,Obj.dfr),(fr,.frame a.tmps σ.env)]=some o->bk (e n) b->w.heap.size<=b:=λn o b hn hb=>by grind [lk,bk,blk]
 have F:=H6 (O0:=c.O0) (ρ:=ρ) (ρ':=e) r k u t;have G:QS w c.O0 σ ρ .top [(yn,Obj.loop L),(dn,.dfr),(fr,.frame a.tmps σ.env)] undef e f:=by
  refine⟨k,u,trivial,λn o hn=>?_,t,λn m o J b hn I hb H=>?_⟩
  .simp only[lk]at hn;split at hn
   .rename_i g;cases hn;subst g;exact⟨_,e1,z⟩
   split at hn
   .rename_i g;cases hn;subst g;exact⟨_,e2,y⟩
   split at hn
   .rename_i g;cases hn;subst g;exact⟨v,λs x hx=>(hs.env s x hx).keeps F⟩
   cases hn
  grind [lk,bk,blk]
 have h:=hs.add l.K l.O (dst:=none) (λd hd=>by cases hd) r G;refine⟨e,⟨h.frm,h.nt,?_,λp i=>?_,h.objs,h.free,h.dist,h.env⟩,e1⟩
 .show _=_ :: c.ds.ds;rw[<-hs.defers];rfl
 rcases At.1 i with rfl|i
 .exact⟨⟨.loop L,by simp[BG,lk]⟩,e1,.inl rfl⟩
 rcases At.1 i with rfl|i
 .exact⟨⟨.dfr,by simp[BG,lk,Ne.symm q]⟩,e2,.inl rfl⟩
 exact h.pin p i
def EvJ (c:Cx) (R:Exit->Act->World->Prop) (k:List DD) (σ:St):Option Code->Prop
 | none=>Ev c R (.out .normal) k σ
 | some a=>match a with
  | .ret=>Ev c R (.out .ret) k σ
  | .exit id=>Ev c R (.out (.exit id)) k σ
  | _=>False
def A9z (c:Cx) (R:Exit->Act->World->Prop) (k:List DD) (a:Act) (w:World):Option Code->Prop
 | none=>UX c R k .normal a w
 | some cd=>cd.wpIn (FR c.r) 0 c.P (UX c R k) a w
theorem A4D {dn b:Nat} (g:f8 k=true) (e:Ct c.nt k=true) {p:Option Code} (d:EvJ (c.marked dn b) R k σ p) {a:Act} {w:World} (hs:(c.marked dn b).sat σ a w) :
  A9z c R k a w p:=by
 have f:=OZ (c:=c) (R:=R) (dn:=dn) (b:=b) g;cases p with
 | none =>
  have:=d rfl e _ _ hs;show UX c R k .normal a w;rw[<-f];exact this
 | some cd =>
  cases cd<;>try exact d.elim
  .have:=d rfl e _ _ hs;refine wpIn_exit ?_;rw[<-f];exact this
  have:=d rfl e _ _ hs;refine wpIn_ret ?_;rw[<-f];exact this
theorem WK (T:c.Ok) (bj:c.r=none) (bd:f8 k=true) {g:Operand} {N:Array Tmp} {E G:Code} {s:FuncId} {m:List Nat} (I:Aq σ g=some (.clo s m))
  (yn dn fr:Nat) (hd:(yn != dn&&yn != fr&&dn != fr)=true) (ay:lk yn σ.objs=none) (az:lk dn σ.objs=none) (ba:lk fr σ.objs=none)
  (ak:∀(L:Go.Loop) (z:Array Value),L.state=.ready->L.pending=none->L.tmps=z->L.params=N->L.assign=E->L.body=G->z.size=c.nt ->
   ∃(A:List AV) (objs:List (Nat×Obj)) (stay:List Nat) (post:AV->List (Nat×Obj)->Prop) (ren:List (Nat×B0)) (hs:List Nat),BT c.P s A objs stay post /\
    CC ren=true/\CR objs ren=true/\BU (BG σ yn dn fr L z) ren (.yl yn :: m.map λn=>AV.bp n [] 0) A/\Ad (BG σ yn dn fr L z).objs ren objs /\
    (((yn,undef) :: (dn,undef) :: c.ds.pin).all λp=>!AU p.1 hs)=true /\
    ∀res y,post res y->∃(j:List (Nat×B0)) (i:List (Nat×Obj)) (l:Go.Loop),CC j=true/\CR i j=true/\Ad y j i/\Iv ren j stay hs=true/\FL (Aj ren) i (BG σ yn dn fr L z).objs=true /\
     lk yn i=some (.loop l)/\(l.state == .busy)=false /\
     ∀b,EvJ (c.marked dn b) R k ⟨(CY (BG σ yn dn fr L z) (Aj ren) hs none .top i).env,upd yn (.loop { l with state:=.exhausted }) (CY (BG σ yn dn fr L z) (Aj ren) hs none .top i).objs⟩ l.pending) :
  Ev c R (.run (.rangeFunc g N E G)) k σ:=by
 intro h1 ai a w bl;obtain⟨ρ,hs⟩:=bl;have ax:HX (vw w c.O0 σ ρ) σ a.eval:=Fs hs.env;obtain⟨bb,_⟩:=f6 (ax g _ I);simp only[An,ABw,ne_eq]at hd;obtain⟨⟨ar,au⟩,av⟩:=hd;refine wpIn_rangeFunc (F:=FR c.r) ?_;intro fn _;have bk:(FR c.r).round=none:=by rw[bj];rfl
 rw[bk];obtain⟨L,x⟩:∃L:Go.Loop,L={ state:=.ready,pending:=none,fn,tmps:=a.tmps,params:=N,assign:=E,body:=G,defers:=w.heap.size }:=⟨_,rfl⟩;obtain⟨Y,M,bn⟩:=wS T hs ar au av ay az ba L;obtain⟨A,objs,stay,post,ren,B,H,ab,ad,ae,af,ag,ah⟩:=ak L a.tmps (by rw[x]) (by rw[x]) (by rw[x]) (by rw[x]) (by rw[x]) (by rw[x]) hs.nt;obtain⟨⟨O,aq,bg,an⟩,H⟩:=H;obtain⟨o,S⟩:∃o,(w.alloc (.deferred (some []))).alloc (.loop L)=o:=⟨_,rfl⟩;rw[S]at M;have U:(c.marked2 yn dn w.heap.size).Ok:=mV T;have ap:Ij (vw o c.O0 (BG σ yn dn fr L a.tmps) Y) (.yl yn :: m.map λn=>AV.bp n [] 0) (.func (.yield (w.heap.size+1)) #[] #[] :: m.map ρ):=by
  refine⟨_,_,rfl,⟨⟨_,by simp[BG,lk];rfl⟩,_,bn,rfl⟩,?_⟩;have bz:=f6 (V:=vw o c.O0 (BG σ yn dn fr L a.tmps) Y) (f:=s) (ns:=m) (v:=a.eval g) (by
   have:=Fs M.env;have bh:Aq (BG σ yn dn fr L a.tmps) g=some (.clo s m):=by
    cases g with
    | tmp t=>exact I
    | _=>exact I
   have Q:=this g _ bh;have aw:({ a with defers:=[{ target:=.collected w.heap.size,args:=#[] }]++a.defers }:Act).eval g=a.eval g:=by cases g<;>rfl
   rw[aw]at Q;exact Q)
  grind [vw]
 have be:∀res y,post res y->∃(j:List (Nat×B0)) (X:AV) (i:List (Nat×Obj)),CC j=true/\CR i j=true/\Ad y j i/\Bz j res X /\
   Iv ren j stay B=true/\FL (Aj ren) i (BG σ yn dn fr L a.tmps).objs=true/\∀C w',(c.marked2 yn dn w.heap.size).sat (CY (BG σ yn dn fr L a.tmps) (Aj ren) B none X i) C w' ->
    rangePost (FR c.r) 0 c.P (w.heap.size+1) (UX c R k) C (.returned undef) w':=by
  intro res y K;obtain⟨j,i,l,bq,br,bs,bt,bu,ca,W,bv⟩:=ah res y K;refine⟨j,.top,i,bq,br,bs,wR j res,bt,bu,λC w' D=>?_⟩;obtain⟨ρ',D⟩:=D;have bo:lk yn (CY (BG σ yn dn fr L a.tmps) (Aj ren) B none .top i).objs=some (.loop l):=by grind [CY,A7]
  have hyp:=(D.pin (yn,.pointer (some ⟨w.heap.size+1,0,none⟩)) (by simp[Cx.marked2])).2.1;obtain⟨bw,q⟩:=QE U D bo hyp { l with state:=.exhausted };refine⟨_,_,run_endLoop bw (by intro e;rw[e]at W;cases W),?_⟩;have bm:(c.marked dn w.heap.size).sat ⟨(CY (BG σ yn dn fr L a.tmps) (Aj ren) B none .top i).env,upd yn (.loop { l with state:=.exhausted }) (CY (BG σ yn dn fr L a.tmps) (Aj ren) B none .top i).objs⟩ C (w'.putObj (w.heap.size+1) (.loop { l with state:=.exhausted })) :=
   ⟨ρ',q.frm,q.nt,q.defers,λp K=>q.pin p (GO _ K),q.objs,q.free,q.dist,q.env⟩
  have J:=A4D bd ai (bv w.heap.size) bm;revert J;generalize l.pending=p;intro J;cases p<;>exact J
 obtain⟨Z,aa,bx,aj,al,bf,am,_,bi⟩:=RP U M ap stay post ren ab ad ae af B (by simpa[Cx.marked2] using ag) (dst:=none) (λd hd=>by cases hd) be;have ao:=H o Z aa bx _ aj al bf am;refine⟨w.heap.size+1,[{ target:=.collected w.heap.size,args:=#[] }],o,{ target:=.fn (.func s) (m.map ρ).toArray,args:=#[.func (.yield (w.heap.size+1)) #[] #[]] },o,s,
  (.func (.yield (w.heap.size+1)) #[] #[] :: m.map ρ).toArray,o,?_,?_,λ_ _=>trivial,?_,λh=>by simp[FR]at h,?_⟩
 .rw[<-S,x];exact run_enterLoop_outer _ _ _ _ _
 .have bc:a.eval g=.func (.func s) #[] (m.map ρ).toArray:=bb;simp only[resolve,bc];simp[go_sem]
 .have e1 : ¬ O.name = "runtime.NumGoroutine" := by simpa using bg
  have e2:¬O.body=none:=by intro e;simp[e]at an
  simp[invoke,callFunc,aq,e1,e2]
 refine OO (ao.mono λe w' hh=>?_);obtain⟨u,rfl,hh⟩:=hh;exact bi u w' hh
theorem A0A (N:c.Ok) {a:Act} {w:World} {ρ:Nat->Value} (hs:CA c.w0 c.K c.O0 c.nt c.ds σ ρ a w) {dn b:Nat} (hl:lk dn σ.objs=some .dfr) (hb:ρ dn=.pointer (some ⟨b,0,none⟩)) (X:_root_.Go.Obj) (pin:List (Nat×Value)) (E:∀p∈pin,p∈c.ds.pin/\p.1≠dn) :
  w.heap[b]?=some (.deferred (some []))/\CA c.w0 c.K c.O0 c.nt { ds:=c.ds.ds,pin:=pin } ⟨CU [dn] σ.env,Ay [dn] [dn] σ.objs⟩ ρ a (w.putObj b X):=by
 obtain⟨M,h1,g⟩:=hs.objs dn _ hl;rw[hb]at h1;injection h1 with h1
 injection h1 with h1
 injection h1 with h1
 subst h1;have O:b<w.heap.size:=CJ g;refine⟨g,?_⟩;have t:own c.O0 σ ρ b:=.inr ⟨dn,⟨_,hl⟩,by rw[hb];exact .inl rfl⟩;have d:∀n,Gz ⟨CU [dn] σ.env,Ay [dn] [dn] σ.objs⟩ n->Gz σ n/\n≠dn:=by
  rintro n ⟨o,hn⟩;have hn:lk n (Ay [dn] [dn] σ.objs)=some o:=hn;rw[B7]at hn;split at hn
  .cases hn
  rename_i j;simp only[OR]at hn;obtain⟨y,hy,_⟩:=hn;exact⟨⟨y,hy⟩,λe=>j (by subst e;simp[AU])⟩
 have h:∀k,k≠b->(w.putObj b X).heap[k]?=w.heap[k]?:=λk hk=>World.putObj_heap_other hk;have i:Cl ((vw w c.O0 σ ρ).buts [dn]) (vw (w.putObj b X) c.O0 ⟨CU [dn] σ.env,Ay [dn] [dn] σ.objs⟩ ρ):=by
  refine⟨λk _ hk u=>?_,λn hn=>?_,λ_ _=>rfl,λk _ hk=>h k (λe=>?_)⟩
  .rcases u with h0|⟨n,hn,B⟩
   .exact hk (.inl h0)
   exact hk (.inr ⟨n,(d n hn).1,B⟩)
  .obtain⟨⟨o,C⟩,A⟩:=hn;exact⟨_,by show lk n (Ay [dn] [dn] σ.objs)=_;rw[B7,BY (by rw[A];simp),C];rfl⟩
  subst e;exact hk t
 refine⟨⟨hs.frm.os,hs.frm.tape,hs.frm.output,by simpa using hs.frm.size,λk hk=>?_⟩,hs.nt,hs.defers,λp D=>?_,λn x hn=>?_,λn k z hk=>hs.free n k (d n z).1 hk,λn m k h1 g q r=>hs.dist n m k (d n h1).1 (d m g).1 q r,λs v l=>?_⟩
 .refine(h k λe=>?_).trans (hs.frm.block k hk);subst e;exact(hs.free dn k ⟨_,hl⟩ (by rw[hb];exact .inl rfl)).1 hk
 .obtain⟨F,G⟩:=E p D;obtain⟨H,I,J⟩:=hs.pin p F;exact⟨i.L p.1 ⟨H,by simp[AU,G]⟩,I,J⟩
 .have f:lk n (Ay [dn] [dn] σ.objs)=some x:=hn;have j:=(d n ⟨x,hn⟩).2;rw[B7]at f;split at f
  .cases f
  simp only[OR]at f;obtain⟨y,hy,rfl⟩:=f;refine aX i (λk hk=>h k λe=>?_) (hs.objs n y hy);subst e;exact j (hs.dist n dn k ⟨y,hy⟩ ⟨_,hl⟩ hk (by rw[hb];exact .inl rfl))
 rw[El]at l;simp only[OR]at l;obtain⟨y,hy,rfl⟩:=l;exact(UV (hs.env s y hy)).keeps i
end
def sD (P:Program) (fn:Func) (w0:World) (K O0:Nat->Prop) (stay:List Nat) (ρ0:Nat->Value) (post:AV->List (Nat×Obj)->Prop):Exit->Act->World->Prop :=
 bodyPostM (FR none) 0 P fn λe w'=>∃u,e=.returned u/\Lw K O0 stay w0 ρ0 post u w'
theorem A4E {P:Program} {tb:Tb} {f:FuncId} {fn:Func} {cd:Code} {nt:Nat} {args:List AV} {objs:List (Nat×Obj)} {stay:List Nat} {post:AV->List (Nat×Obj)->Prop}
  (c : P.funcs[f]? = some fn) (k : (fn.name == "runtime.NumGoroutine") = false) (b : fn.body = some cd) (l : fn.ntmps = nt) (q : args.length <= nt)
  (i:Bh nt cd=true) (p:stay.all (TD objs)=true) (j:Lp objs=true) (hT:DC P tb) (hF:Iq P tb)
  (h:∀(w0:World) (K O0:Nat->Prop) (ρ0:Nat->Value),(cm P tb w0 K O0 nt (stay.map λn=>(n,ρ0 n))).Ok->Pz args->OV objs ->
   Ev (cm P tb w0 K O0 nt (stay.map λn=>(n,ρ0 n))) (sD P fn w0 K O0 stay ρ0 post) (.run cd) [] ⟨A1 0 args,objs⟩):BT P f args objs stay post:=by
 refine⟨⟨fn,c,k,by simp[b]⟩,λw K O0 ρ s e g d a=>?_⟩;refine callsIn_wide.1 (callsIn_of_wp_marks (F:=FR none) (n:=0) c b trivial ?_ rfl);have r:=Iu a;rw[l];exact h w K O0 ρ ⟨e,g,hT,hF⟩ (Uh a) (Ui j λn o m=>bD (d.obj n o m)) i rfl _ _ (Vs d a p oa)
theorem Jq {P:Program} {tb:Tb} {w0:World} {K O0:Nat->Prop} {nt:Nat} {stay:List Nat} {ρ0:Nat->Value} {fn:Func} {post:AV->List (Nat×Obj)->Prop} {σ:St} {e:Exit} {dn b:Nat} (f:((cm P tb w0 K O0 nt (stay.map λn=>(n,ρ0 n))).marked dn b).Ok)
  (i:List ResultVar) (s:fn.results.toList=i) (q:e=.ret\/e=.normal) (hl:lk dn σ.objs=some .dfr) (g:AU dn stay=false) (res:AV) (h:TE tb ⟨CU [dn] σ.env,Ay [dn] [dn] σ.objs⟩ i res) (d:post res (Ay [dn] [dn] σ.objs)) :
  Ev ((cm P tb w0 K O0 nt (stay.map λn=>(n,ρ0 n))).marked dn b) (sD P fn w0 K O0 stay ρ0 post) (.out e) [] σ:=by
 intro _ _ a w hs;obtain⟨ρ,hs⟩:=hs;have m:=(hs.pin (dn,.pointer (some ⟨b,0,none⟩)) (by simp[Cx.marked])).2.1;obtain⟨h1,j⟩:=A0A f hs hl m (.deferred none) (stay.map λn=>(n,ρ0 n)) (λp d=>⟨GO _ d,λe=>by
  obtain⟨n,hn,rfl⟩:=Y1.1 d;have e:n=dn:=e;subst e;rw[(Aa _ _).2 hn]at g;cases g⟩)
 have c:CA w0 K O0 nt { ds:=[⟨.collected b,#[]⟩],pin:=stay.map λn=>(n,ρ0 n) } ⟨CU [dn] σ.env,Ay [dn] [dn] σ.objs⟩ ρ a (w.putObj b (.deferred none)):=j;obtain⟨u,k,l⟩:=Vu f.T c (fn:=fn) (by rw[s];exact h);have r:Lw K O0 stay w0 ρ0 post u (w.putObj b (.deferred none)):=by
  refine⟨res,_,ρ,d,c.frm,⟨c.objs,c.free,c.dist⟩,l,λn hn=>?_⟩;exact(c.pin (n,ρ0 n) (Y1.2 ⟨n,hn,rfl⟩)).2.1
 have o:a.defers=[⟨.collected b,#[]⟩]:=hs.defers;have key:LeavesInM (FR none) 0 P fn a.tmps (λe w'=>∃u,e=.returned u/\Lw K O0 stay w0 ρ0 post u w') a.defers .returning w:=by
  rw[o];exact⟨by simp,.inl ⟨b,_,rfl,run_takeDeferred h1,u,k,u,rfl,r⟩⟩
 rcases q with rfl|rfl
 .exact key
 exact key
end
section
open Go Go.RowKit
section
variable {c:Cx} {R:Exit->Act->World->Prop} {k:List DD} {σ σ':St}
theorem rP (a:c.Ok) {id:Nat} {l:List Oper} {vc:Prop} (b:vc) (hk:Ev c R (.out .normal) k σ') (h0:(l.all λo=>o.guard.isNone)=true:=by rfl)
  (h:Dl c.tb.live (B1 c.tb l l σ)=some (vc,σ'):=by simp only[go_sem,Nat.reduceEqDiff,reduceCtorEq,Nat.reduceAdd,Nat.reduceSub,Nat.reduceMul,Nat.reduceLeDiff,Nat.reduceLT,Int.reduceLE,Int.reduceToNat,Int.reduceNeg,↓reduceIte];rfl):Ev c R (.run (.region id l.toArray false)) k σ:=Ly _ a h0 h b hk
theorem rA (a:c.Ok) {id:Nat} {l:List Oper} {vc:Prop} (b:vc) (hk:Ev c R (.out .normal) k σ') (h0:mI l l.length=true:=by kernel_rfl)
  (h:Dl c.tb.live (Mz c.tb l true σ.objs [] l 0 [] [] σ)=some (vc,σ'):=by simp only[go_sem,Nat.reduceEqDiff,reduceCtorEq,Nat.reduceAdd,Nat.reduceSub,Nat.reduceMul,Nat.reduceLeDiff,Nat.reduceLT,Int.reduceLE,Int.reduceToNat,Int.reduceNeg,↓reduceIte];rfl):Ev c R (.run (.region id l.toArray false)) k σ:=TF _ a h0 h b hk
theorem rC {o:Operand} {x y:Code} {b:Bool} {p q:Prop} (ht:p->Ev c R (.run x) k σ) (hf:q->Ev c R (.run y) k σ) (h:Aq σ o=some (.p .bool b):=by simp only[go_sem,Nat.reduceEqDiff,reduceCtorEq,Nat.reduceAdd,Nat.reduceSub,Nat.reduceMul,Nat.reduceLeDiff,Nat.reduceLT,Int.reduceLE,Int.reduceToNat,Int.reduceNeg,↓reduceIte];rfl)
  (a:(b=true)=p:=by first|(simp only[Is,Sd,An,UO,Bool.and_eq_false_imp,AA2,Sa,ABg,UQ,AAs,ABw,Bool.not_eq_eq_eq_not,Bool.not_true,Bool.not_false,AAB,ACe,ne_eq];rfl)|rfl) (d:(b=false)=q:=by first|(simp only[Is,Sd,An,UO,Bool.and_eq_false_imp,AA2,Sa,ABg,UQ,AAs,ABw,Bool.not_eq_eq_eq_not,Bool.not_true,Bool.not_false,AAB,ACe,ne_eq];rfl)|rfl):Ev c R (.run (.cond o x y)) k σ :=
 Vh h (λe=>ht (a▸e)) (λe=>hf (d▸e))
theorem rL (a:c.Ok) {ops:List Oper} {l:List Oper} {vc:Prop} (b:vc) (hk:Ev c R (.out .normal) k σ') (h:Dl c.tb.live (B1 c.tb ops l σ)=some (vc,σ'):=by simp only[go_sem,Nat.reduceEqDiff,reduceCtorEq,Nat.reduceAdd,Nat.reduceSub,Nat.reduceMul,Nat.reduceLeDiff,Nat.reduceLT,Int.reduceLE,Int.reduceToNat,Int.reduceNeg,↓reduceIte];rfl):Lu c R k ops.toArray l σ:=Gl _ a h b hk
theorem rN (n:Nat) (a:c.Ok) {ops:List Oper} {l:List Oper} {vc:Prop} (b:vc) (hk:Lu c R k ops.toArray (l.drop n) σ') (h:B1 c.tb ops (l.take n) σ=some (vc,σ'):=by simp only[AAk,AAg,go_sem,Nat.reduceEqDiff,reduceCtorEq,Nat.reduceAdd,Nat.reduceSub,Nat.reduceMul,Nat.reduceLeDiff,Nat.reduceLT,Int.reduceLE,Int.reduceToNat,Int.reduceNeg,↓reduceIte];rfl):Lu c R k ops.toArray l σ:=Px a n (by simpa using h) b hk
theorem cP (n:Nat) (a:c.Ok) {id:Nat} {l:List Oper} {vc:Prop} (b:vc) (hk:Lu c R k l.toArray (l.drop n) σ') (h0:(l.all λo=>o.guard.isNone)=true:=by rfl) (h:B1 c.tb l (l.take n) σ=some (vc,σ'):=by simp only[AAk,AAg,go_sem,Nat.reduceEqDiff,reduceCtorEq,Nat.reduceAdd,Nat.reduceSub,Nat.reduceMul,Nat.reduceLeDiff,Nat.reduceLT,Int.reduceLE,Int.reduceToNat,Int.reduceNeg,↓reduceIte];rfl) :
  Ev c R (.run (.region id l.toArray false)) k σ:=A0p a n h0 h b hk
theorem rM (q:c.Ok) {ops:Array Oper} {rest:List Oper} {dst:Option Nat} {g:Operand} {xs:List Operand} {ts:Array TypeId} {ty:TypeId} {pos:String} {after:Array Edge}
  {f:FuncId} {d:List Nat} {as:List AV} {A:List AV} {objs:List (Nat×Obj)} {stay:List Nat} {post:AV->List (Nat×Obj)->Prop} (l:BT c.P f A objs stay post)
  (ren:List (Nat×B0)) (hs:List Nat) (j:BU σ ren (as++d.map λn=>AV.bp n [] 0) A) (m:Ad σ.objs ren objs)
  (hk:∀res e,post res e->∃(a:List (Nat×B0)) (h:AV) (b:List (Nat×Obj)),CC a=true/\CR b a=true/\Ad e a b/\Bz a res h /\
   Iv ren a stay hs=true/\FL (Aj ren) b σ.objs=true/\Lu c R k ops rest (CY σ (Aj ren) hs dst h b))
  (r:DZ (Aq σ g)=some (f,d):=by simp only[go_sem,Nat.reduceEqDiff,reduceCtorEq,Nat.reduceAdd,Nat.reduceSub,Nat.reduceMul,Nat.reduceLeDiff,Nat.reduceLT,Int.reduceLE,Int.reduceToNat,Int.reduceNeg,↓reduceIte];rfl) (o:JO σ xs=some as:=by simp only[go_sem,Nat.reduceEqDiff,reduceCtorEq,Nat.reduceAdd,Nat.reduceSub,Nat.reduceMul,Nat.reduceLeDiff,Nat.reduceLT,Int.reduceLE,Int.reduceToNat,Int.reduceNeg,↓reduceIte];rfl)
  (h1:CC ren=true:=by rfl) (i:CR objs ren=true:=by rfl) (s:(c.ds.pin.all λp=>!AU p.1 hs)=true:=by rfl) :
  Lu c R k ops (⟨dst,.call ⟨.value g,xs.toArray,ts⟩,ty,pos,after,none⟩ :: rest) σ:=A0o q r o l ren hs h1 i s j m hk
theorem rY (n yn:Nat) (m:c.Ok) {ops:Array Oper} {rest:List Oper} {dst:Option Nat} {g:Operand} {xs:List Operand} {ts:Array TypeId} {ty:TypeId} {pos:String} {after:Array Edge}
  {as:List AV} {A:List AV} {objs:List (Nat×Obj)} {stay:List Nat} {post:AV->List (Nat×Obj)->Prop} (i:WI c.P yn A objs stay post)
  (ren:List (Nat×B0)) (hs:List Nat) (h:BU σ ren as A) (j:Ad σ.objs ren objs)
  (hk:∀res d,post res d->∃(a:List (Nat×B0)) (e:AV) (b:List (Nat×Obj)),CC a=true/\CR b a=true/\Ad d a b/\Bz a res e /\
   Iv ren a stay hs=true/\FL (Aj ren) b σ.objs=true/\Lu c R k ops rest (CY σ (Aj ren) hs dst e b))
  (s:c.r=none:=by rfl) (o:f7 n (Aq σ g)=true:=by simp only[go_sem,Nat.reduceEqDiff,reduceCtorEq,Nat.reduceAdd,Nat.reduceSub,Nat.reduceMul,Nat.reduceLeDiff,Nat.reduceLT,Int.reduceLE,Int.reduceToNat,Int.reduceNeg,↓reduceIte]) (l:JO σ xs=some as:=by simp only[go_sem,Nat.reduceEqDiff,reduceCtorEq,Nat.reduceAdd,Nat.reduceSub,Nat.reduceMul,Nat.reduceLeDiff,Nat.reduceLT,Int.reduceLE,Int.reduceToNat,Int.reduceNeg,↓reduceIte];rfl)
  (t:lk yn ren=some (.nm n):=by rfl) (h1:CC ren=true:=by rfl) (f:CR objs ren=true:=by rfl) (q:(c.ds.pin.all λp=>!AU p.1 hs)=true:=by rfl) :
  Lu c R k ops (⟨dst,.call ⟨.value g,xs.toArray,ts⟩,ty,pos,after,none⟩ :: rest) σ:=wQ m s o l i ren hs t h1 f q h j hk
end
end
section
open Go Go.RowKit
section
variable {P:Program} {b:Frame} {a:Act} {k:List Item} {cs:List Frame} {w:World}
end
section
variable {c:Cx} {R:Exit->Act->World->Prop} {k:List DD} {σ:St}
end
end
section
open Go Go.RowKit
def sE:rE->List DD->Option (rE×List DD)
 | .run (.seq x y),k=>some (.run x,.seq y :: k)
 | .run .skip,k=>some (.out .normal,k)
 | .run .ret,k=>some (.out .ret,k)
 | .run (.exit id),k=>some (.out (.exit id),k)
 | .run (.block id b),k=>some (.run b,.blk id :: k)
 | .out .normal,.seq y :: k=>some (.run y,k)
 | .out .normal,.blk _ :: k=>some (.out .normal,k)
 | .out (.exit id),.seq _ :: k=>some (.out (.exit id),k)
 | .out (.exit a),.blk id :: k=>if a=id then some (.out .normal,k) else some (.out (.exit a),k)
 | .out (.exit id),.inv _ :: k=>some (.out (.exit id),k)
 | .out .ret,.seq _ :: k=>some (.out .ret,k)
 | .out .ret,.blk _ :: k=>some (.out .ret,k)
 | .out .ret,.inv _ :: k=>some (.out .ret,k)
 | _,_=>none
def WL:Nat->rE->List DD->rE×List DD
 | 0,n,k=>(n,k)
 | m+1,n,k=>match sE n k with
  | some (b,a)=>WL m b a
  | none=>(n,k)
def sG (n:rE) (k:List DD):Option (rE×List DD):=match sE n k with
 | some (b,a)=>some (WL 200 b a)
 | none=>none
section
variable {c:Cx} {R:Exit->Act->World->Prop} {σ:St}
theorem f9 {n b:rE} {k a:List DD} (e:sE n k=some (b,a)) (h:Ev c R b a σ):Ev c R n k σ:=by
 unfold sE at e;split at e<;>first
  | (cases e;done)
  | (split at e<;>(cases e;first|(rename_i d;rw[d];exact mF h)|exact mG (by assumption) h))
  | (cases e;first|exact A6U h|exact A4p h|exact A6V h|exact A4q h|exact A0d h|exact Vf h|exact mA h|exact fF h|exact fG h|exact l9 h|exact mB h|exact mC h)
theorem Y5:∀(m:Nat) {n:rE} {k:List DD},Ev c R (WL m n k).1 (WL m n k).2 σ->Ev c R n k σ
 | 0,_,_,h=>h
 | m+1,n,k,h=>by
  unfold WL at h;split at h
  .rename_i b a e;exact f9 e (Y5 m h)
  exact h
theorem eS {n b:rE} {k a:List DD} (e:sG n k=some (b,a)) (h:Ev c R b a σ):Ev c R n k σ:=by grind [sG,f9,Y5]
end
inductive RX (c:Cx) (lv:List Nat) (σ:St) (vc:Prop) (σ':St):Array Oper->Bool->Prop
 | p {l:List Oper} (h0:(l.all λo=>o.guard.isNone)=true) (h:Dl lv (B1 c.tb l l σ)=some (vc,σ')):RX c lv σ vc σ' l.toArray false
 | a {l:List Oper} (h0:mI l l.length=true) (h:Dl lv (Mz c.tb l true σ.objs [] l 0 [] [] σ)=some (vc,σ')):RX c lv σ vc σ' l.toArray false
 | d {l:List Oper} (h0:Ps l l.length=true) (hm:c.P.follows .mixedOrders=true) (h:Dl lv (Mz c.tb l false σ.objs [] l 0 [] [] σ)=some (vc,σ')):RX c lv σ vc σ' l.toArray true
 | t {l:List Oper} (m:Nat) (h0:Ps l (l.take (l.length-m)).length=true) (hm:c.P.follows .mixedOrders=true) (h:Dl lv (Mz c.tb l false σ.objs (l.drop (l.length-m)) (l.take (l.length-m)) 0 [] [] σ)=some (vc,σ')):RX c lv σ vc σ' l.toArray true
theorem A8A {c:Cx} {R:Exit->Act->World->Prop} {k:List DD} {σ σ':St} {b:List Nat} (e:c.Ok) {id:Nat} {ops:Array Oper} {i:Bool} {vc:Prop} (f:vc) (hk:Ev c R (.out .normal) k σ') (h:RX c b σ vc σ' ops i):Ev c R (.run (.region id ops i)) k σ:=by
 cases h with
 | p h0 h=>exact Ly b e h0 h f hk
 | a h0 h=>exact TF b e h0 h f hk
 | d h0 g h=>exact wG b g e h0 h f hk
 | t m h0 g h=>exact wH b m g e h0 h f hk
theorem rX {c:Cx} {R:Exit->Act->World->Prop} {k:List DD} {σ σ':St} (e:c.Ok) {id:Nat} {ops:Array Oper} {b:Bool} {vc:Prop} (f:vc) (hk:Ev c R (.out .normal) k σ')
  (h:RX c c.tb.live σ vc σ' ops b:=by
   first
   | exact .p rfl (by simp only[go_sem,Nat.reduceEqDiff,reduceCtorEq,Nat.reduceAdd,Nat.reduceSub,Nat.reduceMul,Nat.reduceLeDiff,Nat.reduceLT,Int.reduceLE,Int.reduceToNat,Int.reduceNeg,↓reduceIte];rfl)
   | exact .a (by kernel_rfl) (by simp only[go_sem,Nat.reduceEqDiff,reduceCtorEq,Nat.reduceAdd,Nat.reduceSub,Nat.reduceMul,Nat.reduceLeDiff,Nat.reduceLT,Int.reduceLE,Int.reduceToNat,Int.reduceNeg,↓reduceIte];rfl)
   | exact .d (by kernel_rfl) (by exact drawsAny) (by simp only[go_sem,Nat.reduceEqDiff,reduceCtorEq,Nat.reduceAdd,Nat.reduceSub,Nat.reduceMul,Nat.reduceLeDiff,Nat.reduceLT,Int.reduceLE,Int.reduceToNat,Int.reduceNeg,↓reduceIte];rfl)
   | exact .t 1 (by kernel_rfl) (by exact drawsAny) (by simp only[AAk,AAF,AAg,oR,go_sem,Nat.reduceEqDiff,reduceCtorEq,Nat.reduceAdd,Nat.reduceSub,Nat.reduceMul,Nat.reduceLeDiff,Nat.reduceLT,Int.reduceLE,Int.reduceToNat,Int.reduceNeg,↓reduceIte];rfl)
   | exact .t 2 (by kernel_rfl) (by exact drawsAny) (by simp only[AAk,AAF,AAg,oR,go_sem,Nat.reduceEqDiff,reduceCtorEq,Nat.reduceAdd,Nat.reduceSub,Nat.reduceMul,Nat.reduceLeDiff,Nat.reduceLT,Int.reduceLE,Int.reduceToNat,Int.reduceNeg,↓reduceIte];rfl)
   | exact .t 3 (by kernel_rfl) (by exact drawsAny) (by simp only[AAk,AAF,AAg,oR,go_sem,Nat.reduceEqDiff,reduceCtorEq,Nat.reduceAdd,Nat.reduceSub,Nat.reduceMul,Nat.reduceLeDiff,Nat.reduceLT,Int.reduceLE,Int.reduceToNat,Int.reduceNeg,↓reduceIte];rfl)):Ev c R (.run (.region id ops b)) k σ:=A8A e f hk h
theorem eN {p:Prop} (h:p:=by simp only[go_sem,Nat.reduceEqDiff,reduceCtorEq,Nat.reduceAdd,Nat.reduceSub,Nat.reduceMul,Nat.reduceLeDiff,Nat.reduceLT,Int.reduceLE,Int.reduceToNat,Int.reduceNeg,↓reduceIte]<;>fail):p:=h
theorem eM {p q:Prop} (a:q) (h:p=q:=by simp only[go_sem,Nat.reduceEqDiff,reduceCtorEq,Nat.reduceAdd,Nat.reduceSub,Nat.reduceMul,Nat.reduceLeDiff,Nat.reduceLT,Int.reduceLE,Int.reduceToNat,Int.reduceNeg,↓reduceIte];rfl):p:=h▸a
theorem eR {p:Prop} (h:p:=by simp only[Ng,Nf,KZ,KY,Mu,JJ,Jk,go_sem,Nat.reduceEqDiff,reduceCtorEq,Nat.reduceAdd,Nat.reduceSub,Nat.reduceMul,Nat.reduceLeDiff,Nat.reduceLT,Int.reduceLE,Int.reduceToNat,Int.reduceNeg,↓reduceIte]<;>fail):p:=h
theorem Y6 {p q:Prop} (a:q) (h:p=q:=by simp only[Ng,Nf,KZ,KY,Mu,JJ,Jk,go_sem,Nat.reduceEqDiff,reduceCtorEq,Nat.reduceAdd,Nat.reduceSub,Nat.reduceMul,Nat.reduceLeDiff,Nat.reduceLT,Int.reduceLE,Int.reduceToNat,Int.reduceNeg,↓reduceIte];rfl):p:=h▸a
theorem eV {p:Prop} (h:p:=by (try dsimp only[Ty.den]at *)<;>(repeat'(first|apply And.intro|intro _))<;>omega):p:=h
end
section
open Go Go.RowKit
section
variable {c:Cx} {R:Exit->Act->World->Prop} {k:List DD} {σ σ':St}
theorem A0B (d:c.Ok) {id:Nat} {l:List Oper} (n:Nat) {vc:Prop} (h:B1 c.tb l (l.take n) σ=some (vc,σ')) (f:vc) (hk:Lu c R k l.toArray (l.drop n) σ') :
  Ev c R (.run (.region id l.toArray false)) k σ:=by
 intro h1 b a w hs;simp only[HO,Bh,NO]at h1;exact ABr (Px d n (by simpa using h) f hk (λo e=>h1 o e) b a w hs)
theorem wT (E:c.Ok) {ops:Array Oper} {rest:List Oper} {dst:Option Nat} {g:Operand} {xs:List Operand} {ts:Array TypeId} {ty:TypeId} {pos:String} {after:Array Edge} {i:Option (Nat×Bool)}
  (G:FF ops.toList σ i=some true)
  {f:FuncId} {j:List Nat} (F:DZ (Aq σ g)=some (f,j)) {as:List AV} (D:JO σ xs=some as)
  {A:List AV} {objs:List (Nat×Obj)} {stay:List Nat} {post:AV->List (Nat×Obj)->Prop} (B:BT c.P f A objs stay post)
  (ren:List (Nat×B0)) (hs:List Nat) (h1:CC ren=true) (x:CR objs ren=true) (K:(c.ds.pin.all λp=>!AU p.1 hs)=true) (y:BU σ ren (as++j.map λn=>AV.bp n [] 0) A) (C:Ad σ.objs ren objs)
  (hk:∀res e,post res e->∃(b:List (Nat×B0)) (h:AV) (d:List (Nat×Obj)),CC b=true/\CR d b=true/\Ad e b d/\Bz b res h /\
   Iv ren b stay hs=true/\FL (Aj ren) d σ.objs=true/\Lu c R k ops rest (CY σ (Aj ren) hs dst h d)) :
  Lu c R k ops (⟨dst,.call ⟨.value g,xs.toArray,ts⟩,ty,pos,after,i⟩ :: rest) σ:=by
 intro hd H a w l;unfold wpListIn;rw[DO (HZ (o:=⟨dst,.call ⟨.value g,xs.toArray,ts⟩,ty,pos,after,i⟩) l G)];refine bF E (xs:=xs) (ts:=ts) rfl rfl F D B ren h1 x y C hs K l (CX (hd _ sc)) λres e J=>?_;obtain⟨b,h,d,q,r,s,t,u,v,z⟩:=hk res e J;exact⟨b,h,d,q,r,s,t,u,v,λm w' L=>z (λo I=>hd o (by simp[I])) H m w' L⟩
end
end
section
open Go Go.RowKit
section
variable {c:Cx} {ops:List Oper} {Kf:St->Prop} {τ:St} {ens:EN} {vc:Prop}
theorem Uk {A D:List Nat} {l:Nat} {b:List (List Nat×Nat)} {o:Oper} {d:St} {a:EN} (j:vc) (e:RR c o d a (λm=>zM c ops Kf b D a m)) (h:lM c.tb ops τ.objs (A++qs b D) [] τ.env=some (vc,ens):=by simp only[go_sem,Nat.reduceEqDiff,reduceCtorEq,Nat.reduceAdd,Nat.reduceSub,Nat.reduceMul,Nat.reduceLeDiff,Nat.reduceLT,Int.reduceLE,Int.reduceToNat,Int.reduceNeg,↓reduceIte];rfl) (g:P0 ens τ.objs=true:=by rfl) (i:ops[l]?=some o:=by rfl)
  (k:Ik (ens.take A.length) τ=d:=by simp only[go_sem,Nat.reduceEqDiff,reduceCtorEq,Nat.reduceAdd,Nat.reduceSub,Nat.reduceMul,Nat.reduceLeDiff,Nat.reduceLT,Int.reduceLE,Int.reduceToNat,Int.reduceNeg,↓reduceIte];rfl) (f:ens.drop A.length=a:=by simp only[go_sem,Nat.reduceEqDiff,reduceCtorEq,Nat.reduceAdd,Nat.reduceSub,Nat.reduceMul,Nat.reduceLeDiff,Nat.reduceLT,Int.reduceLE,Int.reduceToNat,Int.reduceNeg,↓reduceIte];rfl):zM c ops Kf ((A,l) :: b) D ens τ:=A0x h j g i k f e
theorem wU {R:Exit->Act->World->Prop} {k:List DD} {σ':St} (d:c.Ok) {D:List Nat} {l:List Oper} {a:Prop} (f:vc) (g:a) (hk:Ev c R (.out .normal) k σ') (h:lM c.tb ops τ.objs D [] τ.env=some (vc,ens):=by simp only[go_sem,Nat.reduceEqDiff,reduceCtorEq,Nat.reduceAdd,Nat.reduceSub,Nat.reduceMul,Nat.reduceLeDiff,Nat.reduceLT,Int.reduceLE,Int.reduceToNat,Int.reduceNeg,↓reduceIte];rfl) (e:P0 ens τ.objs=true:=by rfl)
  (b:Dl c.tb.live (B1 c.tb ops l (Ik ens τ))=some (a,σ'):=by simp only[go_sem,Nat.reduceEqDiff,reduceCtorEq,Nat.reduceAdd,Nat.reduceSub,Nat.reduceMul,Nat.reduceLeDiff,Nat.reduceLT,Int.reduceLE,Int.reduceToNat,Int.reduceNeg,↓reduceIte];rfl):zM c ops (fun τ=>Lu c R k ops.toArray l τ) [] D ens τ:=A0w h f e (Gl _ d b g hk)
end
section
variable {c:Cx} {o:Oper} {σ:St} {ens:EN} {N:St->Prop} {R:Exit->Act->World->Prop} {k:List DD} {σ':St}
theorem WM (b:c.Ok) {τ:St} {vc:Prop} (ns:List Nat) (g:vc) (a:N τ) (h:Ip c.tb o σ=some (vc,τ):=by simp only[go_sem,Nat.reduceEqDiff,reduceCtorEq,Nat.reduceAdd,Nat.reduceSub,Nat.reduceMul,Nat.reduceLeDiff,Nat.reduceLT,Int.reduceLE,Int.reduceToNat,Int.reduceNeg,↓reduceIte];rfl) (e:tn σ o.op=ns:=by simp only[go_sem,Nat.reduceEqDiff,reduceCtorEq,Nat.reduceAdd,Nat.reduceSub,Nat.reduceMul,Nat.reduceLeDiff,Nat.reduceLT,Int.reduceLE,Int.reduceToNat,Int.reduceNeg,↓reduceIte]) (f:L3 o ens=true:=by rfl) (hn:IE ns σ.objs ens=true:=by rfl) (d:TG τ.objs ens=true:=by rfl)
  (hf:IG ns ens=ens:=by simp only[go_sem,Nat.reduceEqDiff,reduceCtorEq,Nat.reduceAdd,Nat.reduceSub,Nat.reduceMul,Nat.reduceLeDiff,Nat.reduceLT,Int.reduceLE,Int.reduceToNat,Int.reduceNeg,↓reduceIte]) (hd:H8 c.nt o=true:=by rfl):RR c o σ ens N:=Y4 b ns h e f hn d hf hd g a
theorem mxF (m:Nat) (d:c.Ok) {τ a:St} {vc:Prop} (ns:List Nat) (k:vc) (b:N a) (h:Ip c.tb o σ=some (vc,τ):=by simp only[go_sem,Nat.reduceEqDiff,reduceCtorEq,Nat.reduceAdd,Nat.reduceSub,Nat.reduceMul,Nat.reduceLeDiff,Nat.reduceLT,Int.reduceLE,Int.reduceToNat,Int.reduceNeg,↓reduceIte];rfl) (i:tn σ o.op=ns:=by simp only[go_sem,Nat.reduceEqDiff,reduceCtorEq,Nat.reduceAdd,Nat.reduceSub,Nat.reduceMul,Nat.reduceLeDiff,Nat.reduceLT,Int.reduceLE,Int.reduceToNat,Int.reduceNeg,↓reduceIte]) (j:L3 o ens=true:=by rfl) (hn:IE ns σ.objs ens=true:=by rfl) (f:TG τ.objs ens=true:=by rfl)
  (hf:IG ns ens=ens:=by simp only[go_sem,Nat.reduceEqDiff,reduceCtorEq,Nat.reduceAdd,Nat.reduceSub,Nat.reduceMul,Nat.reduceLeDiff,Nat.reduceLT,Int.reduceLE,Int.reduceToNat,Int.reduceNeg,↓reduceIte]) (hd:H8 c.nt o=true:=by rfl) (g:IE [m] τ.objs ens=true:=by rfl) (e:IG [m] ens=ens:=by simp only[go_sem,Nat.reduceEqDiff,reduceCtorEq,Nat.reduceAdd,Nat.reduceSub,Nat.reduceMul,Nat.reduceLeDiff,Nat.reduceLT,Int.reduceLE,Int.reduceToNat,Int.reduceNeg,↓reduceIte]) (l:frz m τ=a:=by simp only[go_sem,Nat.reduceEqDiff,reduceCtorEq,Nat.reduceAdd,Nat.reduceSub,Nat.reduceMul,Nat.reduceLeDiff,Nat.reduceLT,Int.reduceLE,Int.reduceToNat,Int.reduceNeg,↓reduceIte];rfl):RR c o σ ens N:=A0v m (Y4 d ns h i j hn f hf hd k rfl) g e l b
theorem mxC (o:c.Ok) {dst:Option Nat} {g:Operand} {xs:List Operand} {ts:Array TypeId} {ty:TypeId} {pos:String} {after:Array Edge} {f:FuncId} {d:List Nat} {as:List AV}
  {A:List AV} {objs:List (Nat×Obj)} {stay:List Nat} {post:AV->List (Nat×Obj)->Prop} (k:BT c.P f A objs stay post) (ren:List (Nat×B0)) (hs:List Nat)
  (j:BU σ ren (as++d.map λn=>AV.bp n [] 0) A) (l:Ad σ.objs ren objs)
  (hk:∀res e,post res e->∃(b:List (Nat×B0)) (h:AV) (a:List (Nat×Obj)),CC b=true/\CR a b=true/\Ad e b a/\Bz b res h /\
   Iv ren b stay hs=true/\FL (Aj ren) a σ.objs=true/\TG a ens=true/\N (CY σ (Aj ren) hs dst h a))
  (q:DZ (Aq σ g)=some (f,d):=by simp only[go_sem,Nat.reduceEqDiff,reduceCtorEq,Nat.reduceAdd,Nat.reduceSub,Nat.reduceMul,Nat.reduceLeDiff,Nat.reduceLT,Int.reduceLE,Int.reduceToNat,Int.reduceNeg,↓reduceIte];rfl) (m:JO σ xs=some as:=by simp only[go_sem,Nat.reduceEqDiff,reduceCtorEq,Nat.reduceAdd,Nat.reduceSub,Nat.reduceMul,Nat.reduceLeDiff,Nat.reduceLT,Int.reduceLE,Int.reduceToNat,Int.reduceNeg,↓reduceIte];rfl) (h1:CC ren=true:=by rfl) (i:CR objs ren=true:=by rfl) (r:(c.ds.pin.all λp=>!AU p.1 hs)=true:=by rfl)
  (s:L3 ⟨dst,.call ⟨.value g,xs.toArray,ts⟩,ty,pos,after,none⟩ ens=true:=by rfl) (hn:IE (Aj ren) σ.objs ens=true:=by rfl) (hf:IG hs ens=ens:=by simp only[go_sem,Nat.reduceEqDiff,reduceCtorEq,Nat.reduceAdd,Nat.reduceSub,Nat.reduceMul,Nat.reduceLeDiff,Nat.reduceLT,Int.reduceLE,Int.reduceToNat,Int.reduceNeg,↓reduceIte]) (hd:H8 c.nt ⟨dst,.call ⟨.value g,xs.toArray,ts⟩,ty,pos,after,none⟩=true:=by rfl) :
  RR c ⟨dst,.call ⟨.value g,xs.toArray,ts⟩,ty,pos,after,none⟩ σ ens N:=wP o q m k ren hs h1 i r s hn hf hd j l hk
theorem evP (a:c.Ok) {id:Nat} {l:List Oper} (n:Nat) {vc:Prop} (b:vc) (hk:Lu c R k l.toArray (l.drop n) σ') (h:B1 c.tb l (l.take n) σ=some (vc,σ'):=by simp only[AAk,AAg,go_sem,Nat.reduceEqDiff,reduceCtorEq,Nat.reduceAdd,Nat.reduceSub,Nat.reduceMul,Nat.reduceLeDiff,Nat.reduceLT,Int.reduceLE,Int.reduceToNat,Int.reduceNeg,↓reduceIte];rfl):Ev c R (.run (.region id l.toArray false)) k σ:=A0B a n h b hk
theorem clG (r:c.Ok) {ops:Array Oper} {rest:List Oper} {dst:Option Nat} {g:Operand} {xs:List Operand} {ts:Array TypeId} {ty:TypeId} {pos:String} {after:Array Edge} {e:Option (Nat×Bool)} {f:FuncId} {d:List Nat} {as:List AV}
  {A:List AV} {objs:List (Nat×Obj)} {stay:List Nat} {post:AV->List (Nat×Obj)->Prop} (m:BT c.P f A objs stay post) (ren:List (Nat×B0)) (hs:List Nat) (l:BU σ ren (as++d.map λn=>AV.bp n [] 0) A) (o:Ad σ.objs ren objs)
  (hk:∀res h,post res h->∃(a:List (Nat×B0)) (i:AV) (b:List (Nat×Obj)),CC a=true/\CR b a=true/\Ad h a b/\Bz a res i /\
   Iv ren a stay hs=true/\FL (Aj ren) b σ.objs=true/\Lu c R k ops rest (CY σ (Aj ren) hs dst i b))
  (t:FF ops.toList σ e=some true:=by simp only[go_sem,Nat.reduceEqDiff,reduceCtorEq,Nat.reduceAdd,Nat.reduceSub,Nat.reduceMul,Nat.reduceLeDiff,Nat.reduceLT,Int.reduceLE,Int.reduceToNat,Int.reduceNeg,↓reduceIte]) (s:DZ (Aq σ g)=some (f,d):=by simp only[go_sem,Nat.reduceEqDiff,reduceCtorEq,Nat.reduceAdd,Nat.reduceSub,Nat.reduceMul,Nat.reduceLeDiff,Nat.reduceLT,Int.reduceLE,Int.reduceToNat,Int.reduceNeg,↓reduceIte];rfl) (q:JO σ xs=some as:=by simp only[go_sem,Nat.reduceEqDiff,reduceCtorEq,Nat.reduceAdd,Nat.reduceSub,Nat.reduceMul,Nat.reduceLeDiff,Nat.reduceLT,Int.reduceLE,Int.reduceToNat,Int.reduceNeg,↓reduceIte];rfl) (h1:CC ren=true:=by rfl) (j:CR objs ren=true:=by rfl) (u:(c.ds.pin.all λp=>!AU p.1 hs)=true:=by rfl) :
  Lu c R k ops (⟨dst,.call ⟨.value g,xs.toArray,ts⟩,ty,pos,after,e⟩ :: rest) σ:=wT r t s q m ren hs h1 j u l o hk
theorem GB (l:List Nat) {n:rE} {a:St} (hk:Ev c R n k a) (h:DN l σ=a:=by simp only[go_sem,Nat.reduceEqDiff,reduceCtorEq,Nat.reduceAdd,Nat.reduceSub,Nat.reduceMul,Nat.reduceLeDiff,Nat.reduceLT,Int.reduceLE,Int.reduceToNat,Int.reduceNeg,↓reduceIte];rfl):Ev c R n k σ:=Ev.ent hk (rJ l h λ_ _ h=>h)
theorem A8C (l:List Nat) {a:St} (b:Ent c a σ') (h:DN l σ=a:=by simp only[go_sem,Nat.reduceEqDiff,reduceCtorEq,Nat.reduceAdd,Nat.reduceSub,Nat.reduceMul,Nat.reduceLeDiff,Nat.reduceLT,Int.reduceLE,Int.reduceToNat,Int.reduceNeg,↓reduceIte];rfl):Ent c σ σ':=rJ l h b
end
theorem eW {c:Cx} {σ σ':St} (ren:List (Nat×B0)) (h1:CC ren=true:=by rfl) (a:CR σ'.objs ren=true:=by rfl) (d:Ad σ.objs ren σ'.objs:=by exact eN) (b:Fv σ.env ren σ'.env:=by exact eN) (e:A6W c.ds.pin ren=true:=by rfl):Ent c σ σ':=AD ren h1 a d b e
theorem eT {p:Prop} (h:p:=by simp only[TE,wF,RN,Yu,KZ,KY,JJ,go_sem,Nat.reduceEqDiff,reduceCtorEq,Nat.reduceAdd,Nat.reduceSub,Nat.reduceMul,Nat.reduceLeDiff,Nat.reduceLT,Int.reduceLE,Int.reduceToNat,Int.reduceNeg,↓reduceIte]<;>fail):p:=h
section
variable {P:Program} {ty:List (Nat×TI)} {fs:List (Nat×Ab)} {nt:Nat} {f:FuncId} {fn:Func} {cd:Code}
theorem fKP (a b:List Nat) (ne:List (Nat×TypeId)) {sp:Ab} (e:P.funcs[f]?=some fn) (j:fn.ntmps=nt) (hF:Iq P ⟨ty,fs,b,ne,a⟩)
  (h:∀(w0:World) (O0:Nat->Prop) (ds:KI sp.ins),(cx P ⟨ty,fs,b,ne,a⟩ w0 O0 nt).Ok->oks sp.ins ds->sp.pre ds->Ev (cx P ⟨ty,fs,b,ne,a⟩ w0 O0 nt) (Vg P fn w0 O0 (sp.out ds)) (.run cd) [] ⟨AN 0 sp.ins ds,[]⟩)
  (c : fn.body = some cd := by rfl) (hT : DC P ⟨ty, fs, b, ne, a⟩ := by exact tyTab_ok _ _ _ _) (i : (fn.name == "runtime.NumGoroutine") = false := by kernel_rfl) (g : sp.ins.length <= nt := by decide) (d : Bh nt cd = true := by kernel_rfl) : Ag P f sp := A6b e i c j g d hT hF h
theorem fK (a:List Nat) {sp:Ab} (d:P.funcs[f]?=some fn) (i:fn.ntmps=nt) (hF:Iq P ⟨ty,fs,[],[],a⟩)
  (h:∀(w0:World) (O0:Nat->Prop) (ds:KI sp.ins),(cx P ⟨ty,fs,[],[],a⟩ w0 O0 nt).Ok->oks sp.ins ds->sp.pre ds->Ev (cx P ⟨ty,fs,[],[],a⟩ w0 O0 nt) (Vg P fn w0 O0 (sp.out ds)) (.run cd) [] ⟨AN 0 sp.ins ds,[]⟩)
  (b : fn.body = some cd := by rfl) (hT : DC P ⟨ty, fs, [], [], a⟩ := by exact tyTab_ok _ _ _ _) (g : (fn.name == "runtime.NumGoroutine") = false := by kernel_rfl) (e : sp.ins.length <= nt := by decide) (c : Bh nt cd = true := by kernel_rfl) : Ag P f sp := A6b d g b i e c hT hF h
variable {args:List AV} {objs:List (Nat×Obj)} {stay:List Nat} {post:AV->List (Nat×Obj)->Prop}
theorem Nk (a b:List Nat) (ne:List (Nat×TypeId)) (e:P.funcs[f]?=some fn) (k:fn.ntmps=nt) (hF:Iq P ⟨ty,fs,b,ne,a⟩)
  (h:∀(w0:World) (K O0:Nat->Prop) (ρ0:Nat->Value),(cm P ⟨ty,fs,b,ne,a⟩ w0 K O0 nt (stay.map λn=>(n,ρ0 n))).Ok->Pz args->OV objs ->
   Ev (cm P ⟨ty,fs,b,ne,a⟩ w0 K O0 nt (stay.map λn=>(n,ρ0 n))) (A4w P fn w0 K O0 stay ρ0 post) (.run cd) [] ⟨A1 0 args,objs⟩)
  (c : fn.body = some cd := by rfl) (hT : DC P ⟨ty, fs, b, ne, a⟩ := by exact tyTab_ok _ _ _ _) (j : (fn.name == "runtime.NumGoroutine") = false := by kernel_rfl) (i : args.length <= nt := by simp only [IF, AA1]; omega) (d : Bh nt cd = true := by kernel_rfl) (l : stay.all (TD objs) = true := by rfl) (g : Lp objs = true := by rfl) : BT P f args objs stay post := A73 e j c k i d l g hT hF h
theorem fKR (a b:List Nat) (ne:List (Nat×TypeId)) (e:P.funcs[f]?=some fn) (k:fn.ntmps=nt) (hF:Iq P ⟨ty,fs,b,ne,a⟩)
  (h:∀(w0:World) (K O0:Nat->Prop) (ρ0:Nat->Value),(cm P ⟨ty,fs,b,ne,a⟩ w0 K O0 nt (stay.map λn=>(n,ρ0 n))).Ok->Pz args->OV objs ->
   Ev (cm P ⟨ty,fs,b,ne,a⟩ w0 K O0 nt (stay.map λn=>(n,ρ0 n))) (sD P fn w0 K O0 stay ρ0 post) (.run cd) [] ⟨A1 0 args,objs⟩)
  (c : fn.body = some cd := by rfl) (hT : DC P ⟨ty, fs, b, ne, a⟩ := by exact tyTab_ok _ _ _ _) (j : (fn.name == "runtime.NumGoroutine") = false := by kernel_rfl) (i : args.length <= nt := by simp only [IF, AA1]; omega) (d : Bh nt cd = true := by kernel_rfl) (l : stay.all (TD objs) = true := by rfl) (g : Lp objs = true := by rfl) : BT P f args objs stay post := A4E e j c k i d l g hT hF h
end
theorem fI {P:Program} {tb:Tb} {w0:World} {O0:Nat->Prop} {nt:Nat} (b:(cx P tb w0 O0 nt).Ok) {fn:Func} {outs:List RV} {σ:St} {e:Exit} (a:List ResultVar) (h:Ng tb σ a outs:=by exact eR) (g:fn.results.toList=a:=by rfl) (c:e=.ret\/e=.normal:=by exact .inl rfl) (f:∀r∈outs,∃t d,r=.p t d:=by simp) :
  Ev (cx P tb w0 O0 nt) (Vg P fn w0 O0 outs) (.out e) [] σ:=A71 b a g c f h
theorem fM {P:Program} {tb:Tb} {w0:World} {K O0:Nat->Prop} {nt:Nat} {stay:List Nat} {ρ0:Nat->Value} {fn:Func} {post:AV->List (Nat×Obj)->Prop} {σ:St} {e:Exit} (b:(cm P tb w0 K O0 nt (stay.map λn=>(n,ρ0 n))).Ok)
  (a:List ResultVar) (res:AV) (h:TE tb σ a res) (d:post res σ.objs) (f:fn.results.toList=a:=by rfl) (c:e=.ret\/e=.normal:=by first|exact .inl rfl|exact .inr rfl) :
  Ev (cm P tb w0 K O0 nt (stay.map λn=>(n,ρ0 n))) (A4w P fn w0 K O0 stay ρ0 post) (.out e) [] σ:=A4x b a f c res h d
end
section
open Go Go.RowKit
structure A0C (X σ:St) (n:Nat):Prop where
 env:∀s v,lk s X.env=some v->v.trn n []=v
 arr:∀m o,lk m X.objs=some o->L1 o=true
 new:∀m o,lk m X.objs=some o->lk m σ.objs=none
 nm:∀m o,lk m X.objs=some o->m≠n
section
variable {σ σ' X:St} {n:Nat}
theorem A0C.obs (hx:Q2 σ σ' X) (ha:A0C X σ n):dZ σ σ':=by
 intro m o hn;rw[hx.objs];cases a:lk m X.objs with
 | none=>exact hn
 | some b=>rw[ha.new m b a]at hn;cases hn
def A9B (σ:St):Op->Option Nat
 | .call c=>match c.callee,c.args.toList,c.argTypes.toList with
  | .builtin .append,[x,_],[_,_]=>(match Aq σ x with|some (.nin n _ _ _)=>some n|_=>none)
  | _,_,_=>none
 | _=>none
end
def A6i (n:Nat):EN->EN
 | []=>[]
 | (d,v,obs) :: r=>(d,v.trn n [],obs) :: A6i n r
section
variable {c:Cx} {o:Oper} {σ:St} {ens:EN} {N:St->Prop}
end
end
section
open Go Go.RowKit
section
variable {P:Program} {tb:Tb} {w0:World} {K O0:Nat->Prop} {nt:Nat} {ds:Fp} {σ:St} {ρ:Nat->Value} {a:Act} {w:World}
end
section
variable {c:Cx} {R:Exit->Act->World->Prop} {k:List DD} {σ:St}
end
end
section
open Go Go.RowKit
section
variable {c:Cx} {R:Exit->Act->World->Prop} {k:List DD} {σ σ':St}
end
theorem mW {p:Prop} (h:p:=by first|exact trivial|((try dsimp only[Ty.den])<;>(repeat'(first|apply And.intro|intro _))<;>omega)|((try dsimp only[Ty.den]at *)<;>(repeat'(first|apply And.intro|intro _))<;>omega)):p:=h
end
section
open Go Go.RowKit
section
variable {c:Cx} {R:Exit->Act->World->Prop} {k:List DD} {σ σ':St}
def mX (a b:Ty) (k:a.den):List (a.den×b.den)->List (a.den×b.den)
 | []=>[]
 | x :: r=>if Ii a k x.1=true then r else x :: mX a b k r
end
end
section
open Go Go.RowKit
section
variable {c:Cx} {R:Exit->Act->World->Prop} {k:List DD} {σ σ':St}
end
end
section
open Go Go.RowKit
section
variable {c:Cx} {σ:St} {ens:EN} {N:St->Prop}
end
end
section
open Go Go.RowKit
section
variable {c:Cx} {R:Exit->Act->World->Prop} {k:List DD} {σ:St}
end
end
section
open Go Go.RowKit
def siB (P:Program) (b:IntKind) (id:TypeId):Option TypeDesc->Bool
 | some (.struct ⟨[a, c]⟩) => (a.name != "_") && (c.name != "_") && a.offset == 0 && c.offset == 1 && (match P.underlying a.type with | some .string => true | _ => false) && isI b (P.underlying c.type) && P.stoodInHeld id == false && !(P.eqGuardType P.depth id)
 | _=>false
theorem A0D {P:Program} {b:IntKind} {id:TypeId} (h:siB P b id (P.underlying id)=true) (w:World) (i k:ByteArray) (j l:Int) :
  (binOp .eql id (.agg #[.string i,.int b j]) (.agg #[.string k,.int b l])).run P w=.ok (.bool (Ac i k&&(j==l))) w/\∀x y:Operand,∀u v:Array Value,(eqGuard .eql id x y (.agg u) (.agg v)).run P w=.ok () w:=by
 unfold siB at h;split at h
 .rename_i a f hu;simp only[An,UQ,ABw,Sa]at h;obtain⟨⟨⟨⟨⟨⟨⟨h1,p⟩,q⟩,r⟩,d⟩,g⟩,s⟩,t⟩:=h;have d:P.underlying a.type=some .string:=by
   split at d
   .assumption
   cases d
  have g:=VU g;have m:P.fieldsOf id=#[a,f]:=by simp[Program.fieldsOf,hu]
  refine⟨?_,λx y u v=>run_eqGuard_agg (P:=P) w .eql id x y u v t⟩;have z:P.plainKey a.type=true:=by simp[Program.plainKey,d]
  have A:P.plainKey f.type=true:=by simp[Program.plainKey,g]
  have B:∀x y:ByteArray,(Op.equalIn 9999 a.type (.string x) (.string y)).run P w=.ok (x.toList==y.toList) w:=λx y=>run_equalIn_string w 9998 _ x y d;have n:∀x y:Int,(Op.equalIn 9999 f.type (.int b x) (.int b y)).run P w=.ok (x==y) w:=λx y=>Ll g 9998 x y;have e:(Op.equalIn 10000 id (.agg #[.string i,.int b j]) (.agg #[.string k,.int b l])).run P w=_:=run_equalIn_struct (P:=P) w 9999 id _ _ (by rw[m];exact hu) s;rw[run_eql_struct,e,m];have p0:=λ(u v:Value)=>ABq (P:=P) w z (xs:=#[u,v]) (off:=a.offset) (v:=u) (by rw[q];rfl);have o:=λ(u v:Value)=>ABq (P:=P) w A (xs:=#[u,v]) (off:=f.offset) (v:=v) (by rw[r];rfl);unfold Ac;simp only[Op.eqFields,h1,p,ne_eq,not_false_eq_true,AAd,AAm,p0,o,tO,B,n];by_cases c:i.toList=k.toList
  .by_cases c2:j=l<;>simp[c,c2,AC4,AAm,o,n,Op.eqFields]
  simp[c,AC4]
 cases h
theorem sH {w:World} {O:Nat->Prop} {b:IntKind} {v:Value} {d:(Ty.agg (.prod .str (.int b))).den} (h:BV w O (.agg (.prod .str (.int b))) v d):v=.agg #[.string d.1,.int b d.2]:=by
 obtain⟨cs,⟨c1,c2,rfl,⟨rfl,_⟩,⟨rfl,_⟩⟩,rfl⟩:=h;rfl
section
variable {c:Cx} {R:Exit->Act->World->Prop} {k:List DD} {σ σ':St}
theorem A9D (m:c.Ok) {ops:Array Oper} {rest:List Oper} {d:Nat} {t E:TypeId} {x y:Operand} {ty:TypeId} {pos:String} {after:Array Edge} {j:IntKind} {xv r:AV} {b f:ByteArray×Int}
  (C:siB c.P j t (c.P.underlying t)=true) (hk:Lu c R k ops rest ⟨(d,.p .bool (Ac b.1 f.1&&b.2==f.2)) :: σ.env,σ.objs⟩) (hx:Aq σ x=some xv:=by simp only[go_sem,Nat.reduceEqDiff,reduceCtorEq,Nat.reduceAdd,Nat.reduceSub,Nat.reduceMul,Nat.reduceLeDiff,Nat.reduceLT,Int.reduceLE,Int.reduceToNat,Int.reduceNeg,↓reduceIte];rfl) (hy:Aq σ y=some r:=by simp only[go_sem,Nat.reduceEqDiff,reduceCtorEq,Nat.reduceAdd,Nat.reduceSub,Nat.reduceMul,Nat.reduceLeDiff,Nat.reduceLT,Int.reduceLE,Int.reduceToNat,Int.reduceNeg,↓reduceIte];rfl)
  (s:NR false σ (.agg (.prod .str (.int j))) xv=some b:=by simp only[go_sem,Nat.reduceEqDiff,reduceCtorEq,Nat.reduceAdd,Nat.reduceSub,Nat.reduceMul,Nat.reduceLeDiff,Nat.reduceLT,Int.reduceLE,Int.reduceToNat,Int.reduceNeg,↓reduceIte];rfl) (z:NR false σ (.agg (.prod .str (.int j))) r=some f:=by simp only[go_sem,Nat.reduceEqDiff,reduceCtorEq,Nat.reduceAdd,Nat.reduceSub,Nat.reduceMul,Nat.reduceLeDiff,Nat.reduceLT,Int.reduceLE,Int.reduceToNat,Int.reduceNeg,↓reduceIte];rfl) :
  Lu c R k ops (⟨some d,.binOp .eql t x y E,ty,pos,after,none⟩ :: rest) σ:=by
 intro hd A a w D;unfold wpListIn;rw[DO (by simp[Region.wanted])];obtain⟨ρ,i⟩:=D;have n:HX (vw w c.O0 σ ρ) σ a.eval:=Fs i.env;have G:d<c.nt:=CX (hd _ gO) d rfl;have h1:=LB (V:=vw w c.O0 σ ρ) (O':=own c.O0 σ ρ) (λ_ h=>h) (λh=>by cases h) i.objs s (n x _ hx);have l:=LB (V:=vw w c.O0 σ ρ) (O':=own c.O0 σ ρ) (λ_ h=>h) (λh=>by cases h) i.objs z (n y _ hy);have h1:a.eval x=.agg #[.string b.1,.int j b.2]:=sH h1;have l:a.eval y=.agg #[.string f.1,.int j f.2]:=sH l;obtain⟨q,g⟩:=A0D C w b.1 f.1 b.2 f.2;have g:=g x y #[.string b.1,.int j b.2] #[.string f.1,.int j f.2];rw[<-h1,<-l]at q g;refine Az (u:=.bool (Ac b.1 f.1&&b.2==f.2)) (w':=w) (by simp[execOp,g,q]) (hk (λo B=>hd o (by simp[B])) A _ _ ⟨ρ,?_⟩);refine i.add m.K m.O (dst:=some d) (λF e=>by injection e with e;omega) (v:=.p .bool (Ac b.1 f.1&&b.2==f.2)) (obs:=[]) (ρ':=ρ) rfl (QS.still ?_);exact⟨[.bool (Ac b.1 f.1&&b.2==f.2)],rfl,rfl⟩
end
end
section
open Go Go.RowKit
theorem RW {P:Program} {tb:Tb} {w0:World} {K O0:Nat->Prop} {nt:Nat} {stay:List Nat} {ρ0:Nat->Value} {fn:Func} {post:AV->List (Nat×Obj)->Prop} {σ:St} {e:Exit} (d:(cm P tb w0 K O0 nt (stay.map λn=>(n,ρ0 n))).Ok)
  (b:List ResultVar) (k:fn.results.toList=b) (g:e=.ret\/e=.normal) (res:AV) (h:TE tb σ b res) (i:post res σ.objs) :
  Ev (cm P tb w0 K O0 nt (stay.map λn=>(n,ρ0 n))) (sD P fn w0 K O0 stay ρ0 post) (.out e) [] σ:=by
 intro _ _ a w hs;obtain⟨ρ,hs⟩:=hs;obtain⟨u,h1,c⟩:=Vu d.T hs (by rw[k];exact h);have j:Lw K O0 stay w0 ρ0 post u w:=by
  refine⟨res,σ.objs,ρ,i,hs.frm,⟨hs.objs,hs.free,hs.dist⟩,c,λn hn=>?_⟩;exact(hs.pin (n,ρ0 n) (Y1.2 ⟨n,hn,rfl⟩)).2.1
 have f:a.defers=[]:=hs.defers;have key:LeavesInM (FR none) 0 P fn a.tmps (λe w'=>∃u,e=.returned u/\Lw K O0 stay w0 ρ0 post u w') a.defers .returning w:=by
  rw[f];exact⟨u,h1,u,rfl,j⟩
 rcases g with rfl|rfl
 .exact key
 exact key
section
variable {c:Cx} {R:Exit->Act->World->Prop} {k:List DD} {σ σ':St}
theorem cG (n:Nat) (d:c.Ok) {id:Nat} {l:List Oper} {vc:Prop} (f:vc) (hk:Lu c R k l.toArray (l.drop n) σ') (h:B1 c.tb l (l.take n) σ=some (vc,σ'):=by simp only[AAk,AAg,go_sem,Nat.reduceEqDiff,reduceCtorEq,Nat.reduceAdd,Nat.reduceSub,Nat.reduceMul,Nat.reduceLeDiff,Nat.reduceLT,Int.reduceLE,Int.reduceToNat,Int.reduceNeg,↓reduceIte];rfl) :
  Ev c R (.run (.region id l.toArray false)) k σ:=by
 intro h1 b a w hs;simp only[HO,Bh,NO]at h1;exact ABr (Px d n (by simpa using h) f hk (λo e=>h1 o e) b a w hs)
end
end
section
open Go Go.RowKit
theorem sI {O:Nat->Prop} {σ:St} {ρ ρ':Nat->Value} {b:Nat} (h:¬own O σ ρ b):¬own O ⟨[],[]⟩ ρ' b:=by
 rintro (q|⟨n,⟨o,a⟩,-⟩)
 .exact h (.inl q)
 cases a
theorem Jr {w:World} {O:Nat->Prop} {ρ:Nat->Value} {t:Ty} {v:Value} {d:t.den} (h:BV w O t v d):B2 (vw w O ⟨[],[]⟩ ρ) (.p t d) v:=by
 refine BV.mono (λb _ q=>?_) (λ_ _ _=>rfl) h;rintro (c|⟨n,⟨o,a⟩,-⟩)
 .exact q c
 cases a
theorem gC {w:World} {O:Nat->Prop} {σ:St} {ρ ρ':Nat->Value}:∀ {outs:List RV} {nm:Nat} {a:List Value},(∀r∈outs,∃t d,r=.p t d)->H5 (vw w O σ ρ) (Im nm outs) a->H5 (vw w O ⟨[],[]⟩ ρ') (Im nm outs) a
 | [],_,_,_,h=>h
 | r :: l,nm,a,c,h=>by
  obtain⟨t,d,rfl⟩:=c r sc;obtain⟨v,l',rfl,h1,e⟩:=h;exact⟨v,l',rfl,BV.mono (λb _ q=>sI q) (λ_ _ _=>rfl) (show BV _ _ t v d from h1),gC (λr f=>c r (GO _ f)) e⟩
theorem TJ:∀ {outs:List RV} {nm:Nat},(∀r∈outs,∃t d,r=.p t d)->DB nm outs=[]
 | [],_,_=>rfl
 | r :: l,nm,a=>by
  obtain⟨t,d,rfl⟩:=a r sc;exact TJ (outs:=l) (λr b=>a r (GO _ b))
theorem WN:∀ {outs:List RV} {nm nm':Nat},(∀r∈outs,∃t d,r=.p t d)->Im nm outs=Im nm' outs
 | [],_,_,_=>rfl
 | r :: l,nm,nm',a=>by
  obtain⟨t,d,rfl⟩:=a r sc;show AV.p t d :: _=AV.p t d :: _;rw[WN (outs:=l) λr b=>a r (GO _ b)]
theorem mY {w:World} {O:Nat->Prop} {σ:St} {ρ ρ':Nat->Value} {nm:Nat} {u:Value}:∀ {outs:List RV},(∀r∈outs,∃t d,r=.p t d)->B2 (vw w O σ ρ) (Hy 0 outs) u->B2 (vw w O ⟨[],[]⟩ ρ') (Hy nm outs) u
 | [],_,h=>h
 | [r],a,h=>by
  obtain⟨t,d,rfl⟩:=a r sc;exact BV.mono (λb _ q=>sI q) (λ_ _ _=>rfl) (show BV _ _ t u d from h)
 | r :: q :: l,a,h=>by
  obtain⟨c,rfl,h1⟩:=h;refine⟨c,rfl,?_⟩;have h1:H5 (vw w O σ ρ) (Im 0 (r :: q :: l)) c:=h1;rw[WN (nm':=nm) a]at h1;exact gC a h1
theorem Nl {P : Program} {f : FuncId} {sp : Ab} (hf : ∃ fn : Func, P.funcs[f]? = some fn /\ (fn.name == "runtime.NumGoroutine") = false /\ fn.body.isNone = false)
  (h:∀ds,sp.pre ds->∃args,(∀w O c,Pc w O sp.ins c ds->Ij (vw w O ⟨[],[]⟩ λ_=>undef) args c)/\BT P f args [] [] (λres _=>res=Hy 0 (sp.out ds)))
  (g:∀ds,∀r∈sp.out ds,∃t d,r=.p t d):Ag P f sp:=by
 refine⟨hf,λw O c ds i y s=>?_⟩;obtain⟨args,ha,-,k⟩:=h ds s;have h1:=k w (λb=>b<w.heap.size) O (λ_=>undef) c (λb q=>q) i ⟨λn o q=>(by cases q),λn b q=>(by obtain⟨o,q⟩:=q;cases q),λn m b q=>(by obtain⟨o,q⟩:=q;cases q)⟩ (ha w O c y);refine h1.mono λe w' v=>?_;obtain⟨u,l,res,B,ρ',x,a,z,j,-⟩:=v;refine⟨u,l,λnm=>⟨λ_=>undef,?_⟩⟩;subst x;have hx:=mY (ρ':=λ_=>undef) (nm:=nm) (g ds) j;rw[TJ (g ds)];exact⟨⟨a.os,a.tape,a.output,a.size,λb q=>a.block b q⟩,λ_ _=>rfl,hx,λn o q=>(by cases q),λn o b q=>(by cases q),λn m o A b q=>(by cases q)⟩
end
section
open Go Go.RowKit
def Hd (a:List (List Nat×Nat×List Nat)) (D:List Nat):List Nat:=(a.flatMap (·.1))++D
def L4 (ops:List Oper) (anc:List (List Nat)) (p0:Nat):List Nat->List (List Nat×Nat×List Nat)->List Nat->Bool
 | L,[],D=>RQ ops anc p0 L [] D
 | L,(A,l,N) :: a,D=>qB1 ops anc L (A++Hd a D) (A++Hd a D) []&&(match ops[l]? with
   | some o=>o.guard.isNone&&((DF o).all λe=>AU e L||AU e A)&&(A.all λj=>AU j (anc.getD l []))&&!AU l L&&!AU l (A++Hd a D)
   | none=>false)&&(a.all λp=>AU l (anc.getD p.2.1 [])&&p.2.2.all λj=>AU l (anc.getD j []))&&(N.all λj=>AU l (anc.getD j []))&&L4 ops anc p0 (l :: (A++L)) a (D++N)
def bL (c:Cx) (ops:List Oper) (Kf:St->Prop):List (List Nat×Nat×List Nat)->List Nat->EN->St->Prop
 | [],D,ens,τ=>zM c ops Kf [] D ens τ
 | (A,l,N) :: a,D,ens,τ=>A4z c.tb ops (A++Hd a D) ens τ/\∃o,ops[l]?=some o/\RR c o (Ik (ens.take A.length) τ) (ens.drop A.length) (λb=>∃ex,bL c ops Kf a (D++N) (ens.drop A.length++ex) b)
theorem Gp (A:List Nat) (l:Nat) (N:List Nat) (a:List (List Nat×Nat×List Nat)) (D:List Nat):Hd ((A,l,N) :: a) D=A++Hd a D:=by simp[Hd]
theorem Ul (a:List (List Nat×Nat×List Nat)) (D N:List Nat):Hd a (D++N)=Hd a D++N:=by simp[Hd]
structure A75 (ops:List Oper) (anc:List (List Nat)) (p0:Nat) (L:List Nat) (ps:List (List Nat×Nat×List Nat)) (D:List Nat):Prop where
 all:∀i,i<p0->i∈L\/i∈Hd ps D\/i∈ps.map (·.2.1)\/∃p∈ps,i∈p.2.2
 back:∀i,p0<=i->i<ops.length->∀j,j<i->j∈anc.getD i []
 L:∀i∈L,i<p0
 Q:∀i∈Hd ps D,i<p0
 lo:∀p∈ps,p.2.1<p0
 p0:p0<=ops.length
theorem RY {ops:List Oper} {anc:List (List Nat)} {p0:Nat} {L D:List Nat} (h:L4 ops anc p0 L [] D=true):QOk ops anc L D/\(∀i,i<p0->i∈L\/i∈D)/\L.length+D.length=p0/\p0<=ops.length/\(∀i∈L,i<p0)/\(∀i∈D,i<p0)/\(∀i,p0<=i->i<ops.length->∀j,j<i->j∈anc.getD i []):=QA h
theorem IH {ops:List Oper} {anc:List (List Nat)} {p0:Nat} {L D A:List Nat} {l:Nat} {N:List Nat} {b:List (List Nat×Nat×List Nat)} (h:L4 ops anc p0 L ((A,l,N) :: b) D=true):QOk ops anc L (A++Hd b D)/\(∃o,ops[l]?=some o/\o.guard=none/\(∀e∈DF o,e∈L\/e∈A))/\(∀j∈A,j∈anc.getD l [])/\l∉L/\l∉A++Hd b D/\(∀p∈b,l∈anc.getD p.2.1 []/\∀j∈p.2.2,l∈anc.getD j [])/\(∀j∈N,l∈anc.getD j [])/\L4 ops anc p0 (l :: (A++L)) b (D++N)=true:=by
 simp only[L4,An,NO,Aa]at h;obtain⟨⟨⟨⟨h1,a⟩,m⟩,q⟩,n⟩:=h;cases f:ops[l]? with
 | none=>rw[f]at a;cases a
 | some o =>
  rw[f]at a;simp only[An,NO,UO,Aa,Sa,AA3]at a;obtain⟨⟨⟨⟨g,i⟩,k⟩,c⟩,d⟩:=a;exact⟨qOk h1,⟨o,rfl,g,i⟩,k,λh=>(by rw[(Aa _ _).2 h]at c;cases c),λh=>(by rw[(Aa _ _).2 h]at d;cases d),m,q,n⟩
theorem RZ {ops:List Oper} {anc:List (List Nat)} {p0:Nat}:∀ {c:List (List Nat×Nat×List Nat)} {L D:List Nat},L4 ops anc p0 L c D=true->A75 ops anc p0 L c D
 | [],L,D,h=>by
  obtain⟨_,h1,j,d,e,f,g⟩:=RY h;refine⟨λi hi=>?_,g,e,by simpa[Hd] using f,by simp,d⟩;grind [Hd]
 | (A,l,N) :: c,L,D,h=>by
  obtain⟨_,_,_,_,_,_,_,h1⟩:=IH h;have a:=RZ h1;refine⟨λi hi=>?_,a.back,λi hi=>a.L i (by simp[hi]),λi hi=>?_,λp b=>?_,a.p0⟩
  .rcases a.all i hi with h|h|h|⟨p,b,h⟩
   .grind [Gp]
   .rw[Ul,Do]at h;rcases h with h|h
    .exact .inr (.inl (by rw[Gp];exact AAu _ h))
    exact .inr (.inr (.inr ⟨_,gO,h⟩))
   .exact .inr (.inr (.inl (by simp only[Sj,At];exact .inr h)))
   exact .inr (.inr (.inr ⟨p,GO _ b,h⟩))
  .rw[Gp,Do]at hi;rcases hi with hi|hi
   .exact a.L i (by simp[hi])
   exact a.Q i (by rw[Ul];exact UM _ hi)
  rcases At.1 b with rfl|b
  .exact a.L l sc
  exact a.lo p b
section
variable {c:Cx} {ops:Array Oper} {anc:List (List Nat)} {p0:Nat} {Kf:St->Prop} {Qe:Exit->Act->World->Prop}
theorem bM {a:List (List Nat×Nat×List Nat)} {L D:List Nat} {ens:EN} {τ:St} (b:L4 ops.toList anc p0 L a D=true) (d:bL c ops.toList Kf a D ens τ):Fr c.tb ops.toList anc L (Hd a D) ens τ:=by
 cases a with
 | nil =>
  have:Hd [] D=D:=rfl;rw[this];exact Yz (RY b).1 d.1
 | cons p a =>
  obtain⟨A,l,N⟩:=p;rw[Gp];exact Yz (IH b).1 d.1
theorem WO (x:P6 ops anc) {a:List (List Nat×Nat×List Nat)} {L D:List Nat} {ex:List Nat} {listed:Array Bool} (w:L4 ops.toList anc p0 L a D=true) (v:QOk ops.toList anc L (Hd a D)) (u:∀i∈ex,i∈Hd a D) (G:listed.size=ops.size)
  (hl:∀i,i<ops.size->(listed.getD i true=true↔i∈L\/i∈ex)) (hf:¬(a=[]/\∀i∈Hd a D,i∈ex)):∃i,i∈Region.ready .any ops listed:=by
 have B:∀e b,e<ops.size->listed.getD e b=listed.getD e true:=λe b c=>by grind
 have mk:∀i o,ops[i]?=some o->i∉L->i∉ex->(∀e∈DF o,e∈L\/e∈ex)->i∈Region.ready .any ops listed:=by
  intro i o f h1 k C;have H:i<ops.size:=(Sg.1 f).1;rw[CS];refine⟨?_,o,f,λe c=>?_⟩
  .grind
  have E:=x.lt i o f e c;grind
 by_cases t:∀i∈Hd a D,i∈ex
 .cases a with
  | nil=>exact absurd ⟨rfl,t⟩ hf
  | cons p a =>
   obtain⟨A,l,N⟩:=p;rw[Gp]at t u;obtain⟨_,⟨o,f,_,hd⟩,_,h1,k,_,_,_⟩:=IH w;refine⟨l,mk l o (by simpa using f) h1 (λh=>k (u l h)) λe c=>?_⟩;rcases hd e c with h|h
   .exact .inl h
   grind
 have key:∀(n j:Nat),j<=n->(∃i,(Hd a D)[j]?=some i/\i∉ex)->∃i,i∈Region.ready .any ops listed:=by
  intro n;induction n with
  | zero =>
   rintro j s ⟨i,hi,d⟩;have:j=0:=by omega
   subst this;obtain⟨m,o,q,_,r,_⟩:=v.pos 0 i hi;refine⟨i,mk i o (by simpa using q) m d λe c=>?_⟩;rcases r e c with h|h
   .exact .inl h
   simp at h
  | succ n z =>
   rintro j s ⟨i,hi,d⟩;by_cases y:∃g,g<j/\∃i',(Hd a D)[g]?=some i'/\i'∉ex
   .obtain⟨g,h1,k⟩:=y;exact z g oa k
   obtain⟨m,o,q,_,r,_⟩:=v.pos j i hi;refine⟨i,mk i o (by simpa using q) m d λe c=>?_⟩;rcases r e c with h|h
   .exact .inl h
   right;obtain⟨g,F⟩:=Sn.1 h;grind
 have:∃i,i∈Hd a D/\i∉ex:=by grind
 obtain⟨i,hi,d⟩:=this;obtain⟨j,s⟩:=Sn.1 hi;exact key j j (No _) ⟨i,s,d⟩
theorem WP (G:P6 ops anc) (hT:∀τ,Kf τ->∀a w,c.sat τ a w->wpListIn (FR c.r) 0 c.P ops Qe (ops.toList.drop p0) a w) {m:Nat} {L D:List Nat} {ens:EN} {τ:St} {ex:List Nat} {listed:Array Bool} {a:Act} {w:World}
  (C:L4 ops.toList anc p0 L [] D=true) (g:bL c ops.toList Kf [] D ens τ) (K:(L++ex).Nodup) (b:∀i∈ex,i∈D) (V:m+L.length+ex.length=ops.size) (I:listed.size=ops.size) (hl:∀i,i<ops.size->(listed.getD i true=true↔i∈L\/i∈ex))
  (hs:c.sat (Am ops.toList (JQ D ens) τ ex) a w) (d:∀i∈D,i∈ex):wpAnyIn (FR c.r) 0 c.P .any ops Qe m listed a w:=by
 obtain⟨q,h1,R,y,S,T,z⟩:=RY C;have hF:=Yz q g.1;have U:ex.length=D.length:=AAy (Fx (iN.1 K).2.1 b) (Fx q.nodup d);have J:m=(ops.toList.drop p0).length:=by grind
 have E:Ik ens τ=Am ops.toList (JQ D ens) τ D.reverse:=by
  have:=QB (ops:=ops.toList) (en:=JQ D ens) (τ:=τ) (pre:=[]) hF.len (λj i e A B=>by
   obtain⟨o,O,_,f,u,x,_⟩:=hF.at_ j i A;rw[B]at f;cases f;exact⟨u,x⟩)
  simpa[Am] using this
 have N:c.sat (Ik ens τ) a w:=by
  rw[E];have t:∀i∈D.reverse,i∈D:=λi hi=>by simpa using hi
  have l:∀i,i∈ex↔i∈D.reverse:=λi=>⟨λh=>by simpa using b i h,λh=>d i (by simpa using h)⟩;refine OU (λs=>ABx λv=>?_) (λn=>ABx λo=>?_) hs
  .rw[rV hF.own t,rV hF.own b];simp only[l]
  rw[rW hF.own t,rW hF.own b];simp only[l]
 have:=M3 (Q:=Qe) (F:=FR c.r) (P:=c.P) G (k:=p0) (λi o M hi j H=>z i hi (by have:=(Sg.1 M).1;simpa using this) j H) (rest:=ops.toList.drop p0) (p:=p0) (listed:=listed) (a:=a) (w:=w) rfl (No _) (by simpa using y) I
  (λi hi=>by
   rw[hl i hi];constructor
   .grind
   intro h;rcases h1 i h with h|h
   .exact .inl h
   exact .inr (d i h)) (hT _ g.2 a w N)
 rw[J];exact this
theorem A0E (ci:c.Ok) (bz:∀o∈ops.toList,H8 c.nt o=true) (aa:P6 ops anc) (hT:∀τ,Kf τ->∀a w,c.sat τ a w->wpListIn (FR c.r) 0 c.P ops Qe (ops.toList.drop p0) a w) :
  ∀(m:Nat) (f:List (List Nat×Nat×List Nat)) (L D:List Nat) (ens:EN) (τ:St) (ex:List Nat) (listed:Array Bool) (a:Act) (w:World),L4 ops.toList anc p0 L f D=true->bL c ops.toList Kf f D ens τ->(L++ex).Nodup->(∀i∈ex,i∈Hd f D) ->
   m+L.length+ex.length=ops.size->listed.size=ops.size->(∀i,i<ops.size->(listed.getD i true=true↔i∈L\/i∈ex))->(∀i o,ops[i]?=some o->(i∈L\/i∈ex)->∀e∈DF o,e∈L\/e∈ex) ->
   c.sat (Am ops.toList (JQ (Hd f D) ens) τ ex) a w->wpAnyIn (FR c.r) 0 c.P .any ops Qe m listed a w:=by
 intro m;induction m with
 | zero =>
  intro f L D ens τ ex listed a w B R H z aw T hl ad hs;have hF:=bM B R;by_cases hf:f=[]/\∀i∈Hd f D,i∈ex
  .obtain⟨rfl,ap⟩:=hf;exact WP aa hT B R H z aw T hl hs ap
  exfalso;obtain⟨i,hi⟩:=WO aa B hF.q z T hl hf;rw[CS]at hi;obtain⟨h1,o,C,_⟩:=hi;have W:i<ops.size:=(Sg.1 C).1;have I:i∉L++ex:=λh=>by grind
  have M:=RZ B;have:=DY ops.size (i :: (L++ex)) (UN.2 ⟨I,H⟩) (λj d=>by
   have U:=M.p0;simp only[ABs]at U;rcases At.1 d with rfl|d
   .exact W
   rcases Do.1 d with d|d
   .have:=M.L j d;omega
   have:=M.Q j (z j d);omega)
  grind
 | succ m bl =>
  intro f L D ens τ ex listed a w B R H z aw T hl ad hs;have hF:=bM B R;have M:=RZ B;have bp:∀e b,e<ops.size->listed.getD e b=listed.getD e true:=λe b E=>by grind
  by_cases hf:f=[]/\∀i∈Hd f D,i∈ex
  .obtain⟨rfl,ap⟩:=hf;exact WP aa hT B R H z aw T hl hs ap
  refine⟨λcw=>?_,λi hi=>?_⟩
  .obtain⟨i,hi⟩:=WO aa B hF.q z T hl hf;grind
  rw[CS]at hi;obtain⟨h1,o,C,cr⟩:=hi;have W:i<ops.size:=(Sg.1 C).1;have I:¬(i∈L\/i∈ex):=λh=>by rw[(hl i W).2 h]at h1;cases h1
  have bb:∀e∈DF o,e∈L\/e∈ex:=λe E=>by grind
  have ab:∀j∈anc.getD i [],j∈L\/j∈ex:=by
   have cu:∀i o,ops[i]?=some o->listed.getD i true=true->∀e∈DF o,listed.getD e false=true:=by
    intro i o C h1 e E;have W:i<ops.size:=(Sg.1 C).1;have X:=aa.lt i o C e E;rw[bp e false oa];exact(hl e oa).2 (ad i o C ((hl i W).1 h1) e E)
   grind [Lz]
  have af:ops.toList[i]?=some o:=by simpa using C
  have cg:o∈ops.toList:=UR af;have bx:=CX (bz o cg);have bf:∀(S:List Nat),(∀j,j∈S↔j=i\/j∈L\/j∈ex)->∀j,j<ops.size->((listed.setIfInBounds i true).getD j true=true↔j∈S):=by
   intro S bv j d;have ce:j<listed.size:=by omega
   rw[bv];by_cases av:j=i
   .subst av;simp[Array.getD,ce]
   have X:(listed.setIfInBounds i true).getD j true=listed.getD j true:=getD_set_ne true (λe=>av e.symm);rw[X,hl j d];simp[av]
  have bk:∀ {g:Option (Nat×Bool)},g=none->o.guard=g->Region.wanted o (yielded ops a.tmps)=true:=by
   intro g ar e;simp[Region.wanted,e,ar]
  by_cases ae:i∈Hd f D
  .obtain⟨j,d⟩:=Sn.1 ae;obtain⟨_,cz,bg,ar,_,_⟩:=hF.q.pos j i d;rw[af]at bg;cases bg;unfold wpOpIn;rw[C];simp only;rw[DO (bk rfl ar)];refine Vy ci hF z d af (λh=>I (.inr h)) (λk hk cf=>?_) bx hs λaj w' cj=>?_
   .rcases ab k hk with h|h
    .obtain⟨u,O⟩:=Sn.1 cf;exact absurd h (hF.q.pos u k O).1
    exact h
   refine bl f L D ens τ (i :: ex) _ aj w' B R ?_ (λk hk=>?_) (by simp only[IF];omega) (by simpa using T) (λk hk=>?_) (λi' V F au e E=>?_) cj
   .rw[iN]at H ⊢;refine⟨H.1,UN.2 ⟨λh=>I (.inr h),H.2.1⟩,λx hx y hy=>?_⟩;rcases At.1 hy with rfl|hy
    .exact λe=>I (.inl (e▸hx))
    exact H.2.2 x hx y hy
   .rcases At.1 hk with rfl|hk
    .exact ae
    exact z k hk
   .rw[bf (i :: (L++ex)) (λj=>by simp) k hk];simp only[At,Do];constructor
    .rintro (h|h|h)
     .exact .inr (.inl h)
     .exact .inl h
     exact .inr (.inr h)
    rintro (h|h|h)
    .exact .inr (.inl h)
    .exact .inl h
    exact .inr (.inr h)
   have:e∈L\/e∈ex:=by
    rcases au with h|h
    .exact ad i' V F (.inl h) e E
    rcases At.1 h with rfl|h
    .rw[C]at F;cases F;exact bb e E
    exact ad i' V F (.inr h) e E
   rcases this with h|h
   .exact .inl h
   exact .inr (by simp[h])
  . -- no operation of the front
   have cx:¬p0<=i:=by
    intro cb;have hb:=M.back i cb (by simpa using W);cases f with
    | nil =>
     refine hf ⟨rfl,λj d=>?_⟩;have X:=M.Q j d;rcases ab j (hb j oa) with h|h
     .obtain⟨u,O⟩:=Sn.1 d;exact absurd h (hF.q.pos u j O).1
     exact h
    | cons p f =>
     obtain⟨A,l,N⟩:=p;obtain⟨_,_,_,am,an,_,_,_⟩:=IH B;have X:=M.lo (A,l,N) sc;simp only at X;rcases ab l (hb l oa) with h|h
     .exact am h
     exact an (by rw[<-Gp A l N];exact z l h)
   cases f with
   | nil =>
    rcases M.all i oa with h|h|h|⟨p,h,_⟩
    .exact absurd (.inl h) I
    .exact absurd h ae
    .cases h
    cases h
   | cons p f =>
    obtain⟨A,l,N⟩:=p;obtain⟨_,⟨ol,bh,cc,cv⟩,bs,am,an,ay,bq,ba⟩:=IH B;have cd:i=l:=by
     have ax:¬l∈anc.getD i []:=λq=>by
      rcases ab l q with h|h
      .exact absurd h am
      exact absurd (z l h) (by rw[Gp];exact an)
     rcases M.all i oa with h|h|h|⟨p,U,h⟩
     .exact absurd (.inl h) I
     .exact absurd h ae
     .simp only[Sj,At,Y1]at h;rcases h with h|⟨p,U,rfl⟩
      .exact h
      exact absurd (ay p U).1 ax
     rcases At.1 U with rfl|U
     .exact absurd (bq i h) ax
     exact absurd ((ay p U).2 i h) ax
    subst cd;rw[af]at bh;cases bh;rw[Gp]at hF z hs ae;obtain⟨ct,V,F,bu⟩:=R;rw[af]at F;cases F;have Y:∀j∈A,j∈ex:=λj d=>by
     rcases ab j (bs j d) with h|h
     .obtain⟨u,O⟩:=Sn.1 (show j∈A++Hd f D by simp[d]);exact absurd h (hF.q.pos u j O).1
     exact h
    have az:A.Nodup/\(Hd f D).Nodup/\∀x∈A,∀y∈Hd f D,x≠y:=iN.1 hF.q.nodup;have bw:Ik (ens.take A.length) τ=Am ops.toList (JQ (A++Hd f D) ens) τ A.reverse:=by
     have:=QB (ops:=ops.toList) (en:=JQ (A++Hd f D) ens) (τ:=τ) (pre:=[]) (Q:=A) (ens:=ens.take A.length) (by have:=hF.len;simp only[As]at this;simp only[OS];omega) (λj i e G t=>by
      have be:j<A.length:=(On.1 G).1;obtain⟨o,cq,_,J,K,al,_⟩:=hF.at_ j i (by rw[Se be];exact G);rw[UP,DO be,J]at t;cases t;exact⟨K,al⟩)
     simpa[Am] using this
    have bj:=Yx (A:=A.reverse) hF.own z (λj d=>Y j (by simpa using d));rw[<-bw]at bj;have ai:∀j,j∈ex.filter (λj=>!AU j A.reverse)↔j∈ex/\j∉A:=λj=>by
     rw[AAe];have:=Aa j A.reverse;constructor
     .rintro⟨G,t⟩;exact⟨G,λJ=>by rw[this.2 (by simpa using J)]at t;cases t⟩
     rintro⟨G,t⟩;refine⟨G,?_⟩;cases ch:AU j A.reverse with
     | false=>rfl
     | true=>exact absurd (by simpa using this.1 ch) t
    have Z:∀j∈ex.filter (λj=>!AU j A.reverse),j∈Hd f D:=λj d=>by
     have:=z j ((ai j).1 d).1;rcases Do.1 this with h|h
     .exact absurd h ((ai j).1 d).2
     exact h
    have aq:∀j∈Hd f D,∃(u:Nat) (e:Nat×AV×List (Nat×Obj)),(Hd f D)[u]?=some j/\(ens.drop A.length)[u]?=some e/\Ak ops.toList j=some e.1/\JQ (A++Hd f D) ens j=⟨true,e.2.1,e.2.2⟩:=by
     intro j d;obtain⟨u,O⟩:=Sn.1 d;obtain⟨o,e,_,J,K,al,_⟩:=hF.at_ (A.length+u) j (by rw[Sf oa,ABb];exact O);exact⟨u,e,O,by rw[AA9];exact J,K,al⟩
    have bi:Own ops.toList (JQ (A++Hd f D) ens) ⟨[],[]⟩ (A++Hd f D):=⟨hF.own.slot,λ_ _ _ _ _=>rfl,hF.own.name⟩;have bc:∀j∈ex.filter (λj=>!AU j A.reverse),j∈A++Hd f D:=λj d=>by simp[Z j d]
    unfold wpOpIn;rw[C];simp only;rw[DO (bk rfl cc)];refine bu _ _ bj ⟨λs v ag=>?_,λn V hn=>?_⟩ a w _ _ hs λbo ah aj w' da bd ck=>?_
    .rcases (rV bi bc s v).1 ag with ⟨j,d,hd,rfl⟩|⟨_,ag⟩
     .obtain⟨u,e,_,t,J,K⟩:=aq j (Z j d);rw[hd]at J;cases J;rw[K];exact⟨e.2.2,UR t⟩
     cases ag
    .rcases (rW bi bc n V).1 hn with ⟨j,d,hd⟩|⟨_,ag⟩
     .obtain⟨u,e,_,t,J,K⟩:=aq j (Z j d);rw[K]at hd;exact⟨e,UR t,FK hd⟩
     cases ag
    have cs:ex.length=A.length+(ex.filter (λj=>!AU j A.reverse)).length:=by
     have cl:∀l:List Nat,l.length=(l.filter (λj=>AU j A.reverse)).length+(l.filter (λj=>!AU j A.reverse)).length:=by
      intro l;induction l with
      | nil=>rfl
      | cons x r cy =>
       simp only[AA5,IF];cases AU x A.reverse<;>simp<;>omega
     rw[cl ex];have ca:=(iN.1 H).2.1;have G:(ex.filter (λj=>AU j A.reverse)).length<=A.length:=Fx (ca.filter _) λx hx=>by
      have:=(Aa _ _).1 (AAe.1 hx).2;simpa using this
     have t:A.length<=(ex.filter (λj=>AU j A.reverse)).length:=Fx az.1 λx hx=>AAe.2 ⟨Y x hx,(Aa _ _).2 (by simpa using hx)⟩;omega
    have ao:∀x,(x∈i :: (A++L)\/x∈ex.filter (λj=>!AU j A.reverse))↔x=i\/x∈L\/x∈ex:=by
     intro x;rw[ai];simp only[At,Do];constructor
     .rintro ((h|h|h)|h)
      .exact .inl h
      .exact .inr (.inr (Y x h))
      .exact .inr (.inl h)
      exact .inr (.inr h.1)
     rintro (h|h|h)
     .exact .inl (.inl h)
     .exact .inl (.inr (.inr h))
     by_cases hx:x∈A
     .exact .inl (.inr (.inl hx))
     exact .inr ⟨h,hx⟩
    obtain⟨ak,ah⟩:=ah;refine bl f (i :: (A++L)) (D++N) (ens.drop A.length++ak) bo (ex.filter λj=>!AU j A.reverse) _ aj w' ba ah ?_ (λj d=>by rw[Ul];exact UM _ (Z j d)) (by simp only[IF,As];omega) (by simpa using T) (λk hk=>?_) (λi' V F au e E=>?_) ?_
    .obtain⟨n1,co,bm⟩:=iN.1 H;have br:∀x∈A,x∉L:=λx hx cm=>bm x cm x (Y x hx) rfl;rw[iN];refine⟨UN.2 ⟨λh=>?_,iN.2 ⟨az.1,n1,λx hx y hy e=>br x hx (e▸hy)⟩⟩,co.filter _,λx hx y hy e=>?_⟩
     .rcases Do.1 h with h|h
      .exact I (.inr (Y i h))
      exact I (.inl h)
     subst e;obtain⟨bn,cp⟩:=(ai x).1 hy;rcases At.1 hx with rfl|hx
     .exact I (.inr bn)
     rcases Do.1 hx with hx|hx
     .exact cp hx
     exact bm x hx x bn rfl
    .rw[ao k,bf (i :: (L++ex)) (λj=>by simp) k hk];simp
    .rw[ao];have:e∈L\/e∈ex:=by
      rcases (ao i').1 au with rfl|h
      .rw[C]at F;cases F;exact bb e E
      exact ad i' V F h e E
     exact .inr this
    have bt:=bM ba ah;have cn:∀j∈ex.filter (λj=>!AU j A.reverse),JQ (Hd f (D++N)) (ens.drop A.length++ak) j=JQ (A++Hd f D) ens j:=λj d=>by
     obtain⟨u,e,G,t,_,K⟩:=aq j (Z j d);rw[K];refine bG bt.q.nodup u j e ?_ ?_
     .rw[Ul,Se (On.1 G).1];exact G
     rw[Se (On.1 t).1];exact t
    have hx:=fT (ops:=ops.toList) (en:=JQ (Hd f (D++N)) (ens.drop A.length++ak)) (τ:=bo) (ex.filter λj=>!AU j A.reverse);rw[IA (en:=JQ (A++Hd f D) ens) (σ0:=⟨[],[]⟩) cn]at hx;exact OU (λs=>by rw[hx.env,bd.env]) (λn=>by rw[hx.objs,bd.objs]) ck
end
section
variable {c:Cx} {R:Exit->Act->World->Prop} {k:List DD} {σ:St}
theorem A4F (j:c.P.follows .mixedOrders=true) (g:c.Ok) {id:Nat} {l:List Oper} (p0:Nat) (d:List (List Nat×Nat×List Nat)) (D:List Nat) (b:(A4A l (fL l)&&L4 l (fL l) p0 [] d D)=true) {ens:EN}
  (h:bL c l (fun τ=>Lu c R k l.toArray (l.drop p0) τ) d D ens σ):Ev c R (.run (.region id l.toArray true)) k σ:=by
 intro h1 e a w hs;simp only[HO,Bh,NO]at h1;simp only[An]at b;refine wpIn_region_any j ?_;have hk:∀τ,Lu c R k l.toArray (l.drop p0) τ->∀a w,c.sat τ a w->wpListIn (FR c.r) 0 c.P l.toArray (UX c R k) (l.toArray.toList.drop p0) a w:=fun τ f a w hs=>f (λo m=>h1 o (by simpa using AAA m)) e a w hs;exact A0E (ops:=l.toArray) (anc:=fL l) g (by simpa using h1) (A6f (by simpa using b.1)) hk l.toArray.size d [] D ens σ [] (Array.replicate l.toArray.size false) a { w with drawn:=w.drawn+1 } (by simpa using b.2) (by simpa using h) sc sc sc sc (λi hi=>by simp at hi;simp[Array.getD,hi]) (λi o _ hi=>by simp at hi) (Vq hs)
end
section
variable {c:Cx} {ops:List Oper} {Kf:St->Prop} {ens:EN} {τ:St} {vc:Prop}
theorem wV {A D N:List Nat} {l:Nat} {b:List (List Nat×Nat×List Nat)} {o:Oper} {d:St} {a:EN} (h:lM c.tb ops τ.objs (A++Hd b D) [] τ.env=some (vc,ens)) (j:vc) (g:P0 ens τ.objs=true) (i:ops[l]?=some o) (k:Ik (ens.take A.length) τ=d) (f:ens.drop A.length=a)
  (e:RR c o d a (λm=>∃ex,bL c ops Kf b (D++N) (a++ex) m)):bL c ops Kf ((A,l,N) :: b) D ens τ:=by
 subst k f;exact⟨⟨vc,h,j,g⟩,o,i,e⟩
end
end
section
open Go Go.RowKit
attribute [local go_sem] Hd
section
variable {c:Cx} {ops:List Oper} {Kf:St->Prop} {τ:St} {ens:EN} {vc:Prop}
theorem mxB {A D N:List Nat} {l:Nat} {b:List (List Nat×Nat×List Nat)} {o:Oper} {d:St} {a:EN} (j:vc) (e:RR c o d a (λm=>∃ex,bL c ops Kf b (D++N) (a++ex) m)) (h:lM c.tb ops τ.objs (A++Hd b D) [] τ.env=some (vc,ens):=by simp only[go_sem,Nat.reduceEqDiff,reduceCtorEq,Nat.reduceAdd,Nat.reduceSub,Nat.reduceMul,Nat.reduceLeDiff,Nat.reduceLT,Int.reduceLE,Int.reduceToNat,Int.reduceNeg,↓reduceIte];rfl) (g:P0 ens τ.objs=true:=by rfl) (i:ops[l]?=some o:=by rfl)
  (k:Ik (ens.take A.length) τ=d:=by simp only[go_sem,Nat.reduceEqDiff,reduceCtorEq,Nat.reduceAdd,Nat.reduceSub,Nat.reduceMul,Nat.reduceLeDiff,Nat.reduceLT,Int.reduceLE,Int.reduceToNat,Int.reduceNeg,↓reduceIte];rfl) (f:ens.drop A.length=a:=by simp only[go_sem,Nat.reduceEqDiff,reduceCtorEq,Nat.reduceAdd,Nat.reduceSub,Nat.reduceMul,Nat.reduceLeDiff,Nat.reduceLT,Int.reduceLE,Int.reduceToNat,Int.reduceNeg,↓reduceIte];rfl):bL c ops Kf ((A,l,N) :: b) D ens τ:=wV h j g i k f e
end
end
end Go.Proofs.YtapkhdkbkodbjaaGreat.Fw
