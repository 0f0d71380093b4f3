/- Range over a function; scopes; several steps in one. -/
import Derived.Test.YtglkoagnnnpimaaGreatDoorCZH
import Derived.RangeFuncFrom
import Derived.Scope
import Derived.Laws.IdiomRangeMap
import Derived.Laws.StructEq
import Derived.Laws.RangeAny
set_option linter.unusedVariables false
set_option linter.unusedSimpArgs false
namespace Go.Proofs.YtglkoagnnnpimaaGreatDoor.Fw
variable {Z:Array Edge} {Y:Array Oper} {d b F:Nat} {t S R:TypeId} {X o:String} {x y:Operand} {P:Program} {O M:Nat->Prop} {W:AV->List (Nat×Obj)->Prop} {V:Array TypeId} {U u:Nat->Value} {T:Option Nat} {w:World} {s:ByteArray} {f:FuncId} {i j:IntKind} {Q:List Nat} {p:Prop} {N:Exit->Act->World->Prop} {c r:Code} {L:Func} {K n:St} {J:Tb} {v:Value} {I:Go.Loop} {k q:List Ca} {e:Option (Nat×Bool)} {H l:AV} {G:Bool} {a E:Int×Int} {D C:ByteArray×Int} {B:Exit} {A z:Array Value} {m:nW}
section
open Go Go.RowKit
theorem dH {V:Vw} {ns:List Nat} (hf:f<1000000) (h:Bx V (.clo f ns) v):v=.func (.func f) #[] (ns.map V.ρ).toArray/\HY V (ns.map λn=>AV.bp n [] 0) (ns.map V.ρ):=by
 refine⟨h.1.trans (At hf),?_⟩;have h0:∀l:List Nat,(∀n∈l,n∈ns)->HY V (l.map λn=>AV.bp n [] 0) (l.map V.ρ):=by
  intro l;induction l with
  | nil=>intro _;exact rfl
  | cons n r g =>
   intro c;obtain⟨d,b,a⟩:=h.2 n (c n sc);exact⟨V.ρ n,r.map V.ρ,rfl,⟨d,b,a,a⟩,g λx e=>c x (by simp[e])⟩
 exact h0 ns λ_ h=>h
def Xa (P:Program) (yn:Nat) (A:List AV) (objs:List (Nat×Obj)) (stay:List Nat) (post:AV->List (Nat×Obj)->Prop):Prop :=
 ∀(w:World) (K O0:Nat->Prop) (ρ:Nat->Value) (a:List Value) (b:Nat),(∀b,K b->b<w.heap.size)->(∀b,O0 b->b<w.heap.size)->GW w K O0->sZ K O0 objs ρ w->HY (vw w O0 ⟨[],objs⟩ ρ) A a ->
  ρ yn=.pointer (some ⟨b,0,none⟩)->YieldAt (FR none) 0 P b a.toArray w λe w'=>∃u,e=.returned u/\LX K O0 stay w ρ post u w'
section
variable {c:Cx} {R:Exit->Act->World->Prop} {k:List Ca} {σ:St}
def dI (n:Nat):Option AV->Bool
 | some (.yl m)=>m==n
 | _=>false
theorem yJ (O:c.Ok) (Z:c.r=none) {o:Oper} {dst:Option Nat} {g:Operand} {xs:List Operand} {ts:Array TypeId} (t:o.op=.call { callee:=.value g,args:=xs.toArray,argTypes:=ts }) (S:o.dst=dst)
  {n yn:Nat} (f:dI n (Ag σ g)=true) {as:List AV} (M:LY σ xs=some as)
  {A:List AV} {objs:List (Nat×Obj)} {stay:List Nat} {post:AV->List (Nat×Obj)->Prop} (I:Xa c.P yn A objs stay post)
  (ren:List (Nat×CD)) (ae:lk yn ren=some (.nm n)) (h1:CR ren=true) (C:Cn objs ren=true) (F:Bt σ ren as A) (J:Al σ.objs ren objs)
  (hs:List Nat) (X:(c.ds.pin.all λp=>!Ab p.1 hs)=true) {next:Act->World->Prop} {Q:Exit->Act->World->Prop} {a:Act} {w:World} (ab:c.sat σ a w) (R:∀d,dst=some d->d<c.nt)
  (hk:∀res x,post res x->∃(i:List (Nat×CD)) (y:AV) (j:List (Nat×Obj)),CR i=true/\Cn j i=true/\Al x i j/\B3 i res y /\
   JA ren i stay hs=true/\F6 (Ax ren) j σ.objs=true/\∀l w',c.sat (C6 σ (Ax ren) hs dst y j) l w'->next l w'):o.wpIn (FR c.r) 0 c.P a w next Q:=by
 obtain⟨ρ,v⟩:=ab;have s:EM (vw w c.O0 σ ρ) σ a.eval:=CY v.env;obtain⟨b,af,T⟩:∃b:Nat,ρ n=.pointer (some ⟨b,0,none⟩)/\a.eval g=.func (.yield b) #[] #[]:=by
  cases k:Ag σ g with
  | none=>rw[k]at f;simp[dI]at f
  | some q =>
   rw[k]at f;have U:=s g q k;cases q<;>simp only[dI]at f<;>try(cases f;done)
   rename_i m;have V:m=n:=by simpa using f
   subst V;obtain⟨_,b,D,E⟩:=U;exact⟨b,D,E⟩
 obtain⟨z,B,ah,H,K,G,W,N,ag,Y⟩:=Mf O v (TC s M) stay post ren h1 C F J hs X R hk;obtain⟨fn,tmps,assign,body,ad,L⟩:=I w z B ah (xs.map a.eval) b H K G W N ((ag _ _ ae).trans af);have aa:(execOp a.eval o).run c.P w=.ok (.round b fn tmps assign body) w:=by
  simp[execOp,t,resolve,Deferred.ofValue,T,invoke];simpa using ad
 refine⟨λ_ _=>trivial,?_⟩;rw[EO _ _ _ (λcl e=>by rw[t]at e;cases e),aa,Oper.uponIn_round];refine⟨λh=>(by simp[FR]at h),?_⟩;rw[Z];refine L.mono λe w' hh=>?_;obtain⟨u,rfl,hh⟩:=hh;rw[S];exact Y u w' hh
theorem tF (C:c.Ok) (I:c.r=none) {ops:Array Oper} {rest:List Oper} {dst:Option Nat} {g:Operand} {xs:List Operand} {ts:Array TypeId} {ty:TypeId} 
  {n yn:Nat} (D:dI n (Ag σ g)=true) {as:List AV} (B:LY σ xs=some as)
  {A:List AV} {objs:List (Nat×Obj)} {stay:List Nat} {post:AV->List (Nat×Obj)->Prop} (y:Xa c.P yn A objs stay post)
  (ren:List (Nat×CD)) (hs:List Nat) (L:lk yn ren=some (.nm n)) (h1:CR ren=true) (u:Cn objs ren=true) (H:(c.ds.pin.all λp=>!Ab p.1 hs)=true) (v:Bt σ ren as A) (z:Al σ.objs ren objs)
  (hk:∀res e,post res e->∃(b:List (Nat×CD)) (f:AV) (d:List (Nat×Obj)),CR b=true/\Cn d b=true/\Al e b d/\B3 b res f /\
   JA ren b stay hs=true/\F6 (Ax ren) d σ.objs=true/\D1 c R k ops rest (C6 σ (Ax ren) hs dst f d)) :
  D1 c R k ops (⟨dst,.call ⟨.value g,xs.toArray,ts⟩,ty,X,Z,none⟩ :: rest) σ:=by
 intro h E a w K;unfold wpListIn;rw[At (by simp[Region.wanted])];refine yJ C I (xs:=xs) (ts:=ts) rfl rfl D B y ren L h1 u v z hs H K (A2 (h _ sc)) λres e G=>?_;obtain⟨b,f,d,j,l,m,q,s,t,x⟩:=hk res e G;exact⟨b,f,d,j,l,m,q,s,t,λi w' J=>x (λo F=>h o (by simp[F])) E i w' J⟩
end
def Hb:List Nat->List AV->List (Nat×AV)->List (Nat×AV)
 | p :: a,x :: xs,e=>Hb a xs ((p,x) :: e)
 | _,_,e=>e
def cY (P:Program) (tb:Tb) (w0:World) (K O0:Nat->Prop) (nt l:Nat) (pin:List (Nat×Value)):Cx:={ P:=P,tb:=tb,w0:=w0,K:=K,O0:=O0,nt:=nt,ds:={ pin:=pin },r:=some l }
theorem yK {tb:Tb} {w0:World} {K O0:Nat->Prop} {nt l:Nat} {pin:List (Nat×Value)}:(cY P tb w0 K O0 nt l pin).tb=tb:=rfl
def kC (P:Program) (l:Nat) (w0:World) (K O0:Nat->Prop) (stay:List Nat) (ρ0:Nat->Value) (post:AV->List (Nat×Obj)->Prop):Exit->Act->World->Prop :=
 roundPost P l λe w'=>∃u,e=.returned u/\LX K O0 stay w0 ρ0 post u w'
theorem oI {V:Vw}:∀(b:List Nat) (A:List AV) (c:List Value) (e:List (Nat×AV)) (a:Array Value),HY V A c->(∀p∈b,p<a.size)->A.length=b.length->(∀s x,lk s e=some x->Bx V x (a.getD s undef)) ->
  (∀s x,lk s (Hb b A e)=some x->Bx V x (((b.zip c).foldl (λt (p,v)=>t.setIfInBounds p v) a).getD s undef))/\((b.zip c).foldl (λt (p,v)=>t.setIfInBounds p v) a).size=a.size
 | [],_,_,e,a,_,_,_,h=>by simpa[Hb] using h
 | p :: b,[],_,e,a,_,_,d,_=>by simp at d
 | p :: b,x :: A,c,e,a,⟨v,r,l,h1,i⟩,g,d,h=>by
  subst l;simp only[ACw,OR,Hb];have m:=oI b A r ((p,x) :: e) (a.setIfInBounds p v) i (λq k=>by simpa using g q (by simp[k])) (by simpa using d) (λs y hs=>by
   have f:=MS { tmps:=a,defers:=[] } p v s (g p sc);have f:(a.setIfInBounds p v).getD s undef=if s=p then v else a.getD s undef:=f
   rw[f];simp only[lk]at hs;split at hs
   .grind
   rename_i j;rw[As j];exact h s y hs)
  grind
section
variable {P:Program} {tb:Tb} {w0:World} {K O0:Nat->Prop} {nt l:Nat} {stay:List Nat} {ρ0:Nat->Value} {post:AV->List (Nat×Obj)->Prop} {σ:St} {pin:List (Nat×Value)}
theorem PS {c:Cx} (i:c.Ok) {σ:St} {a:Act} {w:World} {ρ:Nat->Value} (hs:B2 c.w0 c.K c.O0 c.nt c.ds σ ρ a w) {yn b:Nat} {L:Go.Loop} (h:lk yn σ.objs=some (.loop L)) (d:ρ yn=.pointer (some ⟨b,0,none⟩)) (e:Go.Loop) :
  w.heap[b]?=some (.loop L)/\B2 c.w0 c.K c.O0 c.nt c.ds ⟨σ.env,upd yn (.loop e) σ.objs⟩ ρ a (w.putObj b (.loop e)):=by
 obtain⟨k,h1,f⟩:=hs.objs yn _ h;rw[d]at h1;injection h1 with h1
 injection h1 with h1
 injection h1 with h1
 subst h1;have j:b<w.heap.size:=Bn f;refine⟨f,hs.upd i.K h (g:=b) (by rw[d];rfl) (grownBy_putObj' w b _) ?_⟩;exact⟨b,d,World.putObj_heap_same j⟩
theorem Xb (f:(cY P tb w0 K O0 nt l pin).Ok) {yn:Nat} {L:Go.Loop} (g:lk yn σ.objs=some (.loop L)) (i:pin=stay.map λn=>(n,ρ0 n)) (j:yn∈stay) (e:ρ0 yn=.pointer (some ⟨l,0,none⟩))
  (h:post (.p .bool true) (upd yn (.loop { L with state:=.ready,pending:=none }) σ.objs)) :
  Ev (cY P tb w0 K O0 nt l pin) (kC P l w0 K O0 stay ρ0 post) (.out .normal) [] σ:=by
 intro _ _ a w hs;obtain⟨ρ,hs⟩:=hs;have c:∀n∈stay,ρ n=ρ0 n:=λn hn=>(hs.pin (n,ρ0 n) (by rw[show (cY P tb w0 K O0 nt l pin).ds.pin=pin from rfl,i];exact IS.2 ⟨n,hn,rfl⟩)).2.1;obtain⟨d,b⟩:=PS f hs g ((c _ j).trans e) { L with state:=.ready,pending:=none };refine⟨_,_,run_endRound none d,.bool true,rfl,.p .bool true,_,ρ,h,b.frm,⟨b.objs,b.free,b.dist⟩,⟨_,rfl,rfl⟩,c⟩
theorem Mg (f:(cY P tb w0 K O0 nt l pin).Ok) {yn:Nat} {L:Go.Loop} (g:lk yn σ.objs=some (.loop L)) (i:pin=stay.map λn=>(n,ρ0 n)) (j:yn∈stay) (e:ρ0 yn=.pointer (some ⟨l,0,none⟩))
  (h:post (.p .bool false) (upd yn (.loop { L with state:=.done,pending:=some .ret }) σ.objs)) :
  Ev (cY P tb w0 K O0 nt l pin) (kC P l w0 K O0 stay ρ0 post) (.out .ret) [] σ:=by
 intro _ _ a w hs;obtain⟨ρ,hs⟩:=hs;have c:∀n∈stay,ρ n=ρ0 n:=λn hn=>(hs.pin (n,ρ0 n) (by rw[show (cY P tb w0 K O0 nt l pin).ds.pin=pin from rfl,i];exact IS.2 ⟨n,hn,rfl⟩)).2.1;obtain⟨d,b⟩:=PS f hs g ((c _ j).trans e) { L with state:=.done,pending:=some .ret };refine⟨_,_,run_endRound (some .ret) d,.bool false,rfl,.p .bool false,_,ρ,h,b.frm,⟨b.objs,b.free,b.dist⟩,⟨_,rfl,rfl⟩,c⟩
def A8J (c:Cx) (R:Exit->Act->World->Prop) (yn:Nat) (L:Go.Loop) (a:Code) (σ:St):Prop :=
 lk yn σ.objs=some (.loop L)/\Ev c R (.run a) [] ⟨σ.env,upd yn (.loop { L with state:=.busy }) σ.objs⟩
theorem dJ {yn fr:Nat} {A:List AV} {objs:List (Nat×Obj)} {L:Go.Loop} {d:List Nat} {r s:Code} {fs:List (Nat×AV)} {i:Array Value}
  (B:lk yn objs=some (.loop L)) (hf:lk fr objs=some (.frame i fs)) (h1:L.state=.ready) (J:L.params=d.toArray) (M:L.assign=r) (N:L.body=s) (al:L.tmps=i) (G:i.size=nt)
  (C:A.length=d.length) (Z:(d.all λp=>decide (p<nt))=true) (ag:yn∈stay) (ad:stay.all (R3 objs)=true) (X:LO objs=true) (T:Bg nt r=true) (U:Bg nt s=true) (hT:C5 P tb) (hF:H9 P tb)
  (h:∀(w0:World) (K O0:Nat->Prop) (ρ0:Nat->Value) (l:Nat),(cY P tb w0 K O0 nt l (stay.map λn=>(n,ρ0 n))).Ok->PP A->Nv objs->ρ0 yn=.pointer (some ⟨l,0,none⟩) ->
   Ev (cY P tb w0 K O0 nt l (stay.map λn=>(n,ρ0 n))) (λ_ _ _=>False) (.run r) [.inv (A8J (cY P tb w0 K O0 nt l (stay.map λn=>(n,ρ0 n))) (kC P l w0 K O0 stay ρ0 post) yn L s)] ⟨Hb d A fs,objs⟩) :
  Xa P yn A objs stay post:=by
 intro w K O0 ρ q b Q R hG f y u;have af:=IC y;obtain⟨aj,c,hh⟩:=f.obj yn _ B;rw[u]at c;injection c with c
 injection c with c
 injection c with c
 subst c;have aa:=run_yield (P:=P) (args:=q.toArray) hh (by rw[J];simp[af,C]);refine⟨_,_,_,_,aa,roundIn_of_wpIn trivial ?_⟩;have z:(cY P tb w K O0 nt b (stay.map λn=>(n,ρ n))).Ok:=⟨Q,R,hT,hF,hG⟩;have W:=f.obj fr _ hf;have D:=oI (V:=vw w O0 ⟨[],objs⟩ ρ) d A q fs i y (λp x=>by have:=(OF.1 Z) p x;rw[G];simpa using this) C W.2;have ae:(L.params.zip q.toArray).foldl (λt (p,v)=>t.setIfInBounds p v) L.tmps=(d.zip q).foldl (λt (p,v)=>t.setIfInBounds p v) i:=by grind
 rw[M,N,ae];have ab:(cY P tb w K O0 nt b (stay.map λn=>(n,ρ n))).sat ⟨Hb d A fs,objs⟩ { tmps:=(d.zip q).foldl (λt (p,v)=>t.setIfInBounds p v) i,defers:=[] } w:=by
  refine⟨ρ,⟨rfl,rfl,rfl,OS _,λ_ _=>rfl⟩,by rw[D.2];exact G,rfl,λp x=>?_,f.obj,f.free,f.dist,D.1⟩;obtain⟨n,hn,rfl⟩:=IS.1 x;have:=(OF.1 ad) n hn;unfold R3 at this;cases j:lk n objs with
  | none=>rw[j]at this;cases this
  | some o =>
   rw[j]at this;refine⟨⟨o,j⟩,rfl,?_⟩;have g:=f.obj n o j;cases o with
   | arr et e xs=>exact .inr this
   | nest et an k e xs B=>exact .inr this
   | box et st fs=>obtain⟨_,b,cs,a,_⟩:=g;rw[a];exact .inl rfl
   | mapo k v l=>obtain⟨b,ak,cl,a,_⟩:=g;rw[a];exact .inl rfl
   | frame i fs=>obtain⟨a,_⟩:=g;rw[a];exact .inl rfl
   | loop L=>obtain⟨b,a,_⟩:=g;rw[a];exact .inl rfl
   | itr ao ar ap aq am=>obtain⟨b,a,_⟩:=g;rw[a];exact .inl rfl
   | dfr=>obtain⟨b,a,_⟩:=g;rw[a];exact .inl rfl
   | sit sb sp=>obtain⟨b,a,_⟩:=g;rw[a];exact .inl rfl
 have O:=h w K O0 ρ b z (TA y) (TB X λn o j=>ZS (f.obj n o j)) u (by simpa[Gt,cY] using T) rfl _ _ ab;refine ACN (F:=FR (some b)) O ?_;intro e ai w' m;cases e with
 | normal =>
  obtain⟨σ',⟨ρ',E⟩,Y,S⟩:=m;have ah:ρ' yn=.pointer (some ⟨b,0,none⟩):=(E.pin (yn,ρ yn) (IS.2 ⟨yn,ag,rfl⟩)).2.1.trans u;obtain⟨H,I⟩:=PS z E Y ah { L with state:=.busy };exact⟨_,run_beginRound H h1,S (by simpa[Gt,cY] using U) rfl _ _ ⟨ρ',I⟩⟩
 | exit id=>exact m.elim
 | goto t=>exact m.elim
 | ret=>exact m.elim
 | panic ch=>exact m.elim
 | outgrown=>exact m.elim
end
end
section
open Go Go.RowKit
def Cx.marked (c:Cx) (dn b:Nat):Cx:={ c with ds:={ ds:=⟨.collected b,#[]⟩ :: c.ds.ds,pin:=(dn,.pointer (some ⟨b,0,none⟩)) :: c.ds.pin } }
def Cx.marked2 (c:Cx) (yn dn b:Nat):Cx:={ c with ds:={ ds:=⟨.collected b,#[]⟩ :: c.ds.ds,pin:=(yn,.pointer (some ⟨b+1,0,none⟩)) :: (dn,.pointer (some ⟨b,0,none⟩)) :: c.ds.pin } }
theorem kD {c:Cx} {yn dn b:Nat} (h:c.Ok):(c.marked2 yn dn b).Ok:=⟨h.K,h.O,h.T,h.F,h.G⟩
theorem Qo {c:Cx} {dn:Nat}:(c.marked dn b).tb=c.tb:=rfl
theorem Qp {c:Cx} {dn:Nat} (h:c.Ok):(c.marked dn b).Ok:=⟨h.K,h.O,h.T,h.F,h.G⟩
theorem tG (ren:List (Nat×CD)) (x:AV):B3 ren x .top:=by grind [B3,Ik,DD]
def dK:List Ca->Bool
 | []=>true
 | .inv _ :: _=>false
 | _ :: k=>dK k
theorem N2 {c:Cx} {R:Exit->Act->World->Prop} {dn b:Nat}:∀ {k:List Ca},dK k=true->Sb (c.marked dn b) R k=Sb c R k
 | [],_=>by funext e a w;simp[Sb]
 | .inv _ :: _,h=>by simp[dK]at h
 | .seq y :: k,h=>by
  have d:=N2 (c:=c) (R:=R) (dn:=dn) (b:=b) (k:=k) h;funext e a w;cases e<;>simp only[Sb,d]<;>rfl
 | .blk id :: k,h=>by
  have d:=N2 (c:=c) (R:=R) (dn:=dn) (b:=b) (k:=k) h;funext e a w;cases e<;>simp only[Sb,d]
def Ba (σ:St) (yn dn fr:Nat) (L:Go.Loop) (a:Array Value):St:=⟨σ.env,(yn,.loop L) :: (dn,.dfr) :: (fr,.frame a σ.env) :: σ.objs⟩
section
variable {c:Cx} {R:Exit->Act->World->Prop} {k:List Ca} {σ:St}
theorem tH (r:c.Ok) {a:Act} {w:World} {ρ:Nat->Value} (hs:B2 c.w0 c.K c.O0 c.nt c.ds σ ρ a w) {yn dn fr:Nat} (t:yn≠dn) (E:yn≠fr) (F:dn≠fr) (G:lk yn σ.objs=none) (H:lk dn σ.objs=none) (I:lk fr σ.objs=none) (L:Go.Loop) :
  ∃e,B2 c.w0 c.K c.O0 c.nt (c.marked2 yn dn w.heap.size).ds (Ba σ yn dn fr L a.tmps) e { a with defers:=[{ target:=.collected w.heap.size,args:=#[] }]++a.defers } ((w.alloc (.deferred (some []))).alloc (.loop L))/\e yn=.pointer (some ⟨w.heap.size+1,0,none⟩):=by
 let e:Nat->Value:=λm=>if m=yn then .pointer (some ⟨w.heap.size+1,0,none⟩) else if m=dn then .pointer (some ⟨w.heap.size,0,none⟩) else if m=fr then .pointer none else ρ m
 have k:e yn=.pointer (some ⟨w.heap.size+1,0,none⟩):=by simp[e]
 have l:e dn=.pointer (some ⟨w.heap.size,0,none⟩):=by simp[e,Ne.symm t]
 have z:e fr=.pointer none:=by simp[e,Ne.symm E,Ne.symm F]
 obtain⟨f,j⟩:∃f,(w.alloc (.deferred (some []))).alloc (.loop L)=f:=⟨_,rfl⟩;have B:f.heap[w.heap.size+1]?=some (.loop L):=by
  rw[<-j];have:=World.alloc_heap_new (w.alloc (.deferred (some []))) (.loop L);rwa [World.size_alloc]at this
 have A:f.heap[w.heap.size]?=some (.deferred (some [])):=by
  rw[<-j];exact(Below.heap_alloc _ _ _ sc).trans (World.alloc_heap_new w _)
 have q:Below w.heap.size w f:=by
  rw[<-j];exact((Below.refl _ w).alloc (OS _) _).alloc sc _
 rw[j];have u:Bd [(yn,Obj.loop L),(dn,.dfr),(fr,.frame a.tmps σ.env)] σ=true:=by simp[Bd,G,H,I]
 have y:∀n,lk n [(yn,Obj.loop L),(dn,Obj.dfr),(fr,.frame a.tmps σ.env)]=none->e n=ρ n:=λn hn=>by grind [lk]
 have v:∀n o b,lk n [(yn,Obj.loop L),(dn,Obj.dfr),(fr,.frame a.tmps σ.env)]=some o->bk (e n) b->w.heap.size<=b:=λn o b hn C=>by grind [lk,bk,blk]
 have J:=HS (O0:=c.O0) (ρ:=ρ) (ρ':=e) u q y v;have M:QS w c.O0 σ ρ .top [(yn,Obj.loop L),(dn,.dfr),(fr,.frame a.tmps σ.env)] undef e f:=by
  refine⟨q,y,trivial,λn o hn=>?_,v,λn m o R b hn Q C P=>?_⟩
  .simp only[lk]at hn;split at hn
   .rename_i g;cases hn;subst g;exact⟨_,k,B⟩
   split at hn
   .rename_i g;cases hn;subst g;exact⟨_,l,A⟩
   split at hn
   .rename_i g;cases hn;subst g;exact⟨z,λs x N=>(hs.env s x N).keeps J⟩
   cases hn
  grind [lk,bk,blk]
 have h:=hs.add r.K r.O (dst:=none) (λd D=>by cases D) u M;refine⟨e,⟨h.frm,h.nt,?_,λp i=>?_,h.objs,h.free,h.dist,h.env⟩,k⟩
 .show _=_ :: c.ds.ds;rw[<-hs.defers];rfl
 rcases GO.1 i with rfl|i
 .exact⟨⟨.loop L,by simp[Ba,lk]⟩,k,.inl rfl⟩
 rcases GO.1 i with rfl|i
 .exact⟨⟨.dfr,by simp[Ba,lk,Ne.symm t]⟩,l,.inl rfl⟩
 exact h.pin p i
def EvJ (c:Cx) (R:Exit->Act->World->Prop) (k:List Ca) (σ:St):Option Code->Prop
 | none=>Ev c R (.out .normal) k σ
 | some a=>match a with
  | .ret=>Ev c R (.out .ret) k σ
  | .exit id=>Ev c R (.out (.exit id)) k σ
  | _=>False
def AA0 (c:Cx) (R:Exit->Act->World->Prop) (k:List Ca) (a:Act) (w:World):Option Code->Prop
 | none=>Sb c R k .normal a w
 | some cd=>cd.wpIn (FR c.r) 0 c.P (Sb c R k) a w
theorem A3s {dn:Nat} (g:dK k=true) (e:Cy c.nt k=true) {p:Option Code} (d:EvJ (c.marked dn b) R k σ p) {a:Act} {w:World} (hs:(c.marked dn b).sat σ a w) :
  AA0 c R k a w p:=by
 have f:=N2 (c:=c) (R:=R) (dn:=dn) (b:=b) g;cases p with
 | none =>
  have:=d rfl e _ _ hs;show Sb c R k .normal a w;rw[<-f];exact this
 | some cd =>
  cases cd<;>try exact d.elim
  .have:=d rfl e _ _ hs;refine wpIn_exit ?_;rw[<-f];exact this
  have:=d rfl e _ _ hs;refine wpIn_ret ?_;rw[<-f];exact this
theorem dL (U:c.Ok) (bo:c.r=none) (bi:dK k=true) {g:Operand} {O:Array Tmp} {G:Code} {q:FuncId} {m:List Nat} (J:Ag σ g=some (.clo q m))
  (yn dn fr:Nat) (D:(yn != dn&&yn != fr&&dn != fr)=true) (bd:lk yn σ.objs=none) (be:lk dn σ.objs=none) (bf:lk fr σ.objs=none)
  (ap:∀(L:Go.Loop) (z:Array Value),L.state=.ready->L.pending=none->L.tmps=z->L.params=O->L.assign=G->L.body=r->z.size=c.nt ->
   ∃(A:List AV) (objs:List (Nat×Obj)) (stay:List Nat) (post:AV->List (Nat×Obj)->Prop) (ren:List (Nat×CD)) (hs:List Nat),BB c.P q A objs stay post /\
    CR ren=true/\Cn objs ren=true/\Bt (Ba σ yn dn fr L z) ren (.yl yn :: m.map λn=>AV.bp n [] 0) A/\Al (Ba σ yn dn fr L z).objs ren objs /\
    (((yn,undef) :: (dn,undef) :: c.ds.pin).all λp=>!Ab p.1 hs)=true /\
    ∀res y,post res y->∃(j:List (Nat×CD)) (i:List (Nat×Obj)) (l:Go.Loop),CR j=true/\Cn i j=true/\Al y j i/\JA ren j stay hs=true/\F6 (Ax ren) i (Ba σ yn dn fr L z).objs=true /\
     lk yn i=some (.loop l)/\(l.state == .busy)=false /\
     ∀b,EvJ (c.marked dn b) R k ⟨(C6 (Ba σ yn dn fr L z) (Ax ren) hs none .top i).env,upd yn (.loop { l with state:=.exhausted }) (C6 (Ba σ yn dn fr L z) (Ax ren) hs none .top i).objs⟩ l.pending) (X:q<1000000:=by decide) :
  Ev c R (.run (.rangeFunc g O G r)) k σ:=by
 intro h1 am a w br;obtain⟨ρ,hs⟩:=br;have bc:EM (vw w c.O0 σ ρ) σ a.eval:=CY hs.env;obtain⟨bg,_⟩:=dH X (bc g _ J);simp only[An,ACb,ne_eq]at D;obtain⟨⟨ay,az⟩,ba⟩:=D;refine wpIn_rangeFunc (F:=FR c.r) ?_;intro fn _;have bq:(FR c.r).round=none:=by rw[bo];rfl
 rw[bq];obtain⟨L,x⟩:∃L:Go.Loop,L={ state:=.ready,pending:=none,fn,tmps:=a.tmps,params:=O,assign:=G,body:=r,defers:=w.heap.size }:=⟨_,rfl⟩;obtain⟨aa,N,bt⟩:=tH U hs ay az ba bd be bf L;obtain⟨A,objs,stay,post,ren,B,I,ag,ah,ai,aj,ak,al⟩:=ap L a.tmps (by rw[x]) (by rw[x]) (by rw[x]) (by rw[x]) (by rw[x]) (by rw[x]) hs.nt;obtain⟨⟨Q,ax,bl,au⟩,I⟩:=I;obtain⟨o,T⟩:∃o,(w.alloc (.deferred (some []))).alloc (.loop L)=o:=⟨_,rfl⟩;rw[T]at N;have W:(c.marked2 yn dn w.heap.size).Ok:=kD U;have aw:HY (vw o c.O0 (Ba σ yn dn fr L a.tmps) aa) (.yl yn :: m.map λn=>AV.bp n [] 0) (.func (.yield (w.heap.size+1)) #[] #[] :: m.map ρ):=by
  refine⟨_,_,rfl,⟨⟨_,by simp[Ba,lk];rfl⟩,_,bt,rfl⟩,?_⟩;have ce:=dH X (V:=vw o c.O0 (Ba σ yn dn fr L a.tmps) aa) (f:=q) (ns:=m) (v:=a.eval g) (by
   have:=CY N.env;have bm:Ag (Ba σ yn dn fr L a.tmps) g=some (.clo q m):=by
    cases g with
    | tmp t=>exact J
    | _=>exact J
   have S:=this g _ bm;have bb:({ a with defers:=[{ target:=.collected w.heap.size,args:=#[] }]++a.defers }:Act).eval g=a.eval g:=by cases g<;>rfl
   rw[bb]at S;exact S)
  grind [vw]
 have bj:∀res y,post res y->∃(j:List (Nat×CD)) (Z:AV) (i:List (Nat×Obj)),CR j=true/\Cn i j=true/\Al y j i/\B3 j res Z /\
   JA ren j stay B=true/\F6 (Ax ren) i (Ba σ yn dn fr L a.tmps).objs=true/\∀C w',(c.marked2 yn dn w.heap.size).sat (C6 (Ba σ yn dn fr L a.tmps) (Ax ren) B none Z i) C w' ->
    rangePost (FR c.r) 0 c.P (w.heap.size+1) (Sb c R k) C (.returned undef) w':=by
  intro res y M;obtain⟨j,i,l,bv,bw,bx,bz,ca,cf,Y,cb⟩:=al res y M;refine⟨j,.top,i,bv,bw,bx,tG j res,bz,ca,λC w' E=>?_⟩;obtain⟨ρ',E⟩:=E;have bu:lk yn (C6 (Ba σ yn dn fr L a.tmps) (Ax ren) B none .top i).objs=some (.loop l):=by grind [C6,A9]
  have hyp:=(E.pin (yn,.pointer (some ⟨w.heap.size+1,0,none⟩)) (by simp[Cx.marked2])).2.1;obtain⟨cc,s⟩:=PS W E bu hyp { l with state:=.exhausted };refine⟨_,_,run_endLoop cc (by intro e;rw[e]at Y;cases Y),?_⟩;have bs:(c.marked dn w.heap.size).sat ⟨(C6 (Ba σ yn dn fr L a.tmps) (Ax ren) B none .top i).env,upd yn (.loop { l with state:=.exhausted }) (C6 (Ba σ yn dn fr L a.tmps) (Ax ren) B none .top i).objs⟩ C (w'.putObj (w.heap.size+1) (.loop { l with state:=.exhausted })) :=
   ⟨ρ',s.frm,s.nt,s.defers,λp M=>s.pin p (IF _ M),s.objs,s.free,s.dist,s.env⟩
  have K:=A3s bi am (cb w.heap.size) bs;revert K;generalize l.pending=p;intro K;cases p<;>exact K
 obtain⟨ab,ad,cd,ao,aq,an,bk,ar,_,bn⟩:=Mf W N aw stay post ren ag ah ai aj B (by simpa[Cx.marked2] using ak) (dst:=none) (λd D=>by cases D) bj;have av:=I o ab ad cd _ ao aq an bk ar;refine⟨w.heap.size+1,[{ target:=.collected w.heap.size,args:=#[] }],o,{ target:=.fn (.func q) (m.map ρ).toArray,args:=#[.func (.yield (w.heap.size+1)) #[] #[]] },o,q,
  (.func (.yield (w.heap.size+1)) #[] #[] :: m.map ρ).toArray,o,?_,?_,λ_ _=>trivial,?_,λh=>by simp[FR]at h,?_⟩
 .rw[<-T,x];exact run_enterLoop_outer _ _ _ _ _
 .have bh:a.eval g=.func (.func q) #[] (m.map ρ).toArray:=bg;simp only[resolve,bh];simp[go_sem]
 .have ae : ¬ Q.name = "runtime.NumGoroutine" := by simpa using bl
  have af:¬Q.body=none:=by intro e;simp[e]at au
  simp[invoke,callFunc,ax,ae,af]
 refine HV (av.mono λe w' hh=>?_);obtain⟨u,rfl,hh⟩:=hh;exact bn u w' hh
theorem yL (Q:c.Ok) {a:Act} {w:World} {ρ:Nat->Value} (hs:B2 c.w0 c.K c.O0 c.nt c.ds σ ρ a w) {dn:Nat} (j:lk dn σ.objs=some .dfr) (i:ρ dn=.pointer (some ⟨b,0,none⟩)) (X:_root_.Go.Obj) (pin:List (Nat×Value)) (H:∀p∈pin,p∈c.ds.pin/\p.1≠dn) :
  w.heap[b]?=some (.deferred (some []))/\B2 c.w0 c.K c.O0 c.nt { ds:=c.ds.ds,pin:=pin } ⟨Cq [dn] σ.env,Az [dn] [dn] σ.objs⟩ ρ a (w.putObj b X):=by
 obtain⟨P,h1,h⟩:=hs.objs dn _ j;rw[i]at h1;injection h1 with h1
 injection h1 with h1
 injection h1 with h1
 subst h1;have R:b<w.heap.size:=Bn h;refine⟨h,?_⟩;have A:own c.O0 σ ρ b:=.inr ⟨dn,⟨_,j⟩,by rw[i];exact .inl rfl⟩;have f:∀n,Gk ⟨Cq [dn] σ.env,Az [dn] [dn] σ.objs⟩ n->Gk σ n/\n≠dn:=by
  rintro n ⟨o,hn⟩;have hn:lk n (Az [dn] [dn] σ.objs)=some o:=hn;rw[CQ]at hn;split at hn
  .cases hn
  rename_i r;simp only[No]at hn;obtain⟨y,d,_⟩:=hn;exact⟨⟨y,d⟩,λe=>r (by subst e;simp[Ab])⟩
 have l:∀k,k≠b->(w.putObj b X).heap[k]?=w.heap[k]?:=λk hk=>World.putObj_heap_other hk;have q:Cm ((vw w c.O0 σ ρ).buts [dn]) (vw (w.putObj b X) c.O0 ⟨Cq [dn] σ.env,Az [dn] [dn] σ.objs⟩ ρ):=by
  refine⟨λk _ hk B=>?_,λn hn=>?_,λ_ _=>rfl,λk _ hk=>l k (λe=>?_)⟩
  .rcases B with h0|⟨n,hn,E⟩
   .exact hk (.inl h0)
   exact hk (.inr ⟨n,(f n hn).1,E⟩)
  .obtain⟨⟨o,F⟩,D⟩:=hn;exact⟨_,by show lk n (Az [dn] [dn] σ.objs)=_;rw[CQ,As (by rw[D];simp),F];rfl⟩
  subst e;exact hk A
 refine⟨⟨hs.frm.os,hs.frm.tape,hs.frm.output,by simpa using hs.frm.size,λk hk=>?_⟩,hs.nt,hs.defers,λp G=>?_,λn x hn=>?_,λn k C hk=>hs.free n k (f n C).1 hk,λn m k h1 h u z=>hs.dist n m k (f n h1).1 (f m h).1 u z,λs v t=>?_⟩
 .refine(l k λe=>?_).trans (hs.frm.block k hk);subst e;exact(hs.free dn k ⟨_,j⟩ (by rw[i];exact .inl rfl)).1 hk
 .obtain⟨I,J⟩:=H p G;obtain⟨M,N,O⟩:=hs.pin p I;exact⟨q.L p.1 ⟨M,by simp[Ab,J]⟩,N,O⟩
 .have g:lk n (Az [dn] [dn] σ.objs)=some x:=hn;have r:=(f n ⟨x,hn⟩).2;rw[CQ]at g;split at g
  .cases g
  simp only[No]at g;obtain⟨y,d,rfl⟩:=g;refine ZK q (λk hk=>l k λe=>?_) (hs.objs n y d);subst e;exact r (hs.dist n dn k ⟨y,d⟩ ⟨_,j⟩ hk (by rw[i];exact .inl rfl))
 rw[F5]at t;simp only[No]at t;obtain⟨y,d,rfl⟩:=t;exact(Sz (hs.env s y d)).keeps q
end
def oJ (P:Program) (fn:Func) (w0:World) (K O0:Nat->Prop) (stay:List Nat) (ρ0:Nat->Value) (post:AV->List (Nat×Obj)->Prop):Exit->Act->World->Prop :=
 bodyPostM (FR none) 0 P fn λe w'=>∃u,e=.returned u/\LX K O0 stay w0 ρ0 post u w'
theorem A3t {tb:Tb} {fn:Func} {cd:Code} {nt:Nat} {args:List AV} {objs:List (Nat×Obj)} {post:AV->List (Nat×Obj)->Prop}
  (c : P.funcs[f]? = some fn) (k : (fn.name == "runtime.NumGoroutine") = false) (b : fn.body = some cd) (l : fn.ntmps = nt) (q : args.length <= nt)
  (i:Bg nt cd=true) (p:Q.all (R3 objs)=true) (j:LO objs=true) (hT:C5 P tb) (hF:H9 P tb)
  (h:∀(w0:World) (K O0:Nat->Prop) (ρ0:Nat->Value),(cm P tb w0 K O0 nt (Q.map λn=>(n,ρ0 n))).Ok->PP args->Nv objs ->
   Ev (cm P tb w0 K O0 nt (Q.map λn=>(n,ρ0 n))) (oJ P fn w0 K O0 Q ρ0 post) (.run cd) [] ⟨Am 0 args,objs⟩):BB P f args objs Q post:=by
 refine⟨⟨fn,c,k,by simp[b]⟩,λw K O0 ρ s e g hG d a=>?_⟩;refine callsIn_wide.1 (callsIn_of_wp_marks (F:=FR none) (n:=0) c b trivial ?_ rfl);have r:=IC a;rw[l];exact h w K O0 ρ ⟨e,g,hT,hF,hG⟩ (TA a) (TB j λn o m=>ZS (d.obj n o m)) i rfl _ _ (UV d a p O1)
theorem Un {tb:Tb} {w0:World} {K O0:Nat->Prop} {nt:Nat} {fn:Func} {post:AV->List (Nat×Obj)->Prop} {σ:St} {e:Exit} {dn b:Nat} (f:((cm P tb w0 K O0 nt (Q.map λn=>(n,U n))).marked dn b).Ok)
  (i:List ResultVar) (t:fn.results.toList=i) (q:e=.ret\/e=.normal) (r:lk dn σ.objs=some .dfr) (g:Ab dn Q=false) (res:AV) (h:R4 tb ⟨Cq [dn] σ.env,Az [dn] [dn] σ.objs⟩ i res) (d:post res (Az [dn] [dn] σ.objs)) :
  Ev ((cm P tb w0 K O0 nt (Q.map λn=>(n,U n))).marked dn b) (oJ P fn w0 K O0 Q U post) (.out e) [] σ:=by
 intro _ _ a w hs;obtain⟨ρ,hs⟩:=hs;have m:=(hs.pin (dn,.pointer (some ⟨b,0,none⟩)) (by simp[Cx.marked])).2.1;obtain⟨h1,j⟩:=yL f hs r m (.deferred none) (Q.map λn=>(n,U n)) (λp d=>⟨IF _ d,λe=>by
  obtain⟨n,hn,rfl⟩:=IS.1 d;have e:n=dn:=e;subst e;rw[(Ai _ _).2 hn]at g;cases g⟩)
 have c:B2 w0 K O0 nt { ds:=[⟨.collected b,#[]⟩],pin:=Q.map λn=>(n,U n) } ⟨Cq [dn] σ.env,Az [dn] [dn] σ.objs⟩ ρ a (w.putObj b (.deferred none)):=j;obtain⟨u,k,l⟩:=UX f.T c (fn:=fn) (by rw[t];exact h);have s:LX K O0 Q w0 U post u (w.putObj b (.deferred none)):=by
  refine⟨res,_,ρ,d,c.frm,⟨c.objs,c.free,c.dist⟩,l,λn hn=>?_⟩;exact(c.pin (n,U n) (IS.2 ⟨n,hn,rfl⟩)).2.1
 have o:a.defers=[⟨.collected b,#[]⟩]:=hs.defers;have key:LeavesInM (FR none) 0 P fn a.tmps (λe w'=>∃u,e=.returned u/\LX K O0 Q w0 U post u w') a.defers .returning w:=by
  rw[o];exact⟨by simp,.inl ⟨b,_,rfl,run_takeDeferred h1,u,k,u,rfl,s⟩⟩
 rcases q with rfl|rfl
 .exact key
 exact key
end
section
open Go Go.RowKit
section
variable {c:Cx} {R:Exit->Act->World->Prop} {k:List Ca} {σ σ':St}
theorem rP (a:c.Ok) {l:List Oper} {vc:Prop} (b:vc) (hk:Ev c R (.out .normal) k σ') (h0:(l.all λo=>o.guard.isNone)=true:=by rfl)
  (h:D2 c.tb.live (Bv c.tb l l σ)=some (vc,σ'):=by simp only[go_sem,Nat.reduceEqDiff,reduceCtorEq,Nat.reduceAdd,Nat.reduceSub,Nat.reduceMul,Nat.reduceLeDiff,Nat.reduceLT,Int.reduceLE,Int.reduceToNat,Int.reduceNeg,↓reduceIte];rfl):Ev c R (.run (.region d l.toArray false)) k σ:=La _ a h0 h b hk
theorem rC {o:Operand} {x y:Code} {b:Bool} {p q:Prop} (f:p->Ev c R (.run x) k σ) (hf:q->Ev c R (.run y) k σ) (h:Ag σ o=some (.p .bool b):=by simp only[go_sem,Nat.reduceEqDiff,reduceCtorEq,Nat.reduceAdd,Nat.reduceSub,Nat.reduceMul,Nat.reduceLeDiff,Nat.reduceLT,Int.reduceLE,Int.reduceToNat,Int.reduceNeg,↓reduceIte];rfl)
  (a:(b=true)=p:=by first|(simp only[IN,To,An,oN,Bool.and_eq_false_imp,AAr,TO,ABT,AAb,AAR,ACb,Bool.not_eq_eq_eq_not,Bool.not_true,ACi,AAW,ACM,ne_eq];rfl)|rfl) (d:(b=false)=q:=by first|(simp only[IN,To,An,oN,Bool.and_eq_false_imp,AAr,TO,ABT,AAb,AAR,ACb,Bool.not_eq_eq_eq_not,Bool.not_true,ACi,AAW,ACM,ne_eq];rfl)|rfl):Ev c R (.run (.cond o x y)) k σ :=
 UI h (λe=>f (a▸e)) (λe=>hf (d▸e))
theorem rL (a:c.Ok) {ops:List Oper} {l:List Oper} {vc:Prop} (b:vc) (hk:Ev c R (.out .normal) k σ') (h:D2 c.tb.live (Bv c.tb ops l σ)=some (vc,σ'):=by simp only[go_sem,Nat.reduceEqDiff,reduceCtorEq,Nat.reduceAdd,Nat.reduceSub,Nat.reduceMul,Nat.reduceLeDiff,Nat.reduceLT,Int.reduceLE,Int.reduceToNat,Int.reduceNeg,↓reduceIte];rfl):D1 c R k ops.toArray l σ:=GX _ a h b hk
theorem rN (n:Nat) (a:c.Ok) {ops:List Oper} {l:List Oper} {vc:Prop} (b:vc) (hk:D1 c R k ops.toArray (l.drop n) σ') (h:Bv c.tb ops (l.take n) σ=some (vc,σ'):=by simp only[AAS,AB0,go_sem,Nat.reduceEqDiff,reduceCtorEq,Nat.reduceAdd,Nat.reduceSub,Nat.reduceMul,Nat.reduceLeDiff,Nat.reduceLT,Int.reduceLE,Int.reduceToNat,Int.reduceNeg,↓reduceIte];rfl):D1 c R k ops.toArray l σ:=PN a n (by simpa using h) b hk
theorem cP (n:Nat) (a:c.Ok) {l:List Oper} {vc:Prop} (b:vc) (hk:D1 c R k l.toArray (l.drop n) σ') (h0:(l.all λo=>o.guard.isNone)=true:=by rfl) (h:Bv c.tb l (l.take n) σ=some (vc,σ'):=by simp only[AAS,AB0,go_sem,Nat.reduceEqDiff,reduceCtorEq,Nat.reduceAdd,Nat.reduceSub,Nat.reduceMul,Nat.reduceLeDiff,Nat.reduceLT,Int.reduceLE,Int.reduceToNat,Int.reduceNeg,↓reduceIte];rfl) :
  Ev c R (.run (.region d l.toArray false)) k σ:=x4 a n h0 h b hk
theorem cD (n:Nat) (a:c.Ok) {id:Nat} {l:List Oper} {vc:Prop} (e:vc) (hk:D1 c R k l.toArray (l.drop n) σ') (b:LR l (l.take n).length=true:=by kernel_rfl) (d:c.P.follows .mixedOrders=true:=by exact drawsAny)
  (h:LT c.tb l false σ.objs [] (l.take n) 0 [] [] σ=some (vc,σ'):=by simp only[AAS,AB0,go_sem,Nat.reduceEqDiff,reduceCtorEq,Nat.reduceAdd,Nat.reduceSub,Nat.reduceMul,Nat.reduceLeDiff,Nat.reduceLT,Int.reduceLE,Int.reduceToNat,Int.reduceNeg,↓reduceIte];rfl):Ev c R (.run (.region id l.toArray true)) k σ:=x5 d a n b h e hk
theorem rM (q:c.Ok) {ops:Array Oper} {rest:List Oper} {dst:Option Nat} {g:Operand} {xs:List Operand} {ts:Array TypeId} {ty:TypeId} 
  {d:List Nat} {as:List AV} {A:List AV} {objs:List (Nat×Obj)} {stay:List Nat} {post:AV->List (Nat×Obj)->Prop} (l:BB c.P f A objs stay post)
  (ren:List (Nat×CD)) (hs:List Nat) (j:Bt σ ren (as++d.map λn=>AV.bp n [] 0) A) (m:Al σ.objs ren objs)
  (hk:∀res e,post res e->∃(a:List (Nat×CD)) (h:AV) (b:List (Nat×Obj)),CR a=true/\Cn b a=true/\Al e a b/\B3 a res h /\
   JA ren a stay hs=true/\F6 (Ax ren) b σ.objs=true/\D1 c R k ops rest (C6 σ (Ax ren) hs dst h b))
  (r:EP (Ag σ g)=some (f,d):=by simp only[go_sem,Nat.reduceEqDiff,reduceCtorEq,Nat.reduceAdd,Nat.reduceSub,Nat.reduceMul,Nat.reduceLeDiff,Nat.reduceLT,Int.reduceLE,Int.reduceToNat,Int.reduceNeg,↓reduceIte];rfl) (o:LY σ xs=some as:=by simp only[go_sem,Nat.reduceEqDiff,reduceCtorEq,Nat.reduceAdd,Nat.reduceSub,Nat.reduceMul,Nat.reduceLeDiff,Nat.reduceLT,Int.reduceLE,Int.reduceToNat,Int.reduceNeg,↓reduceIte];rfl)
  (h1:CR ren=true:=by rfl) (i:Cn objs ren=true:=by rfl) (s:(c.ds.pin.all λp=>!Ab p.1 hs)=true:=by rfl) :
  D1 c R k ops (⟨dst,.call ⟨.value g,xs.toArray,ts⟩,ty,X,Z,none⟩ :: rest) σ:=xZ q r o l ren hs h1 i s j m hk
theorem rY (n yn:Nat) (m:c.Ok) {ops:Array Oper} {rest:List Oper} {dst:Option Nat} {g:Operand} {xs:List Operand} {ts:Array TypeId} {ty:TypeId} 
  {as:List AV} {A:List AV} {objs:List (Nat×Obj)} {stay:List Nat} {post:AV->List (Nat×Obj)->Prop} (i:Xa c.P yn A objs stay post)
  (ren:List (Nat×CD)) (hs:List Nat) (h:Bt σ ren as A) (j:Al σ.objs ren objs)
  (hk:∀res d,post res d->∃(a:List (Nat×CD)) (e:AV) (b:List (Nat×Obj)),CR a=true/\Cn b a=true/\Al d a b/\B3 a res e /\
   JA ren a stay hs=true/\F6 (Ax ren) b σ.objs=true/\D1 c R k ops rest (C6 σ (Ax ren) hs dst e b))
  (s:c.r=none:=by rfl) (o:dI n (Ag σ g)=true:=by simp only[go_sem,Nat.reduceEqDiff,reduceCtorEq,Nat.reduceAdd,Nat.reduceSub,Nat.reduceMul,Nat.reduceLeDiff,Nat.reduceLT,Int.reduceLE,Int.reduceToNat,Int.reduceNeg,↓reduceIte]) (l:LY σ xs=some as:=by simp only[go_sem,Nat.reduceEqDiff,reduceCtorEq,Nat.reduceAdd,Nat.reduceSub,Nat.reduceMul,Nat.reduceLeDiff,Nat.reduceLT,Int.reduceLE,Int.reduceToNat,Int.reduceNeg,↓reduceIte];rfl)
  (t:lk yn ren=some (.nm n):=by rfl) (h1:CR ren=true:=by rfl) (f:Cn objs ren=true:=by rfl) (q:(c.ds.pin.all λp=>!Ab p.1 hs)=true:=by rfl) :
  D1 c R k ops (⟨dst,.call ⟨.value g,xs.toArray,ts⟩,ty,X,Z,none⟩ :: rest) σ:=tF m s o l i ren hs t h1 f q h j hk
end
end
section
open Go Go.RowKit
section
variable {P:Program} {b:Frame} {a:Act} {k:List Item} {cs:List Frame} {w:World}
theorem FE:step P (lone (b.atR a (.code (.scope c) :: k)) cs w)=.next (lone (b.atR a (.code c :: .inScope c :: k)) cs w) :=
 step_lone_go (by simp[stepG,stepG.exec,Frame.atR])
theorem Wo:step P (lone (b.atR a (.inScope c :: k)) cs w)=.next (lone (b.atR a k) cs w) :=
 step_lone_go (by simp[stepG,stepG.exec,Frame.atR])
end
theorem M3 {F:Fence} {n:Nat} {Q:Exit->Act->World->Prop} {a:Act} (h:c.wpIn F n P (Exit.noGoto Q) a w):(Code.scope c).wpIn F n P Q a w:=by
 intro b k cs r j m;have h0:(lone (b.atR a (.code (.scope c) :: k)) cs w).fenced P F:=fenced_calm j m rfl;obtain⟨e,g,i,f,d⟩:=h b (.inScope c :: k) cs r j m;cases e with
 | normal=>exact⟨.normal,g,i,f,.head h0 FE (StepsIn.trans d (.one (fenced_calm j m rfl) Wo))⟩
 | exit id =>
  have o:exitTo id (.inScope c :: k)=exitTo id k:=by simp[exitTo]
  exact⟨.exit id,g,i,f,λs hk=>.head h0 FE (d.1 s (by rw[o];exact hk)),
   λq hk=>let ⟨t,h1,p⟩:=d.2 q (by rw[o];exact hk);⟨t,h1,.head h0 FE p⟩⟩
 | goto l=>exact f.elim
 | ret=>exact⟨_,g,i,f,.of_steps (.one h0 FE) d⟩
 | panic ch=>exact⟨_,g,i,f,.of_steps (.one h0 FE) d⟩
 | outgrown=>exact⟨_,g,i,f,.of_steps (.one h0 FE) d⟩
section
variable {c:Cx} {R:Exit->Act->World->Prop} {k:List Ca} {σ:St}
theorem PT (b:∀l a w,¬R (.goto l) a w):∀(k:List Ca) (l:Nat) (a:Act) (w:World),¬Sb c R k (.goto l) a w
 | [],l,a,w=>b l a w
 | .seq _ :: k,l,a,w=>PT b k l a w
 | .blk _ :: k,l,a,w=>PT b k l a w
 | .inv _ :: k,l,a,w=>PT b k l a w
theorem yM (i:∀l a w,¬R (.goto l) a w) {b:Code} (h:Ev c R (.run b) k σ):Ev c R (.run (.scope b)) k σ:=by
 intro h1 g a w hs;have h1:Bg c.nt b=true:=by simpa[Gt,Bg] using h1
 refine M3 (ACN (h h1 g a w hs) ?_);intro e f w' d;cases e with
 | goto l=>exact absurd d (PT i k l f w')
 | _=>exact d
theorem yN {l:Nat} (h:Ev c R (.out .normal) k σ):Ev c R (.run (.label l)) k σ:=λ_ b a w hs=>wpIn_label (h rfl b a w hs)
theorem yO {fn:Func} {w0:World} {O0:Nat->Prop} {outs:List RV}:∀l a w,¬R1 P fn w0 O0 outs (.goto l) a w:=λ_ _ _ h=>h
end
end
section
open Go Go.RowKit
def oK:nW->List Ca->Option (nW×List Ca)
 | .run (.seq x y),k=>some (.run x,.seq y :: k)
 | .run .skip,k=>some (.out .normal,k)
 | .run .ret,k=>some (.out .ret,k)
 | .run (.exit id),k=>some (.out (.exit id),k)
 | .run (.block id b),k=>some (.run b,.blk id :: k)
 | .out .normal,.seq y :: k=>some (.run y,k)
 | .out .normal,.blk _ :: k=>some (.out .normal,k)
 | .out (.exit id),.seq _ :: k=>some (.out (.exit id),k)
 | .out (.exit a),.blk id :: k=>if a=id then some (.out .normal,k) else some (.out (.exit a),k)
 | .out (.exit id),.inv _ :: k=>some (.out (.exit id),k)
 | .out .ret,.seq _ :: k=>some (.out .ret,k)
 | .out .ret,.blk _ :: k=>some (.out .ret,k)
 | .out .ret,.inv _ :: k=>some (.out .ret,k)
 | _,_=>none
def Uo:Nat->nW->List Ca->nW×List Ca
 | 0,n,k=>(n,k)
 | m+1,n,k=>match oK n k with
  | some (b,a)=>Uo m b a
  | none=>(n,k)
def oL (n:nW) (k:List Ca):Option (nW×List Ca):=match oK n k with
 | some (b,a)=>some (Uo 200 b a)
 | none=>none
section
variable {c:Cx} {R:Exit->Act->World->Prop} {σ:St}
theorem dM {n b:nW} {a:List Ca} (e:oK n k=some (b,a)) (h:Ev c R b a σ):Ev c R n k σ:=by
 unfold oK at e;split at e<;>first
  | (cases e;done)
  | (split at e<;>(cases e;first|(rename_i d;rw[d];exact jO h)|exact jP (by assumption) h))
  | (cases e;first|exact A6s h|exact A3f h|exact A6t h|exact A3g h|exact xO h|exact UH h|exact jK h|exact cM h|exact cN h|exact jJ h|exact jL h|exact jM h)
theorem Xc:∀(m:Nat) {n:nW} {k:List Ca},Ev c R (Uo m n k).1 (Uo m n k).2 σ->Ev c R n k σ
 | 0,_,_,h=>h
 | m+1,n,k,h=>by
  unfold Uo at h;split at h
  .rename_i b a e;exact dM e (Xc m h)
  exact h
theorem eS {n b:nW} {a:List Ca} (e:oL n k=some (b,a)) (h:Ev c R b a σ):Ev c R n k σ:=by grind [oL,dM,Xc]
end
inductive RX (c:Cx) (lv:List Nat) (σ:St) (vc:Prop) (σ':St):Array Oper->Bool->Prop
 | p {l:List Oper} (h0:(l.all λo=>o.guard.isNone)=true) (h:D2 lv (Bv c.tb l l σ)=some (vc,σ')):RX c lv σ vc σ' l.toArray false
 | a {l:List Oper} (h0:sV l l.length=true) (h:D2 lv (LT c.tb l true σ.objs [] l 0 [] [] σ)=some (vc,σ')):RX c lv σ vc σ' l.toArray false
 | d {l:List Oper} (h0:LR l l.length=true) (hm:c.P.follows .mixedOrders=true) (h:D2 lv (LT c.tb l false σ.objs [] l 0 [] [] σ)=some (vc,σ')):RX c lv σ vc σ' l.toArray true
 | t {l:List Oper} (m:Nat) (h0:LR l (l.take (l.length-m)).length=true) (hm:c.P.follows .mixedOrders=true) (h:D2 lv (LT c.tb l false σ.objs (l.drop (l.length-m)) (l.take (l.length-m)) 0 [] [] σ)=some (vc,σ')):RX c lv σ vc σ' l.toArray true
theorem A8L {c:Cx} {R:Exit->Act->World->Prop} {σ σ':St} {b:List Nat} (e:c.Ok) {id:Nat} {ops:Array Oper} {i:Bool} {vc:Prop} (f:vc) (hk:Ev c R (.out .normal) k σ') (h:RX c b σ vc σ' ops i):Ev c R (.run (.region id ops i)) k σ:=by
 cases h with
 | p h0 h=>exact La b e h0 h f hk
 | a h0 h=>exact cZ b e h0 h f hk
 | d h0 g h=>exact s5 b g e h0 h f hk
 | t m h0 g h=>exact s6 b m g e h0 h f hk
theorem rX {c:Cx} {R:Exit->Act->World->Prop} {σ σ':St} (e:c.Ok) {ops:Array Oper} {b:Bool} (f:p) (hk:Ev c R (.out .normal) k σ')
  (h:RX c c.tb.live σ p σ' ops b:=by
   first
   | exact .p rfl (by simp only[go_sem,Nat.reduceEqDiff,reduceCtorEq,Nat.reduceAdd,Nat.reduceSub,Nat.reduceMul,Nat.reduceLeDiff,Nat.reduceLT,Int.reduceLE,Int.reduceToNat,Int.reduceNeg,↓reduceIte];rfl)
   | exact .a (by kernel_rfl) (by simp only[go_sem,Nat.reduceEqDiff,reduceCtorEq,Nat.reduceAdd,Nat.reduceSub,Nat.reduceMul,Nat.reduceLeDiff,Nat.reduceLT,Int.reduceLE,Int.reduceToNat,Int.reduceNeg,↓reduceIte];rfl)
   | exact .d (by kernel_rfl) (by exact drawsAny) (by simp only[go_sem,Nat.reduceEqDiff,reduceCtorEq,Nat.reduceAdd,Nat.reduceSub,Nat.reduceMul,Nat.reduceLeDiff,Nat.reduceLT,Int.reduceLE,Int.reduceToNat,Int.reduceNeg,↓reduceIte];rfl)
   | exact .t 1 (by kernel_rfl) (by exact drawsAny) (by simp only[AAS,ACs,AB0,AAL,go_sem,Nat.reduceEqDiff,reduceCtorEq,Nat.reduceAdd,Nat.reduceSub,Nat.reduceMul,Nat.reduceLeDiff,Nat.reduceLT,Int.reduceLE,Int.reduceToNat,Int.reduceNeg,↓reduceIte];rfl)
   | exact .t 2 (by kernel_rfl) (by exact drawsAny) (by simp only[AAS,ACs,AB0,AAL,go_sem,Nat.reduceEqDiff,reduceCtorEq,Nat.reduceAdd,Nat.reduceSub,Nat.reduceMul,Nat.reduceLeDiff,Nat.reduceLT,Int.reduceLE,Int.reduceToNat,Int.reduceNeg,↓reduceIte];rfl)
   | exact .t 3 (by kernel_rfl) (by exact drawsAny) (by simp only[AAS,ACs,AB0,AAL,go_sem,Nat.reduceEqDiff,reduceCtorEq,Nat.reduceAdd,Nat.reduceSub,Nat.reduceMul,Nat.reduceLeDiff,Nat.reduceLT,Int.reduceLE,Int.reduceToNat,Int.reduceNeg,↓reduceIte];rfl)):Ev c R (.run (.region d ops b)) k σ:=A8L e f hk h
theorem eN (h:p:=by simp only[go_sem,Nat.reduceEqDiff,reduceCtorEq,Nat.reduceAdd,Nat.reduceSub,Nat.reduceMul,Nat.reduceLeDiff,Nat.reduceLT,Int.reduceLE,Int.reduceToNat,Int.reduceNeg,↓reduceIte]<;>fail):p:=h
theorem eM {q:Prop} (a:q) (h:p=q:=by simp only[go_sem,Nat.reduceEqDiff,reduceCtorEq,Nat.reduceAdd,Nat.reduceSub,Nat.reduceMul,Nat.reduceLeDiff,Nat.reduceLT,Int.reduceLE,Int.reduceToNat,Int.reduceNeg,↓reduceIte];rfl):p:=h▸a
theorem eR (h:p:=by simp only[NH,Ka,Ii,Jx,MY,Ij,Gu,go_sem,Nat.reduceEqDiff,reduceCtorEq,Nat.reduceAdd,Nat.reduceSub,Nat.reduceMul,Nat.reduceLeDiff,Nat.reduceLT,Int.reduceLE,Int.reduceToNat,Int.reduceNeg,↓reduceIte]<;>fail):p:=h
theorem Je {q:Prop} (a:q) (h:p=q:=by simp only[NH,Ka,Ii,Jx,MY,Ij,Gu,go_sem,Nat.reduceEqDiff,reduceCtorEq,Nat.reduceAdd,Nat.reduceSub,Nat.reduceMul,Nat.reduceLeDiff,Nat.reduceLT,Int.reduceLE,Int.reduceToNat,Int.reduceNeg,↓reduceIte];rfl):p:=h▸a
theorem eV (h:p:=by (try dsimp only[Ty.den]at *)<;>(repeat'(first|apply And.intro|intro _))<;>omega):p:=h
end
section
open Go Go.RowKit
section
variable {c:Cx} {R:Exit->Act->World->Prop} {k:List Ca} {σ σ':St}
theorem yP (d:c.Ok) {id:Nat} {l:List Oper} (n:Nat) {vc:Prop} (h:Bv c.tb l (l.take n) σ=some (vc,σ')) (f:vc) (hk:D1 c R k l.toArray (l.drop n) σ') :
  Ev c R (.run (.region id l.toArray false)) k σ:=by
 intro h1 b a w hs;simp only[Gt,Bg,OF]at h1;exact AC2 (PN d n (by simpa using h) f hk (λo e=>h1 o e) b a w hs)
theorem tI (F:c.Ok) {ops:Array Oper} {rest:List Oper} {dst:Option Nat} {g:Operand} {xs:List Operand} {ts:Array TypeId} {ty:TypeId} {i:Option (Nat×Bool)}
  (H:E0 ops.toList σ i=some true)
  {j:List Nat} (G:EP (Ag σ g)=some (f,j)) {as:List AV} (E:LY σ xs=some as)
  {A:List AV} {objs:List (Nat×Obj)} {stay:List Nat} {post:AV->List (Nat×Obj)->Prop} (C:BB c.P f A objs stay post)
  (ren:List (Nat×CD)) (hs:List Nat) (h1:CR ren=true) (y:Cn objs ren=true) (L:(c.ds.pin.all λp=>!Ab p.1 hs)=true) (z:Bt σ ren (as++j.map λn=>AV.bp n [] 0) A) (D:Al σ.objs ren objs)
  (hk:∀res e,post res e->∃(b:List (Nat×CD)) (h:AV) (d:List (Nat×Obj)),CR b=true/\Cn d b=true/\Al e b d/\B3 b res h /\
   JA ren b stay hs=true/\F6 (Ax ren) d σ.objs=true/\D1 c R k ops rest (C6 σ (Ax ren) hs dst h d)) :
  D1 c R k ops (⟨dst,.call ⟨.value g,xs.toArray,ts⟩,ty,X,Z,i⟩ :: rest) σ:=by
 intro l I a w m;unfold wpListIn;rw[At (G4 (o:=⟨dst,.call ⟨.value g,xs.toArray,ts⟩,ty,X,Z,i⟩) m H)];refine oC F (xs:=xs) (ts:=ts) rfl rfl G E C ren h1 y z D hs L m (A2 (l _ sc)) λres e K=>?_;obtain⟨b,h,d,r,s,t,u,v,x,B⟩:=hk res e K;exact⟨b,h,d,r,s,t,u,v,x,λq w' M=>B (λo J=>l o (by simp[J])) I q w' M⟩
end
end
section
open Go Go.RowKit
section
variable {c:Cx} {ops:List Oper} {Kf:St->Prop} {τ:St} {ens:EN} {vc:Prop}
theorem mxA {A D:List Nat} {l:Nat} {b:List (List Nat×Nat)} {o:Oper} {d:St} {a:EN} (j:vc) (e:j6 c o d a (λm=>x6 c ops Kf b D a m)) (h:oD c.tb ops τ.objs (A++qs b D) [] τ.env=some (vc,ens):=by simp only[go_sem,Nat.reduceEqDiff,reduceCtorEq,Nat.reduceAdd,Nat.reduceSub,Nat.reduceMul,Nat.reduceLeDiff,Nat.reduceLT,Int.reduceLE,Int.reduceToNat,Int.reduceNeg,↓reduceIte];rfl) (g:Sd ens τ.objs=true:=by rfl) (i:ops[l]?=some o:=by rfl)
  (k:M0 (ens.take A.length) τ=d:=by simp only[go_sem,Nat.reduceEqDiff,reduceCtorEq,Nat.reduceAdd,Nat.reduceSub,Nat.reduceMul,Nat.reduceLeDiff,Nat.reduceLT,Int.reduceLE,Int.reduceToNat,Int.reduceNeg,↓reduceIte];rfl) (f:ens.drop A.length=a:=by simp only[go_sem,Nat.reduceEqDiff,reduceCtorEq,Nat.reduceAdd,Nat.reduceSub,Nat.reduceMul,Nat.reduceLeDiff,Nat.reduceLT,Int.reduceLE,Int.reduceToNat,Int.reduceNeg,↓reduceIte];rfl):x6 c ops Kf ((A,l) :: b) D ens τ:=yI h j g i k f e
theorem mxE {R:Exit->Act->World->Prop} {k:List Ca} {σ':St} (d:c.Ok) {D:List Nat} {l:List Oper} {a:Prop} (f:vc) (g:a) (hk:Ev c R (.out .normal) k σ') (h:oD c.tb ops τ.objs D [] τ.env=some (vc,ens):=by simp only[go_sem,Nat.reduceEqDiff,reduceCtorEq,Nat.reduceAdd,Nat.reduceSub,Nat.reduceMul,Nat.reduceLeDiff,Nat.reduceLT,Int.reduceLE,Int.reduceToNat,Int.reduceNeg,↓reduceIte];rfl) (e:Sd ens τ.objs=true:=by rfl)
  (b:D2 c.tb.live (Bv c.tb ops l (M0 ens τ))=some (a,σ'):=by simp only[go_sem,Nat.reduceEqDiff,reduceCtorEq,Nat.reduceAdd,Nat.reduceSub,Nat.reduceMul,Nat.reduceLeDiff,Nat.reduceLT,Int.reduceLE,Int.reduceToNat,Int.reduceNeg,↓reduceIte];rfl):x6 c ops (fun τ=>D1 c R k ops.toArray l τ) [] D ens τ:=yH h f e (GX _ d b g hk)
end
section
variable {c:Cx} {o:Oper} {σ:St} {ens:EN} {N:St->Prop} {R:Exit->Act->World->Prop} {k:List Ca} {σ':St}
theorem mxL (b:c.Ok) {τ:St} {vc:Prop} (ns:List Nat) (i:vc) (a:N τ) (h:GU c.tb o σ=some (vc,τ):=by simp only[go_sem,Nat.reduceEqDiff,reduceCtorEq,Nat.reduceAdd,Nat.reduceSub,Nat.reduceMul,Nat.reduceLeDiff,Nat.reduceLT,Int.reduceLE,Int.reduceToNat,Int.reduceNeg,↓reduceIte];rfl) (f:tn σ o.op=ns:=by simp only[go_sem,Nat.reduceEqDiff,reduceCtorEq,Nat.reduceAdd,Nat.reduceSub,Nat.reduceMul,Nat.reduceLeDiff,Nat.reduceLT,Int.reduceLE,Int.reduceToNat,Int.reduceNeg,↓reduceIte]) (g:N0 o ens=true:=by rfl) (hn:Ld ns σ.objs ens=true:=by rfl) (e:Ul τ.objs ens=true:=by rfl)
  (hf:NJ ns ens=ens:=by simp only[go_sem,Nat.reduceEqDiff,reduceCtorEq,Nat.reduceAdd,Nat.reduceSub,Nat.reduceMul,Nat.reduceLeDiff,Nat.reduceLT,Int.reduceLE,Int.reduceToNat,Int.reduceNeg,↓reduceIte]) (d:I5 c.nt o=true:=by rfl):j6 c o σ ens N:=tE b ns h f g hn e hf d i a
theorem evP (a:c.Ok) {l:List Oper} (n:Nat) {vc:Prop} (b:vc) (hk:D1 c R k l.toArray (l.drop n) σ') (h:Bv c.tb l (l.take n) σ=some (vc,σ'):=by simp only[AAS,AB0,go_sem,Nat.reduceEqDiff,reduceCtorEq,Nat.reduceAdd,Nat.reduceSub,Nat.reduceMul,Nat.reduceLeDiff,Nat.reduceLT,Int.reduceLE,Int.reduceToNat,Int.reduceNeg,↓reduceIte];rfl):Ev c R (.run (.region d l.toArray false)) k σ:=yP a n h b hk
theorem clG (r:c.Ok) {ops:Array Oper} {rest:List Oper} {dst:Option Nat} {g:Operand} {xs:List Operand} {ts:Array TypeId} {ty:TypeId} {d:List Nat} {as:List AV}
  {A:List AV} {objs:List (Nat×Obj)} {stay:List Nat} {post:AV->List (Nat×Obj)->Prop} (m:BB c.P f A objs stay post) (ren:List (Nat×CD)) (hs:List Nat) (l:Bt σ ren (as++d.map λn=>AV.bp n [] 0) A) (o:Al σ.objs ren objs)
  (hk:∀res h,post res h->∃(a:List (Nat×CD)) (i:AV) (b:List (Nat×Obj)),CR a=true/\Cn b a=true/\Al h a b/\B3 a res i /\
   JA ren a stay hs=true/\F6 (Ax ren) b σ.objs=true/\D1 c R k ops rest (C6 σ (Ax ren) hs dst i b))
  (t:E0 ops.toList σ e=some true:=by simp only[go_sem,Nat.reduceEqDiff,reduceCtorEq,Nat.reduceAdd,Nat.reduceSub,Nat.reduceMul,Nat.reduceLeDiff,Nat.reduceLT,Int.reduceLE,Int.reduceToNat,Int.reduceNeg,↓reduceIte]) (s:EP (Ag σ g)=some (f,d):=by simp only[go_sem,Nat.reduceEqDiff,reduceCtorEq,Nat.reduceAdd,Nat.reduceSub,Nat.reduceMul,Nat.reduceLeDiff,Nat.reduceLT,Int.reduceLE,Int.reduceToNat,Int.reduceNeg,↓reduceIte];rfl) (q:LY σ xs=some as:=by simp only[go_sem,Nat.reduceEqDiff,reduceCtorEq,Nat.reduceAdd,Nat.reduceSub,Nat.reduceMul,Nat.reduceLeDiff,Nat.reduceLT,Int.reduceLE,Int.reduceToNat,Int.reduceNeg,↓reduceIte];rfl) (h1:CR ren=true:=by rfl) (j:Cn objs ren=true:=by rfl) (u:(c.ds.pin.all λp=>!Ab p.1 hs)=true:=by rfl) :
  D1 c R k ops (⟨dst,.call ⟨.value g,xs.toArray,ts⟩,ty,X,Z,e⟩ :: rest) σ:=tI r t s q m ren hs h1 j u l o hk
theorem CK (l:List Nat) {n:nW} {a:St} (hk:Ev c R n k a) (h:Cr l σ=a:=by simp only[go_sem,Nat.reduceEqDiff,reduceCtorEq,Nat.reduceAdd,Nat.reduceSub,Nat.reduceMul,Nat.reduceLeDiff,Nat.reduceLT,Int.reduceLE,Int.reduceToNat,Int.reduceNeg,↓reduceIte];rfl):Ev c R n k σ:=Ev.ent hk (ZR l h λ_ _ h=>h)
theorem A8M (l:List Nat) {a:St} (b:wI c a σ') (h:Cr l σ=a:=by simp only[go_sem,Nat.reduceEqDiff,reduceCtorEq,Nat.reduceAdd,Nat.reduceSub,Nat.reduceMul,Nat.reduceLeDiff,Nat.reduceLT,Int.reduceLE,Int.reduceToNat,Int.reduceNeg,↓reduceIte];rfl):wI c σ σ':=ZR l h b
end
theorem eW {c:Cx} {σ σ':St} (ren:List (Nat×CD)) (h1:CR ren=true:=by rfl) (a:Cn σ'.objs ren=true:=by rfl) (d:Al σ.objs ren σ'.objs:=by exact eN) (b:FW σ.env ren σ'.env:=by exact eN) (e:A6u c.ds.pin ren=true:=by rfl):wI c σ σ':=AC ren h1 a d b e
theorem eT (h:p:=by simp only[R4,s4,Qj,XS,Ii,Jx,Ij,go_sem,Nat.reduceEqDiff,reduceCtorEq,Nat.reduceAdd,Nat.reduceSub,Nat.reduceMul,Nat.reduceLeDiff,Nat.reduceLT,Int.reduceLE,Int.reduceToNat,Int.reduceNeg,↓reduceIte]<;>fail):p:=h
section
variable {P:Program} {ty:List (Nat×TI)} {fs:List (Nat×AW)} {nt:Nat} {f:FuncId} {fn:Func} {cd:Code}
theorem fKP (a b:List Nat) (ne:List (Nat×TypeId)) {sp:AW} (e:P.funcs[f]?=some fn) (j:fn.ntmps=nt) (hF:H9 P ⟨ty,fs,b,ne,a⟩)
  (h:∀(w0:World) (O0:Nat->Prop) (ds:IY sp.ins),(cx P ⟨ty,fs,b,ne,a⟩ w0 O0 nt).Ok->oks sp.ins ds->sp.pre ds->Ev (cx P ⟨ty,fs,b,ne,a⟩ w0 O0 nt) (R1 P fn w0 O0 (sp.out ds)) (.run cd) [] ⟨AK 0 sp.ins ds,[]⟩)
  (c : fn.body = some cd := by rfl) (hT : C5 P ⟨ty, fs, b, ne, a⟩ := by exact tyTab_ok _ _ _ _) (i : (fn.name == "runtime.NumGoroutine") = false := by kernel_rfl) (g : sp.ins.length <= nt := by decide) (d : Bg nt cd = true := by kernel_rfl) : AY P f sp := A5K e i c j g d hT hF h
theorem fK (a:List Nat) {sp:AW} (d:P.funcs[f]?=some fn) (i:fn.ntmps=nt) (hF:H9 P ⟨ty,fs,[],[],a⟩)
  (h:∀(w0:World) (O0:Nat->Prop) (ds:IY sp.ins),(cx P ⟨ty,fs,[],[],a⟩ w0 O0 nt).Ok->oks sp.ins ds->sp.pre ds->Ev (cx P ⟨ty,fs,[],[],a⟩ w0 O0 nt) (R1 P fn w0 O0 (sp.out ds)) (.run cd) [] ⟨AK 0 sp.ins ds,[]⟩)
  (b : fn.body = some cd := by rfl) (hT : C5 P ⟨ty, fs, [], [], a⟩ := by exact tyTab_ok _ _ _ _) (g : (fn.name == "runtime.NumGoroutine") = false := by kernel_rfl) (e : sp.ins.length <= nt := by decide) (c : Bg nt cd = true := by kernel_rfl) : AY P f sp := A5K d g b i e c hT hF h
variable {args:List AV} {objs:List (Nat×Obj)} {stay:List Nat} {post:AV->List (Nat×Obj)->Prop}
theorem Jf (a b:List Nat) (ne:List (Nat×TypeId)) (e:P.funcs[f]?=some fn) (k:fn.ntmps=nt) (hF:H9 P ⟨ty,fs,b,ne,a⟩)
  (h:∀(w0:World) (K O0:Nat->Prop) (ρ0:Nat->Value),(cm P ⟨ty,fs,b,ne,a⟩ w0 K O0 nt (stay.map λn=>(n,ρ0 n))).Ok->PP args->Nv objs ->
   Ev (cm P ⟨ty,fs,b,ne,a⟩ w0 K O0 nt (stay.map λn=>(n,ρ0 n))) (A3m P fn w0 K O0 stay ρ0 post) (.run cd) [] ⟨Am 0 args,objs⟩)
  (c : fn.body = some cd := by rfl) (hT : C5 P ⟨ty, fs, b, ne, a⟩ := by exact tyTab_ok _ _ _ _) (j : (fn.name == "runtime.NumGoroutine") = false := by kernel_rfl) (i : args.length <= nt := by simp only [Is, AAs]; omega) (d : Bg nt cd = true := by kernel_rfl) (l : stay.all (R3 objs) = true := by rfl) (g : LO objs = true := by rfl) : BB P f args objs stay post := A6B e j c k i d l g hT hF h
theorem fKR (a b:List Nat) (ne:List (Nat×TypeId)) (e:P.funcs[f]?=some fn) (k:fn.ntmps=nt) (hF:H9 P ⟨ty,fs,b,ne,a⟩)
  (h:∀(w0:World) (K O0:Nat->Prop) (ρ0:Nat->Value),(cm P ⟨ty,fs,b,ne,a⟩ w0 K O0 nt (stay.map λn=>(n,ρ0 n))).Ok->PP args->Nv objs ->
   Ev (cm P ⟨ty,fs,b,ne,a⟩ w0 K O0 nt (stay.map λn=>(n,ρ0 n))) (oJ P fn w0 K O0 stay ρ0 post) (.run cd) [] ⟨Am 0 args,objs⟩)
  (c : fn.body = some cd := by rfl) (hT : C5 P ⟨ty, fs, b, ne, a⟩ := by exact tyTab_ok _ _ _ _) (j : (fn.name == "runtime.NumGoroutine") = false := by kernel_rfl) (i : args.length <= nt := by simp only [Is, AAs]; omega) (d : Bg nt cd = true := by kernel_rfl) (l : stay.all (R3 objs) = true := by rfl) (g : LO objs = true := by rfl) : BB P f args objs stay post := A3t e j c k i d l g hT hF h
end
theorem fI {tb:Tb} {w0:World} {O0:Nat->Prop} {nt:Nat} (b:(cx P tb w0 O0 nt).Ok) {fn:Func} {outs:List RV} {σ:St} {e:Exit} (a:List ResultVar) (h:NH tb σ a outs:=by exact eR) (g:fn.results.toList=a:=by rfl) (c:e=.ret\/e=.normal:=by exact .inl rfl) (f:∀r∈outs,∃t d,r=.p t d:=by simp) :
  Ev (cx P tb w0 O0 nt) (R1 P fn w0 O0 outs) (.out e) [] σ:=A6z b a g c f h
theorem fM {tb:Tb} {w0:World} {K O0:Nat->Prop} {nt:Nat} {fn:Func} {post:AV->List (Nat×Obj)->Prop} {σ:St} {e:Exit} (b:(cm P tb w0 K O0 nt (Q.map λn=>(n,U n))).Ok)
  (a:List ResultVar) (res:AV) (h:R4 tb σ a res) (d:post res σ.objs) (f:fn.results.toList=a:=by rfl) (c:e=.ret\/e=.normal:=by first|exact .inl rfl|exact .inr rfl) :
  Ev (cm P tb w0 K O0 nt (Q.map λn=>(n,U n))) (A3m P fn w0 K O0 Q U post) (.out e) [] σ:=A3n b a f c res h d
end
section
open Go Go.RowKit
structure Uq (X σ:St) (n:Nat):Prop where
 env:∀s v,lk s X.env=some v->v.trn n []=v
 arr:∀m o,lk m X.objs=some o->Nz o=true
 new:∀m o,lk m X.objs=some o->lk m σ.objs=none
 nm:∀m o,lk m X.objs=some o->m≠n
section
variable {σ σ' X:St} {n:Nat}
theorem Uq.obs (b:M2 σ σ' X) (ha:Uq X σ n):jR σ σ':=by
 intro m o hn;rw[b.objs];cases a:lk m X.objs with
 | none=>exact hn
 | some c=>rw[ha.new m c a]at hn;cases hn
theorem AA1 (b:M2 σ σ' X) (ha:Uq X σ n) {en:List (Nat×AV)} {new:List (Nat×Obj)} (c:∀s v,lk s en=some v->lk s X.env=none) (e:∀m o,lk m new=some o->lk m X.objs=none) :
  M2 ⟨en++EI n [] σ.env,new++Cv n [] σ.objs⟩ ⟨en++EI n [] σ'.env,new++Cv n [] σ'.objs⟩ X:=by
 refine⟨λs=>?_,λm=>?_⟩
 .simp only[A9];cases hs:lk s en with
  | some v=>rw[c s v hs];rfl
  | none =>
   rw[FB,FB,b.env];cases a:lk s X.env with
   | none=>rfl
   | some w=>simp[ha.env s w a]
 simp only[A9];cases d:lk m new with
 | some o=>rw[e m o d];rfl
 | none =>
  rw[DK,DK,b.objs];cases a:lk m X.objs with
  | none=>rfl
  | some w =>
   rw[As λh=>ha.nm m w a (by simpa using (Ai _ _).1 h)];exact AB3 some (XZ (ha.arr m w a))
def kE (σ:St):Op->Option Nat
 | .call c=>match c.callee,c.args.toList,c.argTypes.toList with
  | .builtin .append,[x,_],[_,_]=>(match Ag σ x with|some (.nin n _ _ _)=>some n|_=>none)
  | _,_,_=>none
 | _=>none
theorem A3x {tb:Tb} {op:Op} {d:Option Nat} {τ:St} (j:M2 σ σ' X) (ha:Uq X σ n) (r:tC σ σ' op.operands.toList) (a:kE σ op=some n) (G:∀t,d=some t->lk t X.env=none) (E:∀n,(∃u,lk n τ.objs=some u)->lk n X.objs=none) (h:K0 tb σ d op=some (p,τ)) :
  (∃B,K0 tb σ' d op=some (p,B)/\M2 τ B X)/\(∀k,aq tb σ' k op=none)/\(∀k,aq tb σ k op=none)/\CU σ op=[]/\CU σ' op=[]:=by
 have vc:=ha.obs j;cases op<;>try(cases a;done)
 rename_i cl;obtain⟨callee,⟨args⟩,⟨argTypes⟩⟩:=cl;simp only[kE]at a;split at a
 .rename_i x y t u;cases f:Ag σ x with
  | none=>rw[f]at a;cases a
  | some xv =>
   rw[f]at a;cases xv<;>try(cases a;done)
   rename_i Q e i len;cases a;have z:Ag σ' x=Ag σ x:=r x (by simp[Op.operands,Call.operands]);have N:Ag σ' y=Ag σ y:=r y (by simp[Op.operands,Call.operands]);refine⟨?_,λk=>by simp[aq,DC,DX,Cw,z,f],λk=>by simp[aq,DC,DX,Cw,f],rfl,rfl⟩;simp only[K0,DU,Dr,f]at h;simp only[K0,DU,Dr,DT,z,f,N];cases A:Ag σ y with
   | none=>rw[A]at h;unfold DT at h;cases h
   | some v =>
    rw[A]at h;simp only[DT]at h;split at h
    .rename_i b;have H:=G b rfl;simp only;split at h
     .rename_i M;rw[At M];unfold Ot at h ⊢;split at h
      .rename_i O R el b2 L;try rw[L]
       try simp only
       split at h
       .rename_i J;rw[At J];unfold Rh at h ⊢;split at h
        .rename_i ti et P k c xs h1 K;try rw[h1]
         try rw[vc _ _ K]
         try simp only
         split at h
         .rename_i F;rw[At F];unfold NE at h ⊢;split at h
          .rename_i ys C;rw[LQ vc C];try simp only
           split at h
           .rename_i m;have l:lk b X.objs=none:=by
             refine E b ?_;cases h;exact⟨_,by simp only[lk,AAQ];rfl⟩
            have I:(lk b σ'.objs).isNone=true/\ys.isEmpty=false:=⟨by rw[j.objs,l];exact m.1,m.2⟩;rw[At I];cases h;refine⟨_,rfl,AA1 (en:=[(b,_)]) (new:=[(b,_),(n,_)]) j ha (λs v h=>?_) (λq o g=>?_)⟩
            .simp only[lk]at h;split at h
             .rename_i c;rw[c];exact H
             cases h
            simp only[lk]at g;split at g
            .rename_i c;rw[c];exact l
            split at g
            .rename_i c;rw[c];cases D:lk n X.objs with
             | none=>rfl
             | some w=>exact absurd rfl (ha.nm n w D)
            cases g
           cases h
          cases h
         cases h
        cases h
       cases h
      cases h
     cases h
    cases h
 cases a
end
def Ur (n:Nat):EN->EN
 | []=>[]
 | (d,v,obs) :: r=>(d,v.trn n [],obs) :: Ur n r
theorem Us {n:Nat}:∀ {ens:EN},Ur n ens=ens->∀e∈ens,e.2.1.trn n []=e.2.1
 | [],_,e,a=>by cases a
 | (d,v,obs) :: r,h,e,a=>by
  simp only[Ur,ABm,ACp,and_true,true_and]at h;rcases GO.1 a with rfl|a
  .exact h.1
  exact Us h.2 e a
section
variable {c:Cx} {o:Oper} {σ:St} {ens:EN} {N:St->Prop}
theorem yQ (I:c.Ok) {τ:St} {vc:Prop} (n:Nat) (h:GU c.tb o σ=some (vc,τ)) (b:kE σ o.op=some n) (z:N0 o ens=true) (hn:Ld [n] σ.objs ens=true) (K:Ul τ.objs ens=true) (hf:Ur n ens=ens) (J:I5 c.nt o=true) (O:vc) (E:N τ):j6 c o σ ens N:=by
 intro X σ' A g a w next Q hs hk
 have ha:Uq X σ n:=by
  refine⟨λs v hs=>?_,λm o l=>?_,λm o l=>?_,λm o l=>?_⟩
  .obtain⟨obs,i⟩:=g.env s v hs;exact Us hf _ i
  all_goals
   obtain⟨e,k,p⟩:=g.objs m o l;have:=Le hn e k _ p
  .exact this.2.2
  .exact this.1
  grind
 have G:∀t∈G7 o.op,lk t X.env=none:=λt q=>by
  cases f:lk t X.env with
  | none=>rfl
  | some v=>obtain⟨obs,i⟩:=g.env t v f;exact absurd q (GY z _ i).1
 have F:∀t,o.dst=some t->lk t X.env=none:=λt q=>by
  cases f:lk t X.env with
  | none=>rfl
  | some v=>obtain⟨obs,i⟩:=g.env t v f;exact absurd q (GY z _ i).2
 have H:∀n,(∃u,lk n τ.objs=some u)->lk n X.objs=none:=λn hu=>by
  cases f:lk n X.objs with
  | none=>rfl
  | some v =>
   obtain⟨e,k,p⟩:=g.objs n v f;obtain⟨u,hu⟩:=hu;rw[N1 K e k _ p]at hu;cases hu
 have L:=ZU A G;have key:∃d,GU c.tb o σ'=some (vc,d)/\M2 τ d X:=by
  have x:CU σ o.op=[]/\CU σ' o.op=[]:=by
   obtain⟨dst,op,ty,pos,after,C⟩:=o;simp only at b ⊢;cases op<;>first|exact⟨rfl,rfl⟩|cases b
  unfold GU Rk at h ⊢;rw[x.1]at h;rw[x.2];simp only[Cr]at h ⊢;cases y:aq c.tb σ (o.dst.getD 0) o.op with
  | some r =>
   obtain⟨dst,op,ty,pos,after,C⟩:=o;simp only at b y;exfalso;cases op<;>try(cases b;done)
   rename_i cl;obtain⟨callee,⟨args⟩,⟨argTypes⟩⟩:=cl;simp only[kE]at b;split at b
   .grind [Ag,aq,DC,DX,Cw]
   cases b
  | none =>
   rw[y]at h;simp only[LD]at h;obtain⟨⟨d,h1,j⟩,D,_⟩:=A3x A ha L b F H h;rw[D];simp only[LD];exact⟨d,h1,j⟩
 obtain⟨d,h1,j⟩:=key;exact O9 I hs h1 O (A2 J) λB w' M=>hk τ E B w' d j M
theorem mxN (b:c.Ok) {τ:St} {vc:Prop} (n:Nat) (i:vc) (a:N τ) (h:GU c.tb o σ=some (vc,τ):=by simp only[go_sem,Nat.reduceEqDiff,reduceCtorEq,Nat.reduceAdd,Nat.reduceSub,Nat.reduceMul,Nat.reduceLeDiff,Nat.reduceLT,Int.reduceLE,Int.reduceToNat,Int.reduceNeg,↓reduceIte];rfl) (f:kE σ o.op=some n:=by simp only[go_sem,Nat.reduceEqDiff,reduceCtorEq,Nat.reduceAdd,Nat.reduceSub,Nat.reduceMul,Nat.reduceLeDiff,Nat.reduceLT,Int.reduceLE,Int.reduceToNat,Int.reduceNeg,↓reduceIte]) (g:N0 o ens=true:=by rfl) (hn:Ld [n] σ.objs ens=true:=by rfl) (e:Ul τ.objs ens=true:=by rfl)
  (hf:Ur n ens=ens:=by simp only[go_sem,Nat.reduceEqDiff,reduceCtorEq,Nat.reduceAdd,Nat.reduceSub,Nat.reduceMul,Nat.reduceLeDiff,Nat.reduceLT,Int.reduceLE,Int.reduceToNat,Int.reduceNeg,↓reduceIte]) (d:I5 c.nt o=true:=by rfl):j6 c o σ ens N:=yQ b n h f g hn e hf d i a
end
end
section
open Go Go.RowKit
theorem kF (h:p:=by first|exact trivial|((try dsimp only[Ty.den])<;>(repeat'(first|apply And.intro|intro _))<;>omega)|((try dsimp only[Ty.den]at *)<;>(repeat'(first|apply And.intro|intro _))<;>omega)):p:=h
end
section
open Go Go.RowKit
section
variable {c:Cx} {R:Exit->Act->World->Prop} {k:List Ca} {σ σ':St}
def kG (a b:Ty) (k:a.den):List (a.den×b.den)->List (a.den×b.den)
 | []=>[]
 | x :: r=>if HF a k x.1=true then r else x :: kG a b k r
end
end
section
open Go Go.RowKit
section
variable {c:Cx} {R:Exit->Act->World->Prop} {k:List Ca} {σ σ':St}
theorem kH (m:c.Ok) {ops:Array Oper} {rest:List Oper} {ty:TypeId} {offs:List (Nat×Nat)} {A:Nat} {xv z:AV} {b f:Int×Int}
  (M:lk t c.tb.ty=some ⟨.agg (.prod (.int i) (.int j)),offs,0,A⟩) (N:Ag σ x=some xv) (Q:Ag σ y=some z) (E:IZ false σ (.agg (.prod (.int i) (.int j))) xv=some b) (F:IZ false σ (.agg (.prod (.int i) (.int j))) z=some f)
  (hk:D1 c R k ops rest ⟨(d,.p .bool (b.1==f.1&&b.2==f.2)) :: σ.env,σ.objs⟩) :
  D1 c R k ops (⟨some d,.binOp .eql t x y S,ty,X,Z,none⟩ :: rest) σ:=by
 intro q H a w L;unfold wpListIn;rw[At (by simp[Region.wanted])];obtain⟨ρ,l⟩:=L;have r:EM (vw w c.O0 σ ρ) σ a.eval:=CY l.env;have Y:d<c.nt:=A2 (q _ iS) d rfl;have s:Jt c.P t i j:=(m.T _ _ M).1.1.2.2;have h1:=FA (V:=vw w c.O0 σ ρ) (O':=own c.O0 σ ρ) (λ_ h=>h) (λh=>by cases h) l.objs E (r x _ N);have g:=FA (V:=vw w c.O0 σ ρ) (O':=own c.O0 σ ρ) (λ_ h=>h) (λh=>by cases h) l.objs F (r y _ Q);have h1:a.eval x=.agg #[.int i b.1,.int j b.2]:=D0 h1;have g:a.eval y=.agg #[.int i f.1,.int j f.2]:=D0 g;have J:(binOp .eql t (a.eval x) (a.eval y)).run c.P w=.ok (.bool (b.1==f.1&&b.2==f.2)) w:=by
  rw[h1,g];have:=Nr s w b.1 b.2 f.1 f.2;simp only[binOp];simp[this]
 have G:(eqGuard .eql t x y (a.eval x) (a.eval y)).run c.P w=.ok () w:=by
  obtain⟨W,after,hu,-,-,⟨B,C⟩,-⟩:=s;rw[h1,g];refine run_eqGuard_agg (P:=c.P) w .eql t x y _ _ ?_;have D:∃n,c.P.depth=n+2:=⟨_,rfl⟩;obtain⟨n,hn⟩:=D;rw[hn];simp[Program.eqGuardType,hu,B,C]
 refine Ac (u:=.bool (b.1==f.1&&b.2==f.2)) (w':=w) (by simp[execOp,G,J]) (hk (λo I=>q o (by simp[I])) H _ _ ⟨ρ,?_⟩);refine l.add m.K m.O (dst:=some d) (λU e=>by injection e with e;omega) (v:=.p .bool (b.1==f.1&&b.2==f.2)) (obs:=[]) (ρ':=ρ) rfl (QS.still ?_);exact⟨[.bool (b.1==f.1&&b.2==f.2)],rfl,rfl⟩
theorem AA2 (g:c.Ok) {ops:Array Oper} {rest:List Oper} {q:TypeId} {ty:TypeId} {offs:List (Nat×Nat)} {f:Nat} {xv e:AV} {b:Int×Int}
  (hk:D1 c R k ops rest ⟨(d,.p .bool (a.1==b.1&&a.2==b.2)) :: σ.env,σ.objs⟩) (m:lk t c.tb.ty=some ⟨.agg (.prod (.int i) (.int j)),offs,0,f⟩:=by rfl) (n:Ag σ x=some xv:=by simp only[go_sem,Nat.reduceEqDiff,reduceCtorEq,Nat.reduceAdd,Nat.reduceSub,Nat.reduceMul,Nat.reduceLeDiff,Nat.reduceLT,Int.reduceLE,Int.reduceToNat,Int.reduceNeg,↓reduceIte];rfl) (o:Ag σ y=some e:=by simp only[go_sem,Nat.reduceEqDiff,reduceCtorEq,Nat.reduceAdd,Nat.reduceSub,Nat.reduceMul,Nat.reduceLeDiff,Nat.reduceLT,Int.reduceLE,Int.reduceToNat,Int.reduceNeg,↓reduceIte];rfl)
  (h:IZ false σ (.agg (.prod (.int i) (.int j))) xv=some a:=by simp only[go_sem,Nat.reduceEqDiff,reduceCtorEq,Nat.reduceAdd,Nat.reduceSub,Nat.reduceMul,Nat.reduceLeDiff,Nat.reduceLT,Int.reduceLE,Int.reduceToNat,Int.reduceNeg,↓reduceIte];rfl) (l:IZ false σ (.agg (.prod (.int i) (.int j))) e=some b:=by simp only[go_sem,Nat.reduceEqDiff,reduceCtorEq,Nat.reduceAdd,Nat.reduceSub,Nat.reduceMul,Nat.reduceLeDiff,Nat.reduceLT,Int.reduceLE,Int.reduceToNat,Int.reduceNeg,↓reduceIte];rfl) :
  D1 c R k ops (⟨some d,.binOp .eql t x y q,ty,X,Z,none⟩ :: rest) σ:=kH g m n o h l hk
end
end
section
open Go Go.RowKit
def siB (P:Program) (b:IntKind) (id:TypeId):Option TypeDesc->Bool
 | some (.struct ⟨[a, c]⟩) => (a.name != "_") && (c.name != "_") && a.offset == 0 && c.offset == 1 && (match P.underlying a.type with | some .string => true | _ => false) && isI b (P.underlying c.type) && P.stoodInHeld id == false && !(P.eqGuardType P.depth id)
 | _=>false
theorem dN {b:IntKind} (h:siB P b t (P.underlying t)=true) (w:World) (i k:ByteArray) (j l:Int) :
  (binOp .eql t (.agg #[.string i,.int b j]) (.agg #[.string k,.int b l])).run P w=.ok (.bool (AM i k&&(j==l))) w/\∀x y:Operand,∀u v:Array Value,(eqGuard .eql t x y (.agg u) (.agg v)).run P w=.ok () w:=by
 unfold siB at h;split at h
 .rename_i a f hu;simp only[An,AAb,ACb,TO]at h;obtain⟨⟨⟨⟨⟨⟨⟨h1,p⟩,q⟩,r⟩,d⟩,g⟩,s⟩,id⟩:=h;have d:P.underlying a.type=some .string:=by
   split at d
   .assumption
   cases d
  have g:=Tu g;have m:P.fieldsOf t=#[a,f]:=by simp[Program.fieldsOf,hu]
  refine⟨?_,λx y u v=>run_eqGuard_agg (P:=P) w .eql t x y u v id⟩;have z:P.plainKey a.type=true:=by simp[Program.plainKey,d]
  have A:P.plainKey f.type=true:=by simp[Program.plainKey,g]
  have B:∀x y:ByteArray,(Op.equalIn 9999 a.type (.string x) (.string y)).run P w=.ok (x.toList==y.toList) w:=λx y=>run_equalIn_string w 9998 _ x y d;have n:∀x y:Int,(Op.equalIn 9999 f.type (.int b x) (.int b y)).run P w=.ok (x==y) w:=λx y=>LK g 9998 x y;have e:(Op.equalIn 10000 t (.agg #[.string i,.int b j]) (.agg #[.string k,.int b l])).run P w=_:=run_equalIn_struct (P:=P) w 9999 t _ _ (by rw[m];exact hu) s;rw[run_eql_struct,e,m];have p0:=λ(u v:Value)=>AC0 (P:=P) w z (xs:=#[u,v]) (off:=a.offset) (v:=u) (by rw[q];rfl);have o:=λ(u v:Value)=>AC0 (P:=P) w A (xs:=#[u,v]) (off:=f.offset) (v:=v) (by rw[r];rfl);unfold AM;simp only[Op.eqFields,h1,p,ne_eq,ACJ,AAQ,AAK,p0,o,AAp,B,n];by_cases c:i.toList=k.toList
  .by_cases c2:j=l<;>simp[c,c2,ACO,AAK,o,n,Op.eqFields]
  simp[c,ACO]
 cases h
theorem TE {b:IntKind} {d:(Ty.agg (.prod .str (.int b))).den} (h:BS w O (.agg (.prod .str (.int b))) v d):v=.agg #[.string d.1,.int b d.2]:=by
 obtain⟨cs,⟨c1,c2,rfl,⟨rfl,_⟩,⟨rfl,_⟩⟩,rfl⟩:=h;rfl
section
variable {c:Cx} {R:Exit->Act->World->Prop} {k:List Ca} {σ σ':St}
theorem AA3 (m:c.Ok) {ops:Array Oper} {rest:List Oper} {ty:TypeId} {j:IntKind} {xv s:AV} {b f:ByteArray×Int}
  (D:siB c.P j t (c.P.underlying t)=true) (hk:D1 c R k ops rest ⟨(d,.p .bool (AM b.1 f.1&&b.2==f.2)) :: σ.env,σ.objs⟩) (F:Ag σ x=some xv:=by simp only[go_sem,Nat.reduceEqDiff,reduceCtorEq,Nat.reduceAdd,Nat.reduceSub,Nat.reduceMul,Nat.reduceLeDiff,Nat.reduceLT,Int.reduceLE,Int.reduceToNat,Int.reduceNeg,↓reduceIte];rfl) (G:Ag σ y=some s:=by simp only[go_sem,Nat.reduceEqDiff,reduceCtorEq,Nat.reduceAdd,Nat.reduceSub,Nat.reduceMul,Nat.reduceLeDiff,Nat.reduceLT,Int.reduceLE,Int.reduceToNat,Int.reduceNeg,↓reduceIte];rfl)
  (z:IZ false σ (.agg (.prod .str (.int j))) xv=some b:=by simp only[go_sem,Nat.reduceEqDiff,reduceCtorEq,Nat.reduceAdd,Nat.reduceSub,Nat.reduceMul,Nat.reduceLeDiff,Nat.reduceLT,Int.reduceLE,Int.reduceToNat,Int.reduceNeg,↓reduceIte];rfl) (A:IZ false σ (.agg (.prod .str (.int j))) s=some f:=by simp only[go_sem,Nat.reduceEqDiff,reduceCtorEq,Nat.reduceAdd,Nat.reduceSub,Nat.reduceMul,Nat.reduceLeDiff,Nat.reduceLT,Int.reduceLE,Int.reduceToNat,Int.reduceNeg,↓reduceIte];rfl) :
  D1 c R k ops (⟨some d,.binOp .eql t x y S,ty,X,Z,none⟩ :: rest) σ:=by
 intro n B a w E;unfold wpListIn;rw[At (by simp[Region.wanted])];obtain⟨ρ,i⟩:=E;have q:EM (vw w c.O0 σ ρ) σ a.eval:=CY i.env;have J:d<c.nt:=A2 (n _ iS) d rfl;have h1:=FA (V:=vw w c.O0 σ ρ) (O':=own c.O0 σ ρ) (λ_ h=>h) (λh=>by cases h) i.objs z (q x _ F);have l:=FA (V:=vw w c.O0 σ ρ) (O':=own c.O0 σ ρ) (λ_ h=>h) (λh=>by cases h) i.objs A (q y _ G);have h1:a.eval x=.agg #[.string b.1,.int j b.2]:=TE h1;have l:a.eval y=.agg #[.string f.1,.int j f.2]:=TE l;obtain⟨r,g⟩:=dN D w b.1 f.1 b.2 f.2;have g:=g x y #[.string b.1,.int j b.2] #[.string f.1,.int j f.2];rw[<-h1,<-l]at r g;refine Ac (u:=.bool (AM b.1 f.1&&b.2==f.2)) (w':=w) (by simp[execOp,g,r]) (hk (λo C=>n o (by simp[C])) B _ _ ⟨ρ,?_⟩);refine i.add m.K m.O (dst:=some d) (λI e=>by injection e with e;omega) (v:=.p .bool (AM b.1 f.1&&b.2==f.2)) (obs:=[]) (ρ':=ρ) rfl (QS.still ?_);exact⟨[.bool (AM b.1 f.1&&b.2==f.2)],rfl,rfl⟩
end
end
section
open Go Go.RowKit
theorem Xd {tb:Tb} {w0:World} {K O0:Nat->Prop} {nt:Nat} {fn:Func} {post:AV->List (Nat×Obj)->Prop} {σ:St} {e:Exit} (d:(cm P tb w0 K O0 nt (Q.map λn=>(n,U n))).Ok)
  (b:List ResultVar) (k:fn.results.toList=b) (g:e=.ret\/e=.normal) (res:AV) (h:R4 tb σ b res) (i:post res σ.objs) :
  Ev (cm P tb w0 K O0 nt (Q.map λn=>(n,U n))) (oJ P fn w0 K O0 Q U post) (.out e) [] σ:=by
 intro _ _ a w hs;obtain⟨ρ,hs⟩:=hs;obtain⟨u,h1,c⟩:=UX d.T hs (by rw[k];exact h);have j:LX K O0 Q w0 U post u w:=by
  refine⟨res,σ.objs,ρ,i,hs.frm,⟨hs.objs,hs.free,hs.dist⟩,c,λn hn=>?_⟩;exact(hs.pin (n,U n) (IS.2 ⟨n,hn,rfl⟩)).2.1
 have f:a.defers=[]:=hs.defers;have key:LeavesInM (FR none) 0 P fn a.tmps (λe w'=>∃u,e=.returned u/\LX K O0 Q w0 U post u w') a.defers .returning w:=by
  rw[f];exact⟨u,h1,u,rfl,j⟩
 rcases g with rfl|rfl
 .exact key
 exact key
section
variable {c:Cx} {R:Exit->Act->World->Prop} {k:List Ca} {σ σ':St}
theorem cG (n:Nat) (d:c.Ok) {id:Nat} {l:List Oper} {vc:Prop} (f:vc) (hk:D1 c R k l.toArray (l.drop n) σ') (h:Bv c.tb l (l.take n) σ=some (vc,σ'):=by simp only[AAS,AB0,go_sem,Nat.reduceEqDiff,reduceCtorEq,Nat.reduceAdd,Nat.reduceSub,Nat.reduceMul,Nat.reduceLeDiff,Nat.reduceLT,Int.reduceLE,Int.reduceToNat,Int.reduceNeg,↓reduceIte];rfl) :
  Ev c R (.run (.region id l.toArray false)) k σ:=by
 intro h1 b a w hs;simp only[Gt,Bg,OF]at h1;exact AC2 (PN d n (by simpa using h) f hk (λo e=>h1 o e) b a w hs)
end
end
section
open Go Go.RowKit
theorem oM {σ:St} {ρ ρ':Nat->Value} {b:Nat} (h:¬own O σ ρ b):¬own O ⟨[],[]⟩ ρ' b:=by
 rintro (q|⟨n,⟨o,a⟩,-⟩)
 .exact h (.inl q)
 cases a
theorem Ut {ρ:Nat->Value} {t:Ty} {d:t.den} (h:BS w O t v d):Bx (vw w O ⟨[],[]⟩ ρ) (.p t d) v:=by
 refine BS.mono (λb _ q=>?_) (λ_ _ _=>rfl) h;rintro (c|⟨n,⟨o,a⟩,-⟩)
 .exact q c
 cases a
theorem dP {w:World} {O:Nat->Prop} {σ:St} {ρ ρ':Nat->Value}:∀ {outs:List RV} {nm:Nat} {a:List Value},(∀r∈outs,∃t d,r=.p t d)->HR (vw w O σ ρ) (H7 nm outs) a->HR (vw w O ⟨[],[]⟩ ρ') (H7 nm outs) a
 | [],_,_,_,h=>h
 | r :: l,nm,a,c,h=>by
  obtain⟨t,d,rfl⟩:=c r sc;obtain⟨v,l',rfl,h1,e⟩:=h;exact⟨v,l',rfl,BS.mono (λb _ q=>oM q) (λ_ _ _=>rfl) (show BS _ _ t v d from h1),dP (λr f=>c r (IF _ f)) e⟩
theorem R7:∀ {outs:List RV} {nm:Nat},(∀r∈outs,∃t d,r=.p t d)->C4 nm outs=[]
 | [],_,_=>rfl
 | r :: l,nm,a=>by
  obtain⟨t,d,rfl⟩:=a r sc;exact R7 (outs:=l) (λr b=>a r (IF _ b))
theorem Uu:∀ {outs:List RV} {nm nm':Nat},(∀r∈outs,∃t d,r=.p t d)->H7 nm outs=H7 nm' outs
 | [],_,_,_=>rfl
 | r :: l,nm,nm',a=>by
  obtain⟨t,d,rfl⟩:=a r sc;show AV.p t d :: _=AV.p t d :: _;rw[Uu (outs:=l) λr b=>a r (IF _ b)]
theorem kI {σ:St} {ρ ρ':Nat->Value} {nm:Nat} {u:Value}:∀ {outs:List RV},(∀r∈outs,∃t d,r=.p t d)->Bx (vw w O σ ρ) (HP 0 outs) u->Bx (vw w O ⟨[],[]⟩ ρ') (HP nm outs) u
 | [],_,h=>h
 | [r],a,h=>by
  obtain⟨t,d,rfl⟩:=a r sc;exact BS.mono (λb _ q=>oM q) (λ_ _ _=>rfl) (show BS _ _ t u d from h)
 | r :: q :: l,a,h=>by
  obtain⟨c,rfl,h1⟩:=h;refine⟨c,rfl,?_⟩;have h1:HR (vw w O σ ρ) (H7 0 (r :: q :: l)) c:=h1;rw[Uu (nm':=nm) a]at h1;exact dP a h1
theorem Wp {sp : AW} (hf : ∃ fn : Func, P.funcs[f]? = some fn /\ (fn.name == "runtime.NumGoroutine") = false /\ fn.body.isNone = false)
  (h:∀ds,sp.pre ds->∃args,(∀w O c,O5 w O sp.ins c ds->HY (vw w O ⟨[],[]⟩ λ_=>undef) args c)/\BB P f args [] [] (λres _=>res=HP 0 (sp.out ds)))
  (g:∀ds,∀r∈sp.out ds,∃t d,r=.p t d):AY P f sp:=by
 refine⟨hf,λw O c ds i hG y s=>?_⟩;obtain⟨args,ha,-,k⟩:=h ds s;have h1:=k w (λb=>b<w.heap.size) O (λ_=>undef) c (λb q=>q) i hG ⟨λn o q=>(by cases q),λn b q=>(by obtain⟨o,q⟩:=q;cases q),λn m b q=>(by obtain⟨o,q⟩:=q;cases q)⟩ (ha w O c y);refine h1.mono λe w' v=>?_;obtain⟨u,l,res,C,ρ',x,a,A,j,-⟩:=v;refine⟨u,l,λnm=>⟨λ_=>undef,?_⟩⟩;subst x;have z:=kI (ρ':=λ_=>undef) (nm:=nm) (g ds) j;rw[R7 (g ds)];exact⟨⟨a.os,a.tape,a.output,a.size,λb q=>a.block b q⟩,λ_ _=>rfl,z,λn o q=>(by cases q),λn o b q=>(by cases q),λn m o B b q=>(by cases q)⟩
end
section
open Go Go.RowKit
def qs2 (a:List (List Nat×Nat×List Nat)) (D:List Nat):List Nat:=(a.flatMap (·.1))++D
end
section
open Go Go.RowKit
def Lf (t:Nat):QT->Bool
 | some (u,_)=>u==t
 | none=>false
theorem dQ (h:∃fs,P.underlying t=some (.struct fs)) (w:World) (x:Value):(Instr.makeInterface t x).run P w=.ok (.iface t x) w:=by
 obtain⟨fs,h⟩:=h;have a:=f8 (w:=w) h;simp[Instr.makeInterface,a]
theorem yR (h:BS w O (.agg .str) v s):v=.agg #[.string s]/\s.size<=AO:=by
 obtain⟨cs,⟨rfl,h1⟩,rfl⟩:=h;exact⟨rfl,h1⟩
section
variable {c:Cx} {R:Exit->Act->World->Prop} {k:List Ca} {σ σ':St}
theorem A8N (f:c.Ok) {ops:Array Oper} {rest:List Oper} {g:Nat} {ty:TypeId} {pv:PV} {ti:TI}
  (hk:D1 c R k ops rest ⟨(d,.p pv.t pv.d) :: σ.env,σ.objs⟩) (x:lk g gls=some pv:=by rfl) (C:lk t c.tb.ty=some ti:=by rfl) (q:ti.ty=pv.t:=by rfl) :
  D1 c R k ops (⟨some d,.load t (.global g),ty,X,Z,none⟩ :: rest) σ:=by
 intro l z a w B;unfold wpListIn;rw[At (by simp[Region.wanted])];obtain⟨ρ,n⟩:=B;have G:d<c.nt:=A2 (l _ iS) d rfl;obtain⟨h1,E,cs,r,s⟩:=(sQ f n).hG ⟨g,pv⟩ (E5 x);have i:Bq w (own c.O0 σ ρ) pv.t cs pv.d:=s.mono (λb F hn h=>hn (.inr h)) λ_ _ _=>rfl;have hT:=f.T _ _ C;have A:=i.length;have m:=F3 w hT (ad:=⟨g,0,none⟩) (by rw[q];exact A) (λj u y=>by rw[Th];exact r j u y);rw[q]at m;refine Ac (u:=pv.t.wrap cs) (w':=w) (by simp only[execOp,Act.eval,AAK,m,AAp,ABd]) (hk (λo h=>l o (by simp[h])) z _ _ ⟨ρ,?_⟩);refine n.add f.K f.O (dst:=some d) (λD e=>by injection e with e;omega) (v:=.p pv.t pv.d) (obs:=[]) (ρ':=ρ) rfl (QS.still ?_);exact⟨cs,i,rfl⟩
theorem A6F (f:c.Ok) {ops:Array Oper} {rest:List Oper} {ty:TypeId} {xv:AV} 
  (q:∃fs,c.P.underlying t=some (.struct fs)) (hk:D1 c R k ops rest ⟨(d,.p (.ref 3) (some (t,some s))) :: σ.env,σ.objs⟩) (y:Ag σ x=some xv:=by simp only[go_sem,Nat.reduceEqDiff,reduceCtorEq,Nat.reduceAdd,Nat.reduceSub,Nat.reduceMul,Nat.reduceLeDiff,Nat.reduceLT,Int.reduceLE,Int.reduceToNat,Int.reduceNeg,↓reduceIte];rfl)
  (hs:IZ false σ (.agg .str) xv=some s:=by simp only[go_sem,Nat.reduceEqDiff,reduceCtorEq,Nat.reduceAdd,Nat.reduceSub,Nat.reduceMul,Nat.reduceLeDiff,Nat.reduceLT,Int.reduceLE,Int.reduceToNat,Int.reduceNeg,↓reduceIte];rfl):D1 c R k ops (⟨some d,.makeInterface t x,ty,X,Z,none⟩ :: rest) σ:=by
 intro g m a w r;unfold wpListIn;rw[At (by simp[Region.wanted])];obtain⟨ρ,b⟩:=r;have l:EM (vw w c.O0 σ ρ) σ a.eval:=CY b.env;have A:d<c.nt:=A2 (g _ iS) d rfl;have h1:=FA (V:=vw w c.O0 σ ρ) (O':=own c.O0 σ ρ) (λ_ h=>h) (λh=>by cases h) b.objs hs (l x _ y);obtain⟨i,j⟩:=yR h1;refine Ac (u:=.iface t (.agg #[.string s])) (w':=w) (by simp only[execOp,AAK,dQ q,i,AAp,ABd]) (hk (λo n=>g o (by simp[n])) m _ _ ⟨ρ,?_⟩);refine b.add f.K f.O (dst:=some d) (λz e=>by injection e with e;omega) (v:=.p (.ref 3) (some (t,some s))) (obs:=[]) (ρ':=ρ) rfl (QS.still ?_);exact⟨[.iface t (.agg #[.string s])],⟨rfl,rfl,j⟩,rfl⟩
theorem A3y (g:c.Ok) {ops:Array Oper} {rest:List Oper} {ty ty1:TypeId} {C:String} {j:Array Edge}
  (y:∃fs,c.P.underlying t=some (.struct fs)) (n:∀w:World,(Instr.build t #[]).run c.P w=.ok (.agg #[]) w) (F:d≠b) (hk:D1 c R k ops rest ⟨(d,.p (.ref 3) (some (t,none))) :: (b,.top) :: σ.env,σ.objs⟩) :
  D1 c R k ops (⟨some b,.build t #[],ty1,C,j,none⟩ :: ⟨some d,.makeInterface t (.tmp b),ty,X,Z,none⟩ :: rest) σ:=by
 intro h r a w z;unfold wpListIn;rw[At (by simp[Region.wanted])];obtain⟨ρ,A⟩:=z;have D:d<c.nt:=A2 (h _ (IF _ iS)) d rfl;have E:b<c.nt:=A2 (h _ iS) b rfl;refine Ac (u:=.agg #[]) (w':=w) (by
  have h0:=n w;simp[execOp,h0]) ?_
 have i:=A.add g.K g.O (dst:=some b) (λl e=>by injection e with e;omega) (v:=.raw (.agg #[])) (obs:=[]) (ρ':=ρ) (u:=.agg #[]) rfl (QS.still rfl);have q:EM (vw w c.O0 ⟨(b,.raw (.agg #[])) :: σ.env,σ.objs⟩ ρ) ⟨(b,.raw (.agg #[])) :: σ.env,σ.objs⟩ (a.put (some b) (.agg #[])).eval:=CY i.env;have B:(a.put (some b) (.agg #[])).eval (.tmp b)=.agg #[]:=q (.tmp b) (.raw (.agg #[])) (by simp[Ag,lk]);unfold wpListIn;rw[At (by simp[Region.wanted])];refine Ac (u:=.iface t (.agg #[])) (w':=w) (by simp only[execOp,AAK,B,dQ y,AAp,ABd]) ?_;have f:=i.add g.K g.O (dst:=some d) (λl e=>by injection e with e;omega) (v:=.p (.ref 3) (some (t,none))) (obs:=[]) (ρ':=ρ) (u:=.iface t (.agg #[])) rfl (QS.still ⟨[.iface t (.agg #[])],⟨rfl,rfl⟩,rfl⟩);refine hk (λo x=>h o (by simp[x])) r _ _ ⟨ρ,f.frm,f.nt,f.defers,f.pin,f.objs,f.free,f.dist,λs v hs=>?_⟩;simp only[lk]at hs;split at hs
 .rename_i e;exact f.env s v (by simp only[St.add,lk,At e];exact hs)
 rename_i e;split at hs
 .cases hs;trivial
 rename_i m;exact f.env s v (by simp only[St.add,lk,As e,As m];exact hs)
theorem tJ (h:c.Ok) {ops:Array Oper} {rest:List Oper} {u:TypeId} {ty:TypeId} {xv:QT}
  (hu:∃fs,c.P.underlying t=some (.struct fs)) (f:∃z,∀w:World,(zeroValue t).run c.P w=.ok z w) (hk:D1 c R k ops rest ⟨(d,.tup [.top,.p .bool (Lf t xv)]) :: σ.env,σ.objs⟩) (y:Ag σ x=some (.p (.ref 3) xv):=by simp only[go_sem,Nat.reduceEqDiff,reduceCtorEq,Nat.reduceAdd,Nat.reduceSub,Nat.reduceMul,Nat.reduceLeDiff,Nat.reduceLT,Int.reduceLE,Int.reduceToNat,Int.reduceNeg,↓reduceIte];rfl) :
  D1 c R k ops (⟨some d,.typeAssert x u t true,ty,X,Z,none⟩ :: rest) σ:=by
 intro i m a w r;unfold wpListIn;rw[At (by simp[Region.wanted])];obtain⟨ρ,j⟩:=r;have l:EM (vw w c.O0 σ ρ) σ a.eval:=CY j.env;have C:d<c.nt:=A2 (i _ iS) d rfl;obtain⟨cs,⟨rfl,B⟩,h1⟩:=l x _ y;have h1:a.eval x=QU 3 xv:=h1;obtain⟨fs,hu⟩:=hu;obtain⟨z,f⟩:=f;have b:=f8 (w:=w) hu;have key:∃v,(Instr.typeAssert (QU 3 xv) u t true).run c.P w=.ok (.tuple #[v,.bool (Lf t xv)]) w:=by
  match xv with
  | none=>exact⟨z,by simp[Instr.typeAssert,b,QU,Y0,f w,Lf]⟩
  | some (g,none) =>
   by_cases e:g=t
   .exact⟨.agg #[],by simp[Instr.typeAssert,b,QU,Lf,e]⟩
   exact⟨z,by simp[Instr.typeAssert,b,QU,Lf,e,f w]⟩
  | some (g,some s) =>
   by_cases e:g=t
   .exact⟨.agg #[.string s],by simp[Instr.typeAssert,b,QU,Lf,e]⟩
   exact⟨z,by simp[Instr.typeAssert,b,QU,Lf,e,f w]⟩
 obtain⟨v,q⟩:=key;refine Ac (u:=.tuple #[v,.bool (Lf t xv)]) (w':=w) (by simp only[execOp,AAK,h1,q,AAp,ABd]) (hk (λo n=>i o (by simp[n])) m _ _ ⟨ρ,?_⟩);refine j.add h.K h.O (dst:=some d) (λA e=>by injection e with e;omega) (v:=.tup [.top,.p .bool (Lf t xv)]) (obs:=[]) (ρ':=ρ) rfl (QS.still ?_);exact⟨[v,.bool (Lf t xv)],rfl,v,_,rfl,trivial,_,_,rfl,⟨[.bool (Lf t xv)],rfl,rfl⟩,rfl⟩
def nmS:AW:={ ins:=[.agg .str],pre:=λ_=>True,out:=λ(s,_)=>[.p .str s] }
theorem A8O (b:c.Ok) {ops:Array Oper} {rest:List Oper} {nm:String} {ty:TypeId} {t:Nat} (hF:AY c.P f nmS)
  (g:∀(w:World) (v:Value),(method (c.P.types.size+Made.depth) t v nm).run c.P w=.ok (f,v) w) (hk:D1 c R k ops rest ⟨(d,.p .str s) :: σ.env,σ.objs⟩) (J:Ag σ x=some (.p (.ref 3) (some (t,some s))):=by simp only[go_sem,Nat.reduceEqDiff,reduceCtorEq,Nat.reduceAdd,Nat.reduceSub,Nat.reduceMul,Nat.reduceLeDiff,Nat.reduceLT,Int.reduceLE,Int.reduceToNat,Int.reduceNeg,↓reduceIte];rfl) :
  D1 c R k ops (⟨some d,.call ⟨.invoke x nm,#[],#[]⟩,ty,o,Z,none⟩ :: rest) σ:=by
 intro m C a w H;unfold wpListIn;rw[At (by simp[Region.wanted])];obtain⟨ρ,j⟩:=H;have A:EM (vw w c.O0 σ ρ) σ a.eval:=CY j.env;have M:d<c.nt:=A2 (m _ iS) d rfl;obtain⟨cs,⟨rfl,r⟩,h1⟩:=A x _ J;have h1:a.eval x=.iface t (.agg #[.string s]):=h1;have I:s.size<=AO:=r.2;obtain⟨⟨fn,B,D,y⟩,F⟩:=hF;have l:=sQ b j;have z:=F w (own c.O0 σ ρ) [.agg #[.string s]] (s,()) l.own l.hG ⟨_,_,rfl,⟨[.string s],⟨rfl,I⟩,rfl⟩,rfl⟩ trivial;have G:(execOp a.eval ⟨some d,.call ⟨.invoke x nm,#[],#[]⟩,ty,o,Z,none⟩).run c.P w=.ok (.enter f [.agg #[.string s]].toArray) w:=by
  have n : ¬ fn.name = "runtime.NumGoroutine" := by simpa using D
  have q:¬fn.body=none:=by intro e;simp[e]at y
  have g:=g w (.agg #[.string s]);simp[execOp,resolve,invoke,callMethod,h1,g,callFunc,B,n,q]
 refine⟨λ_ _=>trivial,?_⟩;rw[EO _ _ _ (λc e=>by cases e),G,ACh];refine⟨λh=>(by simp[FR]at h),HV (z.mono λe w' hh=>?_)⟩;obtain⟨u,rfl,hh⟩:=hh;obtain⟨ρ',i⟩:=hh 0;have i:=QS.call (σ:=σ) (ρ:=ρ) rfl i;refine hk (λafter E=>m after (by simp[E])) C _ _ ⟨_,j.add b.K b.O (dst:=some d) (λL e=>by injection e with e;omega) (v:=.p .str s) (obs:=[]) rfl i⟩
theorem A3z (U:c.Ok) {ops:Array Oper} {rest:List Oper} {dst:Option Nat} {g:Operand} {xs:List Operand} {ts:Array TypeId} {ty:TypeId} {pos:String} 
  {n:Nat} (X:Ag σ g=some (.clo (1000000+f) [n])) {aw:List AV} (Q:LY σ xs=some aw)
  {A:List AV} {objs:List (Nat×Obj)} {stay:List Nat} {post:AV->List (Nat×Obj)->Prop} (t:BB c.P f A objs stay post)
  (ren:List (Nat×CD)) (hs:List Nat) (h1:CR ren=true) (H:Cn objs ren=true) (af:(c.ds.pin.all λp=>!Ab p.1 hs)=true) (I:Bt σ ren (.bp n [] 0 :: aw) A) (M:Al σ.objs ren objs)
  (hk:∀res l,post res l->∃(d:List (Nat×CD)) (m:AV) (j:List (Nat×Obj)),CR d=true/\Cn j d=true/\Al l d j/\B3 d res m /\
   JA ren d stay hs=true/\F6 (Ax ren) j σ.objs=true/\D1 c R k ops rest (C6 σ (Ax ren) hs dst m j)) :
  D1 c R k ops (⟨dst,.call ⟨.value g,xs.toArray,ts⟩,ty,pos,Z,none⟩ :: rest) σ:=by
 intro x after a w aj;unfold wpListIn;rw[At (by simp[Region.wanted])];obtain⟨ρ,z⟩:=aj;have y:EM (vw w c.O0 σ ρ) σ a.eval:=CY z.env;obtain⟨⟨fn,W,ab,T⟩,t⟩:=t;obtain⟨v,Y⟩:=y g _ X;obtain⟨s,b,i⟩:=Y n sc;have i:ρ n=_:=i;have v:a.eval g=.func (.func f) #[ρ n] #[]:=by
  rw[v];unfold sG;rw[As (bnd f).1,(bnd f).2];rfl
 have O:HY (vw w c.O0 σ ρ) (.bp n [] 0 :: aw) (ρ n :: xs.map a.eval):=⟨ρ n,_,rfl,⟨s,b,i,i⟩,TC y Q⟩;have ah:(execOp a.eval ⟨dst,.call ⟨.value g,xs.toArray,ts⟩,ty,pos,Z,none⟩).run c.P w=.ok (.enter f (ρ n :: xs.map a.eval).toArray) w:=by
  have ak : ¬ fn.name = "runtime.NumGoroutine" := by simpa using ab
  have al:¬fn.body=none:=by intro e;simp[e]at T
  simp[execOp,resolve,Deferred.ofValue,v,invoke,callFunc,W,ak,al]
 obtain⟨B,C,am,L,N,K,aa,S,_,ag⟩:=Mf U z O stay post ren h1 H I M hs af (A2 (x _ iS)) (next:=λq w'=>wpListIn (FR c.r) 0 c.P ops (Sb c R k) rest q w') λres l ae=>by
  obtain⟨d,m,j,s,i,D,E,F,G,J⟩:=hk res l ae;exact⟨d,m,j,s,i,D,E,F,G,λq w' ai=>J (λo ad=>x o (by simp[ad])) after q w' ai⟩
 have V:=t w B C am (ρ n :: xs.map a.eval) L N K aa S;refine⟨λ_ _=>trivial,?_⟩;rw[EO _ _ _ (λcl e=>by cases e),ah,ACh];refine⟨λh=>(by simp[FR]at h),HV (V.mono λe w' hh=>?_)⟩;obtain⟨u,rfl,hh⟩:=hh;exact ag u w' hh
end
theorem kJ {xs ys:Array Value} {b:Bool} (h:(binOp .eql t (.agg xs) (.agg ys)).run P w=.ok (.bool b) w):(binOp .neq t (.agg xs) (.agg ys)).run P w=.ok (.bool (!b)) w:=by
 rw[run_eql_struct]at h;rw[run_neq_struct];generalize (Op.equalIn 10000 t (.agg xs) (.agg ys)).run P w=r at *;cases r<;>first|(cases h;rfl)|cases h
theorem yS {b:IntKind} (h:siB P b t (P.underlying t)=true):P.eqGuardType P.depth t=false:=by
 unfold siB at h;split at h
 .simp only[An,TO]at h;exact h.2
 cases h
section
variable {c:Cx} {R:Exit->Act->World->Prop} {k:List Ca} {σ σ':St}
theorem oO (f:c.Ok) {ops:Array Oper} {rest:List Oper} {A:TypeId} {ty:TypeId} {xs ys:Array Value} {b:Bool}
  (z:∀(ρ:Nat->Value) (a:Act) (w:World),B2 c.w0 c.K c.O0 c.nt c.ds σ ρ a w->a.eval x=.agg xs/\a.eval y=.agg ys) (r:∀w:World,(binOp .eql t (.agg xs) (.agg ys)).run c.P w=.ok (.bool b) w) (m:c.P.eqGuardType c.P.depth t=false)
  (hk:D1 c R k ops rest ⟨(d,.p .bool (!b)) :: σ.env,σ.objs⟩):D1 c R k ops (⟨some d,.binOp .neq t x y A,ty,X,Z,none⟩ :: rest) σ:=by
 intro g n a w s;unfold wpListIn;rw[At (by simp[Region.wanted])];obtain⟨ρ,j⟩:=s;have C:d<c.nt:=A2 (g _ iS) d rfl;obtain⟨h1,l⟩:=z ρ a w j;have i:=kJ (r w);have h:=run_eqGuard_agg (P:=c.P) w .neq t x y xs ys m;rw[<-h1,<-l]at i h;refine Ac (u:=.bool (!b)) (w':=w) (by simp[execOp,h,i]) (hk (λo q=>g o (by simp[q])) n _ _ ⟨ρ,?_⟩);refine j.add f.K f.O (dst:=some d) (λB e=>by injection e with e;omega) (v:=.p .bool (!b)) (obs:=[]) (ρ':=ρ) rfl (QS.still ?_);exact⟨[.bool (!b)],rfl,rfl⟩
theorem A8P (m:c.Ok) {ops:Array Oper} {rest:List Oper} {s:TypeId} {ty:TypeId} {j:IntKind} {xv:AV} {b e:ByteArray×Int}
  (i:siB c.P j t (c.P.underlying t)=true) (hk:D1 c R k ops rest ⟨(d,.p .bool (!(AM b.1 e.1&&b.2==e.2))) :: σ.env,σ.objs⟩) (q:Ag σ x=some xv:=by simp only[go_sem,Nat.reduceEqDiff,reduceCtorEq,Nat.reduceAdd,Nat.reduceSub,Nat.reduceMul,Nat.reduceLeDiff,Nat.reduceLT,Int.reduceLE,Int.reduceToNat,Int.reduceNeg,↓reduceIte];rfl) (r:Ag σ y=some l:=by simp only[go_sem,Nat.reduceEqDiff,reduceCtorEq,Nat.reduceAdd,Nat.reduceSub,Nat.reduceMul,Nat.reduceLeDiff,Nat.reduceLT,Int.reduceLE,Int.reduceToNat,Int.reduceNeg,↓reduceIte];rfl)
  (n:IZ false σ (.agg (.prod .str (.int j))) xv=some b:=by simp only[go_sem,Nat.reduceEqDiff,reduceCtorEq,Nat.reduceAdd,Nat.reduceSub,Nat.reduceMul,Nat.reduceLeDiff,Nat.reduceLT,Int.reduceLE,Int.reduceToNat,Int.reduceNeg,↓reduceIte];rfl) (o:IZ false σ (.agg (.prod .str (.int j))) l=some e:=by simp only[go_sem,Nat.reduceEqDiff,reduceCtorEq,Nat.reduceAdd,Nat.reduceSub,Nat.reduceMul,Nat.reduceLeDiff,Nat.reduceLT,Int.reduceLE,Int.reduceToNat,Int.reduceNeg,↓reduceIte];rfl) :
  D1 c R k ops (⟨some d,.binOp .neq t x y s,ty,X,Z,none⟩ :: rest) σ:=by
 refine oO m (xs:=#[.string b.1,.int j b.2]) (ys:=#[.string e.1,.int j e.2]) (fun ρ a w f=>?_) (λw=>(dN i w b.1 e.1 b.2 e.2).1) (yS i) hk;have g:EM (vw w c.O0 σ ρ) σ a.eval:=CY f.env;exact⟨TE (FA (V:=vw w c.O0 σ ρ) (O':=own c.O0 σ ρ) (λ_ h=>h) (λh=>by cases h) f.objs n (g x _ q)),TE (FA (V:=vw w c.O0 σ ρ) (O':=own c.O0 σ ρ) (λ_ h=>h) (λh=>by cases h) f.objs o (g y _ r))⟩
theorem A8Q (g:c.Ok) {ops:Array Oper} {rest:List Oper} {ty:TypeId} {offs:List (Nat×Nat)} {q:Nat} {xv o:AV} {b e:Int×Int}
  (hk:D1 c R k ops rest ⟨(d,.p .bool (!(b.1==e.1&&b.2==e.2))) :: σ.env,σ.objs⟩) (A:lk t c.tb.ty=some ⟨.agg (.prod (.int i) (.int j)),offs,0,q⟩:=by rfl) (B:Ag σ x=some xv:=by simp only[go_sem,Nat.reduceEqDiff,reduceCtorEq,Nat.reduceAdd,Nat.reduceSub,Nat.reduceMul,Nat.reduceLeDiff,Nat.reduceLT,Int.reduceLE,Int.reduceToNat,Int.reduceNeg,↓reduceIte];rfl) (C:Ag σ y=some o:=by simp only[go_sem,Nat.reduceEqDiff,reduceCtorEq,Nat.reduceAdd,Nat.reduceSub,Nat.reduceMul,Nat.reduceLeDiff,Nat.reduceLT,Int.reduceLE,Int.reduceToNat,Int.reduceNeg,↓reduceIte];rfl)
  (v:IZ false σ (.agg (.prod (.int i) (.int j))) xv=some b:=by simp only[go_sem,Nat.reduceEqDiff,reduceCtorEq,Nat.reduceAdd,Nat.reduceSub,Nat.reduceMul,Nat.reduceLeDiff,Nat.reduceLT,Int.reduceLE,Int.reduceToNat,Int.reduceNeg,↓reduceIte];rfl) (z:IZ false σ (.agg (.prod (.int i) (.int j))) o=some e:=by simp only[go_sem,Nat.reduceEqDiff,reduceCtorEq,Nat.reduceAdd,Nat.reduceSub,Nat.reduceMul,Nat.reduceLeDiff,Nat.reduceLT,Int.reduceLE,Int.reduceToNat,Int.reduceNeg,↓reduceIte];rfl) :
  D1 c R k ops (⟨some d,.binOp .neq t x y S,ty,X,Z,none⟩ :: rest) σ:=by
 have m:Jt c.P t i j:=(g.T _ _ A).1.1.2.2;refine oO g (xs:=#[.int i b.1,.int j b.2]) (ys:=#[.int i e.1,.int j e.2]) (fun ρ a w f=>?_) (λw=>?_) ?_ hk
 .have l:EM (vw w c.O0 σ ρ) σ a.eval:=CY f.env;exact⟨D0 (FA (V:=vw w c.O0 σ ρ) (O':=own c.O0 σ ρ) (λ_ h=>h) (λh=>by cases h) f.objs v (l x _ B)),D0 (FA (V:=vw w c.O0 σ ρ) (O':=own c.O0 σ ρ) (λ_ h=>h) (λh=>by cases h) f.objs z (l y _ C))⟩
 .have:=Nr m w b.1 b.2 e.1 e.2;simp only[binOp];simp[this]
 obtain⟨E,F,hu,-,-,⟨r,s⟩,-⟩:=m;have u:∃n,c.P.depth=n+2:=⟨_,rfl⟩;obtain⟨n,hn⟩:=u;rw[hn];simp[Program.eqGuardType,hu,r,s]
end
end
section
open Go Go.RowKit
theorem oP:IntKind.i32.min=-2147483648:=by decide
theorem oQ:IntKind.i32.max=2147483647:=by decide
theorem A3A (n:Int):H2 .i32 n↔-2147483648<=n/\n<=2147483647:=by unfold H2;rw[oP,oQ]
section
variable {c:Cx} {R:Exit->Act->World->Prop} {k:List Ca} {σ σ':St}
theorem A3B (g:c.Ok) {ops:Array Oper} {rest:List Oper} {T:TypeId} {ty:TypeId} 
  (z:Ag σ x=some (.p .str s)) (hT:c.P.underlying T=some .string) (m:lk d σ.objs=none) (hk:D1 c R k ops rest ⟨(d,.bp d [] 0) :: σ.env,(d,.sit s 0) :: σ.objs⟩) :
  D1 c R k ops (⟨some d,.range T x,ty,X,Z,none⟩ :: rest) σ:=by
 intro h q a w y;unfold wpListIn;rw[At (by simp[Region.wanted])];obtain⟨ρ,i⟩:=y;have l:EM (vw w c.O0 σ ρ) σ a.eval:=CY i.env;obtain⟨cs,⟨rfl,C⟩,f⟩:=l x _ z;have f:a.eval x=.string s:=f;have B:d<c.nt:=A2 (h _ iS) d rfl;have t:(Instr.range T (.string s)).run c.P w=.ok (.pointer (some ⟨w.heap.size,0,none⟩)) (w.alloc (.stringIter s 0)):=run_range_string w T s hT;have n:Bd [(d,Obj.sit s 0)] σ=true:=by simp[Bd,m]
 refine Ac (u:=.pointer (some ⟨w.heap.size,0,none⟩)) (w':=w.alloc (.stringIter s 0)) (by simp[execOp,f,t]) (hk (λo r=>h o (by simp[r])) q _ _ ⟨EX ρ d (.pointer (some ⟨w.heap.size,0,none⟩)),?_⟩);refine i.add g.K g.O (dst:=some d) (λA e=>by injection e with e;omega) (v:=.bp d [] 0) (obs:=[(d,.sit s 0)]) (u:=.pointer (some ⟨w.heap.size,0,none⟩)) (w':=w.alloc (.stringIter s 0)) n ?_;refine QS.one (EL w _) (λb j=>by simp[bk,blk]at j;omega) ?_ ?_
 .refine⟨⟨.sit s 0,by simp[Dh,lk]⟩,w.heap.size,by rw[show (vw (w.alloc (.stringIter s 0)) c.O0 (Dh σ [(d,.sit s 0)]) (EX ρ d (.pointer (some ⟨w.heap.size,0,none⟩)))).ρ d=EX ρ d (.pointer (some ⟨w.heap.size,0,none⟩)) d from rfl,Bl],rfl⟩
 exact⟨w.heap.size,rfl,heap_alloc_new w _⟩
theorem A3C (w:World) (ty:TypeId) (r:Nat) (s:ByteArray) (p:Nat) (a:w.heap[r]?=some (.stringIter s p)) :
  (¬p<s.size->(Instr.next (.pointer (some ⟨r,0,none⟩)) true ty).run P w=.ok (.tuple #[.bool false]) w) /\
  (p<s.size->(Instr.next (.pointer (some ⟨r,0,none⟩)) true ty).run P w=.ok (.tuple #[.bool true,.int .i64 p,.int .i32 (Utf8.decode s p).1]) (w.putObj r (.stringIter s (p+(Utf8.decode s p).2)))):=by
 constructor
 .intro h;simp[Instr.next,getObj,Sem.run,a,h]
 intro h;simp[Instr.next,getObj,setObj,Sem.run,a,h,goInt,World.putObj]
theorem A3D (l:c.Ok) {ops:Array Oper} {rest:List Oper} {n:Nat} {ty:TypeId} {p:Nat}
  (L:Ag σ x=some (.bp n [] 0)) (hn:lk n σ.objs=some (.sit s p)) (J:s.size<=AO) (h0:¬p<s.size->D1 c R k ops rest ⟨(d,.tup [.p .bool false]) :: σ.env,σ.objs⟩)
  (h1:∀h:p<s.size,∀(q:Nat) (r:Int),p<q->((s[p]'h).toNat<128->q=p+1/\r=((s[p]'h).toNat:Int))->(128<=(s[p]'h).toNat->128<=r)->H2 .i32 r->D1 c R k ops rest ⟨(d,.tup [.p .bool true,.p (.int .i64) (p:Int),.p (.int .i32) r]) :: σ.env,upd n (.sit s q) σ.objs⟩) :
  D1 c R k ops (⟨some d,.next x true,ty,X,Z,none⟩ :: rest) σ:=by
 intro y B a w I;unfold wpListIn;rw[At (by simp[Region.wanted])];obtain⟨ρ,t⟩:=I;have F:EM (vw w c.O0 σ ρ) σ a.eval:=CY t.env;have T:d<c.nt:=A2 (y _ iS) d rfl;obtain⟨S,b,m,C⟩:=F x _ L;have m:ρ n=_:=m;obtain⟨Q,i,hh⟩:=t.objs n _ hn;rw[m]at i;injection i with i
 injection i with i
 injection i with i
 subst i;have hh:w.heap[b]?=some (.stringIter s p):=hh;have E:=Bn hh;obtain⟨M,N⟩:=A3C (P:=c.P) w ty b s p hh;by_cases f:p<s.size
 .have A:=N f;have G:p<p+(Utf8.decode s p).2:=by
   by_cases j:128<=(s[p]'f).toNat
   .have:=(decode_high s p f j).2;omega
   rw[decode_ascii s p f O1];simp
  have hi:H2 .i32 ((Utf8.decode s p).1:Int):=by
   have:=decode_le s p;constructor
   .show (-2147483648:Int)<=_;omega
   show _<=(2147483647:Int);omega
  refine Ac (u:=.tuple #[.bool true,.int .i64 p,.int .i32 (Utf8.decode s p).1]) (w':=w.putObj b (.stringIter s (p+(Utf8.decode s p).2))) (by simp[execOp,C,A]) ?_;refine h1 f (p+(Utf8.decode s p).2) (Utf8.decode s p).1 G (λj=>by rw[decode_ascii s p f j];exact⟨rfl,rfl⟩) (λj=>by have:=(decode_high s p f j).1;omega) hi (λo z=>y o (by simp[z])) B _ _ ⟨ρ,?_⟩;have H:B2 c.w0 c.K c.O0 c.nt c.ds ⟨σ.env,upd n (.sit s (p+(Utf8.decode s p).2)) σ.objs⟩ ρ a (w.putObj b (.stringIter s (p+(Utf8.decode s p).2))):=by
   refine t.upd l.K hn (g:=b) (by rw[m];rfl) (grownBy_putObj' w b _) ?_;exact⟨b,m,World.putObj_heap_same E⟩
  refine H.add l.K l.O (dst:=some d) (λD e=>by injection e with e;omega) (v:=.tup [.p .bool true,.p (.int .i64) (p:Int),.p (.int .i32) ((Utf8.decode s p).1:Int)]) (obs:=[]) (ρ':=ρ) rfl (QS.still ?_);refine⟨[.bool true,.int .i64 p,.int .i32 (Utf8.decode s p).1],rfl,_,_,rfl,⟨[.bool true],rfl,rfl⟩,_,_,rfl,⟨[.int .i64 p],⟨rfl,?_⟩,rfl⟩,_,_,rfl,⟨[.int .i32 (Utf8.decode s p).1],⟨rfl,hi⟩,rfl⟩,rfl⟩;simp only[AO]at J;constructor
  .show (-9223372036854775808:Int)<=_;omega
  show _<=(9223372036854775807:Int);omega
 have A:=M f;refine Ac (u:=.tuple #[.bool false]) (w':=w) (by simp[execOp,C,A]) (h0 f (λo z=>y o (by simp[z])) B _ _ ⟨ρ,?_⟩);refine t.add l.K l.O (dst:=some d) (λD e=>by injection e with e;omega) (v:=.tup [.p .bool false]) (obs:=[]) (ρ':=ρ) rfl (QS.still ?_);exact⟨[.bool false],rfl,_,_,rfl,⟨[.bool false],rfl,rfl⟩,rfl⟩
theorem AA4 (a:c.Ok) {ops:Array Oper} {rest:List Oper} {T:TypeId} {ty:TypeId} 
  (hT:c.P.underlying T=some .string) (hk:D1 c R k ops rest ⟨(d,.bp d [] 0) :: σ.env,(d,.sit s 0) :: σ.objs⟩) (e:Ag σ x=some (.p .str s):=by simp only[go_sem,Nat.reduceEqDiff,reduceCtorEq,Nat.reduceAdd,Nat.reduceSub,Nat.reduceMul,Nat.reduceLeDiff,Nat.reduceLT,Int.reduceLE,Int.reduceToNat,Int.reduceNeg,↓reduceIte];rfl) (b:lk d σ.objs=none:=by simp only[go_sem,Nat.reduceEqDiff,reduceCtorEq,Nat.reduceAdd,Nat.reduceSub,Nat.reduceMul,Nat.reduceLeDiff,Nat.reduceLT,Int.reduceLE,Int.reduceToNat,Int.reduceNeg,↓reduceIte]) :
  D1 c R k ops (⟨some d,.range T x,ty,X,Z,none⟩ :: rest) σ:=A3B a e hT b hk
theorem AA5 (a:c.Ok) {ops:Array Oper} {rest:List Oper} {n:Nat} {ty:TypeId} {p:Nat} (b:s.size<=AO)
  (h0:¬p<s.size->D1 c R k ops rest ⟨(d,.tup [.p .bool false]) :: σ.env,σ.objs⟩)
  (h1:∀h:p<s.size,∀(q:Nat) (r:Int),p<q->((s[p]'h).toNat<128->q=p+1/\r=((s[p]'h).toNat:Int))->(128<=(s[p]'h).toNat->128<=r)->H2 .i32 r->D1 c R k ops rest ⟨(d,.tup [.p .bool true,.p (.int .i64) (p:Int),.p (.int .i32) r]) :: σ.env,upd n (.sit s q) σ.objs⟩)
  (e:Ag σ x=some (.bp n [] 0):=by simp only[go_sem,Nat.reduceEqDiff,reduceCtorEq,Nat.reduceAdd,Nat.reduceSub,Nat.reduceMul,Nat.reduceLeDiff,Nat.reduceLT,Int.reduceLE,Int.reduceToNat,Int.reduceNeg,↓reduceIte];rfl) (hn:lk n σ.objs=some (.sit s p):=by simp only[go_sem,Nat.reduceEqDiff,reduceCtorEq,Nat.reduceAdd,Nat.reduceSub,Nat.reduceMul,Nat.reduceLeDiff,Nat.reduceLT,Int.reduceLE,Int.reduceToNat,Int.reduceNeg,↓reduceIte];rfl) :
  D1 c R k ops (⟨some d,.next x true,ty,X,Z,none⟩ :: rest) σ:=A3D a e hn b h0 h1
end
end
end Go.Proofs.YtglkoagnnnpimaaGreatDoor.Fw
