/- Range over a function; scopes; several steps in one. -/
import Derived.Test.YtddbnflakbngaaaGreatDoorFZH
import Derived.RangeFuncFrom
import Derived.Scope
import Derived.Laws.IdiomRangeMap
import Derived.Laws.StructEq
import Derived.Laws.RangeAny
set_option linter.unusedVariables false
set_option linter.unusedSimpArgs false
namespace Go.Proofs.YtddbnflakbngaaaGreatDoor.Fw
variable {Z:Array Edge} {Y:Array Oper} {d b D:Nat} {t S Q:TypeId} {X:String} {x y:Operand} {W:AV->List (Nat×Obj)->Prop} {V:Array TypeId} {U:Option Nat} {P:Program} {O L:Nat->Prop} {T h:Nat->Value} {f:FuncId} {e m:List Nat} {R:Exit->Act->World->Prop} {w:World} {s:ByteArray} {i j:IntKind} {p:Prop} {N:List (Nat×Obj)} {M:St} {k c:List Cq} {K:Tb} {J l:AV} {v:Value} {I:Func} {H:Go.Loop} {G:Option (Nat×Bool)} {F:Bool} {E:List AV} {a C:Int×Int} {B A:ByteArray×Int} {z:List Operand} {r g:Code} {u:Exit} {q:List Oper} {o n:Array Value}
section
open Go Go.RowKit
theorem gD {V:Vw} {ns:List Nat} (hf:f<1000000) (h:CD V (.clo f ns) v):v=.func (.func f) #[] (ns.map V.ρ).toArray/\IU V (ns.map λn=>AV.bp n [] 0) (ns.map V.ρ):=by
 refine⟨h.1.trans (At hf),?_⟩;have h0:∀l:List Nat,(∀n∈l,n∈ns)->IU V (l.map λn=>AV.bp n [] 0) (l.map V.ρ):=by
  intro l;induction l with
  | nil=>intro _;exact rfl
  | cons n r g =>
   intro c;obtain⟨d,b,a⟩:=h.2 n (c n sc);exact⟨V.ρ n,r.map V.ρ,rfl,⟨d,b,a,a⟩,g λx e=>c x (by simp[e])⟩
 exact h0 ns λ_ h=>h
def Yb (P:Program) (yn:Nat) (A:List AV) (objs:List (Nat×Obj)) (stay:List Nat) (post:AV->List (Nat×Obj)->Prop):Prop :=
 ∀(w:World) (K O0:Nat->Prop) (ρ:Nat->Value) (a:List Value) (b:Nat),(∀b,K b->b<w.heap.size)->(∀b,O0 b->b<w.heap.size)->GW w K O0->xF K O0 objs ρ w->IU (vw w O0 ⟨[],objs⟩ ρ) A a ->
  ρ yn=.pointer (some ⟨b,0,none⟩)->YieldAt (FR none) 0 P b a.toArray w λe w'=>∃u,e=.returned u/\Ml K O0 stay w ρ post u w'
section
variable {c:Cx} {R:Exit->Act->World->Prop} {k:List Cq} {σ:St}
def a9 (n:Nat):Option AV->Bool
 | some (.yl m)=>m==n
 | _=>false
theorem A1n (O:c.Ok) (Z:c.r=none) {o:Oper} {dst:Option Nat} {g:Operand} {xs:List Operand} {ts:Array TypeId} (t:o.op=.call { callee:=.value g,args:=xs.toArray,argTypes:=ts }) (S:o.dst=dst)
  {n yn:Nat} (f:a9 n (Al σ g)=true) {as:List AV} (M:KP σ xs=some as)
  {A:List AV} {objs:List (Nat×Obj)} {stay:List Nat} {post:AV->List (Nat×Obj)->Prop} (I:Yb c.P yn A objs stay post)
  (ren:List (Nat×CE)) (ae:lk yn ren=some (.nm n)) (h1:CB ren=true) (C:CQ objs ren=true) (F:Bi σ ren as A) (J:Ak σ.objs ren objs)
  (hs:List Nat) (X:(c.ds.pin.all λp=>!Ai p.1 hs)=true) {next:Act->World->Prop} {Q:Exit->Act->World->Prop} {a:Act} {w:World} (ab:c.sat σ a w) (R:∀d,dst=some d->d<c.nt)
  (hk:∀res x,post res x->∃(i:List (Nat×CE)) (y:AV) (j:List (Nat×Obj)),CB i=true/\CQ j i=true/\Ak x i j/\Bv i res y /\
   IV ren i stay hs=true/\Fg (A1 ren) j σ.objs=true/\∀l w',c.sat (Cr σ (A1 ren) hs dst y j) l w'->next l w'):o.wpIn (FR c.r) 0 c.P a w next Q:=by
 obtain⟨ρ,v⟩:=ab;have s:Es (vw w c.O0 σ ρ) σ a.eval:=Cp v.env;obtain⟨b,af,T⟩:∃b:Nat,ρ n=.pointer (some ⟨b,0,none⟩)/\a.eval g=.func (.yield b) #[] #[]:=by
  cases k:Al σ g with
  | none=>rw[k]at f;simp[a9]at f
  | some q =>
   rw[k]at f;have U:=s g q k;cases q<;>simp only[a9]at f<;>try(cases f;done)
   rename_i m;have V:m=n:=by simpa using f
   subst V;obtain⟨_,b,D,E⟩:=U;exact⟨b,D,E⟩
 obtain⟨z,B,ah,H,K,G,W,N,ag,Y⟩:=Nt O v (Ug s M) stay post ren h1 C F J hs X R hk;obtain⟨fn,tmps,assign,body,ad,L⟩:=I w z B ah (xs.map a.eval) b H K G W N ((ag _ _ ae).trans af);have aa:(execOp a.eval o).run c.P w=.ok (.round b fn tmps assign body) w:=by
  simp[execOp,t,resolve,Deferred.ofValue,T,invoke];simpa using ad
 refine⟨λ_ _=>trivial,?_⟩;rw[Et _ _ _ (λcl e=>by rw[t]at e;cases e),aa,Oper.uponIn_round];refine⟨λh=>(by simp[FR]at h),?_⟩;rw[Z];refine L.mono λe w' hh=>?_;obtain⟨u,rfl,hh⟩:=hh;rw[S];exact Y u w' hh
theorem xR (C:c.Ok) (I:c.r=none) {ops:Array Oper} {rest:List Oper} {dst:Option Nat} {g:Operand} {xs:List Operand} {ts:Array TypeId} {ty:TypeId} 
  {n yn:Nat} (D:a9 n (Al σ g)=true) {as:List AV} (B:KP σ xs=some as)
  {A:List AV} {objs:List (Nat×Obj)} {stay:List Nat} {post:AV->List (Nat×Obj)->Prop} (y:Yb c.P yn A objs stay post)
  (ren:List (Nat×CE)) (hs:List Nat) (L:lk yn ren=some (.nm n)) (h1:CB ren=true) (u:CQ objs ren=true) (H:(c.ds.pin.all λp=>!Ai p.1 hs)=true) (v:Bi σ ren as A) (z:Ak σ.objs ren objs)
  (hk:∀res e,post res e->∃(b:List (Nat×CE)) (f:AV) (d:List (Nat×Obj)),CB b=true/\CQ d b=true/\Ak e b d/\Bv b res f /\
   IV ren b stay hs=true/\Fg (A1 ren) d σ.objs=true/\D7 c R k ops rest (Cr σ (A1 ren) hs dst f d)) :
  D7 c R k ops (⟨dst,.call ⟨.value g,xs.toArray,ts⟩,ty,X,Z,none⟩ :: rest) σ:=by
 intro h E a w K;unfold wpListIn;rw[At (by simp[Region.wanted])];refine A1n C I (xs:=xs) (ts:=ts) rfl rfl D B y ren L h1 u v z hs H K (BA (h _ sc)) λres e G=>?_;obtain⟨b,f,d,j,l,m,q,s,t,x⟩:=hk res e G;exact⟨b,f,d,j,l,m,q,s,t,λi w' J=>x (λo F=>h o (by simp[F])) E i w' J⟩
end
def Hb:List Nat->List AV->List (Nat×AV)->List (Nat×AV)
 | p :: a,x :: xs,e=>Hb a xs ((p,x) :: e)
 | _,_,e=>e
def cY (P:Program) (tb:Tb) (w0:World) (K O0:Nat->Prop) (nt l:Nat) (pin:List (Nat×Value)):Cx:={ P:=P,tb:=tb,w0:=w0,K:=K,O0:=O0,nt:=nt,ds:={ pin:=pin },r:=some l }
theorem rS {tb:Tb} {w0:World} {K O0:Nat->Prop} {nt l:Nat} {pin:List (Nat×Value)}:(cY P tb w0 K O0 nt l pin).tb=tb:=rfl
def m7 (P:Program) (l:Nat) (w0:World) (K O0:Nat->Prop) (stay:List Nat) (ρ0:Nat->Value) (post:AV->List (Nat×Obj)->Prop):Exit->Act->World->Prop :=
 roundPost P l λe w'=>∃u,e=.returned u/\Ml K O0 stay w0 ρ0 post u w'
theorem rT {V:Vw}:∀(b:List Nat) (A:List AV) (c:List Value) (e:List (Nat×AV)) (a:Array Value),IU V A c->(∀p∈b,p<a.size)->A.length=b.length->(∀s x,lk s e=some x->CD V x (a.getD s undef)) ->
  (∀s x,lk s (Hb b A e)=some x->CD V x (((b.zip c).foldl (λt (p,v)=>t.setIfInBounds p v) a).getD s undef))/\((b.zip c).foldl (λt (p,v)=>t.setIfInBounds p v) a).size=a.size
 | [],_,_,e,a,_,_,_,h=>by simpa[Hb] using h
 | p :: b,[],_,e,a,_,_,d,_=>by simp at d
 | p :: b,x :: A,c,e,a,⟨v,r,l,h1,i⟩,g,d,h=>by
  subst l;simp only[AEr,ON,Hb];have m:=rT b A r ((p,x) :: e) (a.setIfInBounds p v) i (λq k=>by simpa using g q (by simp[k])) (by simpa using d) (λs y hs=>by
   have f:=Nb { tmps:=a,defers:=[] } p v s (g p sc);have f:(a.setIfInBounds p v).getD s undef=if s=p then v else a.getD s undef:=f
   rw[f];simp only[lk]at hs;split at hs
   .grind
   rename_i j;rw[As j];exact h s y hs)
  grind
section
variable {P:Program} {tb:Tb} {w0:World} {K O0:Nat->Prop} {nt l:Nat} {stay:List Nat} {ρ0:Nat->Value} {post:AV->List (Nat×Obj)->Prop} {σ:St} {pin:List (Nat×Value)}
theorem QY {c:Cx} (i:c.Ok) {σ:St} {a:Act} {w:World} {ρ:Nat->Value} (hs:CG c.w0 c.K c.O0 c.nt c.ds σ ρ a w) {yn b:Nat} {L:Go.Loop} (h:lk yn σ.objs=some (.loop L)) (d:ρ yn=.pointer (some ⟨b,0,none⟩)) (e:Go.Loop) :
  w.heap[b]?=some (.loop L)/\CG c.w0 c.K c.O0 c.nt c.ds ⟨σ.env,upd yn (.loop e) σ.objs⟩ ρ a (w.putObj b (.loop e)):=by
 obtain⟨k,h1,f⟩:=hs.objs yn _ h;rw[d]at h1;injection h1 with h1
 injection h1 with h1
 injection h1 with h1
 subst h1;have j:b<w.heap.size:=B2 f;refine⟨f,hs.upd i.K h (g:=b) (by rw[d];rfl) (grownBy_putObj' w b _) ?_⟩;exact⟨b,d,World.putObj_heap_same j⟩
theorem Yc (f:(cY P tb w0 K O0 nt l pin).Ok) {yn:Nat} {L:Go.Loop} (g:lk yn σ.objs=some (.loop L)) (i:pin=stay.map λn=>(n,ρ0 n)) (j:yn∈stay) (e:ρ0 yn=.pointer (some ⟨l,0,none⟩))
  (h:post (.p .bool true) (upd yn (.loop { L with state:=.ready,pending:=none }) σ.objs)) :
  Ev (cY P tb w0 K O0 nt l pin) (m7 P l w0 K O0 stay ρ0 post) (.out .normal) [] σ:=by
 intro _ _ a w hs;obtain⟨ρ,hs⟩:=hs;have c:∀n∈stay,ρ n=ρ0 n:=λn hn=>(hs.pin (n,ρ0 n) (by rw[show (cY P tb w0 K O0 nt l pin).ds.pin=pin from rfl,i];exact IN.2 ⟨n,hn,rfl⟩)).2.1;obtain⟨d,b⟩:=QY f hs g ((c _ j).trans e) { L with state:=.ready,pending:=none };refine⟨_,_,run_endRound none d,.bool true,rfl,.p .bool true,_,ρ,h,b.frm,⟨b.objs,b.free,b.dist⟩,⟨_,rfl,rfl⟩,c⟩
theorem Nu (f:(cY P tb w0 K O0 nt l pin).Ok) {yn:Nat} {L:Go.Loop} (g:lk yn σ.objs=some (.loop L)) (i:pin=stay.map λn=>(n,ρ0 n)) (j:yn∈stay) (e:ρ0 yn=.pointer (some ⟨l,0,none⟩))
  (h:post (.p .bool false) (upd yn (.loop { L with state:=.done,pending:=some .ret }) σ.objs)) :
  Ev (cY P tb w0 K O0 nt l pin) (m7 P l w0 K O0 stay ρ0 post) (.out .ret) [] σ:=by
 intro _ _ a w hs;obtain⟨ρ,hs⟩:=hs;have c:∀n∈stay,ρ n=ρ0 n:=λn hn=>(hs.pin (n,ρ0 n) (by rw[show (cY P tb w0 K O0 nt l pin).ds.pin=pin from rfl,i];exact IN.2 ⟨n,hn,rfl⟩)).2.1;obtain⟨d,b⟩:=QY f hs g ((c _ j).trans e) { L with state:=.done,pending:=some .ret };refine⟨_,_,run_endRound (some .ret) d,.bool false,rfl,.p .bool false,_,ρ,h,b.frm,⟨b.objs,b.free,b.dist⟩,⟨_,rfl,rfl⟩,c⟩
def AAV (c:Cx) (R:Exit->Act->World->Prop) (yn:Nat) (L:Go.Loop) (a:Code) (σ:St):Prop :=
 lk yn σ.objs=some (.loop L)/\Ev c R (.run a) [] ⟨σ.env,upd yn (.loop { L with state:=.busy }) σ.objs⟩
theorem gE {yn fr:Nat} {A:List AV} {objs:List (Nat×Obj)} {L:Go.Loop} {d:List Nat} {s:Code} {fs:List (Nat×AV)} {i:Array Value}
  (B:lk yn objs=some (.loop L)) (hf:lk fr objs=some (.frame i fs)) (h1:L.state=.ready) (J:L.params=d.toArray) (M:L.assign=r) (N:L.body=s) (ak:L.tmps=i) (G:i.size=nt)
  (C:A.length=d.length) (Z:(d.all λp=>decide (p<nt))=true) (ag:yn∈stay) (ad:stay.all (TW objs)=true) (X:Md objs=true) (T:B4 nt r=true) (U:B4 nt s=true) (hT:DI P tb) (hF:JM P tb)
  (h:∀(w0:World) (K O0:Nat->Prop) (ρ0:Nat->Value) (l:Nat),(cY P tb w0 K O0 nt l (stay.map λn=>(n,ρ0 n))).Ok->QV A->O8 objs->ρ0 yn=.pointer (some ⟨l,0,none⟩) ->
   Ev (cY P tb w0 K O0 nt l (stay.map λn=>(n,ρ0 n))) (λ_ _ _=>False) (.run r) [.inv (AAV (cY P tb w0 K O0 nt l (stay.map λn=>(n,ρ0 n))) (m7 P l w0 K O0 stay ρ0 post) yn L s)] ⟨Hb d A fs,objs⟩) :
  Yb P yn A objs stay post:=by
 intro w K O0 ρ q b Q R hG f y u;have af:=JR y;obtain⟨aj,c,hh⟩:=f.obj yn _ B;rw[u]at c;injection c with c
 injection c with c
 injection c with c
 subst c;have aa:=run_yield (P:=P) (args:=q.toArray) hh (by rw[J];simp[af,C]);refine⟨_,_,_,_,aa,roundIn_of_wpIn trivial ?_⟩;have z:(cY P tb w K O0 nt b (stay.map λn=>(n,ρ n))).Ok:=⟨Q,R,hT,hF,hG⟩;have W:=f.obj fr _ hf;have D:=rT (V:=vw w O0 ⟨[],objs⟩ ρ) d A q fs i y (λp x=>by have:=(OF.1 Z) p x;rw[G];simpa using this) C W.2;have ae:(L.params.zip q.toArray).foldl (λt (p,v)=>t.setIfInBounds p v) L.tmps=(d.zip q).foldl (λt (p,v)=>t.setIfInBounds p v) i:=by grind
 rw[M,N,ae];have ab:(cY P tb w K O0 nt b (stay.map λn=>(n,ρ n))).sat ⟨Hb d A fs,objs⟩ { tmps:=(d.zip q).foldl (λt (p,v)=>t.setIfInBounds p v) i,defers:=[] } w:=by
  refine⟨ρ,⟨rfl,rfl,rfl,Of _,λ_ _=>rfl⟩,by rw[D.2];exact G,rfl,λp x=>?_,f.obj,f.free,f.dist,D.1⟩;obtain⟨n,hn,rfl⟩:=IN.1 x;have:=(OF.1 ad) n hn;unfold TW at this;cases j:lk n objs with
  | none=>rw[j]at this;cases this
  | some o =>
   rw[j]at this;refine⟨⟨o,j⟩,rfl,?_⟩;have g:=f.obj n o j;cases o with
   | arr et e xs=>exact .inr this
   | nest et am k e xs B=>exact .inr this
   | box et st fs=>obtain⟨_,b,cs,a,_⟩:=g;rw[a];exact .inl rfl
   | mapo k v l=>obtain⟨b,es,cl,a,_⟩:=g;rw[a];exact .inl rfl
   | frame i fs=>obtain⟨a,_⟩:=g;rw[a];exact .inl rfl
   | loop L=>obtain⟨b,a,_⟩:=g;rw[a];exact .inl rfl
   | itr an aq ao ap al=>obtain⟨b,a,_⟩:=g;rw[a];exact .inl rfl
   | dfr=>obtain⟨b,a,_⟩:=g;rw[a];exact .inl rfl
   | sit sb sp=>obtain⟨b,a,_⟩:=g;rw[a];exact .inl rfl
 have O:=h w K O0 ρ b z (Ue y) (Uf X λn o j=>aQ (f.obj n o j)) u (by simpa[IM,cY] using T) rfl _ _ ab;refine AEQ (F:=FR (some b)) O ?_;intro e ai w' m;cases e with
 | normal =>
  obtain⟨σ',⟨ρ',E⟩,Y,S⟩:=m;have ah:ρ' yn=.pointer (some ⟨b,0,none⟩):=(E.pin (yn,ρ yn) (IN.2 ⟨yn,ag,rfl⟩)).2.1.trans u;obtain⟨H,I⟩:=QY z E Y ah { L with state:=.busy };exact⟨_,run_beginRound H h1,S (by simpa[IM,cY] using U) rfl _ _ ⟨ρ',I⟩⟩
 | exit id=>exact m.elim
 | goto t=>exact m.elim
 | ret=>exact m.elim
 | panic ch=>exact m.elim
 | outgrown=>exact m.elim
end
end
section
open Go Go.RowKit
def Cx.marked (c:Cx) (dn b:Nat):Cx:={ c with ds:={ ds:=⟨.collected b,#[]⟩ :: c.ds.ds,pin:=(dn,.pointer (some ⟨b,0,none⟩)) :: c.ds.pin } }
def Cx.marked2 (c:Cx) (yn dn b:Nat):Cx:={ c with ds:={ ds:=⟨.collected b,#[]⟩ :: c.ds.ds,pin:=(yn,.pointer (some ⟨b+1,0,none⟩)) :: (dn,.pointer (some ⟨b,0,none⟩)) :: c.ds.pin } }
theorem m8 {c:Cx} {yn dn b:Nat} (h:c.Ok):(c.marked2 yn dn b).Ok:=⟨h.K,h.O,h.T,h.F,h.G⟩
theorem Nv {c:Cx} {dn:Nat}:(c.marked dn b).tb=c.tb:=rfl
theorem SE {c:Cx} {dn:Nat} (h:c.Ok):(c.marked dn b).Ok:=⟨h.K,h.O,h.T,h.F,h.G⟩
theorem xS (ren:List (Nat×CE)) (x:AV):Bv ren x .top:=by grind [Bv,IP,DE]
def gF:List Cq->Bool
 | []=>true
 | .inv _ :: _=>false
 | _ :: k=>gF k
theorem PE {c:Cx} {R:Exit->Act->World->Prop} {dn b:Nat}:∀ {k:List Cq},gF k=true->UZ (c.marked dn b) R k=UZ c R k
 | [],_=>by funext e a w;simp[UZ]
 | .inv _ :: _,h=>by simp[gF]at h
 | .seq y :: k,h=>by
  have d:=PE (c:=c) (R:=R) (dn:=dn) (b:=b) (k:=k) h;funext e a w;cases e<;>simp only[UZ,d]<;>rfl
 | .blk id :: k,h=>by
  have d:=PE (c:=c) (R:=R) (dn:=dn) (b:=b) (k:=k) h;funext e a w;cases e<;>simp only[UZ,d]
def Bk (σ:St) (yn dn fr:Nat) (L:Go.Loop) (a:Array Value):St:=⟨σ.env,(yn,.loop L) :: (dn,.dfr) :: (fr,.frame a σ.env) :: σ.objs⟩
section
variable {c:Cx} {R:Exit->Act->World->Prop} {k:List Cq} {σ:St}
theorem xT (r:c.Ok) {a:Act} {w:World} {ρ:Nat->Value} (hs:CG c.w0 c.K c.O0 c.nt c.ds σ ρ a w) {yn dn fr:Nat} (t:yn≠dn) (E:yn≠fr) (F:dn≠fr) (G:lk yn σ.objs=none) (H:lk dn σ.objs=none) (I:lk fr σ.objs=none) (L:Go.Loop) :
  ∃e,CG c.w0 c.K c.O0 c.nt (c.marked2 yn dn w.heap.size).ds (Bk σ yn dn fr L a.tmps) e { a with defers:=[{ target:=.collected w.heap.size,args:=#[] }]++a.defers } ((w.alloc (.deferred (some []))).alloc (.loop L))/\e yn=.pointer (some ⟨w.heap.size+1,0,none⟩):=by
 let e:Nat->Value:=λm=>if m=yn then .pointer (some ⟨w.heap.size+1,0,none⟩) else if m=dn then .pointer (some ⟨w.heap.size,0,none⟩) else if m=fr then .pointer none else ρ m
 have k:e yn=.pointer (some ⟨w.heap.size+1,0,none⟩):=by simp[e]
 have l:e dn=.pointer (some ⟨w.heap.size,0,none⟩):=by simp[e,Ne.symm t]
 have z:e fr=.pointer none:=by simp[e,Ne.symm E,Ne.symm F]
 obtain⟨f,j⟩:∃f,(w.alloc (.deferred (some []))).alloc (.loop L)=f:=⟨_,rfl⟩;have B:f.heap[w.heap.size+1]?=some (.loop L):=by
  rw[<-j];have:=World.alloc_heap_new (w.alloc (.deferred (some []))) (.loop L);rwa [World.size_alloc]at this
 have A:f.heap[w.heap.size]?=some (.deferred (some [])):=by
  rw[<-j];exact(Below.heap_alloc _ _ _ sc).trans (World.alloc_heap_new w _)
 have q:Below w.heap.size w f:=by
  rw[<-j];exact((Below.refl _ w).alloc (Of _) _).alloc sc _
 rw[j];have u:Bp [(yn,Obj.loop L),(dn,.dfr),(fr,.frame a.tmps σ.env)] σ=true:=by simp[Bp,G,H,I]
 have y:∀n,lk n [(yn,Obj.loop L),(dn,Obj.dfr),(fr,.frame a.tmps σ.env)]=none->e n=ρ n:=λn hn=>by grind [lk]
 have v:∀n o b,lk n [(yn,Obj.loop L),(dn,Obj.dfr),(fr,.frame a.tmps σ.env)]=some o->bk (e n) b->w.heap.size<=b:=λn o b hn C=>by grind [lk,bk,blk]
 have J:=IJ (O0:=c.O0) (ρ:=ρ) (ρ':=e) u q y v;have M:QS w c.O0 σ ρ .top [(yn,Obj.loop L),(dn,.dfr),(fr,.frame a.tmps σ.env)] undef e f:=by
  refine⟨q,y,trivial,λn o hn=>?_,v,λn m o R b hn Q C P=>?_⟩
  .simp only[lk]at hn;split at hn
   .rename_i g;cases hn;subst g;exact⟨_,k,B⟩
   split at hn
   .rename_i g;cases hn;subst g;exact⟨_,l,A⟩
   split at hn
   .rename_i g;cases hn;subst g;exact⟨z,λs x N=>(hs.env s x N).keeps J⟩
   cases hn
  grind [lk,bk,blk]
 have h:=hs.add r.K r.O (dst:=none) (λd D=>by cases D) u M;refine⟨e,⟨h.frm,h.nt,?_,λp i=>?_,h.objs,h.free,h.dist,h.env⟩,k⟩
 .show _=_ :: c.ds.ds;rw[<-hs.defers];rfl
 rcases By.1 i with rfl|i
 .exact⟨⟨.loop L,by simp[Bk,lk]⟩,k,.inl rfl⟩
 rcases By.1 i with rfl|i
 .exact⟨⟨.dfr,by simp[Bk,lk,Ne.symm t]⟩,l,.inl rfl⟩
 exact h.pin p i
def EvJ (c:Cx) (R:Exit->Act->World->Prop) (k:List Cq) (σ:St):Option Code->Prop
 | none=>Ev c R (.out .normal) k σ
 | some a=>match a with
  | .ret=>Ev c R (.out .ret) k σ
  | .exit id=>Ev c R (.out (.exit id)) k σ
  | _=>False
def ACt (c:Cx) (R:Exit->Act->World->Prop) (k:List Cq) (a:Act) (w:World):Option Code->Prop
 | none=>UZ c R k .normal a w
 | some cd=>cd.wpIn (FR c.r) 0 c.P (UZ c R k) a w
theorem A5k {dn:Nat} (g:gF k=true) (e:DD c.nt k=true) {p:Option Code} (d:EvJ (c.marked dn b) R k σ p) {a:Act} {w:World} (hs:(c.marked dn b).sat σ a w) :
  ACt c R k a w p:=by
 have f:=PE (c:=c) (R:=R) (dn:=dn) (b:=b) g;cases p with
 | none =>
  have:=d rfl e _ _ hs;show UZ c R k .normal a w;rw[<-f];exact this
 | some cd =>
  cases cd<;>try exact d.elim
  .have:=d rfl e _ _ hs;refine wpIn_exit ?_;rw[<-f];exact this
  have:=d rfl e _ _ hs;refine wpIn_ret ?_;rw[<-f];exact this
theorem gG (U:c.Ok) (bo:c.r=none) (bi:gF k=true) {g:Operand} {O:Array Tmp} {G H:Code} {q:FuncId} {m:List Nat} (J:Al σ g=some (.clo q m))
  (yn dn fr:Nat) (D:(yn != dn&&yn != fr&&dn != fr)=true) (bd:lk yn σ.objs=none) (be:lk dn σ.objs=none) (bf:lk fr σ.objs=none)
  (ap:∀(L:Go.Loop) (z:Array Value),L.state=.ready->L.pending=none->L.tmps=z->L.params=O->L.assign=G->L.body=H->z.size=c.nt ->
   ∃(A:List AV) (objs:List (Nat×Obj)) (stay:List Nat) (post:AV->List (Nat×Obj)->Prop) (ren:List (Nat×CE)) (hs:List Nat),BB c.P q A objs stay post /\
    CB ren=true/\CQ objs ren=true/\Bi (Bk σ yn dn fr L z) ren (.yl yn :: m.map λn=>AV.bp n [] 0) A/\Ak (Bk σ yn dn fr L z).objs ren objs /\
    (((yn,undef) :: (dn,undef) :: c.ds.pin).all λp=>!Ai p.1 hs)=true /\
    ∀res y,post res y->∃(j:List (Nat×CE)) (i:List (Nat×Obj)) (l:Go.Loop),CB j=true/\CQ i j=true/\Ak y j i/\IV ren j stay hs=true/\Fg (A1 ren) i (Bk σ yn dn fr L z).objs=true /\
     lk yn i=some (.loop l)/\(l.state == .busy)=false /\
     ∀b,EvJ (c.marked dn b) R k ⟨(Cr (Bk σ yn dn fr L z) (A1 ren) hs none .top i).env,upd yn (.loop { l with state:=.exhausted }) (Cr (Bk σ yn dn fr L z) (A1 ren) hs none .top i).objs⟩ l.pending) (X:q<1000000:=by decide) :
  Ev c R (.run (.rangeFunc g O G H)) k σ:=by
 intro h1 am a w br;obtain⟨ρ,hs⟩:=br;have bc:Es (vw w c.O0 σ ρ) σ a.eval:=Cp hs.env;obtain⟨bg,_⟩:=gD X (bc g _ J);simp only[An,AE4,ne_eq]at D;obtain⟨⟨ay,az⟩,ba⟩:=D;refine wpIn_rangeFunc (F:=FR c.r) ?_;intro fn _;have bq:(FR c.r).round=none:=by rw[bo];rfl
 rw[bq];obtain⟨L,x⟩:∃L:Go.Loop,L={ state:=.ready,pending:=none,fn,tmps:=a.tmps,params:=O,assign:=G,body:=H,defers:=w.heap.size }:=⟨_,rfl⟩;obtain⟨aa,N,bt⟩:=xT U hs ay az ba bd be bf L;obtain⟨A,objs,stay,post,ren,B,I,ag,ah,ai,aj,ak,al⟩:=ap L a.tmps (by rw[x]) (by rw[x]) (by rw[x]) (by rw[x]) (by rw[x]) (by rw[x]) hs.nt;obtain⟨⟨Q,ax,bl,au⟩,I⟩:=I;obtain⟨o,T⟩:∃o,(w.alloc (.deferred (some []))).alloc (.loop L)=o:=⟨_,rfl⟩;rw[T]at N;have W:(c.marked2 yn dn w.heap.size).Ok:=m8 U;have aw:IU (vw o c.O0 (Bk σ yn dn fr L a.tmps) aa) (.yl yn :: m.map λn=>AV.bp n [] 0) (.func (.yield (w.heap.size+1)) #[] #[] :: m.map ρ):=by
  refine⟨_,_,rfl,⟨⟨_,by simp[Bk,lk];rfl⟩,_,bt,rfl⟩,?_⟩;have ce:=gD X (V:=vw o c.O0 (Bk σ yn dn fr L a.tmps) aa) (f:=q) (ns:=m) (v:=a.eval g) (by
   have:=Cp N.env;have bm:Al (Bk σ yn dn fr L a.tmps) g=some (.clo q m):=by
    cases g with
    | tmp t=>exact J
    | _=>exact J
   have S:=this g _ bm;have bb:({ a with defers:=[{ target:=.collected w.heap.size,args:=#[] }]++a.defers }:Act).eval g=a.eval g:=by cases g<;>rfl
   rw[bb]at S;exact S)
  grind [vw]
 have bj:∀res y,post res y->∃(j:List (Nat×CE)) (Z:AV) (i:List (Nat×Obj)),CB j=true/\CQ i j=true/\Ak y j i/\Bv j res Z /\
   IV ren j stay B=true/\Fg (A1 ren) i (Bk σ yn dn fr L a.tmps).objs=true/\∀C w',(c.marked2 yn dn w.heap.size).sat (Cr (Bk σ yn dn fr L a.tmps) (A1 ren) B none Z i) C w' ->
    rangePost (FR c.r) 0 c.P (w.heap.size+1) (UZ c R k) C (.returned undef) w':=by
  intro res y M;obtain⟨j,i,l,bv,bw,bx,bz,ca,cf,Y,cb⟩:=al res y M;refine⟨j,.top,i,bv,bw,bx,xS j res,bz,ca,λC w' E=>?_⟩;obtain⟨ρ',E⟩:=E;have bu:lk yn (Cr (Bk σ yn dn fr L a.tmps) (A1 ren) B none .top i).objs=some (.loop l):=by grind [Cr,BJ]
  have hyp:=(E.pin (yn,.pointer (some ⟨w.heap.size+1,0,none⟩)) (by simp[Cx.marked2])).2.1;obtain⟨cc,s⟩:=QY W E bu hyp { l with state:=.exhausted };refine⟨_,_,run_endLoop cc (by intro e;rw[e]at Y;cases Y),?_⟩;have bs:(c.marked dn w.heap.size).sat ⟨(Cr (Bk σ yn dn fr L a.tmps) (A1 ren) B none .top i).env,upd yn (.loop { l with state:=.exhausted }) (Cr (Bk σ yn dn fr L a.tmps) (A1 ren) B none .top i).objs⟩ C (w'.putObj (w.heap.size+1) (.loop { l with state:=.exhausted })) :=
   ⟨ρ',s.frm,s.nt,s.defers,λp M=>s.pin p (GO _ M),s.objs,s.free,s.dist,s.env⟩
  have K:=A5k bi am (cb w.heap.size) bs;revert K;generalize l.pending=p;intro K;cases p<;>exact K
 obtain⟨ab,ad,cd,ao,aq,an,bk,ar,_,bn⟩:=Nt W N aw stay post ren ag ah ai aj B (by simpa[Cx.marked2] using ak) (dst:=none) (λd D=>by cases D) bj;have av:=I o ab ad cd _ ao aq an bk ar;refine⟨w.heap.size+1,[{ target:=.collected w.heap.size,args:=#[] }],o,{ target:=.fn (.func q) (m.map ρ).toArray,args:=#[.func (.yield (w.heap.size+1)) #[] #[]] },o,q,
  (.func (.yield (w.heap.size+1)) #[] #[] :: m.map ρ).toArray,o,?_,?_,λ_ _=>trivial,?_,λh=>by simp[FR]at h,?_⟩
 .rw[<-T,x];exact run_enterLoop_outer _ _ _ _ _
 .have bh:a.eval g=.func (.func q) #[] (m.map ρ).toArray:=bg;simp only[resolve,bh];simp[go_sem]
 .have ae : ¬ Q.name = "runtime.NumGoroutine" := by simpa using bl
  have af:¬Q.body=none:=by intro e;simp[e]at au
  simp[invoke,callFunc,ax,ae,af]
 refine IL (av.mono λe w' hh=>?_);obtain⟨u,rfl,hh⟩:=hh;exact bn u w' hh
theorem A1o (Q:c.Ok) {a:Act} {w:World} {ρ:Nat->Value} (hs:CG c.w0 c.K c.O0 c.nt c.ds σ ρ a w) {dn:Nat} (j:lk dn σ.objs=some .dfr) (i:ρ dn=.pointer (some ⟨b,0,none⟩)) (X:_root_.Go.Obj) (pin:List (Nat×Value)) (H:∀p∈pin,p∈c.ds.pin/\p.1≠dn) :
  w.heap[b]?=some (.deferred (some []))/\CG c.w0 c.K c.O0 c.nt { ds:=c.ds.ds,pin:=pin } ⟨Cv [dn] σ.env,A6 [dn] [dn] σ.objs⟩ ρ a (w.putObj b X):=by
 obtain⟨P,h1,h⟩:=hs.objs dn _ j;rw[i]at h1;injection h1 with h1
 injection h1 with h1
 injection h1 with h1
 subst h1;have R:b<w.heap.size:=B2 h;refine⟨h,?_⟩;have A:own c.O0 σ ρ b:=.inr ⟨dn,⟨_,j⟩,by rw[i];exact .inl rfl⟩;have f:∀n,HV ⟨Cv [dn] σ.env,A6 [dn] [dn] σ.objs⟩ n->HV σ n/\n≠dn:=by
  rintro n ⟨o,hn⟩;have hn:lk n (A6 [dn] [dn] σ.objs)=some o:=hn;rw[Ci]at hn;split at hn
  .cases hn
  rename_i r;simp only[No]at hn;obtain⟨y,d,_⟩:=hn;exact⟨⟨y,d⟩,λe=>r (by subst e;simp[Ai])⟩
 have l:∀k,k≠b->(w.putObj b X).heap[k]?=w.heap[k]?:=λk hk=>World.putObj_heap_other hk;have q:C3 ((vw w c.O0 σ ρ).buts [dn]) (vw (w.putObj b X) c.O0 ⟨Cv [dn] σ.env,A6 [dn] [dn] σ.objs⟩ ρ):=by
  refine⟨λk _ hk B=>?_,λn hn=>?_,λ_ _=>rfl,λk _ hk=>l k (λe=>?_)⟩
  .rcases B with h0|⟨n,hn,E⟩
   .exact hk (.inl h0)
   exact hk (.inr ⟨n,(f n hn).1,E⟩)
  .obtain⟨⟨o,F⟩,D⟩:=hn;exact⟨_,by show lk n (A6 [dn] [dn] σ.objs)=_;rw[Ci,As (by rw[D];simp),F];rfl⟩
  subst e;exact hk A
 refine⟨⟨hs.frm.os,hs.frm.tape,hs.frm.output,by simpa using hs.frm.size,λk hk=>?_⟩,hs.nt,hs.defers,λp G=>?_,λn x hn=>?_,λn k C hk=>hs.free n k (f n C).1 hk,λn m k h1 h u z=>hs.dist n m k (f n h1).1 (f m h).1 u z,λs v t=>?_⟩
 .refine(l k λe=>?_).trans (hs.frm.block k hk);subst e;exact(hs.free dn k ⟨_,j⟩ (by rw[i];exact .inl rfl)).1 hk
 .obtain⟨I,J⟩:=H p G;obtain⟨M,N,O⟩:=hs.pin p I;exact⟨q.L p.1 ⟨M,by simp[Ai,J]⟩,N,O⟩
 .have g:lk n (A6 [dn] [dn] σ.objs)=some x:=hn;have r:=(f n ⟨x,hn⟩).2;rw[Ci]at g;split at g
  .cases g
  simp only[No]at g;obtain⟨y,d,rfl⟩:=g;refine aJ q (λk hk=>l k λe=>?_) (hs.objs n y d);subst e;exact r (hs.dist n dn k ⟨y,d⟩ ⟨_,j⟩ hk (by rw[i];exact .inl rfl))
 rw[Gk]at t;simp only[No]at t;obtain⟨y,d,rfl⟩:=t;exact(UX (hs.env s y d)).keeps q
end
def rU (P:Program) (fn:Func) (w0:World) (K O0:Nat->Prop) (stay:List Nat) (ρ0:Nat->Value) (post:AV->List (Nat×Obj)->Prop):Exit->Act->World->Prop :=
 bodyPostM (FR none) 0 P fn λe w'=>∃u,e=.returned u/\Ml K O0 stay w0 ρ0 post u w'
theorem A5l {tb:Tb} {fn:Func} {nt:Nat} {args:List AV} {objs:List (Nat×Obj)} {post:AV->List (Nat×Obj)->Prop}
  (c : P.funcs[f]? = some fn) (k : (fn.name == "runtime.NumGoroutine") = false) (b : fn.body = some r) (l : fn.ntmps = nt) (q : args.length <= nt)
  (i:B4 nt r=true) (p:e.all (TW objs)=true) (j:Md objs=true) (hT:DI P tb) (hF:JM P tb)
  (h:∀(w0:World) (K O0:Nat->Prop) (ρ0:Nat->Value),(cm P tb w0 K O0 nt (e.map λn=>(n,ρ0 n))).Ok->QV args->O8 objs ->
   Ev (cm P tb w0 K O0 nt (e.map λn=>(n,ρ0 n))) (rU P fn w0 K O0 e ρ0 post) (.run r) [] ⟨Aq 0 args,objs⟩):BB P f args objs e post:=by
 refine⟨⟨fn,c,k,by simp[b]⟩,λw K O0 ρ s stay g hG d a=>?_⟩;refine callsIn_wide.1 (callsIn_of_wp_marks (F:=FR none) (n:=0) c b trivial ?_ rfl);have cd:=JR a;rw[l];exact h w K O0 ρ ⟨stay,g,hT,hF,hG⟩ (Ue a) (Uf j λn o m=>aQ (d.obj n o m)) i rfl _ _ (Vh d a p O1)
theorem V1 {tb:Tb} {w0:World} {K O0:Nat->Prop} {nt:Nat} {stay:List Nat} {fn:Func} {post:AV->List (Nat×Obj)->Prop} {σ:St} {e:Exit} {dn b:Nat} (f:((cm P tb w0 K O0 nt (stay.map λn=>(n,T n))).marked dn b).Ok)
  (i:List ResultVar) (t:fn.results.toList=i) (q:e=.ret\/e=.normal) (r:lk dn σ.objs=some .dfr) (g:Ai dn stay=false) (res:AV) (h:TX tb ⟨Cv [dn] σ.env,A6 [dn] [dn] σ.objs⟩ i res) (d:post res (A6 [dn] [dn] σ.objs)) :
  Ev ((cm P tb w0 K O0 nt (stay.map λn=>(n,T n))).marked dn b) (rU P fn w0 K O0 stay T post) (.out e) [] σ:=by
 intro _ _ a w hs;obtain⟨ρ,hs⟩:=hs;have m:=(hs.pin (dn,.pointer (some ⟨b,0,none⟩)) (by simp[Cx.marked])).2.1;obtain⟨h1,j⟩:=A1o f hs r m (.deferred none) (stay.map λn=>(n,T n)) (λp d=>⟨GO _ d,λe=>by
  obtain⟨n,hn,rfl⟩:=IN.1 d;have e:n=dn:=e;subst e;rw[(A0 _ _).2 hn]at g;cases g⟩)
 have c:CG w0 K O0 nt { ds:=[⟨.collected b,#[]⟩],pin:=stay.map λn=>(n,T n) } ⟨Cv [dn] σ.env,A6 [dn] [dn] σ.objs⟩ ρ a (w.putObj b (.deferred none)):=j;obtain⟨u,k,l⟩:=Vj f.T c (fn:=fn) (by rw[t];exact h);have s:Ml K O0 stay w0 T post u (w.putObj b (.deferred none)):=by
  refine⟨res,_,ρ,d,c.frm,⟨c.objs,c.free,c.dist⟩,l,λn hn=>?_⟩;exact(c.pin (n,T n) (IN.2 ⟨n,hn,rfl⟩)).2.1
 have o:a.defers=[⟨.collected b,#[]⟩]:=hs.defers;have key:LeavesInM (FR none) 0 P fn a.tmps (λe w'=>∃u,e=.returned u/\Ml K O0 stay w0 T post u w') a.defers .returning w:=by
  rw[o];exact⟨sc,.inl ⟨b,_,rfl,run_takeDeferred h1,u,k,u,rfl,s⟩⟩
 rcases q with rfl|rfl
 .exact key
 exact key
end
section
open Go Go.RowKit
section
variable {c:Cx} {R:Exit->Act->World->Prop} {k:List Cq} {σ σ':St}
theorem rP (a:c.Ok) {l:List Oper} {vc:Prop} (b:vc) (hk:Ev c R (.out .normal) k σ') (h0:(l.all λo=>o.guard.isNone)=true:=by rfl)
  (h:D8 c.tb.live (B7 c.tb l l σ)=some (vc,σ'):=by exact a1):Ev c R (.run (.region d l.toArray false)) k σ:=Mn _ a h0 h b hk
theorem rC {o:Operand} {x y:Code} {b:Bool} {p q:Prop} (f:p->Ev c R (.run x) k σ) (hf:q->Ev c R (.run y) k σ) (h:Al σ o=some (.p .bool b):=by exact a1)
  (a:(b=true)=p:=by first|(simp only[Is,bY,An,AAo,Bool.and_eq_false_imp,ABs,lU,ADH,AAv,ACX,AE4,Bool.not_eq_eq_eq_not,AEk,AEb,ACA,AEl,ne_eq];rfl)|rfl) (d:(b=false)=q:=by first|(simp only[Is,bY,An,AAo,Bool.and_eq_false_imp,ABs,lU,ADH,AAv,ACX,AE4,Bool.not_eq_eq_eq_not,AEk,AEb,ACA,AEl,ne_eq];rfl)|rfl):Ev c R (.run (.cond o x y)) k σ :=
 VX h (λe=>f (a▸e)) (λe=>hf (d▸e))
theorem rL (a:c.Ok) {ops:List Oper} {l:List Oper} {vc:Prop} (b:vc) (hk:Ev c R (.out .normal) k σ') (h:D8 c.tb.live (B7 c.tb ops l σ)=some (vc,σ'):=by exact a1):D7 c R k ops.toArray l σ:=HE _ a h b hk
theorem rN (n:Nat) (a:c.Ok) {ops:List Oper} {l:List Oper} {vc:Prop} (b:vc) (hk:D7 c R k ops.toArray (l.drop n) σ') (h:B7 c.tb ops (l.take n) σ=some (vc,σ'):=by simp only[AC9,ACQ,go_sem,Nat.reduceEqDiff,reduceCtorEq,Nat.reduceAdd,Nat.reduceSub,Nat.reduceMul,Nat.reduceLeDiff,Nat.reduceLT,Int.reduceLE,Int.reduceToNat,Int.reduceNeg,↓reduceIte];rfl):D7 c R k ops.toArray l σ:=QR a n (by simpa using h) b hk
theorem cP (n:Nat) (a:c.Ok) {l:List Oper} {vc:Prop} (b:vc) (hk:D7 c R k l.toArray (l.drop n) σ') (h0:(l.all λo=>o.guard.isNone)=true:=by rfl) (h:B7 c.tb l (l.take n) σ=some (vc,σ'):=by simp only[AC9,ACQ,go_sem,Nat.reduceEqDiff,reduceCtorEq,Nat.reduceAdd,Nat.reduceSub,Nat.reduceMul,Nat.reduceLeDiff,Nat.reduceLT,Int.reduceLE,Int.reduceToNat,Int.reduceNeg,↓reduceIte];rfl) :
  Ev c R (.run (.region d l.toArray false)) k σ:=A18 a n h0 h b hk
theorem cD (n:Nat) (a:c.Ok) {id:Nat} {l:List Oper} {vc:Prop} (e:vc) (hk:D7 c R k l.toArray (l.drop n) σ') (b:Mg l (l.take n).length=true:=by kernel_rfl) (d:c.P.follows .mixedOrders=true:=by exact drawsAny)
  (h:MH c.tb l false σ.objs [] (l.take n) 0 [] [] σ=some (vc,σ'):=by simp only[AC9,ACQ,go_sem,Nat.reduceEqDiff,reduceCtorEq,Nat.reduceAdd,Nat.reduceSub,Nat.reduceMul,Nat.reduceLeDiff,Nat.reduceLT,Int.reduceLE,Int.reduceToNat,Int.reduceNeg,↓reduceIte];rfl):Ev c R (.run (.region id l.toArray true)) k σ:=A19 d a n b h e hk
theorem rM (q:c.Ok) {ops:Array Oper} {rest:List Oper} {dst:Option Nat} {g:Operand} {xs:List Operand} {ts:Array TypeId} {ty:TypeId} 
  {d:List Nat} {as:List AV} {A:List AV} {objs:List (Nat×Obj)} {stay:List Nat} {post:AV->List (Nat×Obj)->Prop} (l:BB c.P f A objs stay post)
  (ren:List (Nat×CE)) (hs:List Nat) (j:Bi σ ren (as++d.map λn=>AV.bp n [] 0) A) (m:Ak σ.objs ren objs)
  (hk:∀res e,post res e->∃(a:List (Nat×CE)) (h:AV) (b:List (Nat×Obj)),CB a=true/\CQ b a=true/\Ak e a b/\Bv a res h /\
   IV ren a stay hs=true/\Fg (A1 ren) b σ.objs=true/\D7 c R k ops rest (Cr σ (A1 ren) hs dst h b))
  (r:DY (Al σ g)=some (f,d):=by exact a1) (o:KP σ xs=some as:=by exact a1)
  (h1:CB ren=true:=by rfl) (i:CQ objs ren=true:=by rfl) (s:(c.ds.pin.all λp=>!Ai p.1 hs)=true:=by rfl) :
  D7 c R k ops (⟨dst,.call ⟨.value g,xs.toArray,ts⟩,ty,X,Z,none⟩ :: rest) σ:=A17 q r o l ren hs h1 i s j m hk
theorem rY (n yn:Nat) (m:c.Ok) {ops:Array Oper} {rest:List Oper} {dst:Option Nat} {g:Operand} {xs:List Operand} {ts:Array TypeId} {ty:TypeId} 
  {as:List AV} {A:List AV} {objs:List (Nat×Obj)} {stay:List Nat} {post:AV->List (Nat×Obj)->Prop} (i:Yb c.P yn A objs stay post)
  (ren:List (Nat×CE)) (hs:List Nat) (h:Bi σ ren as A) (j:Ak σ.objs ren objs)
  (hk:∀res d,post res d->∃(a:List (Nat×CE)) (e:AV) (b:List (Nat×Obj)),CB a=true/\CQ b a=true/\Ak d a b/\Bv a res e /\
   IV ren a stay hs=true/\Fg (A1 ren) b σ.objs=true/\D7 c R k ops rest (Cr σ (A1 ren) hs dst e b))
  (s:c.r=none:=by rfl) (o:a9 n (Al σ g)=true:=by simp only[go_sem,Nat.reduceEqDiff,reduceCtorEq,Nat.reduceAdd,Nat.reduceSub,Nat.reduceMul,Nat.reduceLeDiff,Nat.reduceLT,Int.reduceLE,Int.reduceToNat,Int.reduceNeg,↓reduceIte]) (l:KP σ xs=some as:=by exact a1)
  (t:lk yn ren=some (.nm n):=by rfl) (h1:CB ren=true:=by rfl) (f:CQ objs ren=true:=by rfl) (q:(c.ds.pin.all λp=>!Ai p.1 hs)=true:=by rfl) :
  D7 c R k ops (⟨dst,.call ⟨.value g,xs.toArray,ts⟩,ty,X,Z,none⟩ :: rest) σ:=xR m s o l i ren hs t h1 f q h j hk
end
end
section
open Go Go.RowKit
def rV:rB->List Cq->Option (rB×List Cq)
 | .run (.seq x y),k=>some (.run x,.seq y :: k)
 | .run .skip,k=>some (.out .normal,k)
 | .run .ret,k=>some (.out .ret,k)
 | .run (.exit id),k=>some (.out (.exit id),k)
 | .run (.block id b),k=>some (.run b,.blk id :: k)
 | .out .normal,.seq y :: k=>some (.run y,k)
 | .out .normal,.blk _ :: k=>some (.out .normal,k)
 | .out (.exit id),.seq _ :: k=>some (.out (.exit id),k)
 | .out (.exit a),.blk id :: k=>if a=id then some (.out .normal,k) else some (.out (.exit a),k)
 | .out (.exit id),.inv _ :: k=>some (.out (.exit id),k)
 | .out .ret,.seq _ :: k=>some (.out .ret,k)
 | .out .ret,.blk _ :: k=>some (.out .ret,k)
 | .out .ret,.inv _ :: k=>some (.out .ret,k)
 | _,_=>none
def V2:Nat->rB->List Cq->rB×List Cq
 | 0,n,k=>(n,k)
 | m+1,n,k=>match rV n k with
  | some (b,a)=>V2 m b a
  | none=>(n,k)
def rZ (n:rB) (k:List Cq):Option (rB×List Cq):=match rV n k with
 | some (b,a)=>some (V2 200 b a)
 | none=>none
section
variable {c:Cx} {R:Exit->Act->World->Prop} {σ:St}
theorem gH {n b:rB} {a:List Cq} (e:rV n k=some (b,a)) (h:Ev c R b a σ):Ev c R n k σ:=by
 unfold rV at e;split at e<;>first
  | (cases e;done)
  | (split at e<;>(cases e;first|(rename_i d;rw[d];exact mN h)|exact mO a4 h))
  | (cases e;first|exact A8O h|exact A58 h|exact A8P h|exact A59 h|exact A0U h|exact VV h|exact mJ h|exact fO h|exact fP h|exact mI h|exact mK h|exact mL h)
theorem Yd:∀(m:Nat) {n:rB} {k:List Cq},Ev c R (V2 m n k).1 (V2 m n k).2 σ->Ev c R n k σ
 | 0,_,_,h=>h
 | m+1,n,k,h=>by
  unfold V2 at h;split at h
  .rename_i b a e;exact gH e (Yd m h)
  exact h
theorem eS {n b:rB} {a:List Cq} (e:rZ n k=some (b,a)) (h:Ev c R b a σ):Ev c R n k σ:=by grind [rZ,gH,Yd]
end
inductive RX (c:Cx) (lv:List Nat) (σ:St) (vc:Prop) (σ':St):Array Oper->Bool->Prop
 | p {l:List Oper} (h0:(l.all λo=>o.guard.isNone)=true) (h:D8 lv (B7 c.tb l l σ)=some (vc,σ')):RX c lv σ vc σ' l.toArray false
 | a {l:List Oper} (h0:xB l l.length=true) (h:D8 lv (MH c.tb l true σ.objs [] l 0 [] [] σ)=some (vc,σ')):RX c lv σ vc σ' l.toArray false
 | d {l:List Oper} (h0:Mg l l.length=true) (hm:c.P.follows .mixedOrders=true) (h:D8 lv (MH c.tb l false σ.objs [] l 0 [] [] σ)=some (vc,σ')):RX c lv σ vc σ' l.toArray true
 | t {l:List Oper} (m:Nat) (h0:Mg l (l.take (l.length-m)).length=true) (hm:c.P.follows .mixedOrders=true) (h:D8 lv (MH c.tb l false σ.objs (l.drop (l.length-m)) (l.take (l.length-m)) 0 [] [] σ)=some (vc,σ')):RX c lv σ vc σ' l.toArray true
theorem AAX {c:Cx} {σ σ':St} {b:List Nat} (e:c.Ok) {id:Nat} {ops:Array Oper} {i:Bool} {vc:Prop} (f:vc) (hk:Ev c R (.out .normal) k σ') (h:RX c b σ vc σ' ops i):Ev c R (.run (.region id ops i)) k σ:=by
 cases h with
 | p h0 h=>exact Mn b e h0 h f hk
 | a h0 h=>exact f5 b e h0 h f hk
 | d h0 g h=>exact xH b g e h0 h f hk
 | t m h0 g h=>exact xI b m g e h0 h f hk
theorem rX {c:Cx} {σ σ':St} (e:c.Ok) {ops:Array Oper} {b:Bool} (f:p) (hk:Ev c R (.out .normal) k σ')
  (h:RX c c.tb.live σ p σ' ops b:=by
   first
   | exact .p rfl a1
   | exact .a a5 a1
   | exact .d a5 (by exact drawsAny) a1
   | exact .t 1 a5 (by exact drawsAny) (by simp only[AC9,AEn,ACQ,ACe,go_sem,Nat.reduceEqDiff,reduceCtorEq,Nat.reduceAdd,Nat.reduceSub,Nat.reduceMul,Nat.reduceLeDiff,Nat.reduceLT,Int.reduceLE,Int.reduceToNat,Int.reduceNeg,↓reduceIte];rfl)
   | exact .t 2 a5 (by exact drawsAny) (by simp only[AC9,AEn,ACQ,ACe,go_sem,Nat.reduceEqDiff,reduceCtorEq,Nat.reduceAdd,Nat.reduceSub,Nat.reduceMul,Nat.reduceLeDiff,Nat.reduceLT,Int.reduceLE,Int.reduceToNat,Int.reduceNeg,↓reduceIte];rfl)
   | exact .t 3 a5 (by exact drawsAny) (by simp only[AC9,AEn,ACQ,ACe,go_sem,Nat.reduceEqDiff,reduceCtorEq,Nat.reduceAdd,Nat.reduceSub,Nat.reduceMul,Nat.reduceLeDiff,Nat.reduceLT,Int.reduceLE,Int.reduceToNat,Int.reduceNeg,↓reduceIte];rfl)):Ev c R (.run (.region d ops b)) k σ:=AAX e f hk h
theorem eN (h:p:=by simp only[go_sem,Nat.reduceEqDiff,reduceCtorEq,Nat.reduceAdd,Nat.reduceSub,Nat.reduceMul,Nat.reduceLeDiff,Nat.reduceLT,Int.reduceLE,Int.reduceToNat,Int.reduceNeg,↓reduceIte]<;>fail):p:=h
theorem eM {q:Prop} (a:q) (h:p=q:=by exact a1):p:=h▸a
theorem eR (h:p:=by simp only[OT,Lv,Jw,LA,Nj,Jx,Hl,go_sem,Nat.reduceEqDiff,reduceCtorEq,Nat.reduceAdd,Nat.reduceSub,Nat.reduceMul,Nat.reduceLeDiff,Nat.reduceLT,Int.reduceLE,Int.reduceToNat,Int.reduceNeg,↓reduceIte]<;>fail):p:=h
theorem MJ {q:Prop} (a:q) (h:p=q:=by simp only[OT,Lv,Jw,LA,Nj,Jx,Hl,go_sem,Nat.reduceEqDiff,reduceCtorEq,Nat.reduceAdd,Nat.reduceSub,Nat.reduceMul,Nat.reduceLeDiff,Nat.reduceLT,Int.reduceLE,Int.reduceToNat,Int.reduceNeg,↓reduceIte];rfl):p:=h▸a
theorem eV (h:p:=by (try dsimp only[Ty.den]at *)<;>(repeat'(first|apply And.intro|intro _))<;>omega):p:=h
end
section
open Go Go.RowKit
section
variable {c:Cx} {R:Exit->Act->World->Prop} {k:List Cq} {σ σ':St}
theorem A1p (d:c.Ok) {id:Nat} {l:List Oper} (n:Nat) {vc:Prop} (h:B7 c.tb l (l.take n) σ=some (vc,σ')) (f:vc) (hk:D7 c R k l.toArray (l.drop n) σ') :
  Ev c R (.run (.region id l.toArray false)) k σ:=by
 intro h1 b a w hs;simp only[IM,B4,OF]at h1;exact ADS (QR d n (by simpa using h) f hk (λo e=>h1 o e) b a w hs)
theorem xU (F:c.Ok) {ops:Array Oper} {rest:List Oper} {dst:Option Nat} {g:Operand} {xs:List Operand} {ts:Array TypeId} {ty:TypeId} {i:Option (Nat×Bool)}
  (H:E5 ops.toList σ i=some true)
  {j:List Nat} (G:DY (Al σ g)=some (f,j)) {as:List AV} (E:KP σ xs=some as)
  {A:List AV} {objs:List (Nat×Obj)} {stay:List Nat} {post:AV->List (Nat×Obj)->Prop} (C:BB c.P f A objs stay post)
  (ren:List (Nat×CE)) (hs:List Nat) (h1:CB ren=true) (y:CQ objs ren=true) (L:(c.ds.pin.all λp=>!Ai p.1 hs)=true) (z:Bi σ ren (as++j.map λn=>AV.bp n [] 0) A) (D:Ak σ.objs ren objs)
  (hk:∀res e,post res e->∃(b:List (Nat×CE)) (h:AV) (d:List (Nat×Obj)),CB b=true/\CQ d b=true/\Ak e b d/\Bv b res h /\
   IV ren b stay hs=true/\Fg (A1 ren) d σ.objs=true/\D7 c R k ops rest (Cr σ (A1 ren) hs dst h d)) :
  D7 c R k ops (⟨dst,.call ⟨.value g,xs.toArray,ts⟩,ty,X,Z,i⟩ :: rest) σ:=by
 intro l I a w m;unfold wpListIn;rw[At (Hw (o:=⟨dst,.call ⟨.value g,xs.toArray,ts⟩,ty,X,Z,i⟩) m H)];refine rK F (xs:=xs) (ts:=ts) rfl rfl G E C ren h1 y z D hs L m (BA (l _ sc)) λres e K=>?_;obtain⟨b,h,d,r,s,t,u,v,x,B⟩:=hk res e K;exact⟨b,h,d,r,s,t,u,v,x,λq w' M=>B (λo J=>l o (by simp[J])) I q w' M⟩
end
end
section
open Go Go.RowKit
section
variable {c:Cx} {ops:List Oper} {Kf:St->Prop} {τ:St} {ens:EN} {vc:Prop}
theorem xV {A D:List Nat} {l:Nat} {b:List (List Nat×Nat)} {o:Oper} {d:St} {a:EN} (j:vc) (e:mZ c o d a (λm=>Mix c ops Kf b D a m)) (h:mY c.tb ops τ.objs (A++qs b D) [] τ.env=some (vc,ens):=by exact a1) (g:R9 ens τ.objs=true:=by rfl) (i:ops[l]?=some o:=by rfl)
  (k:Mo (ens.take A.length) τ=d:=by exact a1) (f:ens.drop A.length=a:=by exact a1):Mix c ops Kf ((A,l) :: b) D ens τ:=A1m h j g i k f e
theorem xW {R:Exit->Act->World->Prop} {k:List Cq} {σ':St} (d:c.Ok) {D:List Nat} {l:List Oper} {a:Prop} (f:vc) (g:a) (hk:Ev c R (.out .normal) k σ') (h:mY c.tb ops τ.objs D [] τ.env=some (vc,ens):=by exact a1) (e:R9 ens τ.objs=true:=by rfl)
  (b:D8 c.tb.live (B7 c.tb ops l (Mo ens τ))=some (a,σ'):=by exact a1):Mix c ops (fun τ=>D7 c R k ops.toArray l τ) [] D ens τ:=A1l h f e (HE _ d b g hk)
end
section
variable {c:Cx} {o:Oper} {σ:St} {ens:EN} {N:St->Prop} {R:Exit->Act->World->Prop} {k:List Cq} {σ':St}
theorem mxL (b:c.Ok) {τ:St} {vc:Prop} (ns:List Nat) (i:vc) (a:N τ) (h:GY c.tb o σ=some (vc,τ):=by exact a1) (f:tn σ o.op=ns:=by simp only[go_sem,Nat.reduceEqDiff,reduceCtorEq,Nat.reduceAdd,Nat.reduceSub,Nat.reduceMul,Nat.reduceLeDiff,Nat.reduceLT,Int.reduceLE,Int.reduceToNat,Int.reduceNeg,↓reduceIte]) (g:PC o ens=true:=by rfl) (hn:Mr ns σ.objs ens=true:=by rfl) (e:Vz τ.objs ens=true:=by rfl)
  (hf:Ms ns ens=ens:=by simp only[go_sem,Nat.reduceEqDiff,reduceCtorEq,Nat.reduceAdd,Nat.reduceSub,Nat.reduceMul,Nat.reduceLeDiff,Nat.reduceLT,Int.reduceLE,Int.reduceToNat,Int.reduceNeg,↓reduceIte]) (d:KH c.nt o=true:=by rfl):mZ c o σ ens N:=xQ b ns h f g hn e hf d i a
theorem evP (a:c.Ok) {l:List Oper} (n:Nat) {vc:Prop} (b:vc) (hk:D7 c R k l.toArray (l.drop n) σ') (h:B7 c.tb l (l.take n) σ=some (vc,σ'):=by simp only[AC9,ACQ,go_sem,Nat.reduceEqDiff,reduceCtorEq,Nat.reduceAdd,Nat.reduceSub,Nat.reduceMul,Nat.reduceLeDiff,Nat.reduceLT,Int.reduceLE,Int.reduceToNat,Int.reduceNeg,↓reduceIte];rfl):Ev c R (.run (.region d l.toArray false)) k σ:=A1p a n h b hk
theorem clG (r:c.Ok) {ops:Array Oper} {rest:List Oper} {dst:Option Nat} {g:Operand} {xs:List Operand} {ts:Array TypeId} {ty:TypeId} {e:Option (Nat×Bool)} {d:List Nat} {as:List AV}
  {A:List AV} {objs:List (Nat×Obj)} {stay:List Nat} {post:AV->List (Nat×Obj)->Prop} (m:BB c.P f A objs stay post) (ren:List (Nat×CE)) (hs:List Nat) (l:Bi σ ren (as++d.map λn=>AV.bp n [] 0) A) (o:Ak σ.objs ren objs)
  (hk:∀res h,post res h->∃(a:List (Nat×CE)) (i:AV) (b:List (Nat×Obj)),CB a=true/\CQ b a=true/\Ak h a b/\Bv a res i /\
   IV ren a stay hs=true/\Fg (A1 ren) b σ.objs=true/\D7 c R k ops rest (Cr σ (A1 ren) hs dst i b))
  (t:E5 ops.toList σ e=some true:=by simp only[go_sem,Nat.reduceEqDiff,reduceCtorEq,Nat.reduceAdd,Nat.reduceSub,Nat.reduceMul,Nat.reduceLeDiff,Nat.reduceLT,Int.reduceLE,Int.reduceToNat,Int.reduceNeg,↓reduceIte]) (s:DY (Al σ g)=some (f,d):=by exact a1) (q:KP σ xs=some as:=by exact a1) (h1:CB ren=true:=by rfl) (j:CQ objs ren=true:=by rfl) (u:(c.ds.pin.all λp=>!Ai p.1 hs)=true:=by rfl) :
  D7 c R k ops (⟨dst,.call ⟨.value g,xs.toArray,ts⟩,ty,X,Z,e⟩ :: rest) σ:=xU r t s q m ren hs h1 j u l o hk
theorem CO (l:List Nat) {n:rB} {a:St} (hk:Ev c R n k a) (h:Cz l σ=a:=by exact a1):Ev c R n k σ:=Ev.ent hk (aP l h λ_ _ h=>h)
theorem AAY (l:List Nat) {a:St} (b:Ent c a σ') (h:Cz l σ=a:=by exact a1):Ent c σ σ':=aP l h b
end
theorem eW {c:Cx} {σ σ':St} (ren:List (Nat×CE)) (h1:CB ren=true:=by rfl) (a:CQ σ'.objs ren=true:=by rfl) (d:Ak σ.objs ren σ'.objs:=by exact eN) (b:K0 σ.env ren σ'.env:=by exact eN) (e:A8Q c.ds.pin ren=true:=by rfl):Ent c σ σ':=AB ren h1 a d b e
theorem eT (h:p:=by simp only[TX,xG,R8,YT,Jw,LA,Jx,go_sem,Nat.reduceEqDiff,reduceCtorEq,Nat.reduceAdd,Nat.reduceSub,Nat.reduceMul,Nat.reduceLeDiff,Nat.reduceLT,Int.reduceLE,Int.reduceToNat,Int.reduceNeg,↓reduceIte]<;>fail):p:=h
section
variable {P:Program} {ty:List (Nat×TI)} {fs:List (Nat×Ab)} {nt:Nat} {f:FuncId} {fn:Func} {cd:Code}
theorem fKP (a b:List Nat) (ne:List (Nat×TypeId)) {sp:Ab} (e:P.funcs[f]?=some fn) (j:fn.ntmps=nt) (hF:JM P ⟨ty,fs,b,ne,a⟩)
  (h:∀(w0:World) (O0:Nat->Prop) (ds:Jl sp.ins),(cx P ⟨ty,fs,b,ne,a⟩ w0 O0 nt).Ok->oks sp.ins ds->sp.pre ds->Ev (cx P ⟨ty,fs,b,ne,a⟩ w0 O0 nt) (VW P fn w0 O0 (sp.out ds)) (.run cd) [] ⟨AL 0 sp.ins ds,[]⟩)
  (c : fn.body = some cd := by rfl) (hT : DI P ⟨ty, fs, b, ne, a⟩ := by exact tyTab_ok _ _ _ _) (i : (fn.name == "runtime.NumGoroutine") = false := by kernel_rfl) (g : sp.ins.length <= nt := by decide) (d : B4 nt cd = true := by kernel_rfl) : Ag P f sp := A87 e i c j g d hT hF h
theorem fK (a:List Nat) {sp:Ab} (d:P.funcs[f]?=some fn) (i:fn.ntmps=nt) (hF:JM P ⟨ty,fs,[],[],a⟩)
  (h:∀(w0:World) (O0:Nat->Prop) (ds:Jl sp.ins),(cx P ⟨ty,fs,[],[],a⟩ w0 O0 nt).Ok->oks sp.ins ds->sp.pre ds->Ev (cx P ⟨ty,fs,[],[],a⟩ w0 O0 nt) (VW P fn w0 O0 (sp.out ds)) (.run cd) [] ⟨AL 0 sp.ins ds,[]⟩)
  (b : fn.body = some cd := by rfl) (hT : DI P ⟨ty, fs, [], [], a⟩ := by exact tyTab_ok _ _ _ _) (g : (fn.name == "runtime.NumGoroutine") = false := by kernel_rfl) (e : sp.ins.length <= nt := by decide) (c : B4 nt cd = true := by kernel_rfl) : Ag P f sp := A87 d g b i e c hT hF h
variable {args:List AV} {objs:List (Nat×Obj)} {stay:List Nat} {post:AV->List (Nat×Obj)->Prop}
theorem JT (a b:List Nat) (ne:List (Nat×TypeId)) (e:P.funcs[f]?=some fn) (k:fn.ntmps=nt) (hF:JM P ⟨ty,fs,b,ne,a⟩)
  (h:∀(w0:World) (K O0:Nat->Prop) (ρ0:Nat->Value),(cm P ⟨ty,fs,b,ne,a⟩ w0 K O0 nt (stay.map λn=>(n,ρ0 n))).Ok->QV args->O8 objs ->
   Ev (cm P ⟨ty,fs,b,ne,a⟩ w0 K O0 nt (stay.map λn=>(n,ρ0 n))) (A5e P fn w0 K O0 stay ρ0 post) (.run cd) [] ⟨Aq 0 args,objs⟩)
  (c : fn.body = some cd := by rfl) (hT : DI P ⟨ty, fs, b, ne, a⟩ := by exact tyTab_ok _ _ _ _) (j : (fn.name == "runtime.NumGoroutine") = false := by kernel_rfl) (i : args.length <= nt := by simp only [If, ABv]; omega) (d : B4 nt cd = true := by kernel_rfl) (l : stay.all (TW objs) = true := by rfl) (g : Md objs = true := by rfl) : BB P f args objs stay post := A8X e j c k i d l g hT hF h
theorem fKR (a b:List Nat) (ne:List (Nat×TypeId)) (e:P.funcs[f]?=some fn) (k:fn.ntmps=nt) (hF:JM P ⟨ty,fs,b,ne,a⟩)
  (h:∀(w0:World) (K O0:Nat->Prop) (ρ0:Nat->Value),(cm P ⟨ty,fs,b,ne,a⟩ w0 K O0 nt (stay.map λn=>(n,ρ0 n))).Ok->QV args->O8 objs ->
   Ev (cm P ⟨ty,fs,b,ne,a⟩ w0 K O0 nt (stay.map λn=>(n,ρ0 n))) (rU P fn w0 K O0 stay ρ0 post) (.run cd) [] ⟨Aq 0 args,objs⟩)
  (c : fn.body = some cd := by rfl) (hT : DI P ⟨ty, fs, b, ne, a⟩ := by exact tyTab_ok _ _ _ _) (j : (fn.name == "runtime.NumGoroutine") = false := by kernel_rfl) (i : args.length <= nt := by simp only [If, ABv]; omega) (d : B4 nt cd = true := by kernel_rfl) (l : stay.all (TW objs) = true := by rfl) (g : Md objs = true := by rfl) : BB P f args objs stay post := A5l e j c k i d l g hT hF h
end
theorem fI {tb:Tb} {w0:World} {O0:Nat->Prop} {nt:Nat} (b:(cx P tb w0 O0 nt).Ok) {fn:Func} {outs:List RV} {σ:St} {e:Exit} (a:List ResultVar) (h:OT tb σ a outs:=by exact eR) (g:fn.results.toList=a:=by rfl) (c:e=.ret\/e=.normal:=by exact .inl rfl) (f:∀r∈outs,∃t d,r=.p t d:=by simp) :
  Ev (cx P tb w0 O0 nt) (VW P fn w0 O0 outs) (.out e) [] σ:=A8V b a g c f h
theorem fM {tb:Tb} {w0:World} {K O0:Nat->Prop} {nt:Nat} {stay:List Nat} {fn:Func} {post:AV->List (Nat×Obj)->Prop} {σ:St} {e:Exit} (b:(cm P tb w0 K O0 nt (stay.map λn=>(n,T n))).Ok)
  (a:List ResultVar) (res:AV) (h:TX tb σ a res) (d:post res σ.objs) (f:fn.results.toList=a:=by rfl) (c:e=.ret\/e=.normal:=by first|exact .inl rfl|exact .inr rfl) :
  Ev (cm P tb w0 K O0 nt (stay.map λn=>(n,T n))) (A5e P fn w0 K O0 stay T post) (.out e) [] σ:=A5f b a f c res h d
theorem QZ {c:Cx} {σ:St} (q:c.Ok) {ops:Array Oper} {rest:List Oper} {dst:Option Nat} {g:Operand} {xs:List Operand} {ts:Array TypeId} {ty:TypeId} 
  {d:List Nat} {as:List AV} {A:List AV} {objs:List (Nat×Obj)} {stay:List Nat} {post:AV->List (Nat×Obj)->Prop} (l:BB c.P f A objs stay post)
  (ren:List (Nat×CE)) (hs:List Nat)
  (hk:∀res e,post res e->∃(a:List (Nat×CE)) (h:AV) (b:List (Nat×Obj)),CB a=true/\CQ b a=true/\Ak e a b/\Bv a res h /\
   IV ren a stay hs=true/\Fg (A1 ren) b σ.objs=true/\D7 c R k ops rest (Cr σ (A1 ren) hs dst h b))
  (r:DY (Al σ g)=some (f,d):=by exact a1) (o:KP σ xs=some as:=by exact a1)
  (h1:CB ren=true:=by rfl) (i:CQ objs ren=true:=by rfl) (s:(c.ds.pin.all λp=>!Ai p.1 hs)=true:=by rfl)
  (j:Bi σ ren (as++d.map λn=>AV.bp n [] 0) A:=by exact eN) (m:Ak σ.objs ren objs:=by exact eN) :
  D7 c R k ops (⟨dst,.call ⟨.value g,xs.toArray,ts⟩,ty,X,Z,none⟩ :: rest) σ:=rM q l ren hs j m hk r o h1 i s
theorem rW {c:Cx} {σ:St} (y:c.Ok) {ops:Array Oper} {rest:List Oper} {dst:Option Nat} {g:Operand} {xs:List Operand} {ts:Array TypeId} {ty:TypeId} {pos:String} 
  {as:List AV} {A:List AV} {objs Y:List (Nat×Obj)} {X:AV} {stay:List Nat} (v:BB c.P f A objs stay λr o=>r=X/\o=Y)
  (ren:List (Nat×CE)) (hs:List Nat) (a:List (Nat×CE)) (d:AV) (b:List (Nat×Obj)) (hk:D7 c R k ops rest (Cr σ (A1 ren) hs dst d b))
  (z:DY (Al σ g)=some (f,e):=by exact a1) (x:KP σ xs=some as:=by exact a1)
  (h1:CB ren=true:=by rfl) (i:CQ objs ren=true:=by rfl) (B:(c.ds.pin.all λp=>!Ai p.1 hs)=true:=by rfl)
  (u:Bi σ ren (as++e.map λn=>AV.bp n [] 0) A:=by exact eN) (w:Ak σ.objs ren objs:=by exact eN)
  (j:CB a=true:=by rfl) (l:CQ b a=true:=by rfl) (m:Ak Y a b:=by exact eN) (q:Bv a X d:=by exact eN)
  (s:IV ren a stay hs=true:=by rfl) (t:Fg (A1 ren) b σ.objs=true:=by rfl) :
  D7 c R k ops (⟨dst,.call ⟨.value g,xs.toArray,ts⟩,ty,pos,Z,none⟩ :: rest) σ:=rM y v ren hs u w (λ_ _ h=>by
   obtain⟨rfl,rfl⟩:=h;exact⟨a,d,b,j,l,m,q,s,t,hk⟩) z x h1 i B
end
section
open Go Go.RowKit
structure V3 (X σ:St) (n:Nat):Prop where
 env:∀s v,lk s X.env=some v->v.trn n []=v
 arr:∀m o,lk m X.objs=some o->PB o=true
 new:∀m o,lk m X.objs=some o->lk m σ.objs=none
 nm:∀m o,lk m X.objs=some o->m≠n
section
variable {σ σ' X:St} {n:Nat}
theorem V3.obs (b:OB σ σ' X) (ha:V3 X σ n):mQ σ σ':=by
 intro m o hn;rw[b.objs];cases a:lk m X.objs with
 | none=>exact hn
 | some c=>rw[ha.new m c a]at hn;cases hn
theorem ACu (b:OB σ σ' X) (ha:V3 X σ n) {en:List (Nat×AV)} {new:List (Nat×Obj)} (c:∀s v,lk s en=some v->lk s X.env=none) (e:∀m o,lk m new=some o->lk m X.objs=none) :
  OB ⟨en++EZ n [] σ.env,new++Cw n [] σ.objs⟩ ⟨en++EZ n [] σ'.env,new++Cw n [] σ'.objs⟩ X:=by
 refine⟨λs=>?_,λm=>?_⟩
 .simp only[BJ];cases hs:lk s en with
  | some v=>rw[c s v hs];rfl
  | none =>
   rw[Fu,Fu,b.env];cases a:lk s X.env with
   | none=>rfl
   | some w=>simp[ha.env s w a]
 simp only[BJ];cases d:lk m new with
 | some o=>rw[e m o d];rfl
 | none =>
  rw[Dj,Dj,b.objs];cases a:lk m X.objs with
  | none=>rfl
  | some w =>
   rw[As λh=>ha.nm m w a (by simpa using (A0 _ _).1 h)];exact AC4 some (Ya (ha.arr m w a))
def m9 (σ:St):Op->Option Nat
 | .call c=>match c.callee,c.args.toList,c.argTypes.toList with
  | .builtin .append,[x,_],[_,_]=>(match Al σ x with|some (.nin n _ _ _)=>some n|_=>none)
  | _,_,_=>none
 | _=>none
theorem A5n {tb:Tb} {op:Op} {d:Option Nat} {τ:St} (j:OB σ σ' X) (ha:V3 X σ n) (r:xO σ σ' op.operands.toList) (a:m9 σ op=some n) (G:∀t,d=some t->lk t X.env=none) (E:∀n,(∃u,lk n τ.objs=some u)->lk n X.objs=none) (h:Fs tb σ d op=some (p,τ)) :
  (∃B,Fs tb σ' d op=some (p,B)/\OB τ B X)/\(∀k,aq tb σ' k op=none)/\(∀k,aq tb σ k op=none)/\Ca σ op=[]/\Ca σ' op=[]:=by
 have vc:=ha.obs j;cases op<;>try(cases a;done)
 rename_i cl;obtain⟨callee,⟨args⟩,⟨argTypes⟩⟩:=cl;simp only[m9]at a;split at a
 .rename_i x y t u;cases f:Al σ x with
  | none=>rw[f]at a;cases a
  | some xv =>
   rw[f]at a;cases xv<;>try(cases a;done)
   rename_i Q e i len;cases a;have z:Al σ' x=Al σ x:=r x (by simp[Op.operands,Call.operands]);have N:Al σ' y=Al σ y:=r y (by simp[Op.operands,Call.operands]);refine⟨?_,λk=>by simp[aq,DC,DS,Cy,z,f],λk=>by simp[aq,DC,DS,Cy,f],rfl,rfl⟩;simp only[Fs,DW,Du,f]at h;simp only[Fs,DW,Du,DV,z,f,N];cases A:Al σ y with
   | none=>rw[A]at h;unfold DV at h;cases h
   | some v =>
    rw[A]at h;simp only[DV]at h;split at h
    .rename_i b;have H:=G b rfl;simp only;split at h
     .rename_i M;rw[At M];unfold OO at h ⊢;split at h
      .rename_i O R el b2 L;try rw[L]
       try simp only
       split at h
       .rename_i J;rw[At J];unfold P4 at h ⊢;split at h
        .rename_i ti et P k c xs h1 K;try rw[h1]
         try rw[vc _ _ K]
         try simp only
         split at h
         .rename_i F;rw[At F];unfold MR at h ⊢;split at h
          .rename_i ys C;rw[Mf vc C];try simp only
           split at h
           .rename_i m;have l:lk b X.objs=none:=by
             refine E b ?_;cases h;exact⟨_,by simp only[lk,ACk];rfl⟩
            have I:(lk b σ'.objs).isNone=true/\ys.isEmpty=false:=⟨by rw[j.objs,l];exact m.1,m.2⟩;rw[At I];cases h;refine⟨_,rfl,ACu (en:=[(b,_)]) (new:=[(b,_),(n,_)]) j ha (λs v h=>?_) (λq o g=>?_)⟩
            .simp only[lk]at h;split at h
             .rename_i c;rw[c];exact H
             cases h
            simp only[lk]at g;split at g
            .rename_i c;rw[c];exact l
            split at g
            .rename_i c;rw[c];cases D:lk n X.objs with
             | none=>rfl
             | some w=>exact absurd rfl (ha.nm n w D)
            cases g
           cases h
          cases h
         cases h
        cases h
       cases h
      cases h
     cases h
    cases h
 cases a
end
def V4 (n:Nat):EN->EN
 | []=>[]
 | (d,v,obs) :: r=>(d,v.trn n [],obs) :: V4 n r
theorem V5 {n:Nat}:∀ {ens:EN},V4 n ens=ens->∀e∈ens,e.2.1.trn n []=e.2.1
 | [],_,e,a=>by cases a
 | (d,v,obs) :: r,h,e,a=>by
  simp only[V4,ADc,AEi,and_true,true_and]at h;rcases By.1 a with rfl|a
  .exact h.1
  exact V5 h.2 e a
section
variable {c:Cx} {o:Oper} {σ:St} {ens:EN} {N:St->Prop}
theorem A1q (I:c.Ok) {τ:St} {vc:Prop} (n:Nat) (h:GY c.tb o σ=some (vc,τ)) (b:m9 σ o.op=some n) (z:PC o ens=true) (hn:Mr [n] σ.objs ens=true) (K:Vz τ.objs ens=true) (hf:V4 n ens=ens) (J:KH c.nt o=true) (O:vc) (E:N τ):mZ c o σ ens N:=by
 intro X σ' A g a w next Q hs hk
 have ha:V3 X σ n:=by
  refine⟨λs v hs=>?_,λm o l=>?_,λm o l=>?_,λm o l=>?_⟩
  .obtain⟨obs,i⟩:=g.env s v hs;exact V5 hf _ i
  all_goals
   obtain⟨e,k,p⟩:=g.objs m o l;have:=Mt hn e k _ p
  .exact this.2.2
  .exact this.1
  grind
 have G:∀t∈Ha o.op,lk t X.env=none:=λt q=>by
  cases f:lk t X.env with
  | none=>rfl
  | some v=>obtain⟨obs,i⟩:=g.env t v f;exact absurd q (HF z _ i).1
 have F:∀t,o.dst=some t->lk t X.env=none:=λt q=>by
  cases f:lk t X.env with
  | none=>rfl
  | some v=>obtain⟨obs,i⟩:=g.env t v f;exact absurd q (HF z _ i).2
 have H:∀n,(∃u,lk n τ.objs=some u)->lk n X.objs=none:=λn hu=>by
  cases f:lk n X.objs with
  | none=>rfl
  | some v =>
   obtain⟨e,k,p⟩:=g.objs n v f;obtain⟨u,hu⟩:=hu;rw[PD K e k _ p]at hu;cases hu
 have L:=aW A G;have key:∃d,GY c.tb o σ'=some (vc,d)/\OB τ d X:=by
  have x:Ca σ o.op=[]/\Ca σ' o.op=[]:=by
   obtain⟨dst,op,ty,pos,after,C⟩:=o;simp only at b ⊢;cases op<;>first|exact⟨rfl,rfl⟩|cases b
  unfold GY P7 at h ⊢;rw[x.1]at h;rw[x.2];simp only[Cz]at h ⊢;cases y:aq c.tb σ (o.dst.getD 0) o.op with
  | some r =>
   obtain⟨dst,op,ty,pos,after,C⟩:=o;simp only at b y;exfalso;cases op<;>try(cases b;done)
   rename_i cl;obtain⟨callee,⟨args⟩,⟨argTypes⟩⟩:=cl;simp only[m9]at b;split at b
   .grind [Al,aq,DC,DS,Cy]
   cases b
  | none =>
   rw[y]at h;simp only[Lt]at h;obtain⟨⟨d,h1,j⟩,D,_⟩:=A5n A ha L b F H h;rw[D];simp only[Lt];exact⟨d,h1,j⟩
 obtain⟨d,h1,j⟩:=key;exact QJ I hs h1 O (BA J) λB w' M=>hk τ E B w' d j M
theorem mxN (b:c.Ok) {τ:St} {vc:Prop} (n:Nat) (i:vc) (a:N τ) (h:GY c.tb o σ=some (vc,τ):=by exact a1) (f:m9 σ o.op=some n:=by simp only[go_sem,Nat.reduceEqDiff,reduceCtorEq,Nat.reduceAdd,Nat.reduceSub,Nat.reduceMul,Nat.reduceLeDiff,Nat.reduceLT,Int.reduceLE,Int.reduceToNat,Int.reduceNeg,↓reduceIte]) (g:PC o ens=true:=by rfl) (hn:Mr [n] σ.objs ens=true:=by rfl) (e:Vz τ.objs ens=true:=by rfl)
  (hf:V4 n ens=ens:=by simp only[go_sem,Nat.reduceEqDiff,reduceCtorEq,Nat.reduceAdd,Nat.reduceSub,Nat.reduceMul,Nat.reduceLeDiff,Nat.reduceLT,Int.reduceLE,Int.reduceToNat,Int.reduceNeg,↓reduceIte]) (d:KH c.nt o=true:=by rfl):mZ c o σ ens N:=A1q b n h f g hn e hf d i a
end
end
section
open Go Go.RowKit
theorem nA (h:p:=by first|exact a6|((try dsimp only[Ty.den])<;>(repeat'(first|apply And.intro|intro _))<;>omega)|((try dsimp only[Ty.den]at *)<;>(repeat'(first|apply And.intro|intro _))<;>omega)):p:=h
end
section
open Go Go.RowKit
section
variable {c:Cx} {R:Exit->Act->World->Prop} {k:List Cq} {σ σ':St}
def nB (a b:Ty) (k:a.den):List (a.den×b.den)->List (a.den×b.den)
 | []=>[]
 | x :: r=>if Ht a k x.1=true then r else x :: nB a b k r
end
end
section
open Go Go.RowKit
section
variable {c:Cx} {R:Exit->Act->World->Prop} {k:List Cq} {σ σ':St}
theorem nC (m:c.Ok) {ops:Array Oper} {rest:List Oper} {ty:TypeId} {offs:List (Nat×Nat)} {A:Nat} {xv z:AV} {b f:Int×Int}
  (M:lk t c.tb.ty=some ⟨.agg (.prod (.int i) (.int j)),offs,0,A⟩) (N:Al σ x=some xv) (Q:Al σ y=some z) (E:JC false σ (.agg (.prod (.int i) (.int j))) xv=some b) (F:JC false σ (.agg (.prod (.int i) (.int j))) z=some f)
  (hk:D7 c R k ops rest ⟨(d,.p .bool (b.1==f.1&&b.2==f.2)) :: σ.env,σ.objs⟩) :
  D7 c R k ops (⟨some d,.binOp .eql t x y S,ty,X,Z,none⟩ :: rest) σ:=by
 intro q H a w L;unfold wpListIn;rw[At (by simp[Region.wanted])];obtain⟨ρ,l⟩:=L;have r:Es (vw w c.O0 σ ρ) σ a.eval:=Cp l.env;have Y:d<c.nt:=BA (q _ TO) d rfl;have s:K6 c.P t i j:=(m.T _ _ M).1.1.2.2;have h1:=Ft (V:=vw w c.O0 σ ρ) (O':=own c.O0 σ ρ) (λ_ h=>h) (λh=>by cases h) l.objs E (r x _ N);have g:=Ft (V:=vw w c.O0 σ ρ) (O':=own c.O0 σ ρ) (λ_ h=>h) (λh=>by cases h) l.objs F (r y _ Q);have h1:a.eval x=.agg #[.int i b.1,.int j b.2]:=EY h1;have g:a.eval y=.agg #[.int i f.1,.int j f.2]:=EY g;have J:(binOp .eql t (a.eval x) (a.eval y)).run c.P w=.ok (.bool (b.1==f.1&&b.2==f.2)) w:=by
  rw[h1,g];have:=O2 s w b.1 b.2 f.1 f.2;simp only[binOp];simp[this]
 have G:(eqGuard .eql t x y (a.eval x) (a.eval y)).run c.P w=.ok () w:=by
  obtain⟨W,after,hu,-,-,⟨B,C⟩,-⟩:=s;rw[h1,g];refine run_eqGuard_agg (P:=c.P) w .eql t x y _ _ ?_;have D:∃n,c.P.depth=n+2:=⟨_,rfl⟩;obtain⟨n,hn⟩:=D;rw[hn];simp[Program.eqGuardType,hu,B,C]
 refine Aj (u:=.bool (b.1==f.1&&b.2==f.2)) (w':=w) (by simp[execOp,G,J]) (hk (λo I=>q o (by simp[I])) H _ _ ⟨ρ,?_⟩);refine l.add m.K m.O (dst:=some d) (λU e=>by injection e with e;omega) (v:=.p .bool (b.1==f.1&&b.2==f.2)) (obs:=[]) (ρ':=ρ) rfl (QS.still ?_);exact⟨[.bool (b.1==f.1&&b.2==f.2)],rfl,rfl⟩
theorem ACv (g:c.Ok) {ops:Array Oper} {rest:List Oper} {q:TypeId} {ty:TypeId} {offs:List (Nat×Nat)} {f:Nat} {xv e:AV} {b:Int×Int}
  (hk:D7 c R k ops rest ⟨(d,.p .bool (a.1==b.1&&a.2==b.2)) :: σ.env,σ.objs⟩) (m:lk t c.tb.ty=some ⟨.agg (.prod (.int i) (.int j)),offs,0,f⟩:=by rfl) (n:Al σ x=some xv:=by exact a1) (o:Al σ y=some e:=by exact a1)
  (h:JC false σ (.agg (.prod (.int i) (.int j))) xv=some a:=by exact a1) (l:JC false σ (.agg (.prod (.int i) (.int j))) e=some b:=by exact a1) :
  D7 c R k ops (⟨some d,.binOp .eql t x y q,ty,X,Z,none⟩ :: rest) σ:=nC g m n o h l hk
end
end
section
open Go Go.RowKit
def siB (P:Program) (b:IntKind) (id:TypeId):Option TypeDesc->Bool
 | some (.struct ⟨[a, c]⟩) => (a.name != "_") && (c.name != "_") && a.offset == 0 && c.offset == 1 && (match P.underlying a.type with | some .string => true | _ => false) && isI b (P.underlying c.type) && P.stoodInHeld id == false && !(P.eqGuardType P.depth id)
 | _=>false
theorem gI {b:IntKind} (h:siB P b t (P.underlying t)=true) (w:World) (i k:ByteArray) (j l:Int) :
  (binOp .eql t (.agg #[.string i,.int b j]) (.agg #[.string k,.int b l])).run P w=.ok (.bool (AK i k&&(j==l))) w/\∀x y:Operand,∀u v:Array Value,(eqGuard .eql t x y (.agg u) (.agg v)).run P w=.ok () w:=by
 unfold siB at h;split at h
 .rename_i a f hu;simp only[An,AAv,AE4,lU]at h;obtain⟨⟨⟨⟨⟨⟨⟨h1,p⟩,q⟩,r⟩,d⟩,g⟩,s⟩,id⟩:=h;have d:P.underlying a.type=some .string:=by
   split at d
   .assumption
   cases d
  have g:=VG g;have m:P.fieldsOf t=#[a,f]:=by simp[Program.fieldsOf,hu]
  refine⟨?_,λx y u v=>run_eqGuard_agg (P:=P) w .eql t x y u v id⟩;have z:P.plainKey a.type=true:=by simp[Program.plainKey,d]
  have A:P.plainKey f.type=true:=by simp[Program.plainKey,g]
  have B:∀x y:ByteArray,(Op.equalIn 9999 a.type (.string x) (.string y)).run P w=.ok (x.toList==y.toList) w:=λx y=>run_equalIn_string w 9998 _ x y d;have n:∀x y:Int,(Op.equalIn 9999 f.type (.int b x) (.int b y)).run P w=.ok (x==y) w:=λx y=>Ma g 9998 x y;have e:(Op.equalIn 10000 t (.agg #[.string i,.int b j]) (.agg #[.string k,.int b l])).run P w=_:=run_equalIn_struct (P:=P) w 9999 t _ _ (by rw[m];exact hu) s;rw[run_eql_struct,e,m];have p0:=λ(u v:Value)=>ADQ (P:=P) w z (xs:=#[u,v]) (off:=a.offset) (v:=u) (by rw[q];rfl);have o:=λ(u v:Value)=>ADQ (P:=P) w A (xs:=#[u,v]) (off:=f.offset) (v:=v) (by rw[r];rfl);unfold AK;simp only[Op.eqFields,h1,p,ne_eq,AEC,ACk,ACc,p0,o,AAM,B,n];by_cases c:i.toList=k.toList
  .by_cases c2:j=l<;>simp[c,c2,AEF,ACc,o,n,Op.eqFields]
  simp[c,AEF]
 cases h
theorem Ui {b:IntKind} {d:(Ty.agg (.prod .str (.int b))).den} (h:Bg w O (.agg (.prod .str (.int b))) v d):v=.agg #[.string d.1,.int b d.2]:=by
 obtain⟨cs,⟨c1,c2,rfl,⟨rfl,_⟩,⟨rfl,_⟩⟩,rfl⟩:=h;rfl
section
variable {c:Cx} {R:Exit->Act->World->Prop} {k:List Cq} {σ σ':St}
theorem ACw (m:c.Ok) {ops:Array Oper} {rest:List Oper} {ty:TypeId} {j:IntKind} {xv s:AV} {b f:ByteArray×Int}
  (D:siB c.P j t (c.P.underlying t)=true) (hk:D7 c R k ops rest ⟨(d,.p .bool (AK b.1 f.1&&b.2==f.2)) :: σ.env,σ.objs⟩) (F:Al σ x=some xv:=by exact a1) (G:Al σ y=some s:=by exact a1)
  (z:JC false σ (.agg (.prod .str (.int j))) xv=some b:=by exact a1) (A:JC false σ (.agg (.prod .str (.int j))) s=some f:=by exact a1) :
  D7 c R k ops (⟨some d,.binOp .eql t x y S,ty,X,Z,none⟩ :: rest) σ:=by
 intro n B a w E;unfold wpListIn;rw[At (by simp[Region.wanted])];obtain⟨ρ,i⟩:=E;have q:Es (vw w c.O0 σ ρ) σ a.eval:=Cp i.env;have J:d<c.nt:=BA (n _ TO) d rfl;have h1:=Ft (V:=vw w c.O0 σ ρ) (O':=own c.O0 σ ρ) (λ_ h=>h) (λh=>by cases h) i.objs z (q x _ F);have l:=Ft (V:=vw w c.O0 σ ρ) (O':=own c.O0 σ ρ) (λ_ h=>h) (λh=>by cases h) i.objs A (q y _ G);have h1:a.eval x=.agg #[.string b.1,.int j b.2]:=Ui h1;have l:a.eval y=.agg #[.string f.1,.int j f.2]:=Ui l;obtain⟨r,g⟩:=gI D w b.1 f.1 b.2 f.2;have g:=g x y #[.string b.1,.int j b.2] #[.string f.1,.int j f.2];rw[<-h1,<-l]at r g;refine Aj (u:=.bool (AK b.1 f.1&&b.2==f.2)) (w':=w) (by simp[execOp,g,r]) (hk (λo C=>n o (by simp[C])) B _ _ ⟨ρ,?_⟩);refine i.add m.K m.O (dst:=some d) (λI e=>by injection e with e;omega) (v:=.p .bool (AK b.1 f.1&&b.2==f.2)) (obs:=[]) (ρ':=ρ) rfl (QS.still ?_);exact⟨[.bool (AK b.1 f.1&&b.2==f.2)],rfl,rfl⟩
end
end
section
open Go Go.RowKit
theorem Ye {tb:Tb} {w0:World} {K O0:Nat->Prop} {nt:Nat} {stay:List Nat} {fn:Func} {post:AV->List (Nat×Obj)->Prop} {σ:St} {e:Exit} (d:(cm P tb w0 K O0 nt (stay.map λn=>(n,T n))).Ok)
  (b:List ResultVar) (k:fn.results.toList=b) (g:e=.ret\/e=.normal) (res:AV) (h:TX tb σ b res) (i:post res σ.objs) :
  Ev (cm P tb w0 K O0 nt (stay.map λn=>(n,T n))) (rU P fn w0 K O0 stay T post) (.out e) [] σ:=by
 intro _ _ a w hs;obtain⟨ρ,hs⟩:=hs;obtain⟨u,h1,c⟩:=Vj d.T hs (by rw[k];exact h);have j:Ml K O0 stay w0 T post u w:=by
  refine⟨res,σ.objs,ρ,i,hs.frm,⟨hs.objs,hs.free,hs.dist⟩,c,λn hn=>?_⟩;exact(hs.pin (n,T n) (IN.2 ⟨n,hn,rfl⟩)).2.1
 have f:a.defers=[]:=hs.defers;have key:LeavesInM (FR none) 0 P fn a.tmps (λe w'=>∃u,e=.returned u/\Ml K O0 stay w0 T post u w') a.defers .returning w:=by
  rw[f];exact⟨u,h1,u,rfl,j⟩
 rcases g with rfl|rfl
 .exact key
 exact key
section
variable {c:Cx} {R:Exit->Act->World->Prop} {k:List Cq} {σ σ':St}
theorem cG (n:Nat) (d:c.Ok) {id:Nat} {l:List Oper} {vc:Prop} (f:vc) (hk:D7 c R k l.toArray (l.drop n) σ') (h:B7 c.tb l (l.take n) σ=some (vc,σ'):=by simp only[AC9,ACQ,go_sem,Nat.reduceEqDiff,reduceCtorEq,Nat.reduceAdd,Nat.reduceSub,Nat.reduceMul,Nat.reduceLeDiff,Nat.reduceLT,Int.reduceLE,Int.reduceToNat,Int.reduceNeg,↓reduceIte];rfl) :
  Ev c R (.run (.region id l.toArray false)) k σ:=by
 intro h1 b a w hs;simp only[IM,B4,OF]at h1;exact ADS (QR d n (by simpa using h) f hk (λo e=>h1 o e) b a w hs)
end
end
section
open Go Go.RowKit
theorem r7 {σ:St} {ρ ρ':Nat->Value} {b:Nat} (h:¬own O σ ρ b):¬own O ⟨[],[]⟩ ρ' b:=by
 rintro (q|⟨n,⟨o,a⟩,-⟩)
 .exact h (.inl q)
 cases a
theorem EL {ρ:Nat->Value} {t:Ty} {d:t.den} (h:Bg w O t v d):CD (vw w O ⟨[],[]⟩ ρ) (.p t d) v:=by
 refine Bg.mono (λb _ q=>?_) (λ_ _ _=>rfl) h;rintro (c|⟨n,⟨o,a⟩,-⟩)
 .exact q c
 cases a
theorem gJ {w:World} {O:Nat->Prop} {σ:St} {ρ ρ':Nat->Value}:∀ {outs:List RV} {nm:Nat} {a:List Value},(∀r∈outs,∃t d,r=.p t d)->II (vw w O σ ρ) (IC nm outs) a->II (vw w O ⟨[],[]⟩ ρ') (IC nm outs) a
 | [],_,_,_,h=>h
 | r :: l,nm,a,c,h=>by
  obtain⟨t,d,rfl⟩:=c r sc;obtain⟨v,l',rfl,h1,e⟩:=h;exact⟨v,l',rfl,Bg.mono (λb _ q=>r7 q) (λ_ _ _=>rfl) (show Bg _ _ t v d from h1),gJ (λr f=>c r (GO _ f)) e⟩
theorem Ta:∀ {outs:List RV} {nm:Nat},(∀r∈outs,∃t d,r=.p t d)->C8 nm outs=[]
 | [],_,_=>rfl
 | r :: l,nm,a=>by
  obtain⟨t,d,rfl⟩:=a r sc;exact Ta (outs:=l) (λr b=>a r (GO _ b))
theorem V6:∀ {outs:List RV} {nm nm':Nat},(∀r∈outs,∃t d,r=.p t d)->IC nm outs=IC nm' outs
 | [],_,_,_=>rfl
 | r :: l,nm,nm',a=>by
  obtain⟨t,d,rfl⟩:=a r sc;show AV.p t d :: _=AV.p t d :: _;rw[V6 (outs:=l) λr b=>a r (GO _ b)]
theorem nD {σ:St} {ρ ρ':Nat->Value} {nm:Nat} {u:Value}:∀ {outs:List RV},(∀r∈outs,∃t d,r=.p t d)->CD (vw w O σ ρ) (Hk 0 outs) u->CD (vw w O ⟨[],[]⟩ ρ') (Hk nm outs) u
 | [],_,h=>h
 | [r],a,h=>by
  obtain⟨t,d,rfl⟩:=a r sc;exact Bg.mono (λb _ q=>r7 q) (λ_ _ _=>rfl) (show Bg _ _ t u d from h)
 | r :: q :: l,a,h=>by
  obtain⟨c,rfl,h1⟩:=h;refine⟨c,rfl,?_⟩;have h1:II (vw w O σ ρ) (IC 0 (r :: q :: l)) c:=h1;rw[V6 (nm':=nm) a]at h1;exact gJ a h1
theorem J0 {sp : Ab} (hf : ∃ fn : Func, P.funcs[f]? = some fn /\ (fn.name == "runtime.NumGoroutine") = false /\ fn.body.isNone = false)
  (h:∀ds,sp.pre ds->∃args,(∀w O c,QF w O sp.ins c ds->IU (vw w O ⟨[],[]⟩ λ_=>undef) args c)/\BB P f args [] [] (λres _=>res=Hk 0 (sp.out ds)))
  (g:∀ds,∀r∈sp.out ds,∃t d,r=.p t d):Ag P f sp:=by
 refine⟨hf,λw O c ds i hG y s=>?_⟩;obtain⟨args,ha,-,k⟩:=h ds s;have h1:=k w (λb=>b<w.heap.size) O (λ_=>undef) c (λb q=>q) i hG ⟨λn o q=>(by cases q),λn b q=>(by obtain⟨o,q⟩:=q;cases q),λn m b q=>(by obtain⟨o,q⟩:=q;cases q)⟩ (ha w O c y);refine h1.mono λe w' v=>?_;obtain⟨u,l,res,C,ρ',x,a,A,j,-⟩:=v;refine⟨u,l,λnm=>⟨λ_=>undef,?_⟩⟩;subst x;have z:=nD (ρ':=λ_=>undef) (nm:=nm) (g ds) j;rw[Ta (g ds)];exact⟨⟨a.os,a.tape,a.output,a.size,λb q=>a.block b q⟩,λ_ _=>rfl,z,λn o q=>(by cases q),λn o b q=>(by cases q),λn m o B b q=>(by cases q)⟩
end
section
open Go Go.RowKit
def qs2 (a:List (List Nat×Nat×List Nat)) (D:List Nat):List Nat:=(a.flatMap (·.1))++D
end
section
open Go Go.RowKit
def Mu (t:Nat):Ro->Bool
 | some (u,_)=>u==t
 | none=>false
theorem gK (h:∃fs,P.underlying t=some (.struct fs)) (w:World) (x:Value):(Instr.makeInterface t x).run P w=.ok (.iface t x) w:=by
 obtain⟨fs,h⟩:=h;have a:=iS (w:=w) h;simp[Instr.makeInterface,a]
theorem A1r (h:Bg w O (.agg .str) v s):v=.agg #[.string s]/\s.size<=AP:=by
 obtain⟨cs,⟨rfl,h1⟩,rfl⟩:=h;exact⟨rfl,h1⟩
section
variable {c:Cx} {R:Exit->Act->World->Prop} {k:List Cq} {σ σ':St}
theorem AAZ (f:c.Ok) {ops:Array Oper} {rest:List Oper} {g:Nat} {ty:TypeId} {pv:PV} {ti:TI}
  (hk:D7 c R k ops rest ⟨(d,.p pv.t pv.d) :: σ.env,σ.objs⟩) (x:lk g gls=some pv:=by rfl) (C:lk t c.tb.ty=some ti:=by rfl) (q:ti.ty=pv.t:=by rfl) :
  D7 c R k ops (⟨some d,.load t (.global g),ty,X,Z,none⟩ :: rest) σ:=by
 intro l z a w B;unfold wpListIn;rw[At (by simp[Region.wanted])];obtain⟨ρ,n⟩:=B;have G:d<c.nt:=BA (l _ TO) d rfl;obtain⟨h1,E,cs,r,s⟩:=(w6 f n).hG ⟨g,pv⟩ (Ff x);have i:B6 w (own c.O0 σ ρ) pv.t cs pv.d:=s.mono (λb F hn h=>hn (.inr h)) λ_ _ _=>rfl;have hT:=f.T _ _ C;have A:=i.length;have m:=Gi w hT (ad:=⟨g,0,none⟩) (by rw[q];exact A) (λj u y=>by rw[U7];exact r j u y);rw[q]at m;refine Aj (u:=pv.t.wrap cs) (w':=w) (by simp only[execOp,Act.eval,ACc,m,AAM,AD6]) (hk (λo h=>l o (by simp[h])) z _ _ ⟨ρ,?_⟩);refine n.add f.K f.O (dst:=some d) (λD e=>by injection e with e;omega) (v:=.p pv.t pv.d) (obs:=[]) (ρ':=ρ) rfl (QS.still ?_);exact⟨cs,i,rfl⟩
theorem A91 (f:c.Ok) {ops:Array Oper} {rest:List Oper} {ty:TypeId} {xv:AV} 
  (q:∃fs,c.P.underlying t=some (.struct fs)) (hk:D7 c R k ops rest ⟨(d,.p (.ref 3) (some (t,some s))) :: σ.env,σ.objs⟩) (y:Al σ x=some xv:=by exact a1)
  (hs:JC false σ (.agg .str) xv=some s:=by exact a1):D7 c R k ops (⟨some d,.makeInterface t x,ty,X,Z,none⟩ :: rest) σ:=by
 intro g m a w r;unfold wpListIn;rw[At (by simp[Region.wanted])];obtain⟨ρ,b⟩:=r;have l:Es (vw w c.O0 σ ρ) σ a.eval:=Cp b.env;have A:d<c.nt:=BA (g _ TO) d rfl;have h1:=Ft (V:=vw w c.O0 σ ρ) (O':=own c.O0 σ ρ) (λ_ h=>h) (λh=>by cases h) b.objs hs (l x _ y);obtain⟨i,j⟩:=A1r h1;refine Aj (u:=.iface t (.agg #[.string s])) (w':=w) (by simp only[execOp,ACc,gK q,i,AAM,AD6]) (hk (λo n=>g o (by simp[n])) m _ _ ⟨ρ,?_⟩);refine b.add f.K f.O (dst:=some d) (λz e=>by injection e with e;omega) (v:=.p (.ref 3) (some (t,some s))) (obs:=[]) (ρ':=ρ) rfl (QS.still ?_);exact⟨[.iface t (.agg #[.string s])],⟨rfl,rfl,j⟩,rfl⟩
theorem A5o (g:c.Ok) {ops:Array Oper} {rest:List Oper} {ty ty1:TypeId} {C:String} {j:Array Edge}
  (y:∃fs,c.P.underlying t=some (.struct fs)) (n:∀w:World,(Instr.build t #[]).run c.P w=.ok (.agg #[]) w) (F:d≠b) (hk:D7 c R k ops rest ⟨(d,.p (.ref 3) (some (t,none))) :: (b,.top) :: σ.env,σ.objs⟩) :
  D7 c R k ops (⟨some b,.build t #[],ty1,C,j,none⟩ :: ⟨some d,.makeInterface t (.tmp b),ty,X,Z,none⟩ :: rest) σ:=by
 intro h r a w z;unfold wpListIn;rw[At (by simp[Region.wanted])];obtain⟨ρ,A⟩:=z;have D:d<c.nt:=BA (h _ (GO _ TO)) d rfl;have E:b<c.nt:=BA (h _ TO) b rfl;refine Aj (u:=.agg #[]) (w':=w) (by
  have h0:=n w;simp[execOp,h0]) ?_
 have i:=A.add g.K g.O (dst:=some b) (λl e=>by injection e with e;omega) (v:=.raw (.agg #[])) (obs:=[]) (ρ':=ρ) (u:=.agg #[]) rfl (QS.still rfl);have q:Es (vw w c.O0 ⟨(b,.raw (.agg #[])) :: σ.env,σ.objs⟩ ρ) ⟨(b,.raw (.agg #[])) :: σ.env,σ.objs⟩ (a.put (some b) (.agg #[])).eval:=Cp i.env;have B:(a.put (some b) (.agg #[])).eval (.tmp b)=.agg #[]:=q (.tmp b) (.raw (.agg #[])) (by simp[Al,lk]);unfold wpListIn;rw[At (by simp[Region.wanted])];refine Aj (u:=.iface t (.agg #[])) (w':=w) (by simp only[execOp,ACc,B,gK y,AAM,AD6]) ?_;have f:=i.add g.K g.O (dst:=some d) (λl e=>by injection e with e;omega) (v:=.p (.ref 3) (some (t,none))) (obs:=[]) (ρ':=ρ) (u:=.iface t (.agg #[])) rfl (QS.still ⟨[.iface t (.agg #[])],⟨rfl,rfl⟩,rfl⟩);refine hk (λo x=>h o (by simp[x])) r _ _ ⟨ρ,f.frm,f.nt,f.defers,f.pin,f.objs,f.free,f.dist,λs v hs=>?_⟩;simp only[lk]at hs;split at hs
 .rename_i e;exact f.env s v (by simp only[St.add,lk,At e];exact hs)
 rename_i e;split at hs
 .cases hs;trivial
 rename_i m;exact f.env s v (by simp only[St.add,lk,As e,As m];exact hs)
theorem xX (g:c.Ok) {ops:Array Oper} {rest:List Oper} {u:TypeId} {ty:TypeId} {xv:Ro}
  (hu:∃fs,c.P.underlying t=some (.struct fs)) (hz:∃z,∀w:World,(zeroValue t).run c.P w=.ok z w) (hk:D7 c R k ops rest ⟨(d,.tup [.top,.p .bool (Mu t xv)]) :: σ.env,σ.objs⟩) (r:Al σ x=some (.p (.ref 3) xv):=by exact a1) :
  D7 c R k ops (⟨some d,.typeAssert x u t true,ty,X,Z,none⟩ :: rest) σ:=by
 intro h l a w q;unfold wpListIn;rw[At (by simp[Region.wanted])];obtain⟨ρ,i⟩:=q;have j:Es (vw w c.O0 σ ρ) σ a.eval:=Cp i.env;have B:d<c.nt:=BA (h _ TO) d rfl;obtain⟨cs,⟨rfl,A⟩,h1⟩:=j x _ r;have h1:a.eval x=Rp 3 xv:=h1;obtain⟨fs,hu⟩:=hu;obtain⟨z,hz⟩:=hz;have b:=iS (w:=w) hu;have key:∃v,(Instr.typeAssert (Rp 3 xv) u t true).run c.P w=.ok (.tuple #[v,.bool (Mu t xv)]) w:=by
  match xv with
  | none=>exact⟨z,by simp[Instr.typeAssert,b,Rp,Xm,hz w,Mu]⟩
  | some (f,none) =>
   by_cases e:f=t
   .exact⟨.agg #[],by simp[Instr.typeAssert,b,Rp,Mu,e]⟩
   exact⟨z,by simp[Instr.typeAssert,b,Rp,Mu,e,hz w]⟩
  | some (f,some s) =>
   by_cases e:f=t
   .exact⟨.agg #[.string s],by simp[Instr.typeAssert,b,Rp,Mu,e]⟩
   exact⟨z,by simp[Instr.typeAssert,b,Rp,Mu,e,hz w]⟩
 obtain⟨v,n⟩:=key;refine Aj (u:=.tuple #[v,.bool (Mu t xv)]) (w':=w) (by simp only[execOp,ACc,h1,n,AAM,AD6]) (hk (λo m=>h o (by simp[m])) l _ _ ⟨ρ,?_⟩);refine i.add g.K g.O (dst:=some d) (λy e=>by injection e with e;omega) (v:=.tup [.top,.p .bool (Mu t xv)]) (obs:=[]) (ρ':=ρ) rfl (QS.still ?_);exact⟨[v,.bool (Mu t xv)],rfl,v,_,rfl,trivial,_,_,rfl,⟨[.bool (Mu t xv)],rfl,rfl⟩,rfl⟩
def nmS:Ab:={ ins:=[.agg .str],pre:=λ_=>True,out:=λ(s,_)=>[.p .str s] }
theorem AB0 (b:c.Ok) {ops:Array Oper} {rest:List Oper} {nm:String} {ty:TypeId} {pos:String} {t:Nat} (hF:Ag c.P f nmS)
  (g:∀(w:World) (v:Value),(method (c.P.types.size+Made.depth) t v nm).run c.P w=.ok (f,v) w) (hk:D7 c R k ops rest ⟨(d,.p .str s) :: σ.env,σ.objs⟩) (J:Al σ x=some (.p (.ref 3) (some (t,some s))):=by exact a1) :
  D7 c R k ops (⟨some d,.call ⟨.invoke x nm,#[],#[]⟩,ty,pos,Z,none⟩ :: rest) σ:=by
 intro m C a w H;unfold wpListIn;rw[At (by simp[Region.wanted])];obtain⟨ρ,j⟩:=H;have A:Es (vw w c.O0 σ ρ) σ a.eval:=Cp j.env;have M:d<c.nt:=BA (m _ TO) d rfl;obtain⟨cs,⟨rfl,r⟩,h1⟩:=A x _ J;have h1:a.eval x=.iface t (.agg #[.string s]):=h1;have I:s.size<=AP:=r.2;obtain⟨⟨fn,B,D,y⟩,F⟩:=hF;have l:=w6 b j;have z:=F w (own c.O0 σ ρ) [.agg #[.string s]] (s,()) l.own l.hG ⟨_,_,rfl,⟨[.string s],⟨rfl,I⟩,rfl⟩,rfl⟩ trivial;have G:(execOp a.eval ⟨some d,.call ⟨.invoke x nm,#[],#[]⟩,ty,pos,Z,none⟩).run c.P w=.ok (.enter f [.agg #[.string s]].toArray) w:=by
  have n : ¬ fn.name = "runtime.NumGoroutine" := by simpa using D
  have q:¬fn.body=none:=by intro e;simp[e]at y
  have g:=g w (.agg #[.string s]);simp[execOp,resolve,invoke,callMethod,h1,g,callFunc,B,n,q]
 refine⟨λ_ _=>trivial,?_⟩;rw[Et _ _ _ (λc e=>by cases e),G,AEa];refine⟨λh=>(by simp[FR]at h),IL (z.mono λe w' hh=>?_)⟩;obtain⟨u,rfl,hh⟩:=hh;obtain⟨ρ',i⟩:=hh 0;have i:=QS.call (σ:=σ) (ρ:=ρ) rfl i;refine hk (λo E=>m o (by simp[E])) C _ _ ⟨_,j.add b.K b.O (dst:=some d) (λL e=>by injection e with e;omega) (v:=.p .str s) (obs:=[]) rfl i⟩
theorem A5p (U:c.Ok) {ops:Array Oper} {rest:List Oper} {dst:Option Nat} {g:Operand} {xs:List Operand} {ts:Array TypeId} {ty:TypeId} {pos:String} 
  {n:Nat} (X:Al σ g=some (.clo (1000000+f) [n])) {aw:List AV} (Q:KP σ xs=some aw)
  {A:List AV} {objs:List (Nat×Obj)} {stay:List Nat} {post:AV->List (Nat×Obj)->Prop} (t:BB c.P f A objs stay post)
  (ren:List (Nat×CE)) (hs:List Nat) (h1:CB ren=true) (H:CQ objs ren=true) (af:(c.ds.pin.all λp=>!Ai p.1 hs)=true) (I:Bi σ ren (.bp n [] 0 :: aw) A) (M:Ak σ.objs ren objs)
  (hk:∀res l,post res l->∃(d:List (Nat×CE)) (m:AV) (j:List (Nat×Obj)),CB d=true/\CQ j d=true/\Ak l d j/\Bv d res m /\
   IV ren d stay hs=true/\Fg (A1 ren) j σ.objs=true/\D7 c R k ops rest (Cr σ (A1 ren) hs dst m j)) :
  D7 c R k ops (⟨dst,.call ⟨.value g,xs.toArray,ts⟩,ty,pos,Z,none⟩ :: rest) σ:=by
 intro x after a w aj;unfold wpListIn;rw[At (by simp[Region.wanted])];obtain⟨ρ,z⟩:=aj;have y:Es (vw w c.O0 σ ρ) σ a.eval:=Cp z.env;obtain⟨⟨fn,W,ab,T⟩,t⟩:=t;obtain⟨v,Y⟩:=y g _ X;obtain⟨s,b,i⟩:=Y n sc;have i:ρ n=_:=i;have v:a.eval g=.func (.func f) #[ρ n] #[]:=by
  rw[v];unfold wT;rw[As (bnd f).1,(bnd f).2];rfl
 have O:IU (vw w c.O0 σ ρ) (.bp n [] 0 :: aw) (ρ n :: xs.map a.eval):=⟨ρ n,_,rfl,⟨s,b,i,i⟩,Ug y Q⟩;have ah:(execOp a.eval ⟨dst,.call ⟨.value g,xs.toArray,ts⟩,ty,pos,Z,none⟩).run c.P w=.ok (.enter f (ρ n :: xs.map a.eval).toArray) w:=by
  have ak : ¬ fn.name = "runtime.NumGoroutine" := by simpa using ab
  have al:¬fn.body=none:=by intro e;simp[e]at T
  simp[execOp,resolve,Deferred.ofValue,v,invoke,callFunc,W,ak,al]
 obtain⟨B,C,am,L,N,K,aa,S,_,ag⟩:=Nt U z O stay post ren h1 H I M hs af (BA (x _ TO)) (next:=λq w'=>wpListIn (FR c.r) 0 c.P ops (UZ c R k) rest q w') λres l ae=>by
  obtain⟨d,m,j,s,i,D,E,F,G,J⟩:=hk res l ae;exact⟨d,m,j,s,i,D,E,F,G,λq w' ai=>J (λo ad=>x o (by simp[ad])) after q w' ai⟩
 have V:=t w B C am (ρ n :: xs.map a.eval) L N K aa S;refine⟨λ_ _=>trivial,?_⟩;rw[Et _ _ _ (λcl e=>by cases e),ah,AEa];refine⟨λh=>(by simp[FR]at h),IL (V.mono λe w' hh=>?_)⟩;obtain⟨u,rfl,hh⟩:=hh;exact ag u w' hh
end
theorem nE {xs ys:Array Value} {b:Bool} (h:(binOp .eql t (.agg xs) (.agg ys)).run P w=.ok (.bool b) w):(binOp .neq t (.agg xs) (.agg ys)).run P w=.ok (.bool (!b)) w:=by
 rw[run_eql_struct]at h;rw[run_neq_struct];generalize (Op.equalIn 10000 t (.agg xs) (.agg ys)).run P w=r at *;cases r<;>first|(cases h;rfl)|cases h
theorem A1s {b:IntKind} (h:siB P b t (P.underlying t)=true):P.eqGuardType P.depth t=false:=by
 unfold siB at h;split at h
 .simp only[An,lU]at h;exact h.2
 cases h
section
variable {c:Cx} {R:Exit->Act->World->Prop} {k:List Cq} {σ σ':St}
theorem r8 (f:c.Ok) {ops:Array Oper} {rest:List Oper} {A:TypeId} {ty:TypeId} {xs ys:Array Value} {b:Bool}
  (z:∀(ρ:Nat->Value) (a:Act) (w:World),CG c.w0 c.K c.O0 c.nt c.ds σ ρ a w->a.eval x=.agg xs/\a.eval y=.agg ys) (r:∀w:World,(binOp .eql t (.agg xs) (.agg ys)).run c.P w=.ok (.bool b) w) (m:c.P.eqGuardType c.P.depth t=false)
  (hk:D7 c R k ops rest ⟨(d,.p .bool (!b)) :: σ.env,σ.objs⟩):D7 c R k ops (⟨some d,.binOp .neq t x y A,ty,X,Z,none⟩ :: rest) σ:=by
 intro g n a w s;unfold wpListIn;rw[At (by simp[Region.wanted])];obtain⟨ρ,j⟩:=s;have C:d<c.nt:=BA (g _ TO) d rfl;obtain⟨h1,l⟩:=z ρ a w j;have i:=nE (r w);have h:=run_eqGuard_agg (P:=c.P) w .neq t x y xs ys m;rw[<-h1,<-l]at i h;refine Aj (u:=.bool (!b)) (w':=w) (by simp[execOp,h,i]) (hk (λo q=>g o (by simp[q])) n _ _ ⟨ρ,?_⟩);refine j.add f.K f.O (dst:=some d) (λB e=>by injection e with e;omega) (v:=.p .bool (!b)) (obs:=[]) (ρ':=ρ) rfl (QS.still ?_);exact⟨[.bool (!b)],rfl,rfl⟩
theorem AB1 (m:c.Ok) {ops:Array Oper} {rest:List Oper} {s:TypeId} {ty:TypeId} {j:IntKind} {xv:AV} {b e:ByteArray×Int}
  (i:siB c.P j t (c.P.underlying t)=true) (hk:D7 c R k ops rest ⟨(d,.p .bool (!(AK b.1 e.1&&b.2==e.2))) :: σ.env,σ.objs⟩) (q:Al σ x=some xv:=by exact a1) (r:Al σ y=some l:=by exact a1)
  (n:JC false σ (.agg (.prod .str (.int j))) xv=some b:=by exact a1) (o:JC false σ (.agg (.prod .str (.int j))) l=some e:=by exact a1) :
  D7 c R k ops (⟨some d,.binOp .neq t x y s,ty,X,Z,none⟩ :: rest) σ:=by
 refine r8 m (xs:=#[.string b.1,.int j b.2]) (ys:=#[.string e.1,.int j e.2]) (fun ρ a w f=>?_) (λw=>(gI i w b.1 e.1 b.2 e.2).1) (A1s i) hk;have g:Es (vw w c.O0 σ ρ) σ a.eval:=Cp f.env;exact⟨Ui (Ft (V:=vw w c.O0 σ ρ) (O':=own c.O0 σ ρ) (λ_ h=>h) (λh=>by cases h) f.objs n (g x _ q)),Ui (Ft (V:=vw w c.O0 σ ρ) (O':=own c.O0 σ ρ) (λ_ h=>h) (λh=>by cases h) f.objs o (g y _ r))⟩
theorem AB2 (g:c.Ok) {ops:Array Oper} {rest:List Oper} {ty:TypeId} {offs:List (Nat×Nat)} {q:Nat} {xv o:AV} {b e:Int×Int}
  (hk:D7 c R k ops rest ⟨(d,.p .bool (!(b.1==e.1&&b.2==e.2))) :: σ.env,σ.objs⟩) (A:lk t c.tb.ty=some ⟨.agg (.prod (.int i) (.int j)),offs,0,q⟩:=by rfl) (B:Al σ x=some xv:=by exact a1) (C:Al σ y=some o:=by exact a1)
  (v:JC false σ (.agg (.prod (.int i) (.int j))) xv=some b:=by exact a1) (z:JC false σ (.agg (.prod (.int i) (.int j))) o=some e:=by exact a1) :
  D7 c R k ops (⟨some d,.binOp .neq t x y S,ty,X,Z,none⟩ :: rest) σ:=by
 have m:K6 c.P t i j:=(g.T _ _ A).1.1.2.2;refine r8 g (xs:=#[.int i b.1,.int j b.2]) (ys:=#[.int i e.1,.int j e.2]) (fun ρ a w f=>?_) (λw=>?_) ?_ hk
 .have l:Es (vw w c.O0 σ ρ) σ a.eval:=Cp f.env;exact⟨EY (Ft (V:=vw w c.O0 σ ρ) (O':=own c.O0 σ ρ) (λ_ h=>h) (λh=>by cases h) f.objs v (l x _ B)),EY (Ft (V:=vw w c.O0 σ ρ) (O':=own c.O0 σ ρ) (λ_ h=>h) (λh=>by cases h) f.objs z (l y _ C))⟩
 .have:=O2 m w b.1 b.2 e.1 e.2;simp only[binOp];simp[this]
 obtain⟨E,F,hu,-,-,⟨r,s⟩,-⟩:=m;have u:∃n,c.P.depth=n+2:=⟨_,rfl⟩;obtain⟨n,hn⟩:=u;rw[hn];simp[Program.eqGuardType,hu,r,s]
end
end
section
open Go Go.RowKit
theorem r9:IntKind.i32.min=-2147483648:=by decide
theorem sA:IntKind.i32.max=2147483647:=by decide
theorem A5q (n:Int):I6 .i32 n↔-2147483648<=n/\n<=2147483647:=by unfold I6;rw[r9,sA]
section
variable {c:Cx} {R:Exit->Act->World->Prop} {k:List Cq} {σ σ':St}
theorem A5r (g:c.Ok) {ops:Array Oper} {rest:List Oper} {T:TypeId} {ty:TypeId} 
  (z:Al σ x=some (.p .str s)) (hT:c.P.underlying T=some .string) (m:lk d σ.objs=none) (hk:D7 c R k ops rest ⟨(d,.bp d [] 0) :: σ.env,(d,.sit s 0) :: σ.objs⟩) :
  D7 c R k ops (⟨some d,.range T x,ty,X,Z,none⟩ :: rest) σ:=by
 intro h q a w y;unfold wpListIn;rw[At (by simp[Region.wanted])];obtain⟨ρ,i⟩:=y;have l:Es (vw w c.O0 σ ρ) σ a.eval:=Cp i.env;obtain⟨cs,⟨rfl,C⟩,f⟩:=l x _ z;have f:a.eval x=.string s:=f;have B:d<c.nt:=BA (h _ TO) d rfl;have t:(Instr.range T (.string s)).run c.P w=.ok (.pointer (some ⟨w.heap.size,0,none⟩)) (w.alloc (.stringIter s 0)):=run_range_string w T s hT;have n:Bp [(d,Obj.sit s 0)] σ=true:=by simp[Bp,m]
 refine Aj (u:=.pointer (some ⟨w.heap.size,0,none⟩)) (w':=w.alloc (.stringIter s 0)) (by simp[execOp,f,t]) (hk (λo r=>h o (by simp[r])) q _ _ ⟨E3 ρ d (.pointer (some ⟨w.heap.size,0,none⟩)),?_⟩);refine i.add g.K g.O (dst:=some d) (λA e=>by injection e with e;omega) (v:=.bp d [] 0) (obs:=[(d,.sit s 0)]) (u:=.pointer (some ⟨w.heap.size,0,none⟩)) (w':=w.alloc (.stringIter s 0)) n ?_;refine QS.one (Er w _) (λb j=>by simp[bk,blk]at j;omega) ?_ ?_
 .refine⟨⟨.sit s 0,by simp[D5,lk]⟩,w.heap.size,by rw[show (vw (w.alloc (.stringIter s 0)) c.O0 (D5 σ [(d,.sit s 0)]) (E3 ρ d (.pointer (some ⟨w.heap.size,0,none⟩)))).ρ d=E3 ρ d (.pointer (some ⟨w.heap.size,0,none⟩)) d from rfl,Bz],rfl⟩
 exact⟨w.heap.size,rfl,heap_alloc_new w _⟩
theorem A5s (w:World) (ty:TypeId) (r:Nat) (s:ByteArray) (p:Nat) (a:w.heap[r]?=some (.stringIter s p)) :
  (¬p<s.size->(Instr.next (.pointer (some ⟨r,0,none⟩)) true ty).run P w=.ok (.tuple #[.bool false]) w) /\
  (p<s.size->(Instr.next (.pointer (some ⟨r,0,none⟩)) true ty).run P w=.ok (.tuple #[.bool true,.int .i64 p,.int .i32 (Utf8.decode s p).1]) (w.putObj r (.stringIter s (p+(Utf8.decode s p).2)))):=by
 constructor
 .intro h;simp[Instr.next,getObj,Sem.run,a,h]
 intro h;simp[Instr.next,getObj,setObj,Sem.run,a,h,goInt,World.putObj]
theorem A5t (l:c.Ok) {ops:Array Oper} {rest:List Oper} {n:Nat} {ty:TypeId} {p:Nat}
  (L:Al σ x=some (.bp n [] 0)) (hn:lk n σ.objs=some (.sit s p)) (J:s.size<=AP) (h0:¬p<s.size->D7 c R k ops rest ⟨(d,.tup [.p .bool false]) :: σ.env,σ.objs⟩)
  (h1:∀h:p<s.size,∀(q:Nat) (r:Int),p<q->((s[p]'h).toNat<128->q=p+1/\r=((s[p]'h).toNat:Int))->(128<=(s[p]'h).toNat->128<=r)->I6 .i32 r->D7 c R k ops rest ⟨(d,.tup [.p .bool true,.p (.int .i64) (p:Int),.p (.int .i32) r]) :: σ.env,upd n (.sit s q) σ.objs⟩) :
  D7 c R k ops (⟨some d,.next x true,ty,X,Z,none⟩ :: rest) σ:=by
 intro y B a w I;unfold wpListIn;rw[At (by simp[Region.wanted])];obtain⟨ρ,t⟩:=I;have F:Es (vw w c.O0 σ ρ) σ a.eval:=Cp t.env;have T:d<c.nt:=BA (y _ TO) d rfl;obtain⟨S,b,m,C⟩:=F x _ L;have m:ρ n=_:=m;obtain⟨Q,i,hh⟩:=t.objs n _ hn;rw[m]at i;injection i with i
 injection i with i
 injection i with i
 subst i;have hh:w.heap[b]?=some (.stringIter s p):=hh;have E:=B2 hh;obtain⟨M,N⟩:=A5s (P:=c.P) w ty b s p hh;by_cases f:p<s.size
 .have A:=N f;have G:p<p+(Utf8.decode s p).2:=by
   by_cases j:128<=(s[p]'f).toNat
   .have:=(decode_high s p f j).2;omega
   rw[decode_ascii s p f O1];simp
  have hi:I6 .i32 ((Utf8.decode s p).1:Int):=by
   have:=decode_le s p;constructor
   .show (-2147483648:Int)<=_;omega
   show _<=(2147483647:Int);omega
  refine Aj (u:=.tuple #[.bool true,.int .i64 p,.int .i32 (Utf8.decode s p).1]) (w':=w.putObj b (.stringIter s (p+(Utf8.decode s p).2))) (by simp[execOp,C,A]) ?_;refine h1 f (p+(Utf8.decode s p).2) (Utf8.decode s p).1 G (λj=>by rw[decode_ascii s p f j];exact⟨rfl,rfl⟩) (λj=>by have:=(decode_high s p f j).1;omega) hi (λo z=>y o (by simp[z])) B _ _ ⟨ρ,?_⟩;have H:CG c.w0 c.K c.O0 c.nt c.ds ⟨σ.env,upd n (.sit s (p+(Utf8.decode s p).2)) σ.objs⟩ ρ a (w.putObj b (.stringIter s (p+(Utf8.decode s p).2))):=by
   refine t.upd l.K hn (g:=b) (by rw[m];rfl) (grownBy_putObj' w b _) ?_;exact⟨b,m,World.putObj_heap_same E⟩
  refine H.add l.K l.O (dst:=some d) (λD e=>by injection e with e;omega) (v:=.tup [.p .bool true,.p (.int .i64) (p:Int),.p (.int .i32) ((Utf8.decode s p).1:Int)]) (obs:=[]) (ρ':=ρ) rfl (QS.still ?_);refine⟨[.bool true,.int .i64 p,.int .i32 (Utf8.decode s p).1],rfl,_,_,rfl,⟨[.bool true],rfl,rfl⟩,_,_,rfl,⟨[.int .i64 p],⟨rfl,?_⟩,rfl⟩,_,_,rfl,⟨[.int .i32 (Utf8.decode s p).1],⟨rfl,hi⟩,rfl⟩,rfl⟩;simp only[AP]at J;constructor
  .show (-9223372036854775808:Int)<=_;omega
  show _<=(9223372036854775807:Int);omega
 have A:=M f;refine Aj (u:=.tuple #[.bool false]) (w':=w) (by simp[execOp,C,A]) (h0 f (λo z=>y o (by simp[z])) B _ _ ⟨ρ,?_⟩);refine t.add l.K l.O (dst:=some d) (λD e=>by injection e with e;omega) (v:=.tup [.p .bool false]) (obs:=[]) (ρ':=ρ) rfl (QS.still ?_);exact⟨[.bool false],rfl,_,_,rfl,⟨[.bool false],rfl,rfl⟩,rfl⟩
theorem ACx (a:c.Ok) {ops:Array Oper} {rest:List Oper} {T:TypeId} {ty:TypeId} 
  (hT:c.P.underlying T=some .string) (hk:D7 c R k ops rest ⟨(d,.bp d [] 0) :: σ.env,(d,.sit s 0) :: σ.objs⟩) (e:Al σ x=some (.p .str s):=by exact a1) (b:lk d σ.objs=none:=by simp only[go_sem,Nat.reduceEqDiff,reduceCtorEq,Nat.reduceAdd,Nat.reduceSub,Nat.reduceMul,Nat.reduceLeDiff,Nat.reduceLT,Int.reduceLE,Int.reduceToNat,Int.reduceNeg,↓reduceIte]) :
  D7 c R k ops (⟨some d,.range T x,ty,X,Z,none⟩ :: rest) σ:=A5r a e hT b hk
theorem ACy (a:c.Ok) {ops:Array Oper} {rest:List Oper} {n:Nat} {ty:TypeId} {p:Nat} (b:s.size<=AP)
  (h0:¬p<s.size->D7 c R k ops rest ⟨(d,.tup [.p .bool false]) :: σ.env,σ.objs⟩)
  (h1:∀h:p<s.size,∀(q:Nat) (r:Int),p<q->((s[p]'h).toNat<128->q=p+1/\r=((s[p]'h).toNat:Int))->(128<=(s[p]'h).toNat->128<=r)->I6 .i32 r->D7 c R k ops rest ⟨(d,.tup [.p .bool true,.p (.int .i64) (p:Int),.p (.int .i32) r]) :: σ.env,upd n (.sit s q) σ.objs⟩)
  (e:Al σ x=some (.bp n [] 0):=by exact a1) (hn:lk n σ.objs=some (.sit s p):=by exact a1) :
  D7 c R k ops (⟨some d,.next x true,ty,X,Z,none⟩ :: rest) σ:=A5t a e hn b h0 h1
end
end
end Go.Proofs.YtddbnflakbngaaaGreatDoor.Fw
