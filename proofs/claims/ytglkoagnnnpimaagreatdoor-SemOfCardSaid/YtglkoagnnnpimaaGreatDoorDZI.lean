/- Range over a function; scopes; several steps in one. -/
import Derived.Test.YtglkoagnnnpimaaGreatDoorDZH
import Derived.RangeFuncFrom
import Derived.Scope
import Derived.Laws.IdiomRangeMap
import Derived.Laws.StructEq
import Derived.Laws.RangeAny
set_option linter.unusedVariables false
set_option linter.unusedSimpArgs false
namespace Go.Proofs.YtglkoagnnnpimaaGreatDoor.Fw
variable {Z:Array Edge} {Y:Array Oper} {d b F:Nat} {t S R:TypeId} {X n:String} {x y:Operand} {P:Program} {O N:Nat->Prop} {W:AV->List (Nat×Obj)->Prop} {V:Array TypeId} {U u:Nat->Value} {T:Option Nat} {w:World} {s:ByteArray} {f:FuncId} {i j:IntKind} {Q:List Nat} {p:Prop} {M m:St} {L:Exit->Act->World->Prop} {K:Tb} {v:Value} {J:Func} {I:Go.Loop} {k o:List Cp} {e:Option (Nat×Bool)} {H l:AV} {G:Bool} {a E:Int×Int} {D C:ByteArray×Int} {r q:Code} {B:Exit} {A z:Array Value} {h:oK}
section
open Go Go.RowKit
theorem dQ {V:Vw} {ns:List Nat} (hf:f<1000000) (h:B8 V (.clo f ns) v):v=.func (.func f) #[] (ns.map V.ρ).toArray/\Ht V (ns.map λn=>AV.bp n [] 0) (ns.map V.ρ):=by
 refine⟨h.1.trans (At hf),?_⟩;have h0:∀l:List Nat,(∀n∈l,n∈ns)->Ht V (l.map λn=>AV.bp n [] 0) (l.map V.ρ):=by
  intro l;induction l with
  | nil=>intro _;exact rfl
  | cons n r g =>
   intro c;obtain⟨d,b,a⟩:=h.2 n (c n sc);exact⟨V.ρ n,r.map V.ρ,rfl,⟨d,b,a,a⟩,g λx e=>c x (by simp[e])⟩
 exact h0 ns λ_ h=>h
def Xv (P:Program) (yn:Nat) (A:List AV) (objs:List (Nat×Obj)) (stay:List Nat) (post:AV->List (Nat×Obj)->Prop):Prop :=
 ∀(w:World) (K O0:Nat->Prop) (ρ:Nat->Value) (a:List Value) (b:Nat),(∀b,K b->b<w.heap.size)->(∀b,O0 b->b<w.heap.size)->GW w K O0->tJ K O0 objs ρ w->Ht (vw w O0 ⟨[],objs⟩ ρ) A a ->
  ρ yn=.pointer (some ⟨b,0,none⟩)->YieldAt (FR none) 0 P b a.toArray w λe w'=>∃u,e=.returned u/\Lw K O0 stay w ρ post u w'
section
variable {c:Cx} {R:Exit->Act->World->Prop} {k:List Cp} {σ:St}
def dR (n:Nat):Option AV->Bool
 | some (.yl m)=>m==n
 | _=>false
theorem yX (O:c.Ok) (Z:c.r=none) {o:Oper} {dst:Option Nat} {g:Operand} {xs:List Operand} {ts:Array TypeId} (t:o.op=.call { callee:=.value g,args:=xs.toArray,argTypes:=ts }) (S:o.dst=dst)
  {n yn:Nat} (f:dR n (Ai σ g)=true) {as:List AV} (M:Lx σ xs=some as)
  {A:List AV} {objs:List (Nat×Obj)} {stay:List Nat} {post:AV->List (Nat×Obj)->Prop} (I:Xv c.P yn A objs stay post)
  (ren:List (Nat×CL)) (ae:lk yn ren=some (.nm n)) (h1:CZ ren=true) (C:Cw objs ren=true) (F:B3 σ ren as A) (J:Ao σ.objs ren objs)
  (hs:List Nat) (X:(c.ds.pin.all λp=>!Af p.1 hs)=true) {next:Act->World->Prop} {Q:Exit->Act->World->Prop} {a:Act} {w:World} (ab:c.sat σ a w) (R:∀d,dst=some d->d<c.nt)
  (hk:∀res x,post res x->∃(i:List (Nat×CL)) (y:AV) (j:List (Nat×Obj)),CZ i=true/\Cw j i=true/\Ao x i j/\CC i res y /\
   JW ren i stay hs=true/\GI (A1 ren) j σ.objs=true/\∀l w',c.sat (DC σ (A1 ren) hs dst y j) l w'->next l w'):o.wpIn (FR c.r) 0 c.P a w next Q:=by
 obtain⟨ρ,v⟩:=ab;have s:EX (vw w c.O0 σ ρ) σ a.eval:=Ci v.env;obtain⟨b,af,T⟩:∃b:Nat,ρ n=.pointer (some ⟨b,0,none⟩)/\a.eval g=.func (.yield b) #[] #[]:=by
  cases k:Ai σ g with
  | none=>rw[k]at f;simp[dR]at f
  | some q =>
   rw[k]at f;have U:=s g q k;cases q<;>simp only[dR]at f<;>try(cases f;done)
   rename_i m;have V:m=n:=by simpa using f
   subst V;obtain⟨_,b,D,E⟩:=U;exact⟨b,D,E⟩
 obtain⟨z,B,ah,H,K,G,W,N,ag,Y⟩:=M2 O v (Tf s M) stay post ren h1 C F J hs X R hk;obtain⟨fn,tmps,assign,body,ad,L⟩:=I w z B ah (xs.map a.eval) b H K G W N ((ag _ _ ae).trans af);have aa:(execOp a.eval o).run c.P w=.ok (.round b fn tmps assign body) w:=by
  simp[execOp,t,resolve,Deferred.ofValue,T,invoke];simpa using ad
 refine⟨λ_ _=>trivial,?_⟩;rw[EY _ _ _ (λcl e=>by rw[t]at e;cases e),aa,Oper.uponIn_round];refine⟨λh=>(by simp[FR]at h),?_⟩;rw[Z];refine L.mono λe w' hh=>?_;obtain⟨u,rfl,hh⟩:=hh;rw[S];exact Y u w' hh
theorem tW (C:c.Ok) (I:c.r=none) {ops:Array Oper} {rest:List Oper} {dst:Option Nat} {g:Operand} {xs:List Operand} {ts:Array TypeId} {ty:TypeId} 
  {n yn:Nat} (D:dR n (Ai σ g)=true) {as:List AV} (B:Lx σ xs=some as)
  {A:List AV} {objs:List (Nat×Obj)} {stay:List Nat} {post:AV->List (Nat×Obj)->Prop} (y:Xv c.P yn A objs stay post)
  (ren:List (Nat×CL)) (hs:List Nat) (L:lk yn ren=some (.nm n)) (h1:CZ ren=true) (u:Cw objs ren=true) (H:(c.ds.pin.all λp=>!Af p.1 hs)=true) (v:B3 σ ren as A) (z:Ao σ.objs ren objs)
  (hk:∀res e,post res e->∃(b:List (Nat×CL)) (f:AV) (d:List (Nat×Obj)),CZ b=true/\Cw d b=true/\Ao e b d/\CC b res f /\
   JW ren b stay hs=true/\GI (A1 ren) d σ.objs=true/\ED c R k ops rest (DC σ (A1 ren) hs dst f d)) :
  ED c R k ops (⟨dst,.call ⟨.value g,xs.toArray,ts⟩,ty,X,Z,none⟩ :: rest) σ:=by
 intro h E a w K;unfold wpListIn;rw[At (by simp[Region.wanted])];refine yX C I (xs:=xs) (ts:=ts) rfl rfl D B y ren L h1 u v z hs H K (A6 (h _ sc)) λres e G=>?_;obtain⟨b,f,d,j,l,m,q,s,t,x⟩:=hk res e G;exact⟨b,f,d,j,l,m,q,s,t,λi w' J=>x (λo F=>h o (by simp[F])) E i w' J⟩
end
def Hw:List Nat->List AV->List (Nat×AV)->List (Nat×AV)
 | p :: a,x :: xs,e=>Hw a xs ((p,x) :: e)
 | _,_,e=>e
def cY (P:Program) (tb:Tb) (w0:World) (K O0:Nat->Prop) (nt l:Nat) (pin:List (Nat×Value)):Cx:={ P:=P,tb:=tb,w0:=w0,K:=K,O0:=O0,nt:=nt,ds:={ pin:=pin },r:=some l }
theorem yY {tb:Tb} {w0:World} {K O0:Nat->Prop} {nt l:Nat} {pin:List (Nat×Value)}:(cY P tb w0 K O0 nt l pin).tb=tb:=rfl
def kL (P:Program) (l:Nat) (w0:World) (K O0:Nat->Prop) (stay:List Nat) (ρ0:Nat->Value) (post:AV->List (Nat×Obj)->Prop):Exit->Act->World->Prop :=
 roundPost P l λe w'=>∃u,e=.returned u/\Lw K O0 stay w0 ρ0 post u w'
theorem o7 {V:Vw}:∀(b:List Nat) (A:List AV) (c:List Value) (e:List (Nat×AV)) (a:Array Value),Ht V A c->(∀p∈b,p<a.size)->A.length=b.length->(∀s x,lk s e=some x->B8 V x (a.getD s undef)) ->
  (∀s x,lk s (Hw b A e)=some x->B8 V x (((b.zip c).foldl (λt (p,v)=>t.setIfInBounds p v) a).getD s undef))/\((b.zip c).foldl (λt (p,v)=>t.setIfInBounds p v) a).size=a.size
 | [],_,_,e,a,_,_,_,h=>by simpa[Hw] using h
 | p :: b,[],_,e,a,_,_,d,_=>by simp at d
 | p :: b,x :: A,c,e,a,⟨v,r,l,h1,i⟩,g,d,h=>by
  subst l;simp only[ACJ,OS,Hw];have m:=o7 b A r ((p,x) :: e) (a.setIfInBounds p v) i (λq k=>by simpa using g q (by simp[k])) (by simpa using d) (λs y hs=>by
   have f:=Mo { tmps:=a,defers:=[] } p v s (g p sc);have f:(a.setIfInBounds p v).getD s undef=if s=p then v else a.getD s undef:=f
   rw[f];simp only[lk]at hs;split at hs
   .grind
   rename_i j;rw[An j];exact h s y hs)
  grind
section
variable {P:Program} {tb:Tb} {w0:World} {K O0:Nat->Prop} {nt l:Nat} {stay:List Nat} {ρ0:Nat->Value} {post:AV->List (Nat×Obj)->Prop} {σ:St} {pin:List (Nat×Value)}
theorem Pm {c:Cx} (i:c.Ok) {σ:St} {a:Act} {w:World} {ρ:Nat->Value} (hs:CB c.w0 c.K c.O0 c.nt c.ds σ ρ a w) {yn b:Nat} {L:Go.Loop} (h:lk yn σ.objs=some (.loop L)) (d:ρ yn=.pointer (some ⟨b,0,none⟩)) (e:Go.Loop) :
  w.heap[b]?=some (.loop L)/\CB c.w0 c.K c.O0 c.nt c.ds ⟨σ.env,upd yn (.loop e) σ.objs⟩ ρ a (w.putObj b (.loop e)):=by
 obtain⟨k,h1,f⟩:=hs.objs yn _ h;rw[d]at h1;injection h1 with h1
 injection h1 with h1
 injection h1 with h1
 subst h1;have j:b<w.heap.size:=Bv f;refine⟨f,hs.upd i.K h (g:=b) (by rw[d];rfl) (grownBy_putObj' w b _) ?_⟩;exact⟨b,d,World.putObj_heap_same j⟩
theorem Xw (f:(cY P tb w0 K O0 nt l pin).Ok) {yn:Nat} {L:Go.Loop} (g:lk yn σ.objs=some (.loop L)) (i:pin=stay.map λn=>(n,ρ0 n)) (j:yn∈stay) (e:ρ0 yn=.pointer (some ⟨l,0,none⟩))
  (h:post (.p .bool true) (upd yn (.loop { L with state:=.ready,pending:=none }) σ.objs)) :
  Ev (cY P tb w0 K O0 nt l pin) (kL P l w0 K O0 stay ρ0 post) (.out .normal) [] σ:=by
 intro _ _ a w hs;obtain⟨ρ,hs⟩:=hs;have c:∀n∈stay,ρ n=ρ0 n:=λn hn=>(hs.pin (n,ρ0 n) (by rw[show (cY P tb w0 K O0 nt l pin).ds.pin=pin from rfl,i];exact GO.2 ⟨n,hn,rfl⟩)).2.1;obtain⟨d,b⟩:=Pm f hs g ((c _ j).trans e) { L with state:=.ready,pending:=none };refine⟨_,_,run_endRound none d,.bool true,rfl,.p .bool true,_,ρ,h,b.frm,⟨b.objs,b.free,b.dist⟩,⟨_,rfl,rfl⟩,c⟩
theorem M3 (f:(cY P tb w0 K O0 nt l pin).Ok) {yn:Nat} {L:Go.Loop} (g:lk yn σ.objs=some (.loop L)) (i:pin=stay.map λn=>(n,ρ0 n)) (j:yn∈stay) (e:ρ0 yn=.pointer (some ⟨l,0,none⟩))
  (h:post (.p .bool false) (upd yn (.loop { L with state:=.done,pending:=some .ret }) σ.objs)) :
  Ev (cY P tb w0 K O0 nt l pin) (kL P l w0 K O0 stay ρ0 post) (.out .ret) [] σ:=by
 intro _ _ a w hs;obtain⟨ρ,hs⟩:=hs;have c:∀n∈stay,ρ n=ρ0 n:=λn hn=>(hs.pin (n,ρ0 n) (by rw[show (cY P tb w0 K O0 nt l pin).ds.pin=pin from rfl,i];exact GO.2 ⟨n,hn,rfl⟩)).2.1;obtain⟨d,b⟩:=Pm f hs g ((c _ j).trans e) { L with state:=.done,pending:=some .ret };refine⟨_,_,run_endRound (some .ret) d,.bool false,rfl,.p .bool false,_,ρ,h,b.frm,⟨b.objs,b.free,b.dist⟩,⟨_,rfl,rfl⟩,c⟩
def A9d (c:Cx) (R:Exit->Act->World->Prop) (yn:Nat) (L:Go.Loop) (a:Code) (σ:St):Prop :=
 lk yn σ.objs=some (.loop L)/\Ev c R (.run a) [] ⟨σ.env,upd yn (.loop { L with state:=.busy }) σ.objs⟩
theorem dS {yn fr:Nat} {A:List AV} {objs:List (Nat×Obj)} {L:Go.Loop} {d:List Nat} {s:Code} {fs:List (Nat×AV)} {i:Array Value}
  (B:lk yn objs=some (.loop L)) (hf:lk fr objs=some (.frame i fs)) (h1:L.state=.ready) (J:L.params=d.toArray) (M:L.assign=r) (N:L.body=s) (ak:L.tmps=i) (G:i.size=nt)
  (C:A.length=d.length) (Z:(d.all λp=>decide (p<nt))=true) (ag:yn∈stay) (ad:stay.all (SU objs)=true) (X:Ln objs=true) (T:Bz nt r=true) (U:Bz nt s=true) (hT:DB P tb) (hF:Ic P tb)
  (h:∀(w0:World) (K O0:Nat->Prop) (ρ0:Nat->Value) (l:Nat),(cY P tb w0 K O0 nt l (stay.map λn=>(n,ρ0 n))).Ok->Pj A->OG objs->ρ0 yn=.pointer (some ⟨l,0,none⟩) ->
   Ev (cY P tb w0 K O0 nt l (stay.map λn=>(n,ρ0 n))) (λ_ _ _=>False) (.run r) [.inv (A9d (cY P tb w0 K O0 nt l (stay.map λn=>(n,ρ0 n))) (kL P l w0 K O0 stay ρ0 post) yn L s)] ⟨Hw d A fs,objs⟩) :
  Xv P yn A objs stay post:=by
 intro w K O0 ρ q b Q R hG f y u;have af:=Ig y;obtain⟨aj,c,hh⟩:=f.obj yn _ B;rw[u]at c;injection c with c
 injection c with c
 injection c with c
 subst c;have aa:=run_yield (P:=P) (args:=q.toArray) hh (by rw[J];simp[af,C]);refine⟨_,_,_,_,aa,roundIn_of_wpIn trivial ?_⟩;have z:(cY P tb w K O0 nt b (stay.map λn=>(n,ρ n))).Ok:=⟨Q,R,hT,hF,hG⟩;have W:=f.obj fr _ hf;have D:=o7 (V:=vw w O0 ⟨[],objs⟩ ρ) d A q fs i y (λp x=>by have:=(No.1 Z) p x;rw[G];simpa using this) C W.2;have ae:(L.params.zip q.toArray).foldl (λt (p,v)=>t.setIfInBounds p v) L.tmps=(d.zip q).foldl (λt (p,v)=>t.setIfInBounds p v) i:=by grind
 rw[M,N,ae];have ab:(cY P tb w K O0 nt b (stay.map λn=>(n,ρ n))).sat ⟨Hw d A fs,objs⟩ { tmps:=(d.zip q).foldl (λt (p,v)=>t.setIfInBounds p v) i,defers:=[] } w:=by
  refine⟨ρ,⟨rfl,rfl,rfl,On _,λ_ _=>rfl⟩,by rw[D.2];exact G,rfl,λp x=>?_,f.obj,f.free,f.dist,D.1⟩;obtain⟨n,hn,rfl⟩:=GO.1 x;have:=(No.1 ad) n hn;unfold SU at this;cases j:lk n objs with
  | none=>rw[j]at this;cases this
  | some o =>
   rw[j]at this;refine⟨⟨o,j⟩,rfl,?_⟩;have g:=f.obj n o j;cases o with
   | arr et e xs=>exact .inr this
   | nest et am k e xs B=>exact .inr this
   | box et st fs=>obtain⟨_,b,cs,a,_⟩:=g;rw[a];exact .inl rfl
   | mapo k v l=>obtain⟨b,es,cl,a,_⟩:=g;rw[a];exact .inl rfl
   | frame i fs=>obtain⟨a,_⟩:=g;rw[a];exact .inl rfl
   | loop L=>obtain⟨b,a,_⟩:=g;rw[a];exact .inl rfl
   | itr an aq ao ap al=>obtain⟨b,a,_⟩:=g;rw[a];exact .inl rfl
   | dfr=>obtain⟨b,a,_⟩:=g;rw[a];exact .inl rfl
   | sit sb sp=>obtain⟨b,a,_⟩:=g;rw[a];exact .inl rfl
 have O:=h w K O0 ρ b z (Td y) (Te X λn o j=>Zd (f.obj n o j)) u (by simpa[Hq,cY] using T) rfl _ _ ab;refine AD9 (F:=FR (some b)) O ?_;intro e ai w' m;cases e with
 | normal =>
  obtain⟨σ',⟨ρ',E⟩,Y,S⟩:=m;have ah:ρ' yn=.pointer (some ⟨b,0,none⟩):=(E.pin (yn,ρ yn) (GO.2 ⟨yn,ag,rfl⟩)).2.1.trans u;obtain⟨H,I⟩:=Pm z E Y ah { L with state:=.busy };exact⟨_,run_beginRound H h1,S (by simpa[Hq,cY] using U) rfl _ _ ⟨ρ',I⟩⟩
 | exit id=>exact m.elim
 | goto t=>exact m.elim
 | ret=>exact m.elim
 | panic ch=>exact m.elim
 | outgrown=>exact m.elim
end
end
section
open Go Go.RowKit
def Cx.marked (c:Cx) (dn b:Nat):Cx:={ c with ds:={ ds:=⟨.collected b,#[]⟩ :: c.ds.ds,pin:=(dn,.pointer (some ⟨b,0,none⟩)) :: c.ds.pin } }
def Cx.marked2 (c:Cx) (yn dn b:Nat):Cx:={ c with ds:={ ds:=⟨.collected b,#[]⟩ :: c.ds.ds,pin:=(yn,.pointer (some ⟨b+1,0,none⟩)) :: (dn,.pointer (some ⟨b,0,none⟩)) :: c.ds.pin } }
theorem kM {c:Cx} {yn dn b:Nat} (h:c.Ok):(c.marked2 yn dn b).Ok:=⟨h.K,h.O,h.T,h.F,h.G⟩
theorem RH {c:Cx} {dn:Nat}:(c.marked dn b).tb=c.tb:=rfl
theorem RI {c:Cx} {dn:Nat} (h:c.Ok):(c.marked dn b).Ok:=⟨h.K,h.O,h.T,h.F,h.G⟩
theorem tX (ren:List (Nat×CL)) (x:AV):CC ren x .top:=by grind [CC,I7,DK]
def dT:List Cp->Bool
 | []=>true
 | .inv _ :: _=>false
 | _ :: k=>dT k
theorem OO {c:Cx} {R:Exit->Act->World->Prop} {dn b:Nat}:∀ {k:List Cp},dT k=true->TR (c.marked dn b) R k=TR c R k
 | [],_=>by funext e a w;simp[TR]
 | .inv _ :: _,h=>by simp[dT]at h
 | .seq y :: k,h=>by
  have d:=OO (c:=c) (R:=R) (dn:=dn) (b:=b) (k:=k) h;funext e a w;cases e<;>simp only[TR,d]<;>rfl
 | .blk id :: k,h=>by
  have d:=OO (c:=c) (R:=R) (dn:=dn) (b:=b) (k:=k) h;funext e a w;cases e<;>simp only[TR,d]
def Bh (σ:St) (yn dn fr:Nat) (L:Go.Loop) (a:Array Value):St:=⟨σ.env,(yn,.loop L) :: (dn,.dfr) :: (fr,.frame a σ.env) :: σ.objs⟩
section
variable {c:Cx} {R:Exit->Act->World->Prop} {k:List Cp} {σ:St}
theorem tY (r:c.Ok) {a:Act} {w:World} {ρ:Nat->Value} (hs:CB c.w0 c.K c.O0 c.nt c.ds σ ρ a w) {yn dn fr:Nat} (t:yn≠dn) (E:yn≠fr) (F:dn≠fr) (G:lk yn σ.objs=none) (H:lk dn σ.objs=none) (I:lk fr σ.objs=none) (L:Go.Loop) :
  ∃e,CB c.w0 c.K c.O0 c.nt (c.marked2 yn dn w.heap.size).ds (Bh σ yn dn fr L a.tmps) e { a with defers:=[{ target:=.collected w.heap.size,args:=#[] }]++a.defers } ((w.alloc (.deferred (some []))).alloc (.loop L))/\e yn=.pointer (some ⟨w.heap.size+1,0,none⟩):=by
 let e:Nat->Value:=λm=>if m=yn then .pointer (some ⟨w.heap.size+1,0,none⟩) else if m=dn then .pointer (some ⟨w.heap.size,0,none⟩) else if m=fr then .pointer none else ρ m
 have k:e yn=.pointer (some ⟨w.heap.size+1,0,none⟩):=by simp[e]
 have l:e dn=.pointer (some ⟨w.heap.size,0,none⟩):=by simp[e,Ne.symm t]
 have z:e fr=.pointer none:=by simp[e,Ne.symm E,Ne.symm F]
 obtain⟨f,j⟩:∃f,(w.alloc (.deferred (some []))).alloc (.loop L)=f:=⟨_,rfl⟩;have B:f.heap[w.heap.size+1]?=some (.loop L):=by
  rw[<-j];have:=World.alloc_heap_new (w.alloc (.deferred (some []))) (.loop L);rwa [World.size_alloc]at this
 have A:f.heap[w.heap.size]?=some (.deferred (some [])):=by
  rw[<-j];exact(Below.heap_alloc _ _ _ sc).trans (World.alloc_heap_new w _)
 have q:Below w.heap.size w f:=by
  rw[<-j];exact((Below.refl _ w).alloc (On _) _).alloc sc _
 rw[j];have u:Bl [(yn,Obj.loop L),(dn,.dfr),(fr,.frame a.tmps σ.env)] σ=true:=by simp[Bl,G,H,I]
 have y:∀n,lk n [(yn,Obj.loop L),(dn,Obj.dfr),(fr,.frame a.tmps σ.env)]=none->e n=ρ n:=λn hn=>by grind [lk]
 have v:∀n o b,lk n [(yn,Obj.loop L),(dn,Obj.dfr),(fr,.frame a.tmps σ.env)]=some o->bk (e n) b->w.heap.size<=b:=λn o b hn C=>by grind [lk,bk,blk]
 have J:=Hn (O0:=c.O0) (ρ:=ρ) (ρ':=e) u q y v;have M:QS w c.O0 σ ρ .top [(yn,Obj.loop L),(dn,.dfr),(fr,.frame a.tmps σ.env)] undef e f:=by
  refine⟨q,y,trivial,λn o hn=>?_,v,λn m o R b hn Q C P=>?_⟩
  .simp only[lk]at hn;split at hn
   .rename_i g;cases hn;subst g;exact⟨_,k,B⟩
   split at hn
   .rename_i g;cases hn;subst g;exact⟨_,l,A⟩
   split at hn
   .rename_i g;cases hn;subst g;exact⟨z,λs x N=>(hs.env s x N).keeps J⟩
   cases hn
  grind [lk,bk,blk]
 have h:=hs.add r.K r.O (dst:=none) (λd D=>by cases D) u M;refine⟨e,⟨h.frm,h.nt,?_,λp i=>?_,h.objs,h.free,h.dist,h.env⟩,k⟩
 .show _=_ :: c.ds.ds;rw[<-hs.defers];rfl
 rcases By.1 i with rfl|i
 .exact⟨⟨.loop L,by simp[Bh,lk]⟩,k,.inl rfl⟩
 rcases By.1 i with rfl|i
 .exact⟨⟨.dfr,by simp[Bh,lk,Ne.symm t]⟩,l,.inl rfl⟩
 exact h.pin p i
def EvJ (c:Cx) (R:Exit->Act->World->Prop) (k:List Cp) (σ:St):Option Code->Prop
 | none=>Ev c R (.out .normal) k σ
 | some a=>match a with
  | .ret=>Ev c R (.out .ret) k σ
  | .exit id=>Ev c R (.out (.exit id)) k σ
  | _=>False
def AAn (c:Cx) (R:Exit->Act->World->Prop) (k:List Cp) (a:Act) (w:World):Option Code->Prop
 | none=>TR c R k .normal a w
 | some cd=>cd.wpIn (FR c.r) 0 c.P (TR c R k) a w
theorem A3M {dn:Nat} (g:dT k=true) (e:C7 c.nt k=true) {p:Option Code} (d:EvJ (c.marked dn b) R k σ p) {a:Act} {w:World} (hs:(c.marked dn b).sat σ a w) :
  AAn c R k a w p:=by
 have f:=OO (c:=c) (R:=R) (dn:=dn) (b:=b) g;cases p with
 | none =>
  have:=d rfl e _ _ hs;show TR c R k .normal a w;rw[<-f];exact this
 | some cd =>
  cases cd<;>try exact d.elim
  .have:=d rfl e _ _ hs;refine wpIn_exit ?_;rw[<-f];exact this
  have:=d rfl e _ _ hs;refine wpIn_ret ?_;rw[<-f];exact this
theorem dU (U:c.Ok) (bo:c.r=none) (bi:dT k=true) {g:Operand} {O:Array Tmp} {G H:Code} {q:FuncId} {m:List Nat} (J:Ai σ g=some (.clo q m))
  (yn dn fr:Nat) (D:(yn != dn&&yn != fr&&dn != fr)=true) (bd:lk yn σ.objs=none) (be:lk dn σ.objs=none) (bf:lk fr σ.objs=none)
  (ap:∀(L:Go.Loop) (z:Array Value),L.state=.ready->L.pending=none->L.tmps=z->L.params=O->L.assign=G->L.body=H->z.size=c.nt ->
   ∃(A:List AV) (objs:List (Nat×Obj)) (stay:List Nat) (post:AV->List (Nat×Obj)->Prop) (ren:List (Nat×CL)) (hs:List Nat),BE c.P q A objs stay post /\
    CZ ren=true/\Cw objs ren=true/\B3 (Bh σ yn dn fr L z) ren (.yl yn :: m.map λn=>AV.bp n [] 0) A/\Ao (Bh σ yn dn fr L z).objs ren objs /\
    (((yn,undef) :: (dn,undef) :: c.ds.pin).all λp=>!Af p.1 hs)=true /\
    ∀res y,post res y->∃(j:List (Nat×CL)) (i:List (Nat×Obj)) (l:Go.Loop),CZ j=true/\Cw i j=true/\Ao y j i/\JW ren j stay hs=true/\GI (A1 ren) i (Bh σ yn dn fr L z).objs=true /\
     lk yn i=some (.loop l)/\(l.state == .busy)=false /\
     ∀b,EvJ (c.marked dn b) R k ⟨(DC (Bh σ yn dn fr L z) (A1 ren) hs none .top i).env,upd yn (.loop { l with state:=.exhausted }) (DC (Bh σ yn dn fr L z) (A1 ren) hs none .top i).objs⟩ l.pending) (X:q<1000000:=by decide) :
  Ev c R (.run (.rangeFunc g O G H)) k σ:=by
 intro h1 am a w br;obtain⟨ρ,hs⟩:=br;have bc:EX (vw w c.O0 σ ρ) σ a.eval:=Ci hs.env;obtain⟨bg,_⟩:=dQ X (bc g _ J);simp only[AT,ACn,ne_eq]at D;obtain⟨⟨ay,az⟩,ba⟩:=D;refine wpIn_rangeFunc (F:=FR c.r) ?_;intro fn _;have bq:(FR c.r).round=none:=by rw[bo];rfl
 rw[bq];obtain⟨L,x⟩:∃L:Go.Loop,L={ state:=.ready,pending:=none,fn,tmps:=a.tmps,params:=O,assign:=G,body:=H,defers:=w.heap.size }:=⟨_,rfl⟩;obtain⟨aa,N,bt⟩:=tY U hs ay az ba bd be bf L;obtain⟨A,objs,stay,post,ren,B,I,ag,ah,ai,aj,ak,al⟩:=ap L a.tmps (by rw[x]) (by rw[x]) (by rw[x]) (by rw[x]) (by rw[x]) (by rw[x]) hs.nt;obtain⟨⟨Q,ax,bl,au⟩,I⟩:=I;obtain⟨o,T⟩:∃o,(w.alloc (.deferred (some []))).alloc (.loop L)=o:=⟨_,rfl⟩;rw[T]at N;have W:(c.marked2 yn dn w.heap.size).Ok:=kM U;have aw:Ht (vw o c.O0 (Bh σ yn dn fr L a.tmps) aa) (.yl yn :: m.map λn=>AV.bp n [] 0) (.func (.yield (w.heap.size+1)) #[] #[] :: m.map ρ):=by
  refine⟨_,_,rfl,⟨⟨_,by simp[Bh,lk];rfl⟩,_,bt,rfl⟩,?_⟩;have ce:=dQ X (V:=vw o c.O0 (Bh σ yn dn fr L a.tmps) aa) (f:=q) (ns:=m) (v:=a.eval g) (by
   have:=Ci N.env;have bm:Ai (Bh σ yn dn fr L a.tmps) g=some (.clo q m):=by
    cases g with
    | tmp t=>exact J
    | _=>exact J
   have S:=this g _ bm;have bb:({ a with defers:=[{ target:=.collected w.heap.size,args:=#[] }]++a.defers }:Act).eval g=a.eval g:=by cases g<;>rfl
   rw[bb]at S;exact S)
  grind [vw]
 have bj:∀res y,post res y->∃(j:List (Nat×CL)) (Z:AV) (i:List (Nat×Obj)),CZ j=true/\Cw i j=true/\Ao y j i/\CC j res Z /\
   JW ren j stay B=true/\GI (A1 ren) i (Bh σ yn dn fr L a.tmps).objs=true/\∀C w',(c.marked2 yn dn w.heap.size).sat (DC (Bh σ yn dn fr L a.tmps) (A1 ren) B none Z i) C w' ->
    rangePost (FR c.r) 0 c.P (w.heap.size+1) (TR c R k) C (.returned undef) w':=by
  intro res y M;obtain⟨j,i,l,bv,bw,bx,bz,ca,cf,Y,cb⟩:=al res y M;refine⟨j,.top,i,bv,bw,bx,tX j res,bz,ca,λC w' E=>?_⟩;obtain⟨ρ',E⟩:=E;have bu:lk yn (DC (Bh σ yn dn fr L a.tmps) (A1 ren) B none .top i).objs=some (.loop l):=by grind [DC,BC]
  have hyp:=(E.pin (yn,.pointer (some ⟨w.heap.size+1,0,none⟩)) (by simp[Cx.marked2])).2.1;obtain⟨cc,s⟩:=Pm W E bu hyp { l with state:=.exhausted };refine⟨_,_,run_endLoop cc (by intro e;rw[e]at Y;cases Y),?_⟩;have bs:(c.marked dn w.heap.size).sat ⟨(DC (Bh σ yn dn fr L a.tmps) (A1 ren) B none .top i).env,upd yn (.loop { l with state:=.exhausted }) (DC (Bh σ yn dn fr L a.tmps) (A1 ren) B none .top i).objs⟩ C (w'.putObj (w.heap.size+1) (.loop { l with state:=.exhausted })) :=
   ⟨ρ',s.frm,s.nt,s.defers,λp M=>s.pin p (IF _ M),s.objs,s.free,s.dist,s.env⟩
  have K:=A3M bi am (cb w.heap.size) bs;revert K;generalize l.pending=p;intro K;cases p<;>exact K
 obtain⟨ab,ad,cd,ao,aq,an,bk,ar,_,bn⟩:=M2 W N aw stay post ren ag ah ai aj B (by simpa[Cx.marked2] using ak) (dst:=none) (λd D=>by cases D) bj;have av:=I o ab ad cd _ ao aq an bk ar;refine⟨w.heap.size+1,[{ target:=.collected w.heap.size,args:=#[] }],o,{ target:=.fn (.func q) (m.map ρ).toArray,args:=#[.func (.yield (w.heap.size+1)) #[] #[]] },o,q,
  (.func (.yield (w.heap.size+1)) #[] #[] :: m.map ρ).toArray,o,?_,?_,λ_ _=>trivial,?_,λh=>by simp[FR]at h,?_⟩
 .rw[<-T,x];exact run_enterLoop_outer _ _ _ _ _
 .have bh:a.eval g=.func (.func q) #[] (m.map ρ).toArray:=bg;simp only[resolve,bh];simp[go_sem]
 .have ae : ¬ Q.name = "runtime.NumGoroutine" := by simpa using bl
  have af:¬Q.body=none:=by intro e;simp[e]at au
  simp[invoke,callFunc,ax,ae,af]
 refine Hp (av.mono λe w' hh=>?_);obtain⟨u,rfl,hh⟩:=hh;exact bn u w' hh
theorem yZ (Q:c.Ok) {a:Act} {w:World} {ρ:Nat->Value} (hs:CB c.w0 c.K c.O0 c.nt c.ds σ ρ a w) {dn:Nat} (j:lk dn σ.objs=some .dfr) (i:ρ dn=.pointer (some ⟨b,0,none⟩)) (X:_root_.Go.Obj) (pin:List (Nat×Value)) (H:∀p∈pin,p∈c.ds.pin/\p.1≠dn) :
  w.heap[b]?=some (.deferred (some []))/\CB c.w0 c.K c.O0 c.nt { ds:=c.ds.ds,pin:=pin } ⟨C2 [dn] σ.env,A4 [dn] [dn] σ.objs⟩ ρ a (w.putObj b X):=by
 obtain⟨P,h1,h⟩:=hs.objs dn _ j;rw[i]at h1;injection h1 with h1
 injection h1 with h1
 injection h1 with h1
 subst h1;have R:b<w.heap.size:=Bv h;refine⟨h,?_⟩;have A:own c.O0 σ ρ b:=.inr ⟨dn,⟨_,j⟩,by rw[i];exact .inl rfl⟩;have f:∀n,Gz ⟨C2 [dn] σ.env,A4 [dn] [dn] σ.objs⟩ n->Gz σ n/\n≠dn:=by
  rintro n ⟨o,hn⟩;have hn:lk n (A4 [dn] [dn] σ.objs)=some o:=hn;rw[CY]at hn;split at hn
  .cases hn
  rename_i r;simp only[OF]at hn;obtain⟨y,d,_⟩:=hn;exact⟨⟨y,d⟩,λe=>r (by subst e;simp[Af])⟩
 have l:∀k,k≠b->(w.putObj b X).heap[k]?=w.heap[k]?:=λk hk=>World.putObj_heap_other hk;have q:Cv ((vw w c.O0 σ ρ).buts [dn]) (vw (w.putObj b X) c.O0 ⟨C2 [dn] σ.env,A4 [dn] [dn] σ.objs⟩ ρ):=by
  refine⟨λk _ hk B=>?_,λn hn=>?_,λ_ _=>rfl,λk _ hk=>l k (λe=>?_)⟩
  .rcases B with h0|⟨n,hn,E⟩
   .exact hk (.inl h0)
   exact hk (.inr ⟨n,(f n hn).1,E⟩)
  .obtain⟨⟨o,F⟩,D⟩:=hn;exact⟨_,by show lk n (A4 [dn] [dn] σ.objs)=_;rw[CY,An (by rw[D];simp),F];rfl⟩
  subst e;exact hk A
 refine⟨⟨hs.frm.os,hs.frm.tape,hs.frm.output,by simpa using hs.frm.size,λk hk=>?_⟩,hs.nt,hs.defers,λp G=>?_,λn x hn=>?_,λn k C hk=>hs.free n k (f n C).1 hk,λn m k h1 h u z=>hs.dist n m k (f n h1).1 (f m h).1 u z,λs v t=>?_⟩
 .refine(l k λe=>?_).trans (hs.frm.block k hk);subst e;exact(hs.free dn k ⟨_,j⟩ (by rw[i];exact .inl rfl)).1 hk
 .obtain⟨I,J⟩:=H p G;obtain⟨M,N,O⟩:=hs.pin p I;exact⟨q.L p.1 ⟨M,by simp[Af,J]⟩,N,O⟩
 .have g:lk n (A4 [dn] [dn] σ.objs)=some x:=hn;have r:=(f n ⟨x,hn⟩).2;rw[CY]at g;split at g
  .cases g
  simp only[OF]at g;obtain⟨y,d,rfl⟩:=g;refine ZV q (λk hk=>l k λe=>?_) (hs.objs n y d);subst e;exact r (hs.dist n dn k ⟨y,d⟩ ⟨_,j⟩ hk (by rw[i];exact .inl rfl))
 rw[GH]at t;simp only[OF]at t;obtain⟨y,d,rfl⟩:=t;exact(TP (hs.env s y d)).keeps q
end
def o8 (P:Program) (fn:Func) (w0:World) (K O0:Nat->Prop) (stay:List Nat) (ρ0:Nat->Value) (post:AV->List (Nat×Obj)->Prop):Exit->Act->World->Prop :=
 bodyPostM (FR none) 0 P fn λe w'=>∃u,e=.returned u/\Lw K O0 stay w0 ρ0 post u w'
theorem A3N {tb:Tb} {fn:Func} {nt:Nat} {args:List AV} {objs:List (Nat×Obj)} {post:AV->List (Nat×Obj)->Prop}
  (c : P.funcs[f]? = some fn) (k : (fn.name == "runtime.NumGoroutine") = false) (b : fn.body = some r) (l : fn.ntmps = nt) (q : args.length <= nt)
  (i:Bz nt r=true) (p:Q.all (SU objs)=true) (j:Ln objs=true) (hT:DB P tb) (hF:Ic P tb)
  (h:∀(w0:World) (K O0:Nat->Prop) (ρ0:Nat->Value),(cm P tb w0 K O0 nt (Q.map λn=>(n,ρ0 n))).Ok->Pj args->OG objs ->
   Ev (cm P tb w0 K O0 nt (Q.map λn=>(n,ρ0 n))) (o8 P fn w0 K O0 Q ρ0 post) (.run r) [] ⟨Ap 0 args,objs⟩):BE P f args objs Q post:=by
 refine⟨⟨fn,c,k,by simp[b]⟩,λw K O0 ρ s e g hG d a=>?_⟩;refine callsIn_wide.1 (callsIn_of_wp_marks (F:=FR none) (n:=0) c b trivial ?_ rfl);have stay:=Ig a;rw[l];exact h w K O0 ρ ⟨e,g,hT,hF,hG⟩ (Td a) (Te j λn o m=>Zd (d.obj n o m)) i rfl _ _ (Uw d a p O1)
theorem VE {tb:Tb} {w0:World} {K O0:Nat->Prop} {nt:Nat} {fn:Func} {post:AV->List (Nat×Obj)->Prop} {σ:St} {e:Exit} {dn b:Nat} (f:((cm P tb w0 K O0 nt (Q.map λn=>(n,U n))).marked dn b).Ok)
  (i:List ResultVar) (t:fn.results.toList=i) (q:e=.ret\/e=.normal) (r:lk dn σ.objs=some .dfr) (g:Af dn Q=false) (res:AV) (h:SV tb ⟨C2 [dn] σ.env,A4 [dn] [dn] σ.objs⟩ i res) (d:post res (A4 [dn] [dn] σ.objs)) :
  Ev ((cm P tb w0 K O0 nt (Q.map λn=>(n,U n))).marked dn b) (o8 P fn w0 K O0 Q U post) (.out e) [] σ:=by
 intro _ _ a w hs;obtain⟨ρ,hs⟩:=hs;have m:=(hs.pin (dn,.pointer (some ⟨b,0,none⟩)) (by simp[Cx.marked])).2.1;obtain⟨h1,j⟩:=yZ f hs r m (.deferred none) (Q.map λn=>(n,U n)) (λp d=>⟨IF _ d,λe=>by
  obtain⟨n,hn,rfl⟩:=GO.1 d;have e:n=dn:=e;subst e;rw[(Ak _ _).2 hn]at g;cases g⟩)
 have c:CB w0 K O0 nt { ds:=[⟨.collected b,#[]⟩],pin:=Q.map λn=>(n,U n) } ⟨C2 [dn] σ.env,A4 [dn] [dn] σ.objs⟩ ρ a (w.putObj b (.deferred none)):=j;obtain⟨u,k,l⟩:=Uy f.T c (fn:=fn) (by rw[t];exact h);have s:Lw K O0 Q w0 U post u (w.putObj b (.deferred none)):=by
  refine⟨res,_,ρ,d,c.frm,⟨c.objs,c.free,c.dist⟩,l,λn hn=>?_⟩;exact(c.pin (n,U n) (GO.2 ⟨n,hn,rfl⟩)).2.1
 have o:a.defers=[⟨.collected b,#[]⟩]:=hs.defers;have key:LeavesInM (FR none) 0 P fn a.tmps (λe w'=>∃u,e=.returned u/\Lw K O0 Q w0 U post u w') a.defers .returning w:=by
  rw[o];exact⟨sc,.inl ⟨b,_,rfl,run_takeDeferred h1,u,k,u,rfl,s⟩⟩
 rcases q with rfl|rfl
 .exact key
 exact key
end
section
open Go Go.RowKit
section
variable {c:Cx} {R:Exit->Act->World->Prop} {k:List Cp} {σ σ':St}
theorem rP (a:c.Ok) {l:List Oper} {vc:Prop} (b:vc) (hk:Ev c R (.out .normal) k σ') (h0:(l.all λo=>o.guard.isNone)=true:=by rfl)
  (h:EE c.tb.live (B6 c.tb l l σ)=some (vc,σ'):=by exact a1):Ev c R (.run (.region d l.toArray false)) k σ:=Lz _ a h0 h b hk
theorem rC {o:Operand} {x y:Code} {b:Bool} {p q:Prop} (ht:p->Ev c R (.run x) k σ) (hf:q->Ev c R (.run y) k σ) (h:Ai σ o=some (.p .bool b):=by exact a1)
  (a:(b=true)=p:=by first|(simp only[IN,aS,AT,tO,Bool.and_eq_false_imp,AAb,bY,ABx,AA9,AB6,ACn,Bool.not_eq_eq_eq_not,Bool.not_true,ACs,AAy,ACC,ne_eq];rfl)|rfl) (d:(b=false)=q:=by first|(simp only[IN,aS,AT,tO,Bool.and_eq_false_imp,AAb,bY,ABx,AA9,AB6,ACn,Bool.not_eq_eq_eq_not,Bool.not_true,ACs,AAy,ACC,ne_eq];rfl)|rfl):Ev c R (.run (.cond o x y)) k σ :=
 Ui h (λe=>ht (a▸e)) (λe=>hf (d▸e))
theorem rL (a:c.Ok) {ops:List Oper} {l:List Oper} {vc:Prop} (b:vc) (hk:Ev c R (.out .normal) k σ') (h:EE c.tb.live (B6 c.tb ops l σ)=some (vc,σ'):=by exact a1):ED c R k ops.toArray l σ:=Gh _ a h b hk
theorem rN (n:Nat) (a:c.Ok) {ops:List Oper} {l:List Oper} {vc:Prop} (b:vc) (hk:ED c R k ops.toArray (l.drop n) σ') (h:B6 c.tb ops (l.take n) σ=some (vc,σ'):=by simp only[AB2,AB8,go_sem,Nat.reduceEqDiff,reduceCtorEq,Nat.reduceAdd,Nat.reduceSub,Nat.reduceMul,Nat.reduceLeDiff,Nat.reduceLT,Int.reduceLE,Int.reduceToNat,Int.reduceNeg,↓reduceIte];rfl):ED c R k ops.toArray l σ:=Ph a n (by simpa using h) b hk
theorem cP (n:Nat) (a:c.Ok) {l:List Oper} {vc:Prop} (b:vc) (hk:ED c R k l.toArray (l.drop n) σ') (h0:(l.all λo=>o.guard.isNone)=true:=by rfl) (h:B6 c.tb l (l.take n) σ=some (vc,σ'):=by simp only[AB2,AB8,go_sem,Nat.reduceEqDiff,reduceCtorEq,Nat.reduceAdd,Nat.reduceSub,Nat.reduceMul,Nat.reduceLeDiff,Nat.reduceLT,Int.reduceLE,Int.reduceToNat,Int.reduceNeg,↓reduceIte];rfl) :
  Ev c R (.run (.region d l.toArray false)) k σ:=yI a n h0 h b hk
theorem cD (n:Nat) (a:c.Ok) {id:Nat} {l:List Oper} {vc:Prop} (e:vc) (hk:ED c R k l.toArray (l.drop n) σ') (b:Lr l (l.take n).length=true:=by kernel_rfl) (d:c.P.follows .mixedOrders=true:=by exact drawsAny)
  (h:Lt c.tb l false σ.objs [] (l.take n) 0 [] [] σ=some (vc,σ'):=by simp only[AB2,AB8,go_sem,Nat.reduceEqDiff,reduceCtorEq,Nat.reduceAdd,Nat.reduceSub,Nat.reduceMul,Nat.reduceLeDiff,Nat.reduceLT,Int.reduceLE,Int.reduceToNat,Int.reduceNeg,↓reduceIte];rfl):Ev c R (.run (.region id l.toArray true)) k σ:=yJ d a n b h e hk
theorem rM (q:c.Ok) {ops:Array Oper} {rest:List Oper} {dst:Option Nat} {g:Operand} {xs:List Operand} {ts:Array TypeId} {ty:TypeId} 
  {d:List Nat} {as:List AV} {A:List AV} {objs:List (Nat×Obj)} {stay:List Nat} {post:AV->List (Nat×Obj)->Prop} (l:BE c.P f A objs stay post)
  (ren:List (Nat×CL)) (hs:List Nat) (j:B3 σ ren (as++d.map λn=>AV.bp n [] 0) A) (m:Ao σ.objs ren objs)
  (hk:∀res e,post res e->∃(a:List (Nat×CL)) (h:AV) (b:List (Nat×Obj)),CZ a=true/\Cw b a=true/\Ao e a b/\CC a res h /\
   JW ren a stay hs=true/\GI (A1 ren) b σ.objs=true/\ED c R k ops rest (DC σ (A1 ren) hs dst h b))
  (r:EZ (Ai σ g)=some (f,d):=by exact a1) (o:Lx σ xs=some as:=by exact a1)
  (h1:CZ ren=true:=by rfl) (i:Cw objs ren=true:=by rfl) (s:(c.ds.pin.all λp=>!Af p.1 hs)=true:=by rfl) :
  ED c R k ops (⟨dst,.call ⟨.value g,xs.toArray,ts⟩,ty,X,Z,none⟩ :: rest) σ:=yH q r o l ren hs h1 i s j m hk
theorem rY (n yn:Nat) (m:c.Ok) {ops:Array Oper} {rest:List Oper} {dst:Option Nat} {g:Operand} {xs:List Operand} {ts:Array TypeId} {ty:TypeId} 
  {as:List AV} {A:List AV} {objs:List (Nat×Obj)} {stay:List Nat} {post:AV->List (Nat×Obj)->Prop} (i:Xv c.P yn A objs stay post)
  (ren:List (Nat×CL)) (hs:List Nat) (h:B3 σ ren as A) (j:Ao σ.objs ren objs)
  (hk:∀res d,post res d->∃(a:List (Nat×CL)) (e:AV) (b:List (Nat×Obj)),CZ a=true/\Cw b a=true/\Ao d a b/\CC a res e /\
   JW ren a stay hs=true/\GI (A1 ren) b σ.objs=true/\ED c R k ops rest (DC σ (A1 ren) hs dst e b))
  (s:c.r=none:=by rfl) (o:dR n (Ai σ g)=true:=by simp only[go_sem,Nat.reduceEqDiff,reduceCtorEq,Nat.reduceAdd,Nat.reduceSub,Nat.reduceMul,Nat.reduceLeDiff,Nat.reduceLT,Int.reduceLE,Int.reduceToNat,Int.reduceNeg,↓reduceIte]) (l:Lx σ xs=some as:=by exact a1)
  (t:lk yn ren=some (.nm n):=by rfl) (h1:CZ ren=true:=by rfl) (f:Cw objs ren=true:=by rfl) (q:(c.ds.pin.all λp=>!Af p.1 hs)=true:=by rfl) :
  ED c R k ops (⟨dst,.call ⟨.value g,xs.toArray,ts⟩,ty,X,Z,none⟩ :: rest) σ:=tW m s o l i ren hs t h1 f q h j hk
end
end
section
open Go Go.RowKit
def o9:oK->List Cp->Option (oK×List Cp)
 | .run (.seq x y),k=>some (.run x,.seq y :: k)
 | .run .skip,k=>some (.out .normal,k)
 | .run .ret,k=>some (.out .ret,k)
 | .run (.exit id),k=>some (.out (.exit id),k)
 | .run (.block id b),k=>some (.run b,.blk id :: k)
 | .out .normal,.seq y :: k=>some (.run y,k)
 | .out .normal,.blk _ :: k=>some (.out .normal,k)
 | .out (.exit id),.seq _ :: k=>some (.out (.exit id),k)
 | .out (.exit a),.blk id :: k=>if a=id then some (.out .normal,k) else some (.out (.exit a),k)
 | .out (.exit id),.inv _ :: k=>some (.out (.exit id),k)
 | .out .ret,.seq _ :: k=>some (.out .ret,k)
 | .out .ret,.blk _ :: k=>some (.out .ret,k)
 | .out .ret,.inv _ :: k=>some (.out .ret,k)
 | _,_=>none
def VG:Nat->oK->List Cp->oK×List Cp
 | 0,n,k=>(n,k)
 | m+1,n,k=>match o9 n k with
  | some (b,a)=>VG m b a
  | none=>(n,k)
def pA (n:oK) (k:List Cp):Option (oK×List Cp):=match o9 n k with
 | some (b,a)=>some (VG 200 b a)
 | none=>none
section
variable {c:Cx} {R:Exit->Act->World->Prop} {σ:St}
theorem dV {n b:oK} {a:List Cp} (e:o9 n k=some (b,a)) (h:Ev c R b a σ):Ev c R n k σ:=by
 unfold o9 at e;split at e<;>first
  | (cases e;done)
  | (split at e<;>(cases e;first|(rename_i d;rw[d];exact jX h)|exact jY a4 h))
  | (cases e;first|exact A6O h|exact A3z h|exact A6P h|exact A3A h|exact x6 h|exact Ug h|exact jT h|exact cW h|exact cX h|exact jS h|exact jU h|exact jV h)
theorem Xx:∀(m:Nat) {n:oK} {k:List Cp},Ev c R (VG m n k).1 (VG m n k).2 σ->Ev c R n k σ
 | 0,_,_,h=>h
 | m+1,n,k,h=>by
  unfold VG at h;split at h
  .rename_i b a e;exact dV e (Xx m h)
  exact h
theorem eS {n b:oK} {a:List Cp} (e:pA n k=some (b,a)) (h:Ev c R b a σ):Ev c R n k σ:=by grind [pA,dV,Xx]
end
inductive RX (c:Cx) (lv:List Nat) (σ:St) (vc:Prop) (σ':St):Array Oper->Bool->Prop
 | p {l:List Oper} (h0:(l.all λo=>o.guard.isNone)=true) (h:EE lv (B6 c.tb l l σ)=some (vc,σ')):RX c lv σ vc σ' l.toArray false
 | a {l:List Oper} (h0:tF l l.length=true) (h:EE lv (Lt c.tb l true σ.objs [] l 0 [] [] σ)=some (vc,σ')):RX c lv σ vc σ' l.toArray false
 | d {l:List Oper} (h0:Lr l l.length=true) (hm:c.P.follows .mixedOrders=true) (h:EE lv (Lt c.tb l false σ.objs [] l 0 [] [] σ)=some (vc,σ')):RX c lv σ vc σ' l.toArray true
 | t {l:List Oper} (m:Nat) (h0:Lr l (l.take (l.length-m)).length=true) (hm:c.P.follows .mixedOrders=true) (h:EE lv (Lt c.tb l false σ.objs (l.drop (l.length-m)) (l.take (l.length-m)) 0 [] [] σ)=some (vc,σ')):RX c lv σ vc σ' l.toArray true
theorem A9f {c:Cx} {R:Exit->Act->World->Prop} {σ σ':St} {b:List Nat} (e:c.Ok) {id:Nat} {ops:Array Oper} {i:Bool} {vc:Prop} (f:vc) (hk:Ev c R (.out .normal) k σ') (h:RX c b σ vc σ' ops i):Ev c R (.run (.region id ops i)) k σ:=by
 cases h with
 | p h0 h=>exact Lz b e h0 h f hk
 | a h0 h=>exact dI b e h0 h f hk
 | d h0 g h=>exact tL b g e h0 h f hk
 | t m h0 g h=>exact tM b m g e h0 h f hk
theorem rX {c:Cx} {R:Exit->Act->World->Prop} {σ σ':St} (e:c.Ok) {ops:Array Oper} {b:Bool} (f:p) (hk:Ev c R (.out .normal) k σ')
  (h:RX c c.tb.live σ p σ' ops b:=by
   first
   | exact .p rfl a1
   | exact .a a5 a1
   | exact .d a5 (by exact drawsAny) a1
   | exact .t 1 a5 (by exact drawsAny) (by simp only[AB2,ACE,AB8,AAV,go_sem,Nat.reduceEqDiff,reduceCtorEq,Nat.reduceAdd,Nat.reduceSub,Nat.reduceMul,Nat.reduceLeDiff,Nat.reduceLT,Int.reduceLE,Int.reduceToNat,Int.reduceNeg,↓reduceIte];rfl)
   | exact .t 2 a5 (by exact drawsAny) (by simp only[AB2,ACE,AB8,AAV,go_sem,Nat.reduceEqDiff,reduceCtorEq,Nat.reduceAdd,Nat.reduceSub,Nat.reduceMul,Nat.reduceLeDiff,Nat.reduceLT,Int.reduceLE,Int.reduceToNat,Int.reduceNeg,↓reduceIte];rfl)
   | exact .t 3 a5 (by exact drawsAny) (by simp only[AB2,ACE,AB8,AAV,go_sem,Nat.reduceEqDiff,reduceCtorEq,Nat.reduceAdd,Nat.reduceSub,Nat.reduceMul,Nat.reduceLeDiff,Nat.reduceLT,Int.reduceLE,Int.reduceToNat,Int.reduceNeg,↓reduceIte];rfl)):Ev c R (.run (.region d ops b)) k σ:=A9f e f hk h
theorem eN (h:p:=by simp only[go_sem,Nat.reduceEqDiff,reduceCtorEq,Nat.reduceAdd,Nat.reduceSub,Nat.reduceMul,Nat.reduceLeDiff,Nat.reduceLT,Int.reduceLE,Int.reduceToNat,Int.reduceNeg,↓reduceIte]<;>fail):p:=h
theorem eM {q:Prop} (a:q) (h:p=q:=by exact a1):p:=h▸a
theorem eR (h:p:=by simp only[Nb,Kz,I5,KG,Mu,I6,G9,go_sem,Nat.reduceEqDiff,reduceCtorEq,Nat.reduceAdd,Nat.reduceSub,Nat.reduceMul,Nat.reduceLeDiff,Nat.reduceLT,Int.reduceLE,Int.reduceToNat,Int.reduceNeg,↓reduceIte]<;>fail):p:=h
theorem KP {q:Prop} (a:q) (h:p=q:=by simp only[Nb,Kz,I5,KG,Mu,I6,G9,go_sem,Nat.reduceEqDiff,reduceCtorEq,Nat.reduceAdd,Nat.reduceSub,Nat.reduceMul,Nat.reduceLeDiff,Nat.reduceLT,Int.reduceLE,Int.reduceToNat,Int.reduceNeg,↓reduceIte];rfl):p:=h▸a
theorem eV (h:p:=by (try dsimp only[Ty.den]at *)<;>(repeat'(first|apply And.intro|intro _))<;>omega):p:=h
end
section
open Go Go.RowKit
section
variable {c:Cx} {R:Exit->Act->World->Prop} {k:List Cp} {σ σ':St}
theorem y3 (d:c.Ok) {id:Nat} {l:List Oper} (n:Nat) {vc:Prop} (h:B6 c.tb l (l.take n) σ=some (vc,σ')) (f:vc) (hk:ED c R k l.toArray (l.drop n) σ') :
  Ev c R (.run (.region id l.toArray false)) k σ:=by
 intro h1 b a w hs;simp only[Hq,Bz,No]at h1;exact ACd (Ph d n (by simpa using h) f hk (λo e=>h1 o e) b a w hs)
theorem tZ (F:c.Ok) {ops:Array Oper} {rest:List Oper} {dst:Option Nat} {g:Operand} {xs:List Operand} {ts:Array TypeId} {ty:TypeId} {i:Option (Nat×Bool)}
  (H:FE ops.toList σ i=some true)
  {j:List Nat} (G:EZ (Ai σ g)=some (f,j)) {as:List AV} (E:Lx σ xs=some as)
  {A:List AV} {objs:List (Nat×Obj)} {stay:List Nat} {post:AV->List (Nat×Obj)->Prop} (C:BE c.P f A objs stay post)
  (ren:List (Nat×CL)) (hs:List Nat) (h1:CZ ren=true) (y:Cw objs ren=true) (L:(c.ds.pin.all λp=>!Af p.1 hs)=true) (z:B3 σ ren (as++j.map λn=>AV.bp n [] 0) A) (D:Ao σ.objs ren objs)
  (hk:∀res e,post res e->∃(b:List (Nat×CL)) (h:AV) (d:List (Nat×Obj)),CZ b=true/\Cw d b=true/\Ao e b d/\CC b res h /\
   JW ren b stay hs=true/\GI (A1 ren) d σ.objs=true/\ED c R k ops rest (DC σ (A1 ren) hs dst h d)) :
  ED c R k ops (⟨dst,.call ⟨.value g,xs.toArray,ts⟩,ty,X,Z,i⟩ :: rest) σ:=by
 intro l I a w m;unfold wpListIn;rw[At (HK (o:=⟨dst,.call ⟨.value g,xs.toArray,ts⟩,ty,X,Z,i⟩) m H)];refine oZ F (xs:=xs) (ts:=ts) rfl rfl G E C ren h1 y z D hs L m (A6 (l _ sc)) λres e K=>?_;obtain⟨b,h,d,r,s,t,u,v,x,B⟩:=hk res e K;exact⟨b,h,d,r,s,t,u,v,x,λq w' M=>B (λo J=>l o (by simp[J])) I q w' M⟩
end
end
section
open Go Go.RowKit
section
variable {c:Cx} {ops:List Oper} {Kf:St->Prop} {τ:St} {ens:EN} {vc:Prop}
theorem mxA {A D:List Nat} {l:Nat} {b:List (List Nat×Nat)} {o:Oper} {d:St} {a:EN} (j:vc) (e:kF c o d a (λm=>yK c ops Kf b D a m)) (h:o0 c.tb ops τ.objs (A++qs b D) [] τ.env=some (vc,ens):=by exact a1) (g:S6 ens τ.objs=true:=by rfl) (i:ops[l]?=some o:=by rfl)
  (k:NN (ens.take A.length) τ=d:=by exact a1) (f:ens.drop A.length=a:=by exact a1):yK c ops Kf ((A,l) :: b) D ens τ:=yW h j g i k f e
theorem mxE {R:Exit->Act->World->Prop} {k:List Cp} {σ':St} (d:c.Ok) {D:List Nat} {l:List Oper} {a:Prop} (f:vc) (g:a) (hk:Ev c R (.out .normal) k σ') (h:o0 c.tb ops τ.objs D [] τ.env=some (vc,ens):=by exact a1) (e:S6 ens τ.objs=true:=by rfl)
  (b:EE c.tb.live (B6 c.tb ops l (NN ens τ))=some (a,σ'):=by exact a1):yK c ops (fun τ=>ED c R k ops.toArray l τ) [] D ens τ:=yV h f e (Gh _ d b g hk)
end
section
variable {c:Cx} {o:Oper} {σ:St} {ens:EN} {N:St->Prop} {R:Exit->Act->World->Prop} {k:List Cp} {σ':St}
theorem mxL (b:c.Ok) {τ:St} {vc:Prop} (ns:List Nat) (i:vc) (a:N τ) (h:Gf c.tb o σ=some (vc,τ):=by exact a1) (f:tn σ o.op=ns:=by simp only[go_sem,Nat.reduceEqDiff,reduceCtorEq,Nat.reduceAdd,Nat.reduceSub,Nat.reduceMul,Nat.reduceLeDiff,Nat.reduceLT,Int.reduceLE,Int.reduceToNat,Int.reduceNeg,↓reduceIte]) (g:OL o ens=true:=by rfl) (hn:L4 ns σ.objs ens=true:=by rfl) (e:VC τ.objs ens=true:=by rfl)
  (hf:Nf ns ens=ens:=by simp only[go_sem,Nat.reduceEqDiff,reduceCtorEq,Nat.reduceAdd,Nat.reduceSub,Nat.reduceMul,Nat.reduceLeDiff,Nat.reduceLT,Int.reduceLE,Int.reduceToNat,Int.reduceNeg,↓reduceIte]) (d:JR c.nt o=true:=by rfl):kF c o σ ens N:=tV b ns h f g hn e hf d i a
theorem evP (a:c.Ok) {l:List Oper} (n:Nat) {vc:Prop} (b:vc) (hk:ED c R k l.toArray (l.drop n) σ') (h:B6 c.tb l (l.take n) σ=some (vc,σ'):=by simp only[AB2,AB8,go_sem,Nat.reduceEqDiff,reduceCtorEq,Nat.reduceAdd,Nat.reduceSub,Nat.reduceMul,Nat.reduceLeDiff,Nat.reduceLT,Int.reduceLE,Int.reduceToNat,Int.reduceNeg,↓reduceIte];rfl):Ev c R (.run (.region d l.toArray false)) k σ:=y3 a n h b hk
theorem clG (r:c.Ok) {ops:Array Oper} {rest:List Oper} {dst:Option Nat} {g:Operand} {xs:List Operand} {ts:Array TypeId} {ty:TypeId} {d:List Nat} {as:List AV}
  {A:List AV} {objs:List (Nat×Obj)} {stay:List Nat} {post:AV->List (Nat×Obj)->Prop} (m:BE c.P f A objs stay post) (ren:List (Nat×CL)) (hs:List Nat) (l:B3 σ ren (as++d.map λn=>AV.bp n [] 0) A) (o:Ao σ.objs ren objs)
  (hk:∀res h,post res h->∃(a:List (Nat×CL)) (i:AV) (b:List (Nat×Obj)),CZ a=true/\Cw b a=true/\Ao h a b/\CC a res i /\
   JW ren a stay hs=true/\GI (A1 ren) b σ.objs=true/\ED c R k ops rest (DC σ (A1 ren) hs dst i b))
  (t:FE ops.toList σ e=some true:=by simp only[go_sem,Nat.reduceEqDiff,reduceCtorEq,Nat.reduceAdd,Nat.reduceSub,Nat.reduceMul,Nat.reduceLeDiff,Nat.reduceLT,Int.reduceLE,Int.reduceToNat,Int.reduceNeg,↓reduceIte]) (s:EZ (Ai σ g)=some (f,d):=by exact a1) (q:Lx σ xs=some as:=by exact a1) (h1:CZ ren=true:=by rfl) (j:Cw objs ren=true:=by rfl) (u:(c.ds.pin.all λp=>!Af p.1 hs)=true:=by rfl) :
  ED c R k ops (⟨dst,.call ⟨.value g,xs.toArray,ts⟩,ty,X,Z,e⟩ :: rest) σ:=tZ r t s q m ren hs h1 j u l o hk
theorem Cj (l:List Nat) {n:oK} {a:St} (hk:Ev c R n k a) (h:C3 l σ=a:=by exact a1):Ev c R n k σ:=Ev.ent hk (Zc l h λ_ _ h=>h)
theorem A9g (l:List Nat) {a:St} (b:wU c a σ') (h:C3 l σ=a:=by exact a1):wU c σ σ':=Zc l h b
end
theorem eW {c:Cx} {σ σ':St} (ren:List (Nat×CL)) (h1:CZ ren=true:=by rfl) (a:Cw σ'.objs ren=true:=by rfl) (d:Ao σ.objs ren σ'.objs:=by exact eN) (b:Fv σ.env ren σ'.env:=by exact eN) (e:A6Q c.ds.pin ren=true:=by rfl):wU c σ σ':=AC ren h1 a d b e
theorem eT (h:p:=by simp only[SV,tK,RC,Xn,I5,KG,I6,go_sem,Nat.reduceEqDiff,reduceCtorEq,Nat.reduceAdd,Nat.reduceSub,Nat.reduceMul,Nat.reduceLeDiff,Nat.reduceLT,Int.reduceLE,Int.reduceToNat,Int.reduceNeg,↓reduceIte]<;>fail):p:=h
section
variable {P:Program} {ty:List (Nat×TI)} {fs:List (Nat×AZ)} {nt:Nat} {f:FuncId} {fn:Func} {cd:Code}
theorem fKP (a b:List Nat) (ne:List (Nat×TypeId)) {sp:AZ} (e:P.funcs[f]?=some fn) (j:fn.ntmps=nt) (hF:Ic P ⟨ty,fs,b,ne,a⟩)
  (h:∀(w0:World) (O0:Nat->Prop) (ds:IT sp.ins),(cx P ⟨ty,fs,b,ne,a⟩ w0 O0 nt).Ok->oks sp.ins ds->sp.pre ds->Ev (cx P ⟨ty,fs,b,ne,a⟩ w0 O0 nt) (Uh P fn w0 O0 (sp.out ds)) (.run cd) [] ⟨AL 0 sp.ins ds,[]⟩)
  (c : fn.body = some cd := by rfl) (hT : DB P ⟨ty, fs, b, ne, a⟩ := by exact tyTab_ok _ _ _ _) (i : (fn.name == "runtime.NumGoroutine") = false := by kernel_rfl) (g : sp.ins.length <= nt := by decide) (d : Bz nt cd = true := by kernel_rfl) : Ac P f sp := A63 e i c j g d hT hF h
theorem fK (a:List Nat) {sp:AZ} (d:P.funcs[f]?=some fn) (i:fn.ntmps=nt) (hF:Ic P ⟨ty,fs,[],[],a⟩)
  (h:∀(w0:World) (O0:Nat->Prop) (ds:IT sp.ins),(cx P ⟨ty,fs,[],[],a⟩ w0 O0 nt).Ok->oks sp.ins ds->sp.pre ds->Ev (cx P ⟨ty,fs,[],[],a⟩ w0 O0 nt) (Uh P fn w0 O0 (sp.out ds)) (.run cd) [] ⟨AL 0 sp.ins ds,[]⟩)
  (b : fn.body = some cd := by rfl) (hT : DB P ⟨ty, fs, [], [], a⟩ := by exact tyTab_ok _ _ _ _) (g : (fn.name == "runtime.NumGoroutine") = false := by kernel_rfl) (e : sp.ins.length <= nt := by decide) (c : Bz nt cd = true := by kernel_rfl) : Ac P f sp := A63 d g b i e c hT hF h
variable {args:List AV} {objs:List (Nat×Obj)} {stay:List Nat} {post:AV->List (Nat×Obj)->Prop}
theorem Jx (a b:List Nat) (ne:List (Nat×TypeId)) (e:P.funcs[f]?=some fn) (k:fn.ntmps=nt) (hF:Ic P ⟨ty,fs,b,ne,a⟩)
  (h:∀(w0:World) (K O0:Nat->Prop) (ρ0:Nat->Value),(cm P ⟨ty,fs,b,ne,a⟩ w0 K O0 nt (stay.map λn=>(n,ρ0 n))).Ok->Pj args->OG objs ->
   Ev (cm P ⟨ty,fs,b,ne,a⟩ w0 K O0 nt (stay.map λn=>(n,ρ0 n))) (A3G P fn w0 K O0 stay ρ0 post) (.run cd) [] ⟨Ap 0 args,objs⟩)
  (c : fn.body = some cd := by rfl) (hT : DB P ⟨ty, fs, b, ne, a⟩ := by exact tyTab_ok _ _ _ _) (j : (fn.name == "runtime.NumGoroutine") = false := by kernel_rfl) (i : args.length <= nt := by simp only [NO, AAl]; omega) (d : Bz nt cd = true := by kernel_rfl) (l : stay.all (SU objs) = true := by rfl) (g : Ln objs = true := by rfl) : BE P f args objs stay post := A6X e j c k i d l g hT hF h
theorem fKR (a b:List Nat) (ne:List (Nat×TypeId)) (e:P.funcs[f]?=some fn) (k:fn.ntmps=nt) (hF:Ic P ⟨ty,fs,b,ne,a⟩)
  (h:∀(w0:World) (K O0:Nat->Prop) (ρ0:Nat->Value),(cm P ⟨ty,fs,b,ne,a⟩ w0 K O0 nt (stay.map λn=>(n,ρ0 n))).Ok->Pj args->OG objs ->
   Ev (cm P ⟨ty,fs,b,ne,a⟩ w0 K O0 nt (stay.map λn=>(n,ρ0 n))) (o8 P fn w0 K O0 stay ρ0 post) (.run cd) [] ⟨Ap 0 args,objs⟩)
  (c : fn.body = some cd := by rfl) (hT : DB P ⟨ty, fs, b, ne, a⟩ := by exact tyTab_ok _ _ _ _) (j : (fn.name == "runtime.NumGoroutine") = false := by kernel_rfl) (i : args.length <= nt := by simp only [NO, AAl]; omega) (d : Bz nt cd = true := by kernel_rfl) (l : stay.all (SU objs) = true := by rfl) (g : Ln objs = true := by rfl) : BE P f args objs stay post := A3N e j c k i d l g hT hF h
end
theorem fI {tb:Tb} {w0:World} {O0:Nat->Prop} {nt:Nat} (b:(cx P tb w0 O0 nt).Ok) {fn:Func} {outs:List RV} {σ:St} {e:Exit} (a:List ResultVar) (h:Nb tb σ a outs:=by exact eR) (g:fn.results.toList=a:=by rfl) (c:e=.ret\/e=.normal:=by exact .inl rfl) (f:∀r∈outs,∃t d,r=.p t d:=by simp) :
  Ev (cx P tb w0 O0 nt) (Uh P fn w0 O0 outs) (.out e) [] σ:=A6V b a g c f h
theorem fM {tb:Tb} {w0:World} {K O0:Nat->Prop} {nt:Nat} {fn:Func} {post:AV->List (Nat×Obj)->Prop} {σ:St} {e:Exit} (b:(cm P tb w0 K O0 nt (Q.map λn=>(n,U n))).Ok)
  (a:List ResultVar) (res:AV) (h:SV tb σ a res) (d:post res σ.objs) (f:fn.results.toList=a:=by rfl) (c:e=.ret\/e=.normal:=by first|exact .inl rfl|exact .inr rfl) :
  Ev (cm P tb w0 K O0 nt (Q.map λn=>(n,U n))) (A3G P fn w0 K O0 Q U post) (.out e) [] σ:=A3H b a f c res h d
end
section
open Go Go.RowKit
structure VH (X σ:St) (n:Nat):Prop where
 env:∀s v,lk s X.env=some v->v.trn n []=v
 arr:∀m o,lk m X.objs=some o->OK o=true
 new:∀m o,lk m X.objs=some o->lk m σ.objs=none
 nm:∀m o,lk m X.objs=some o->m≠n
section
variable {σ σ' X:St} {n:Nat}
theorem VH.obs (b:NP σ σ' X) (ha:VH X σ n):j5 σ σ':=by
 intro m o hn;rw[b.objs];cases a:lk m X.objs with
 | none=>exact hn
 | some c=>rw[ha.new m c a]at hn;cases hn
theorem AAo (b:NP σ σ' X) (ha:VH X σ n) {en:List (Nat×AV)} {new:List (Nat×Obj)} (c:∀s v,lk s en=some v->lk s X.env=none) (e:∀m o,lk m new=some o->lk m X.objs=none) :
  NP ⟨en++ET n [] σ.env,new++C5 n [] σ.objs⟩ ⟨en++ET n [] σ'.env,new++C5 n [] σ'.objs⟩ X:=by
 refine⟨λs=>?_,λm=>?_⟩
 .simp only[BC];cases hs:lk s en with
  | some v=>rw[c s v hs];rfl
  | none =>
   rw[FY,FY,b.env];cases a:lk s X.env with
   | none=>rfl
   | some w=>simp[ha.env s w a]
 simp only[BC];cases d:lk m new with
 | some o=>rw[e m o d];rfl
 | none =>
  rw[DT,DT,b.objs];cases a:lk m X.objs with
  | none=>rfl
  | some w =>
   rw[An λh=>ha.nm m w a (by simpa using (Ak _ _).1 h)];exact ABj some (Xu (ha.arr m w a))
def kN (σ:St):Op->Option Nat
 | .call c=>match c.callee,c.args.toList,c.argTypes.toList with
  | .builtin .append,[x,_],[_,_]=>(match Ai σ x with|some (.nin n _ _ _)=>some n|_=>none)
  | _,_,_=>none
 | _=>none
theorem A3O {tb:Tb} {op:Op} {d:Option Nat} {τ:St} (j:NP σ σ' X) (ha:VH X σ n) (r:tT σ σ' op.operands.toList) (a:kN σ op=some n) (G:∀t,d=some t->lk t X.env=none) (E:∀n,(∃u,lk n τ.objs=some u)->lk n X.objs=none) (h:Fs tb σ d op=some (p,τ)) :
  (∃B,Fs tb σ' d op=some (p,B)/\NP τ B X)/\(∀k,aq tb σ' k op=none)/\(∀k,aq tb σ k op=none)/\Ce σ op=[]/\Ce σ' op=[]:=by
 have vc:=ha.obs j;cases op<;>try(cases a;done)
 rename_i cl;obtain⟨callee,⟨args⟩,⟨argTypes⟩⟩:=cl;simp only[kN]at a;split at a
 .rename_i x y t u;cases f:Ai σ x with
  | none=>rw[f]at a;cases a
  | some xv =>
   rw[f]at a;cases xv<;>try(cases a;done)
   rename_i Q e i len;cases a;have z:Ai σ' x=Ai σ x:=r x (by simp[Op.operands,Call.operands]);have N:Ai σ' y=Ai σ y:=r y (by simp[Op.operands,Call.operands]);refine⟨?_,λk=>by simp[aq,DJ,Df,C6,z,f],λk=>by simp[aq,DJ,Df,C6,f],rfl,rfl⟩;simp only[Fs,Dd,D1,f]at h;simp only[Fs,Dd,D1,Db,z,f,N];cases A:Ai σ y with
   | none=>rw[A]at h;unfold Db at h;cases h
   | some v =>
    rw[A]at h;simp only[Db]at h;split at h
    .rename_i b;have H:=G b rfl;simp only;split at h
     .rename_i M;rw[At M];unfold PE at h ⊢;split at h
      .rename_i O R el b2 L;try rw[L]
       try simp only
       split at h
       .rename_i J;rw[At J];unfold R9 at h ⊢;split at h
        .rename_i ti et P k c xs h1 K;try rw[h1]
         try rw[vc _ _ K]
         try simp only
         split at h
         .rename_i F;rw[At F];unfold NY at h ⊢;split at h
          .rename_i ys C;rw[Lq vc C];try simp only
           split at h
           .rename_i m;have l:lk b X.objs=none:=by
             refine E b ?_;cases h;exact⟨_,by simp only[lk,AB1];rfl⟩
            have I:(lk b σ'.objs).isNone=true/\ys.isEmpty=false:=⟨by rw[j.objs,l];exact m.1,m.2⟩;rw[At I];cases h;refine⟨_,rfl,AAo (en:=[(b,_)]) (new:=[(b,_),(n,_)]) j ha (λs v h=>?_) (λq o g=>?_)⟩
            .simp only[lk]at h;split at h
             .rename_i c;rw[c];exact H
             cases h
            simp only[lk]at g;split at g
            .rename_i c;rw[c];exact l
            split at g
            .rename_i c;rw[c];cases D:lk n X.objs with
             | none=>rfl
             | some w=>exact absurd rfl (ha.nm n w D)
            cases g
           cases h
          cases h
         cases h
        cases h
       cases h
      cases h
     cases h
    cases h
 cases a
end
def VI (n:Nat):EN->EN
 | []=>[]
 | (d,v,obs) :: r=>(d,v.trn n [],obs) :: VI n r
theorem VJ {n:Nat}:∀ {ens:EN},VI n ens=ens->∀e∈ens,e.2.1.trn n []=e.2.1
 | [],_,e,a=>by cases a
 | (d,v,obs) :: r,h,e,a=>by
  simp only[VI,ABv,ACB,and_true,true_and]at h;rcases By.1 a with rfl|a
  .exact h.1
  exact VJ h.2 e a
section
variable {c:Cx} {o:Oper} {σ:St} {ens:EN} {N:St->Prop}
theorem y4 (H:c.Ok) {τ:St} {vc:Prop} (n:Nat) (h:Gf c.tb o σ=some (vc,τ)) (b:kN σ o.op=some n) (y:OL o ens=true) (hn:L4 [n] σ.objs ens=true) (J:VC τ.objs ens=true) (hf:VI n ens=ens) (I:JR c.nt o=true) (M:vc) (D:N τ):kF c o σ ens N:=by
 intro X σ' z g a w next Q hs hk
 have ha:VH X σ n:=by
  refine⟨λs v hs=>?_,λm o l=>?_,λm o l=>?_,λm o l=>?_⟩
  .obtain⟨obs,i⟩:=g.env s v hs;exact VJ hf _ i
  all_goals
   obtain⟨e,k,p⟩:=g.objs m o l;have:=L5 hn e k _ p
  .exact this.2.2
  .exact this.1
  grind
 have F:∀t∈HO o.op,lk t X.env=none:=λt ht=>by
  cases f:lk t X.env with
  | none=>rfl
  | some v=>obtain⟨obs,i⟩:=g.env t v f;exact absurd ht (Gi y _ i).1
 have E:∀t,o.dst=some t->lk t X.env=none:=λt ht=>by
  cases f:lk t X.env with
  | none=>rfl
  | some v=>obtain⟨obs,i⟩:=g.env t v f;exact absurd ht (Gi y _ i).2
 have G:∀n,(∃u,lk n τ.objs=some u)->lk n X.objs=none:=λn hu=>by
  cases f:lk n X.objs with
  | none=>rfl
  | some v =>
   obtain⟨e,k,p⟩:=g.objs n v f;obtain⟨u,hu⟩:=hu;rw[OM J e k _ p]at hu;cases hu
 have K:=Zf z F;have key:∃d,Gf c.tb o σ'=some (vc,d)/\NP τ d X:=by
  have q:Ce σ o.op=[]/\Ce σ' o.op=[]:=by
   obtain⟨dst,op,ty,pos,after,B⟩:=o;simp only at b ⊢;cases op<;>first|exact⟨rfl,rfl⟩|cases b
  unfold Gf SC at h ⊢;rw[q.1]at h;rw[q.2];simp only[C3]at h ⊢;cases x:aq c.tb σ (o.dst.getD 0) o.op with
  | some r =>
   obtain⟨dst,op,ty,pos,after,B⟩:=o;simp only at b x;exfalso;cases op<;>try(cases b;done)
   rename_i cl;obtain⟨callee,⟨args⟩,⟨argTypes⟩⟩:=cl;simp only[kN]at b;split at b
   .grind [Ai,aq,DJ,Df,C6]
   cases b
  | none =>
   rw[x]at h;simp only[Lc]at h;obtain⟨⟨d,h1,j⟩,C,_⟩:=A3O z ha K b E G h;rw[C];simp only[Lc];exact⟨d,h1,j⟩
 obtain⟨d,h1,j⟩:=key;exact PU H hs h1 M (A6 I) λA w' L=>hk τ D A w' d j L
theorem mxN (b:c.Ok) {τ:St} {vc:Prop} (n:Nat) (i:vc) (a:N τ) (h:Gf c.tb o σ=some (vc,τ):=by exact a1) (f:kN σ o.op=some n:=by simp only[go_sem,Nat.reduceEqDiff,reduceCtorEq,Nat.reduceAdd,Nat.reduceSub,Nat.reduceMul,Nat.reduceLeDiff,Nat.reduceLT,Int.reduceLE,Int.reduceToNat,Int.reduceNeg,↓reduceIte]) (g:OL o ens=true:=by rfl) (hn:L4 [n] σ.objs ens=true:=by rfl) (e:VC τ.objs ens=true:=by rfl)
  (hf:VI n ens=ens:=by simp only[go_sem,Nat.reduceEqDiff,reduceCtorEq,Nat.reduceAdd,Nat.reduceSub,Nat.reduceMul,Nat.reduceLeDiff,Nat.reduceLT,Int.reduceLE,Int.reduceToNat,Int.reduceNeg,↓reduceIte]) (d:JR c.nt o=true:=by rfl):kF c o σ ens N:=y4 b n h f g hn e hf d i a
end
end
section
open Go Go.RowKit
theorem kO (h:p:=by first|exact a6|((try dsimp only[Ty.den])<;>(repeat'(first|apply And.intro|intro _))<;>omega)|((try dsimp only[Ty.den]at *)<;>(repeat'(first|apply And.intro|intro _))<;>omega)):p:=h
end
section
open Go Go.RowKit
section
variable {c:Cx} {R:Exit->Act->World->Prop} {k:List Cp} {σ σ':St}
def kP (a b:Ty) (k:a.den):List (a.den×b.den)->List (a.den×b.den)
 | []=>[]
 | x :: r=>if HZ a k x.1=true then r else x :: kP a b k r
end
end
section
open Go Go.RowKit
section
variable {c:Cx} {R:Exit->Act->World->Prop} {k:List Cp} {σ σ':St}
theorem kQ (m:c.Ok) {ops:Array Oper} {rest:List Oper} {ty:TypeId} {offs:List (Nat×Nat)} {A:Nat} {xv z:AV} {b f:Int×Int}
  (M:lk t c.tb.ty=some ⟨.agg (.prod (.int i) (.int j)),offs,0,A⟩) (N:Ai σ x=some xv) (Q:Ai σ y=some z) (E:Ix false σ (.agg (.prod (.int i) (.int j))) xv=some b) (F:Ix false σ (.agg (.prod (.int i) (.int j))) z=some f)
  (hk:ED c R k ops rest ⟨(d,.p .bool (b.1==f.1&&b.2==f.2)) :: σ.env,σ.objs⟩) :
  ED c R k ops (⟨some d,.binOp .eql t x y S,ty,X,Z,none⟩ :: rest) σ:=by
 intro q H a w L;unfold wpListIn;rw[At (by simp[Region.wanted])];obtain⟨ρ,l⟩:=L;have r:EX (vw w c.O0 σ ρ) σ a.eval:=Ci l.env;have Y:d<c.nt:=A6 (q _ jB) d rfl;have s:KC c.P t i j:=(m.T _ _ M).1.1.2.2;have h1:=FX (V:=vw w c.O0 σ ρ) (O':=own c.O0 σ ρ) (λ_ h=>h) (λh=>by cases h) l.objs E (r x _ N);have g:=FX (V:=vw w c.O0 σ ρ) (O':=own c.O0 σ ρ) (λ_ h=>h) (λh=>by cases h) l.objs F (r y _ Q);have h1:a.eval x=.agg #[.int i b.1,.int j b.2]:=EC h1;have g:a.eval y=.agg #[.int i f.1,.int j f.2]:=EC g;have J:(binOp .eql t (a.eval x) (a.eval y)).run c.P w=.ok (.bool (b.1==f.1&&b.2==f.2)) w:=by
  rw[h1,g];have:=OB s w b.1 b.2 f.1 f.2;simp only[binOp];simp[this]
 have G:(eqGuard .eql t x y (a.eval x) (a.eval y)).run c.P w=.ok () w:=by
  obtain⟨W,after,hu,-,-,⟨B,C⟩,-⟩:=s;rw[h1,g];refine run_eqGuard_agg (P:=c.P) w .eql t x y _ _ ?_;have D:∃n,c.P.depth=n+2:=⟨_,rfl⟩;obtain⟨n,hn⟩:=D;rw[hn];simp[Program.eqGuardType,hu,B,C]
 refine Ag (u:=.bool (b.1==f.1&&b.2==f.2)) (w':=w) (by simp[execOp,G,J]) (hk (λo I=>q o (by simp[I])) H _ _ ⟨ρ,?_⟩);refine l.add m.K m.O (dst:=some d) (λU e=>by injection e with e;omega) (v:=.p .bool (b.1==f.1&&b.2==f.2)) (obs:=[]) (ρ':=ρ) rfl (QS.still ?_);exact⟨[.bool (b.1==f.1&&b.2==f.2)],rfl,rfl⟩
theorem AAp (g:c.Ok) {ops:Array Oper} {rest:List Oper} {q:TypeId} {ty:TypeId} {offs:List (Nat×Nat)} {f:Nat} {xv e:AV} {b:Int×Int}
  (hk:ED c R k ops rest ⟨(d,.p .bool (a.1==b.1&&a.2==b.2)) :: σ.env,σ.objs⟩) (m:lk t c.tb.ty=some ⟨.agg (.prod (.int i) (.int j)),offs,0,f⟩:=by rfl) (n:Ai σ x=some xv:=by exact a1) (o:Ai σ y=some e:=by exact a1)
  (h:Ix false σ (.agg (.prod (.int i) (.int j))) xv=some a:=by exact a1) (l:Ix false σ (.agg (.prod (.int i) (.int j))) e=some b:=by exact a1) :
  ED c R k ops (⟨some d,.binOp .eql t x y q,ty,X,Z,none⟩ :: rest) σ:=kQ g m n o h l hk
end
end
section
open Go Go.RowKit
def siB (P:Program) (b:IntKind) (id:TypeId):Option TypeDesc->Bool
 | some (.struct ⟨[a, c]⟩) => (a.name != "_") && (c.name != "_") && a.offset == 0 && c.offset == 1 && (match P.underlying a.type with | some .string => true | _ => false) && isI b (P.underlying c.type) && P.stoodInHeld id == false && !(P.eqGuardType P.depth id)
 | _=>false
theorem dW {b:IntKind} (h:siB P b t (P.underlying t)=true) (w:World) (i k:ByteArray) (j l:Int) :
  (binOp .eql t (.agg #[.string i,.int b j]) (.agg #[.string k,.int b l])).run P w=.ok (.bool (AK i k&&(j==l))) w/\∀x y:Operand,∀u v:Array Value,(eqGuard .eql t x y (.agg u) (.agg v)).run P w=.ok () w:=by
 unfold siB at h;split at h
 .rename_i a f hu;simp only[AT,AA9,ACn,bY]at h;obtain⟨⟨⟨⟨⟨⟨⟨h1,p⟩,q⟩,r⟩,d⟩,g⟩,s⟩,id⟩:=h;have d:P.underlying a.type=some .string:=by
   split at d
   .assumption
   cases d
  have g:=UR g;have m:P.fieldsOf t=#[a,f]:=by simp[Program.fieldsOf,hu]
  refine⟨?_,λx y u v=>run_eqGuard_agg (P:=P) w .eql t x y u v id⟩;have z:P.plainKey a.type=true:=by simp[Program.plainKey,d]
  have A:P.plainKey f.type=true:=by simp[Program.plainKey,g]
  have B:∀x y:ByteArray,(Op.equalIn 9999 a.type (.string x) (.string y)).run P w=.ok (x.toList==y.toList) w:=λx y=>run_equalIn_string w 9998 _ x y d;have n:∀x y:Int,(Op.equalIn 9999 f.type (.int b x) (.int b y)).run P w=.ok (x==y) w:=λx y=>Lj g 9998 x y;have e:(Op.equalIn 10000 t (.agg #[.string i,.int b j]) (.agg #[.string k,.int b l])).run P w=_:=run_equalIn_struct (P:=P) w 9999 t _ _ (by rw[m];exact hu) s;rw[run_eql_struct,e,m];have p0:=λ(u v:Value)=>ACb (P:=P) w z (xs:=#[u,v]) (off:=a.offset) (v:=u) (by rw[q];rfl);have o:=λ(u v:Value)=>ACb (P:=P) w A (xs:=#[u,v]) (off:=f.offset) (v:=v) (by rw[r];rfl);unfold AK;simp only[Op.eqFields,h1,p,ne_eq,ACV,AB1,AAU,p0,o,AAk,B,n];by_cases c:i.toList=k.toList
  .by_cases c2:j=l<;>simp[c,c2,ACY,AAU,o,n,Op.eqFields]
  simp[c,ACY]
 cases h
theorem Th {b:IntKind} {d:(Ty.agg (.prod .str (.int b))).den} (h:BX w O (.agg (.prod .str (.int b))) v d):v=.agg #[.string d.1,.int b d.2]:=by
 obtain⟨cs,⟨c1,c2,rfl,⟨rfl,_⟩,⟨rfl,_⟩⟩,rfl⟩:=h;rfl
section
variable {c:Cx} {R:Exit->Act->World->Prop} {k:List Cp} {σ σ':St}
theorem AAq (m:c.Ok) {ops:Array Oper} {rest:List Oper} {ty:TypeId} {j:IntKind} {xv s:AV} {b f:ByteArray×Int}
  (D:siB c.P j t (c.P.underlying t)=true) (hk:ED c R k ops rest ⟨(d,.p .bool (AK b.1 f.1&&b.2==f.2)) :: σ.env,σ.objs⟩) (F:Ai σ x=some xv:=by exact a1) (G:Ai σ y=some s:=by exact a1)
  (z:Ix false σ (.agg (.prod .str (.int j))) xv=some b:=by exact a1) (A:Ix false σ (.agg (.prod .str (.int j))) s=some f:=by exact a1) :
  ED c R k ops (⟨some d,.binOp .eql t x y S,ty,X,Z,none⟩ :: rest) σ:=by
 intro n B a w E;unfold wpListIn;rw[At (by simp[Region.wanted])];obtain⟨ρ,i⟩:=E;have q:EX (vw w c.O0 σ ρ) σ a.eval:=Ci i.env;have J:d<c.nt:=A6 (n _ jB) d rfl;have h1:=FX (V:=vw w c.O0 σ ρ) (O':=own c.O0 σ ρ) (λ_ h=>h) (λh=>by cases h) i.objs z (q x _ F);have l:=FX (V:=vw w c.O0 σ ρ) (O':=own c.O0 σ ρ) (λ_ h=>h) (λh=>by cases h) i.objs A (q y _ G);have h1:a.eval x=.agg #[.string b.1,.int j b.2]:=Th h1;have l:a.eval y=.agg #[.string f.1,.int j f.2]:=Th l;obtain⟨r,g⟩:=dW D w b.1 f.1 b.2 f.2;have g:=g x y #[.string b.1,.int j b.2] #[.string f.1,.int j f.2];rw[<-h1,<-l]at r g;refine Ag (u:=.bool (AK b.1 f.1&&b.2==f.2)) (w':=w) (by simp[execOp,g,r]) (hk (λo C=>n o (by simp[C])) B _ _ ⟨ρ,?_⟩);refine i.add m.K m.O (dst:=some d) (λI e=>by injection e with e;omega) (v:=.p .bool (AK b.1 f.1&&b.2==f.2)) (obs:=[]) (ρ':=ρ) rfl (QS.still ?_);exact⟨[.bool (AK b.1 f.1&&b.2==f.2)],rfl,rfl⟩
end
end
section
open Go Go.RowKit
theorem Xy {tb:Tb} {w0:World} {K O0:Nat->Prop} {nt:Nat} {fn:Func} {post:AV->List (Nat×Obj)->Prop} {σ:St} {e:Exit} (d:(cm P tb w0 K O0 nt (Q.map λn=>(n,U n))).Ok)
  (b:List ResultVar) (k:fn.results.toList=b) (g:e=.ret\/e=.normal) (res:AV) (h:SV tb σ b res) (i:post res σ.objs) :
  Ev (cm P tb w0 K O0 nt (Q.map λn=>(n,U n))) (o8 P fn w0 K O0 Q U post) (.out e) [] σ:=by
 intro _ _ a w hs;obtain⟨ρ,hs⟩:=hs;obtain⟨u,h1,c⟩:=Uy d.T hs (by rw[k];exact h);have j:Lw K O0 Q w0 U post u w:=by
  refine⟨res,σ.objs,ρ,i,hs.frm,⟨hs.objs,hs.free,hs.dist⟩,c,λn hn=>?_⟩;exact(hs.pin (n,U n) (GO.2 ⟨n,hn,rfl⟩)).2.1
 have f:a.defers=[]:=hs.defers;have key:LeavesInM (FR none) 0 P fn a.tmps (λe w'=>∃u,e=.returned u/\Lw K O0 Q w0 U post u w') a.defers .returning w:=by
  rw[f];exact⟨u,h1,u,rfl,j⟩
 rcases g with rfl|rfl
 .exact key
 exact key
section
variable {c:Cx} {R:Exit->Act->World->Prop} {k:List Cp} {σ σ':St}
theorem cG (n:Nat) (d:c.Ok) {id:Nat} {l:List Oper} {vc:Prop} (f:vc) (hk:ED c R k l.toArray (l.drop n) σ') (h:B6 c.tb l (l.take n) σ=some (vc,σ'):=by simp only[AB2,AB8,go_sem,Nat.reduceEqDiff,reduceCtorEq,Nat.reduceAdd,Nat.reduceSub,Nat.reduceMul,Nat.reduceLeDiff,Nat.reduceLT,Int.reduceLE,Int.reduceToNat,Int.reduceNeg,↓reduceIte];rfl) :
  Ev c R (.run (.region id l.toArray false)) k σ:=by
 intro h1 b a w hs;simp only[Hq,Bz,No]at h1;exact ACd (Ph d n (by simpa using h) f hk (λo e=>h1 o e) b a w hs)
end
end
section
open Go Go.RowKit
theorem pB {σ:St} {ρ ρ':Nat->Value} {b:Nat} (h:¬own O σ ρ b):¬own O ⟨[],[]⟩ ρ' b:=by
 rintro (q|⟨n,⟨o,a⟩,-⟩)
 .exact h (.inl q)
 cases a
theorem VK {ρ:Nat->Value} {t:Ty} {d:t.den} (h:BX w O t v d):B8 (vw w O ⟨[],[]⟩ ρ) (.p t d) v:=by
 refine BX.mono (λb _ q=>?_) (λ_ _ _=>rfl) h;rintro (c|⟨n,⟨o,a⟩,-⟩)
 .exact q c
 cases a
theorem dX {w:World} {O:Nat->Prop} {σ:St} {ρ ρ':Nat->Value}:∀ {outs:List RV} {nm:Nat} {a:List Value},(∀r∈outs,∃t d,r=.p t d)->Hm (vw w O σ ρ) (Ia nm outs) a->Hm (vw w O ⟨[],[]⟩ ρ') (Ia nm outs) a
 | [],_,_,_,h=>h
 | r :: l,nm,a,c,h=>by
  obtain⟨t,d,rfl⟩:=c r sc;obtain⟨v,l',rfl,h1,e⟩:=h;exact⟨v,l',rfl,BX.mono (λb _ q=>pB q) (λ_ _ _=>rfl) (show BX _ _ t v d from h1),dX (λr f=>c r (IF _ f)) e⟩
theorem SY:∀ {outs:List RV} {nm:Nat},(∀r∈outs,∃t d,r=.p t d)->DA nm outs=[]
 | [],_,_=>rfl
 | r :: l,nm,a=>by
  obtain⟨t,d,rfl⟩:=a r sc;exact SY (outs:=l) (λr b=>a r (IF _ b))
theorem VL:∀ {outs:List RV} {nm nm':Nat},(∀r∈outs,∃t d,r=.p t d)->Ia nm outs=Ia nm' outs
 | [],_,_,_=>rfl
 | r :: l,nm,nm',a=>by
  obtain⟨t,d,rfl⟩:=a r sc;show AV.p t d :: _=AV.p t d :: _;rw[VL (outs:=l) λr b=>a r (IF _ b)]
theorem kR {σ:St} {ρ ρ':Nat->Value} {nm:Nat} {u:Value}:∀ {outs:List RV},(∀r∈outs,∃t d,r=.p t d)->B8 (vw w O σ ρ) (Hk 0 outs) u->B8 (vw w O ⟨[],[]⟩ ρ') (Hk nm outs) u
 | [],_,h=>h
 | [r],a,h=>by
  obtain⟨t,d,rfl⟩:=a r sc;exact BX.mono (λb _ q=>pB q) (λ_ _ _=>rfl) (show BX _ _ t u d from h)
 | r :: q :: l,a,h=>by
  obtain⟨c,rfl,h1⟩:=h;refine⟨c,rfl,?_⟩;have h1:Hm (vw w O σ ρ) (Ia 0 (r :: q :: l)) c:=h1;rw[VL (nm':=nm) a]at h1;exact dX a h1
theorem XF {sp : AZ} (hf : ∃ fn : Func, P.funcs[f]? = some fn /\ (fn.name == "runtime.NumGoroutine") = false /\ fn.body.isNone = false)
  (h:∀ds,sp.pre ds->∃args,(∀w O c,PQ w O sp.ins c ds->Ht (vw w O ⟨[],[]⟩ λ_=>undef) args c)/\BE P f args [] [] (λres _=>res=Hk 0 (sp.out ds)))
  (g:∀ds,∀r∈sp.out ds,∃t d,r=.p t d):Ac P f sp:=by
 refine⟨hf,λw O c ds i hG y s=>?_⟩;obtain⟨args,ha,-,k⟩:=h ds s;have h1:=k w (λb=>b<w.heap.size) O (λ_=>undef) c (λb q=>q) i hG ⟨λn o q=>(by cases q),λn b q=>(by obtain⟨o,q⟩:=q;cases q),λn m b q=>(by obtain⟨o,q⟩:=q;cases q)⟩ (ha w O c y);refine h1.mono λe w' v=>?_;obtain⟨u,l,res,C,ρ',x,a,A,j,-⟩:=v;refine⟨u,l,λnm=>⟨λ_=>undef,?_⟩⟩;subst x;have z:=kR (ρ':=λ_=>undef) (nm:=nm) (g ds) j;rw[SY (g ds)];exact⟨⟨a.os,a.tape,a.output,a.size,λb q=>a.block b q⟩,λ_ _=>rfl,z,λn o q=>(by cases q),λn o b q=>(by cases q),λn m o B b q=>(by cases q)⟩
end
section
open Go Go.RowKit
def qs2 (a:List (List Nat×Nat×List Nat)) (D:List Nat):List Nat:=(a.flatMap (·.1))++D
end
section
open Go Go.RowKit
def L6 (t:Nat):Qw->Bool
 | some (u,_)=>u==t
 | none=>false
theorem dY (h:∃fs,P.underlying t=some (.struct fs)) (w:World) (x:Value):(Instr.makeInterface t x).run P w=.ok (.iface t x) w:=by
 obtain⟨fs,h⟩:=h;have a:=iF (w:=w) h;simp[Instr.makeInterface,a]
theorem y5 (h:BX w O (.agg .str) v s):v=.agg #[.string s]/\s.size<=AP:=by
 obtain⟨cs,⟨rfl,h1⟩,rfl⟩:=h;exact⟨rfl,h1⟩
section
variable {c:Cx} {R:Exit->Act->World->Prop} {k:List Cp} {σ σ':St}
theorem A9h (f:c.Ok) {ops:Array Oper} {rest:List Oper} {g:Nat} {ty:TypeId} {pv:PV} {ti:TI}
  (hk:ED c R k ops rest ⟨(d,.p pv.t pv.d) :: σ.env,σ.objs⟩) (x:lk g gls=some pv:=by rfl) (ht:lk t c.tb.ty=some ti:=by rfl) (q:ti.ty=pv.t:=by rfl) :
  ED c R k ops (⟨some d,.load t (.global g),ty,X,Z,none⟩ :: rest) σ:=by
 intro l z a w B;unfold wpListIn;rw[At (by simp[Region.wanted])];obtain⟨ρ,n⟩:=B;have F:d<c.nt:=A6 (l _ jB) d rfl;obtain⟨h1,D,cs,r,s⟩:=(tA f n).hG ⟨g,pv⟩ (FK x);have i:B1 w (own c.O0 σ ρ) pv.t cs pv.d:=s.mono (λb E hn h=>hn (.inr h)) λ_ _ _=>rfl;have hT:=f.T _ _ ht;have A:=i.length;have m:=GF w hT (ad:=⟨g,0,none⟩) (by rw[q];exact A) (λj u y=>by rw[UF];exact r j u y);rw[q]at m;refine Ag (u:=pv.t.wrap cs) (w':=w) (by simp only[execOp,Act.eval,AAU,m,AAk,ABo]) (hk (λo h=>l o (by simp[h])) z _ _ ⟨ρ,?_⟩);refine n.add f.K f.O (dst:=some d) (λC e=>by injection e with e;omega) (v:=.p pv.t pv.d) (obs:=[]) (ρ':=ρ) rfl (QS.still ?_);exact⟨cs,i,rfl⟩
theorem A72 (f:c.Ok) {ops:Array Oper} {rest:List Oper} {ty:TypeId} {xv:AV} 
  (q:∃fs,c.P.underlying t=some (.struct fs)) (hk:ED c R k ops rest ⟨(d,.p (.ref 3) (some (t,some s))) :: σ.env,σ.objs⟩) (y:Ai σ x=some xv:=by exact a1)
  (hs:Ix false σ (.agg .str) xv=some s:=by exact a1):ED c R k ops (⟨some d,.makeInterface t x,ty,X,Z,none⟩ :: rest) σ:=by
 intro g m a w r;unfold wpListIn;rw[At (by simp[Region.wanted])];obtain⟨ρ,b⟩:=r;have l:EX (vw w c.O0 σ ρ) σ a.eval:=Ci b.env;have A:d<c.nt:=A6 (g _ jB) d rfl;have h1:=FX (V:=vw w c.O0 σ ρ) (O':=own c.O0 σ ρ) (λ_ h=>h) (λh=>by cases h) b.objs hs (l x _ y);obtain⟨i,j⟩:=y5 h1;refine Ag (u:=.iface t (.agg #[.string s])) (w':=w) (by simp only[execOp,AAU,dY q,i,AAk,ABo]) (hk (λo n=>g o (by simp[n])) m _ _ ⟨ρ,?_⟩);refine b.add f.K f.O (dst:=some d) (λz e=>by injection e with e;omega) (v:=.p (.ref 3) (some (t,some s))) (obs:=[]) (ρ':=ρ) rfl (QS.still ?_);exact⟨[.iface t (.agg #[.string s])],⟨rfl,rfl,j⟩,rfl⟩
theorem A3P (g:c.Ok) {ops:Array Oper} {rest:List Oper} {ty ty1:TypeId} {C:String} {j:Array Edge}
  (y:∃fs,c.P.underlying t=some (.struct fs)) (n:∀w:World,(Instr.build t #[]).run c.P w=.ok (.agg #[]) w) (F:d≠b) (hk:ED c R k ops rest ⟨(d,.p (.ref 3) (some (t,none))) :: (b,.top) :: σ.env,σ.objs⟩) :
  ED c R k ops (⟨some b,.build t #[],ty1,C,j,none⟩ :: ⟨some d,.makeInterface t (.tmp b),ty,X,Z,none⟩ :: rest) σ:=by
 intro h r a w z;unfold wpListIn;rw[At (by simp[Region.wanted])];obtain⟨ρ,A⟩:=z;have D:d<c.nt:=A6 (h _ (IF _ jB)) d rfl;have E:b<c.nt:=A6 (h _ jB) b rfl;refine Ag (u:=.agg #[]) (w':=w) (by
  have h0:=n w;simp[execOp,h0]) ?_
 have i:=A.add g.K g.O (dst:=some b) (λl e=>by injection e with e;omega) (v:=.raw (.agg #[])) (obs:=[]) (ρ':=ρ) (u:=.agg #[]) rfl (QS.still rfl);have q:EX (vw w c.O0 ⟨(b,.raw (.agg #[])) :: σ.env,σ.objs⟩ ρ) ⟨(b,.raw (.agg #[])) :: σ.env,σ.objs⟩ (a.put (some b) (.agg #[])).eval:=Ci i.env;have B:(a.put (some b) (.agg #[])).eval (.tmp b)=.agg #[]:=q (.tmp b) (.raw (.agg #[])) (by simp[Ai,lk]);unfold wpListIn;rw[At (by simp[Region.wanted])];refine Ag (u:=.iface t (.agg #[])) (w':=w) (by simp only[execOp,AAU,B,dY y,AAk,ABo]) ?_;have f:=i.add g.K g.O (dst:=some d) (λl e=>by injection e with e;omega) (v:=.p (.ref 3) (some (t,none))) (obs:=[]) (ρ':=ρ) (u:=.iface t (.agg #[])) rfl (QS.still ⟨[.iface t (.agg #[])],⟨rfl,rfl⟩,rfl⟩);refine hk (λo x=>h o (by simp[x])) r _ _ ⟨ρ,f.frm,f.nt,f.defers,f.pin,f.objs,f.free,f.dist,λs v hs=>?_⟩;simp only[lk]at hs;split at hs
 .rename_i e;exact f.env s v (by simp only[St.add,lk,At e];exact hs)
 rename_i e;split at hs
 .cases hs;trivial
 rename_i m;exact f.env s v (by simp only[St.add,lk,An e,An m];exact hs)
theorem t4 (h:c.Ok) {ops:Array Oper} {rest:List Oper} {u:TypeId} {ty:TypeId} {xv:Qw}
  (hu:∃fs,c.P.underlying t=some (.struct fs)) (f:∃z,∀w:World,(zeroValue t).run c.P w=.ok z w) (hk:ED c R k ops rest ⟨(d,.tup [.top,.p .bool (L6 t xv)]) :: σ.env,σ.objs⟩) (y:Ai σ x=some (.p (.ref 3) xv):=by exact a1) :
  ED c R k ops (⟨some d,.typeAssert x u t true,ty,X,Z,none⟩ :: rest) σ:=by
 intro i m a w r;unfold wpListIn;rw[At (by simp[Region.wanted])];obtain⟨ρ,j⟩:=r;have l:EX (vw w c.O0 σ ρ) σ a.eval:=Ci j.env;have C:d<c.nt:=A6 (i _ jB) d rfl;obtain⟨cs,⟨rfl,B⟩,h1⟩:=l x _ y;have h1:a.eval x=Qx 3 xv:=h1;obtain⟨fs,hu⟩:=hu;obtain⟨z,f⟩:=f;have b:=iF (w:=w) hu;have key:∃v,(Instr.typeAssert (Qx 3 xv) u t true).run c.P w=.ok (.tuple #[v,.bool (L6 t xv)]) w:=by
  match xv with
  | none=>exact⟨z,by simp[Instr.typeAssert,b,Qx,ZC,f w,L6]⟩
  | some (g,none) =>
   by_cases e:g=t
   .exact⟨.agg #[],by simp[Instr.typeAssert,b,Qx,L6,e]⟩
   exact⟨z,by simp[Instr.typeAssert,b,Qx,L6,e,f w]⟩
  | some (g,some s) =>
   by_cases e:g=t
   .exact⟨.agg #[.string s],by simp[Instr.typeAssert,b,Qx,L6,e]⟩
   exact⟨z,by simp[Instr.typeAssert,b,Qx,L6,e,f w]⟩
 obtain⟨v,q⟩:=key;refine Ag (u:=.tuple #[v,.bool (L6 t xv)]) (w':=w) (by simp only[execOp,AAU,h1,q,AAk,ABo]) (hk (λo n=>i o (by simp[n])) m _ _ ⟨ρ,?_⟩);refine j.add h.K h.O (dst:=some d) (λA e=>by injection e with e;omega) (v:=.tup [.top,.p .bool (L6 t xv)]) (obs:=[]) (ρ':=ρ) rfl (QS.still ?_);exact⟨[v,.bool (L6 t xv)],rfl,v,_,rfl,trivial,_,_,rfl,⟨[.bool (L6 t xv)],rfl,rfl⟩,rfl⟩
def nmS:AZ:={ ins:=[.agg .str],pre:=λ_=>True,out:=λ(s,_)=>[.p .str s] }
theorem A9i (b:c.Ok) {ops:Array Oper} {rest:List Oper} {nm:String} {ty:TypeId} {t:Nat} (hF:Ac c.P f nmS)
  (g:∀(w:World) (v:Value),(method (c.P.types.size+Made.depth) t v nm).run c.P w=.ok (f,v) w) (hk:ED c R k ops rest ⟨(d,.p .str s) :: σ.env,σ.objs⟩) (J:Ai σ x=some (.p (.ref 3) (some (t,some s))):=by exact a1) :
  ED c R k ops (⟨some d,.call ⟨.invoke x nm,#[],#[]⟩,ty,n,Z,none⟩ :: rest) σ:=by
 intro m C a w H;unfold wpListIn;rw[At (by simp[Region.wanted])];obtain⟨ρ,j⟩:=H;have A:EX (vw w c.O0 σ ρ) σ a.eval:=Ci j.env;have M:d<c.nt:=A6 (m _ jB) d rfl;obtain⟨cs,⟨rfl,r⟩,h1⟩:=A x _ J;have h1:a.eval x=.iface t (.agg #[.string s]):=h1;have I:s.size<=AP:=r.2;obtain⟨⟨fn,B,D,y⟩,F⟩:=hF;have l:=tA b j;have z:=F w (own c.O0 σ ρ) [.agg #[.string s]] (s,()) l.own l.hG ⟨_,_,rfl,⟨[.string s],⟨rfl,I⟩,rfl⟩,rfl⟩ trivial;have G:(execOp a.eval ⟨some d,.call ⟨.invoke x nm,#[],#[]⟩,ty,n,Z,none⟩).run c.P w=.ok (.enter f [.agg #[.string s]].toArray) w:=by
  have after : ¬ fn.name = "runtime.NumGoroutine" := by simpa using D
  have q:¬fn.body=none:=by intro e;simp[e]at y
  have g:=g w (.agg #[.string s]);simp[execOp,resolve,invoke,callMethod,h1,g,callFunc,B,after,q]
 refine⟨λ_ _=>trivial,?_⟩;rw[EY _ _ _ (λc e=>by cases e),G,ACr];refine⟨λh=>(by simp[FR]at h),Hp (z.mono λe w' hh=>?_)⟩;obtain⟨u,rfl,hh⟩:=hh;obtain⟨ρ',i⟩:=hh 0;have i:=QS.call (σ:=σ) (ρ:=ρ) rfl i;refine hk (λo E=>m o (by simp[E])) C _ _ ⟨_,j.add b.K b.O (dst:=some d) (λL e=>by injection e with e;omega) (v:=.p .str s) (obs:=[]) rfl i⟩
theorem A3Q (U:c.Ok) {ops:Array Oper} {rest:List Oper} {dst:Option Nat} {g:Operand} {xs:List Operand} {ts:Array TypeId} {ty:TypeId} {pos:String} 
  {n:Nat} (X:Ai σ g=some (.clo (1000000+f) [n])) {aw:List AV} (Q:Lx σ xs=some aw)
  {A:List AV} {objs:List (Nat×Obj)} {stay:List Nat} {post:AV->List (Nat×Obj)->Prop} (t:BE c.P f A objs stay post)
  (ren:List (Nat×CL)) (hs:List Nat) (h1:CZ ren=true) (H:Cw objs ren=true) (af:(c.ds.pin.all λp=>!Af p.1 hs)=true) (I:B3 σ ren (.bp n [] 0 :: aw) A) (M:Ao σ.objs ren objs)
  (hk:∀res l,post res l->∃(d:List (Nat×CL)) (m:AV) (j:List (Nat×Obj)),CZ d=true/\Cw j d=true/\Ao l d j/\CC d res m /\
   JW ren d stay hs=true/\GI (A1 ren) j σ.objs=true/\ED c R k ops rest (DC σ (A1 ren) hs dst m j)) :
  ED c R k ops (⟨dst,.call ⟨.value g,xs.toArray,ts⟩,ty,pos,Z,none⟩ :: rest) σ:=by
 intro x after a w aj;unfold wpListIn;rw[At (by simp[Region.wanted])];obtain⟨ρ,z⟩:=aj;have y:EX (vw w c.O0 σ ρ) σ a.eval:=Ci z.env;obtain⟨⟨fn,W,ab,T⟩,t⟩:=t;obtain⟨v,Y⟩:=y g _ X;obtain⟨s,b,i⟩:=Y n sc;have i:ρ n=_:=i;have v:a.eval g=.func (.func f) #[ρ n] #[]:=by
  rw[v];unfold sW;rw[An (bnd f).1,(bnd f).2];rfl
 have O:Ht (vw w c.O0 σ ρ) (.bp n [] 0 :: aw) (ρ n :: xs.map a.eval):=⟨ρ n,_,rfl,⟨s,b,i,i⟩,Tf y Q⟩;have ah:(execOp a.eval ⟨dst,.call ⟨.value g,xs.toArray,ts⟩,ty,pos,Z,none⟩).run c.P w=.ok (.enter f (ρ n :: xs.map a.eval).toArray) w:=by
  have ak : ¬ fn.name = "runtime.NumGoroutine" := by simpa using ab
  have al:¬fn.body=none:=by intro e;simp[e]at T
  simp[execOp,resolve,Deferred.ofValue,v,invoke,callFunc,W,ak,al]
 obtain⟨B,C,am,L,N,K,aa,S,_,ag⟩:=M2 U z O stay post ren h1 H I M hs af (A6 (x _ jB)) (next:=λq w'=>wpListIn (FR c.r) 0 c.P ops (TR c R k) rest q w') λres l ae=>by
  obtain⟨d,m,j,s,i,D,E,F,G,J⟩:=hk res l ae;exact⟨d,m,j,s,i,D,E,F,G,λq w' ai=>J (λo ad=>x o (by simp[ad])) after q w' ai⟩
 have V:=t w B C am (ρ n :: xs.map a.eval) L N K aa S;refine⟨λ_ _=>trivial,?_⟩;rw[EY _ _ _ (λcl e=>by cases e),ah,ACr];refine⟨λh=>(by simp[FR]at h),Hp (V.mono λe w' hh=>?_)⟩;obtain⟨u,rfl,hh⟩:=hh;exact ag u w' hh
end
theorem kS {xs ys:Array Value} {b:Bool} (h:(binOp .eql t (.agg xs) (.agg ys)).run P w=.ok (.bool b) w):(binOp .neq t (.agg xs) (.agg ys)).run P w=.ok (.bool (!b)) w:=by
 rw[run_eql_struct]at h;rw[run_neq_struct];generalize (Op.equalIn 10000 t (.agg xs) (.agg ys)).run P w=r at *;cases r<;>first|(cases h;rfl)|cases h
theorem y6 {b:IntKind} (h:siB P b t (P.underlying t)=true):P.eqGuardType P.depth t=false:=by
 unfold siB at h;split at h
 .simp only[AT,bY]at h;exact h.2
 cases h
section
variable {c:Cx} {R:Exit->Act->World->Prop} {k:List Cp} {σ σ':St}
theorem pC (f:c.Ok) {ops:Array Oper} {rest:List Oper} {A:TypeId} {ty:TypeId} {xs ys:Array Value} {b:Bool}
  (z:∀(ρ:Nat->Value) (a:Act) (w:World),CB c.w0 c.K c.O0 c.nt c.ds σ ρ a w->a.eval x=.agg xs/\a.eval y=.agg ys) (r:∀w:World,(binOp .eql t (.agg xs) (.agg ys)).run c.P w=.ok (.bool b) w) (m:c.P.eqGuardType c.P.depth t=false)
  (hk:ED c R k ops rest ⟨(d,.p .bool (!b)) :: σ.env,σ.objs⟩):ED c R k ops (⟨some d,.binOp .neq t x y A,ty,X,Z,none⟩ :: rest) σ:=by
 intro g n a w s;unfold wpListIn;rw[At (by simp[Region.wanted])];obtain⟨ρ,j⟩:=s;have C:d<c.nt:=A6 (g _ jB) d rfl;obtain⟨h1,l⟩:=z ρ a w j;have i:=kS (r w);have h:=run_eqGuard_agg (P:=c.P) w .neq t x y xs ys m;rw[<-h1,<-l]at i h;refine Ag (u:=.bool (!b)) (w':=w) (by simp[execOp,h,i]) (hk (λo q=>g o (by simp[q])) n _ _ ⟨ρ,?_⟩);refine j.add f.K f.O (dst:=some d) (λB e=>by injection e with e;omega) (v:=.p .bool (!b)) (obs:=[]) (ρ':=ρ) rfl (QS.still ?_);exact⟨[.bool (!b)],rfl,rfl⟩
theorem A9j (m:c.Ok) {ops:Array Oper} {rest:List Oper} {s:TypeId} {ty:TypeId} {j:IntKind} {xv:AV} {b e:ByteArray×Int}
  (i:siB c.P j t (c.P.underlying t)=true) (hk:ED c R k ops rest ⟨(d,.p .bool (!(AK b.1 e.1&&b.2==e.2))) :: σ.env,σ.objs⟩) (q:Ai σ x=some xv:=by exact a1) (r:Ai σ y=some l:=by exact a1)
  (n:Ix false σ (.agg (.prod .str (.int j))) xv=some b:=by exact a1) (o:Ix false σ (.agg (.prod .str (.int j))) l=some e:=by exact a1) :
  ED c R k ops (⟨some d,.binOp .neq t x y s,ty,X,Z,none⟩ :: rest) σ:=by
 refine pC m (xs:=#[.string b.1,.int j b.2]) (ys:=#[.string e.1,.int j e.2]) (fun ρ a w f=>?_) (λw=>(dW i w b.1 e.1 b.2 e.2).1) (y6 i) hk;have g:EX (vw w c.O0 σ ρ) σ a.eval:=Ci f.env;exact⟨Th (FX (V:=vw w c.O0 σ ρ) (O':=own c.O0 σ ρ) (λ_ h=>h) (λh=>by cases h) f.objs n (g x _ q)),Th (FX (V:=vw w c.O0 σ ρ) (O':=own c.O0 σ ρ) (λ_ h=>h) (λh=>by cases h) f.objs o (g y _ r))⟩
theorem A9k (g:c.Ok) {ops:Array Oper} {rest:List Oper} {ty:TypeId} {offs:List (Nat×Nat)} {q:Nat} {xv o:AV} {b e:Int×Int}
  (hk:ED c R k ops rest ⟨(d,.p .bool (!(b.1==e.1&&b.2==e.2))) :: σ.env,σ.objs⟩) (A:lk t c.tb.ty=some ⟨.agg (.prod (.int i) (.int j)),offs,0,q⟩:=by rfl) (B:Ai σ x=some xv:=by exact a1) (C:Ai σ y=some o:=by exact a1)
  (v:Ix false σ (.agg (.prod (.int i) (.int j))) xv=some b:=by exact a1) (z:Ix false σ (.agg (.prod (.int i) (.int j))) o=some e:=by exact a1) :
  ED c R k ops (⟨some d,.binOp .neq t x y S,ty,X,Z,none⟩ :: rest) σ:=by
 have m:KC c.P t i j:=(g.T _ _ A).1.1.2.2;refine pC g (xs:=#[.int i b.1,.int j b.2]) (ys:=#[.int i e.1,.int j e.2]) (fun ρ a w f=>?_) (λw=>?_) ?_ hk
 .have l:EX (vw w c.O0 σ ρ) σ a.eval:=Ci f.env;exact⟨EC (FX (V:=vw w c.O0 σ ρ) (O':=own c.O0 σ ρ) (λ_ h=>h) (λh=>by cases h) f.objs v (l x _ B)),EC (FX (V:=vw w c.O0 σ ρ) (O':=own c.O0 σ ρ) (λ_ h=>h) (λh=>by cases h) f.objs z (l y _ C))⟩
 .have:=OB m w b.1 b.2 e.1 e.2;simp only[binOp];simp[this]
 obtain⟨E,F,hu,-,-,⟨r,s⟩,-⟩:=m;have u:∃n,c.P.depth=n+2:=⟨_,rfl⟩;obtain⟨n,hn⟩:=u;rw[hn];simp[Program.eqGuardType,hu,r,s]
end
end
section
open Go Go.RowKit
theorem pD:IntKind.i32.min=-2147483648:=by decide
theorem pE:IntKind.i32.max=2147483647:=by decide
theorem A3R (n:Int):IR .i32 n↔-2147483648<=n/\n<=2147483647:=by unfold IR;rw[pD,pE]
section
variable {c:Cx} {R:Exit->Act->World->Prop} {k:List Cp} {σ σ':St}
theorem A3S (g:c.Ok) {ops:Array Oper} {rest:List Oper} {T:TypeId} {ty:TypeId} 
  (z:Ai σ x=some (.p .str s)) (hT:c.P.underlying T=some .string) (m:lk d σ.objs=none) (hk:ED c R k ops rest ⟨(d,.bp d [] 0) :: σ.env,(d,.sit s 0) :: σ.objs⟩) :
  ED c R k ops (⟨some d,.range T x,ty,X,Z,none⟩ :: rest) σ:=by
 intro h q a w y;unfold wpListIn;rw[At (by simp[Region.wanted])];obtain⟨ρ,i⟩:=y;have l:EX (vw w c.O0 σ ρ) σ a.eval:=Ci i.env;obtain⟨cs,⟨rfl,C⟩,f⟩:=l x _ z;have f:a.eval x=.string s:=f;have B:d<c.nt:=A6 (h _ jB) d rfl;have t:(Instr.range T (.string s)).run c.P w=.ok (.pointer (some ⟨w.heap.size,0,none⟩)) (w.alloc (.stringIter s 0)):=run_range_string w T s hT;have n:Bl [(d,Obj.sit s 0)] σ=true:=by simp[Bl,m]
 refine Ag (u:=.pointer (some ⟨w.heap.size,0,none⟩)) (w':=w.alloc (.stringIter s 0)) (by simp[execOp,f,t]) (hk (λo r=>h o (by simp[r])) q _ _ ⟨Eh ρ d (.pointer (some ⟨w.heap.size,0,none⟩)),?_⟩);refine i.add g.K g.O (dst:=some d) (λA e=>by injection e with e;omega) (v:=.bp d [] 0) (obs:=[(d,.sit s 0)]) (u:=.pointer (some ⟨w.heap.size,0,none⟩)) (w':=w.alloc (.stringIter s 0)) n ?_;refine QS.one (EW w _) (λb j=>by simp[bk,blk]at j;omega) ?_ ?_
 .refine⟨⟨.sit s 0,by simp[Dr,lk]⟩,w.heap.size,by rw[show (vw (w.alloc (.stringIter s 0)) c.O0 (Dr σ [(d,.sit s 0)]) (Eh ρ d (.pointer (some ⟨w.heap.size,0,none⟩)))).ρ d=Eh ρ d (.pointer (some ⟨w.heap.size,0,none⟩)) d from rfl,Br],rfl⟩
 exact⟨w.heap.size,rfl,heap_alloc_new w _⟩
theorem A3T (w:World) (ty:TypeId) (r:Nat) (s:ByteArray) (p:Nat) (a:w.heap[r]?=some (.stringIter s p)) :
  (¬p<s.size->(Instr.next (.pointer (some ⟨r,0,none⟩)) true ty).run P w=.ok (.tuple #[.bool false]) w) /\
  (p<s.size->(Instr.next (.pointer (some ⟨r,0,none⟩)) true ty).run P w=.ok (.tuple #[.bool true,.int .i64 p,.int .i32 (Utf8.decode s p).1]) (w.putObj r (.stringIter s (p+(Utf8.decode s p).2)))):=by
 constructor
 .intro h;simp[Instr.next,getObj,Sem.run,a,h]
 intro h;simp[Instr.next,getObj,setObj,Sem.run,a,h,goInt,World.putObj]
theorem A3U (l:c.Ok) {ops:Array Oper} {rest:List Oper} {n:Nat} {ty:TypeId} {p:Nat}
  (L:Ai σ x=some (.bp n [] 0)) (hn:lk n σ.objs=some (.sit s p)) (J:s.size<=AP) (h0:¬p<s.size->ED c R k ops rest ⟨(d,.tup [.p .bool false]) :: σ.env,σ.objs⟩)
  (h1:∀h:p<s.size,∀(q:Nat) (r:Int),p<q->((s[p]'h).toNat<128->q=p+1/\r=((s[p]'h).toNat:Int))->(128<=(s[p]'h).toNat->128<=r)->IR .i32 r->ED c R k ops rest ⟨(d,.tup [.p .bool true,.p (.int .i64) (p:Int),.p (.int .i32) r]) :: σ.env,upd n (.sit s q) σ.objs⟩) :
  ED c R k ops (⟨some d,.next x true,ty,X,Z,none⟩ :: rest) σ:=by
 intro y B a w I;unfold wpListIn;rw[At (by simp[Region.wanted])];obtain⟨ρ,t⟩:=I;have F:EX (vw w c.O0 σ ρ) σ a.eval:=Ci t.env;have T:d<c.nt:=A6 (y _ jB) d rfl;obtain⟨S,b,m,C⟩:=F x _ L;have m:ρ n=_:=m;obtain⟨Q,i,hh⟩:=t.objs n _ hn;rw[m]at i;injection i with i
 injection i with i
 injection i with i
 subst i;have hh:w.heap[b]?=some (.stringIter s p):=hh;have E:=Bv hh;obtain⟨M,N⟩:=A3T (P:=c.P) w ty b s p hh;by_cases f:p<s.size
 .have A:=N f;have G:p<p+(Utf8.decode s p).2:=by
   by_cases j:128<=(s[p]'f).toNat
   .have:=(decode_high s p f j).2;omega
   rw[decode_ascii s p f O1];simp
  have hi:IR .i32 ((Utf8.decode s p).1:Int):=by
   have:=decode_le s p;constructor
   .show (-2147483648:Int)<=_;omega
   show _<=(2147483647:Int);omega
  refine Ag (u:=.tuple #[.bool true,.int .i64 p,.int .i32 (Utf8.decode s p).1]) (w':=w.putObj b (.stringIter s (p+(Utf8.decode s p).2))) (by simp[execOp,C,A]) ?_;refine h1 f (p+(Utf8.decode s p).2) (Utf8.decode s p).1 G (λj=>by rw[decode_ascii s p f j];exact⟨rfl,rfl⟩) (λj=>by have:=(decode_high s p f j).1;omega) hi (λo z=>y o (by simp[z])) B _ _ ⟨ρ,?_⟩;have H:CB c.w0 c.K c.O0 c.nt c.ds ⟨σ.env,upd n (.sit s (p+(Utf8.decode s p).2)) σ.objs⟩ ρ a (w.putObj b (.stringIter s (p+(Utf8.decode s p).2))):=by
   refine t.upd l.K hn (g:=b) (by rw[m];rfl) (grownBy_putObj' w b _) ?_;exact⟨b,m,World.putObj_heap_same E⟩
  refine H.add l.K l.O (dst:=some d) (λD e=>by injection e with e;omega) (v:=.tup [.p .bool true,.p (.int .i64) (p:Int),.p (.int .i32) ((Utf8.decode s p).1:Int)]) (obs:=[]) (ρ':=ρ) rfl (QS.still ?_);refine⟨[.bool true,.int .i64 p,.int .i32 (Utf8.decode s p).1],rfl,_,_,rfl,⟨[.bool true],rfl,rfl⟩,_,_,rfl,⟨[.int .i64 p],⟨rfl,?_⟩,rfl⟩,_,_,rfl,⟨[.int .i32 (Utf8.decode s p).1],⟨rfl,hi⟩,rfl⟩,rfl⟩;simp only[AP]at J;constructor
  .show (-9223372036854775808:Int)<=_;omega
  show _<=(9223372036854775807:Int);omega
 have A:=M f;refine Ag (u:=.tuple #[.bool false]) (w':=w) (by simp[execOp,C,A]) (h0 f (λo z=>y o (by simp[z])) B _ _ ⟨ρ,?_⟩);refine t.add l.K l.O (dst:=some d) (λD e=>by injection e with e;omega) (v:=.tup [.p .bool false]) (obs:=[]) (ρ':=ρ) rfl (QS.still ?_);exact⟨[.bool false],rfl,_,_,rfl,⟨[.bool false],rfl,rfl⟩,rfl⟩
theorem AAr (a:c.Ok) {ops:Array Oper} {rest:List Oper} {T:TypeId} {ty:TypeId} 
  (hT:c.P.underlying T=some .string) (hk:ED c R k ops rest ⟨(d,.bp d [] 0) :: σ.env,(d,.sit s 0) :: σ.objs⟩) (e:Ai σ x=some (.p .str s):=by exact a1) (b:lk d σ.objs=none:=by simp only[go_sem,Nat.reduceEqDiff,reduceCtorEq,Nat.reduceAdd,Nat.reduceSub,Nat.reduceMul,Nat.reduceLeDiff,Nat.reduceLT,Int.reduceLE,Int.reduceToNat,Int.reduceNeg,↓reduceIte]) :
  ED c R k ops (⟨some d,.range T x,ty,X,Z,none⟩ :: rest) σ:=A3S a e hT b hk
theorem AAs (a:c.Ok) {ops:Array Oper} {rest:List Oper} {n:Nat} {ty:TypeId} {p:Nat} (b:s.size<=AP)
  (h0:¬p<s.size->ED c R k ops rest ⟨(d,.tup [.p .bool false]) :: σ.env,σ.objs⟩)
  (h1:∀h:p<s.size,∀(q:Nat) (r:Int),p<q->((s[p]'h).toNat<128->q=p+1/\r=((s[p]'h).toNat:Int))->(128<=(s[p]'h).toNat->128<=r)->IR .i32 r->ED c R k ops rest ⟨(d,.tup [.p .bool true,.p (.int .i64) (p:Int),.p (.int .i32) r]) :: σ.env,upd n (.sit s q) σ.objs⟩)
  (e:Ai σ x=some (.bp n [] 0):=by exact a1) (hn:lk n σ.objs=some (.sit s p):=by exact a1) :
  ED c R k ops (⟨some d,.next x true,ty,X,Z,none⟩ :: rest) σ:=A3U a e hn b h0 h1
end
end
end Go.Proofs.YtglkoagnnnpimaaGreatDoor.Fw
